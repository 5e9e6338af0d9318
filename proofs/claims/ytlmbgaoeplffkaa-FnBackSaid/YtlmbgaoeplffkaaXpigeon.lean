/- Among more places than there are numbers two have the same; numbers tell digits. -/
import Derived.Test.YtlmbgaoeplffkaaXbase
import Derived.Test.YtlmbgaoeplffkaaFB
namespace Go.Proofs.Ytlmbgaoeplffkaa
open Go Go.RowKit
set_option linter.unusedVariables false
set_option linter.unusedSimpArgs false
set_option maxRecDepth 100000
set_option maxHeartbeats 8000000


theorem pigeon : ∀ {n : Nat} {f : Nat → Nat}, (∀ i, i ≤ n → f i < n) → ∃ i j, i < j ∧ j ≤ n ∧ f i = f j
  | 0, f, h => absurd (h 0 (Nat.le_refl 0)) (Nat.not_lt_zero _)
  | n + 1, f, h => by
    by_cases hv : ∃ i, i ≤ n ∧ f i = f (n + 1)
    · obtain ⟨i, h1, h2⟩ := hv
      exact ⟨i, n + 1, by omega, Nat.le_refl _, h2⟩
    have hne : ∀ i, i ≤ n → f i ≠ f (n + 1) := fun i hi e => hv ⟨i, hi, e⟩
    have hl := h (n + 1) (Nat.le_refl _)
    obtain ⟨i, j, h1, h2, h3⟩ := pigeon (n := n) (f := fun i => if f i = n then f (n + 1) else f i) fun i hi => by
      have a := h i (by omega)
      have c := hne i hi
      split <;> omega
    have a := hne i (by omega)
    have c := hne j (by omega)
    refine ⟨i, j, h1, by omega, ?_⟩
    split at h3 <;> split at h3 <;> omega
theorem nmN_inj {S : Nat} {xs ys : List Int} (hx : DG S xs) (hy : DG S ys) (hS : 0 < S) : ∀ m, m ≤ xs.length → m ≤ ys.length → nmN S xs m = nmN S ys m → ∀ i, i < m → xs.getD i 0 = ys.getD i 0
  | 0, _, _, _ => fun i hi => by omega
  | m + 1, h1, h2, h => by
    have a := hx _ (getD_mem (d := 0) (by omega : m < xs.length))
    have c := hy _ (getD_mem (d := 0) (by omega : m < ys.length))
    rw [nmN, nmN] at h
    have e1 : (nmN S xs m * S + (xs.getD m 0).toNat) / S = nmN S xs m := by
      rw [Nat.mul_comm, Nat.mul_add_div hS, Nat.div_eq_of_lt (by omega), Nat.add_zero]
    have e2 : (nmN S ys m * S + (ys.getD m 0).toNat) / S = nmN S ys m := by
      rw [Nat.mul_comm, Nat.mul_add_div hS, Nat.div_eq_of_lt (by omega), Nat.add_zero]
    have e3 : nmN S xs m = nmN S ys m := by rw [← e1, ← e2, h]
    rw [e3] at h
    intro i hi
    by_cases e : i = m
    · subst e; omega
    · exact nmN_inj hx hy hS m (by omega) (by omega) e3 i (by omega)
theorem nm_inj {S : Nat} {xs ys : List Int} (hx : DG S xs) (hy : DG S ys) (hS : 0 < S) (hl : xs.length = ys.length) (h : nm S xs = nm S ys) : xs = ys := by
  refine ext_getD 0 hl fun i hi => ?_
  rw [nm, nm, ← hl] at h
  exact nmN_inj hx hy hS xs.length (Nat.le_refl _) (by omega) h i hi
/-- Digits have the number of which they are. -/
theorem nm_dg {S n w : Nat} (hS : 0 < S) (h : n < S ^ w) : nm S (dg S n w) = n := by
  have key : ∀ m, m ≤ w → nmN S (dg S n w) m = n / S ^ (w - m) := fun m => by
    induction m with
    | zero => intro _; rw [nmN, Nat.sub_zero, Nat.div_eq_of_lt h]
    | succ m ih =>
      intro hm
      rw [nmN, ih (by omega), dg_get (by omega), dgt, Int.toNat_natCast, show w - m = (w - 1 - m) + 1 by omega, show w - (m + 1) = w - 1 - m by omega, Nat.pow_succ, ← Nat.div_div_eq_div_mul]
      have := Nat.div_add_mod (n / S ^ (w - 1 - m)) S
      rw [Nat.mul_comm] at this; exact this
  have := key w (Nat.le_refl _)
  rw [Nat.sub_self, Nat.pow_zero, Nat.div_one] at this
  rw [nm, dg_len]; exact this
theorem dg_nm {S : Nat} {ys : List Int} (hS : 0 < S) (hy : DG S ys) : dg S (nm S ys) ys.length = ys :=
  nm_inj (dg_mem hS) hy hS (by simp) (nm_dg hS (nm_lt hS hy _ (Nat.le_refl _)))

end Go.Proofs.Ytlmbgaoeplffkaa
