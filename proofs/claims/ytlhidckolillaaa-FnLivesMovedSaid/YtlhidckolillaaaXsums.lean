/- Sums. -/
import Derived.Test.YtlhidckolillaaaXlists
import Derived.Test.YtlhidckolillaaaFB
namespace Go.Proofs.Ytlhidckolillaaa
open Go Go.RowKit
set_option linter.unusedVariables false
set_option linter.unusedSimpArgs false
set_option maxRecDepth 100000
set_option maxHeartbeats 8000000


def sg (f : Nat → Int) : Nat → Int
  | 0 => 0
  | n + 1 => sg f n + f n
theorem sg_congr {f g : Nat → Int} : ∀ {n}, (∀ i, i < n → f i = g i) → sg f n = sg g n
  | 0, _ => rfl
  | n + 1, h => by rw [sg, sg, sg_congr (fun i hi => h i (by omega)), h n (by omega)]
theorem sg_zero : ∀ {n}, sg (fun _ => 0) n = 0
  | 0 => rfl
  | n + 1 => by rw [sg, sg_zero]; rfl
theorem sg_add {f g : Nat → Int} : ∀ {n}, sg (fun i => f i + g i) n = sg f n + sg g n
  | 0 => rfl
  | n + 1 => by rw [sg, sg, sg, sg_add]; omega
theorem sg_swap {f : Nat → Nat → Int} {m : Nat} : ∀ {n}, sg (fun i => sg (fun j => f i j) m) n = sg (fun j => sg (fun i => f i j) n) m
  | 0 => by simp only [sg]; rw [sg_zero]
  | n + 1 => by rw [sg, sg_swap, ← sg_add]; rfl
theorem sg_nn {f : Nat → Int} : ∀ {n}, (∀ i, i < n → 0 ≤ f i) → 0 ≤ sg f n
  | 0, _ => Int.le_refl 0
  | n + 1, h => by have := sg_nn (n := n) fun i hi => h i (by omega); have := h n (by omega); rw [sg]; omega
theorem sg_le {f g : Nat → Int} : ∀ {n}, (∀ i, i < n → f i ≤ g i) → sg f n ≤ sg g n
  | 0, _ => Int.le_refl 0
  | n + 1, h => by have := sg_le (n := n) fun i hi => h i (by omega); have := h n (by omega); rw [sg, sg]; omega
theorem sg_one {f : Nat → Int} {a : Nat} : ∀ {n}, sg (fun i => if i = a then f i else 0) n = if a < n then f a else 0
  | 0 => by simp [sg]
  | n + 1 => by
    rw [sg, sg_one]
    by_cases h : n = a
    · subst h; rw [if_neg (by omega), if_pos rfl, if_pos (by omega), Int.zero_add]
    · rw [if_neg h, Int.add_zero]
      by_cases h2 : a < n
      · rw [if_pos h2, if_pos (by omega)]
      · rw [if_neg h2, if_neg (by omega)]
theorem sg_term {f : Nat → Int} {n i : Nat} (h : ∀ j, j < n → 0 ≤ f j) (hi : i < n) : f i ≤ sg f n := by
  induction n with
  | zero => omega
  | succ n ih =>
    rw [sg]
    by_cases e : i = n
    · subst e; have := sg_nn (n := i) fun j hj => h j (by omega); omega
    · have := ih (fun j hj => h j (by omega)) (by omega); have := h n (by omega); omega
theorem sg_mono {f : Nat → Int} {n m : Nat} (h : ∀ j, j < n → 0 ≤ f j) (hm : m ≤ n) : sg f m ≤ sg f n := by
  induction n with
  | zero => obtain rfl : m = 0 := by omega
            exact Int.le_refl _
  | succ n ih =>
    by_cases e : m = n + 1
    · subst e; exact Int.le_refl _
    · have := ih (fun j hj => h j (by omega)) (by omega); have := h n (by omega); rw [sg]; omega
theorem sg_if {f : Nat → Int} {P : Prop} [Decidable P] {n : Nat} : sg (fun i => if P then f i else 0) n = if P then sg f n else 0 := by
  by_cases h : P
  · simp only [h, if_true]
  · simp only [h, if_false]; exact sg_zero

end Go.Proofs.Ytlhidckolillaaa
