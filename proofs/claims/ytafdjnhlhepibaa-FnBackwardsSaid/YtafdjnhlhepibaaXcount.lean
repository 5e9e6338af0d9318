/- Cells are counted. -/
import Derived.Test.YtafdjnhlhepibaaXfieldAt
import Derived.Test.YtafdjnhlhepibaaFB
namespace Go.Proofs.Ytafdjnhlhepibaa
open Go Go.RowKit
set_option linter.unusedVariables false
set_option linter.unusedSimpArgs false
set_option maxRecDepth 100000
set_option maxHeartbeats 8000000


def cnt (xs : List Int) (a : Int) : Nat → Nat
  | 0 => 0
  | n + 1 => cnt xs a n + if xs.getD n 0 = a then 1 else 0
theorem cnt_le {xs : List Int} {a : Int} : ∀ n, cnt xs a n ≤ n
  | 0 => Nat.le_refl _
  | n + 1 => by have := cnt_le (xs := xs) (a := a) n; simp only [cnt]; split <;> omega
def dif (xs ys : List Int) : Nat → Nat
  | 0 => 0
  | n + 1 => dif xs ys n + if xs.getD n 0 = ys.getD n 0 then 0 else 1
theorem dif_le {xs ys : List Int} : ∀ n, dif xs ys n ≤ n
  | 0 => Nat.le_refl _
  | n + 1 => by have := dif_le (xs := xs) (ys := ys) n; simp only [dif]; split <;> omega
theorem vf_len {r c : Int} {xs : List Int} (h : VF r c xs) : xs.length ≤ 576 := by
  have := side_mul (r := r) (c := c) (by have := h.1; omega) (by have := h.2.1; omega)
  have := h.2.2.1; omega
/-- Two fields of as many rows and columns. -/
def VF2 (r c : Int) (xs : List Int) (r2 c2 : Int) (ys : List Int) : Prop := (VF r c xs ∧ VF r2 c2 ys) ∧ r = r2 ∧ c = c2
theorem VF2.len {r c r2 c2 : Int} {xs ys : List Int} (h : VF2 r c xs r2 c2 ys) : xs.length = ys.length := by
  obtain ⟨⟨h1, h2⟩, rfl, rfl⟩ := h
  have := h1.2.2.1; have := h2.2.2.1; omega
end Go.Proofs.Ytafdjnhlhepibaa
