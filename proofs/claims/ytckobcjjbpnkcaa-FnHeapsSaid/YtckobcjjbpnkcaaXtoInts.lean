/- What toInt64S does. -/
import Derived.Test.YtckobcjjbpnkcaaFB
namespace Go.Proofs.Ytckobcjjbpnkcaa
open Go Go.RowKit
set_option linter.unusedVariables false
set_option linter.unusedSimpArgs false
set_option maxRecDepth 100000
set_option maxHeartbeats 8000000


abbrev ints (xs : List Int) : AObj := .rw 2 1 (xs.map ic)
theorem take_set {α : Type} {ys xs : List α} {i : Nat} {d : α} (h : ys.take i = xs.take i) (hy : i < ys.length) (hx : i < xs.length) : (ys.set i (xs.getD i d)).take (i + 1) = xs.take (i + 1) := by
  rw [List.take_add_one, List.take_add_one, List.take_set_of_le (Nat.le_refl i), h]
  simp [hy, hx]
theorem take_end {α : Type} {ys xs : List α} {i : Nat} (h : ys.take i = xs.take i) (h1 : ys.length ≤ i) (h2 : xs.length ≤ i) : ys = xs := by
  rw [List.take_of_length_le h1, List.take_of_length_le h2] at h; exact h
end Go.Proofs.Ytckobcjjbpnkcaa
