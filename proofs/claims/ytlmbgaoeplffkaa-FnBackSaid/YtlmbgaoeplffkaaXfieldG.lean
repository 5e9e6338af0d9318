/- Fields turned, mirrored, cut, shifted: the program. -/
import Derived.Test.YtlmbgaoeplffkaaXfieldAt
import Derived.Test.YtlmbgaoeplffkaaXmadeField
import Derived.Test.YtlmbgaoeplffkaaXbase
import Derived.Test.YtlmbgaoeplffkaaFB
namespace Go.Proofs.Ytlmbgaoeplffkaa
open Go Go.RowKit
set_option linter.unusedVariables false
set_option linter.unusedSimpArgs false
set_option maxRecDepth 100000
set_option maxHeartbeats 8000000


/-- The sides of a valid field, as natural numbers. -/
theorem VF.nat {r c : Int} {xs : List Int} (h : VF r c xs) : ∃ R C : Nat, r = R ∧ c = C ∧ (1 ≤ R ∧ R ≤ 24) ∧ (1 ≤ C ∧ C ≤ 24) ∧ xs.length = R * C ∧ R * C ≤ 576 := by
  obtain ⟨h1, h2, h3, h4⟩ := h
  obtain ⟨R, rfl⟩ : ∃ R : Nat, r = R := ⟨r.toNat, by omega⟩
  obtain ⟨C, rfl⟩ : ∃ C : Nat, c = C := ⟨c.toNat, by omega⟩
  have : R * C ≤ 576 := Nat.mul_le_mul (show R ≤ 24 by omega) (show C ≤ 24 by omega)
  refine ⟨R, C, rfl, rfl, by omega, by omega, ?_, this⟩
  have e : ((R * C : Nat) : Int) = (R : Int) * C := by push_cast; rfl
  omega
theorem cell_nat {R C i k : Nat} (hi : i < R) (hk : k < C) : (0 ≤ (i : Int) * C ∧ 0 ≤ (i : Int) * C + k) ∧ (i : Int) * C + k < ((R * C : Nat) : Int) ∧ (i : Int) * C ≤ ((R * C : Nat) : Int) := by
  have := cell_in (r := R) (c := C) (i := i) (k := k) (by omega) (by omega)
  push_cast; exact this
/-- A part of a field. -/
def Cov (r c row col rows cols : Int) : Prop := ((1 ≤ rows ∧ rows ≤ 24) ∧ 1 ≤ cols ∧ cols ≤ 24) ∧ (0 ≤ row ∧ row ≤ r - rows) ∧ 0 ≤ col ∧ col ≤ c - cols
def shG (xs : List Int) (R C row col i k : Int) : Int := cel xs C ((i - row) % R) ((k - col) % C)
/-- By how much fields are shifted. -/
def Shf (row col : Int) : Prop := (-24 ≤ row ∧ row ≤ 24) ∧ -24 ≤ col ∧ col ≤ 24
theorem c_areWithin2 {s : St} [Wf s] {id : Nat} {a b : Int} [h : ArgE ic s id 0 [a, b]] : FnB 88 [.c (.sl id 0 2), iv (-24), iv 24] s (Shf a b) := by
  have := c_areWithin (s := s) (id_xs := id) (off_xs := 0) (len_xs := 2) (xs := [a, b]) (a := -24) (b := 24)
  have e : (∀ x ∈ [a, b], -24 ≤ x ∧ x ≤ 24) = Shf a b := by simp [Shf]
  rw [e] at this; exact this
/-- A cell of a field on which another one is pasted. -/
def paG (xs : List Int) (C : Int) (ys : List Int) (M N row col i k : Int) : Int := if (0 ≤ i - row ∧ i - row < M) ∧ 0 ≤ k - col ∧ k - col < N then cel ys N (i - row) (k - col) else cel xs C i k
end Go.Proofs.Ytlmbgaoeplffkaa
