/- The glider comes again behind four steps. -/
import Derived.Test.YtlhidckolillaaaXmoveOf
import Derived.Test.YtlhidckolillaaaFB
namespace Go.Proofs.Ytlhidckolillaaa
open Go Go.RowKit
set_option linter.unusedVariables false
set_option linter.unusedSimpArgs false
set_option maxRecDepth 100000
set_option maxHeartbeats 8000000


def gl0 : List Int := [0, 1, 0, 0, 0, 0, 0, 0, 1, 0, 0, 0, 1, 1, 1, 0, 0, 0, 0, 0, 0, 0, 0, 0, 0, 0, 0, 0, 0, 0, 0, 0, 0, 0, 0, 0]
def gl1 : List Int := [0, 0, 0, 0, 0, 0, 1, 0, 1, 0, 0, 0, 0, 1, 1, 0, 0, 0, 0, 1, 0, 0, 0, 0, 0, 0, 0, 0, 0, 0, 0, 0, 0, 0, 0, 0]
def gl2 : List Int := [0, 0, 0, 0, 0, 0, 0, 0, 1, 0, 0, 0, 1, 0, 1, 0, 0, 0, 0, 1, 1, 0, 0, 0, 0, 0, 0, 0, 0, 0, 0, 0, 0, 0, 0, 0]
def gl3 : List Int := [0, 0, 0, 0, 0, 0, 0, 1, 0, 0, 0, 0, 0, 0, 1, 1, 0, 0, 0, 1, 1, 0, 0, 0, 0, 0, 0, 0, 0, 0, 0, 0, 0, 0, 0, 0]
def gl4 : List Int := [0, 0, 0, 0, 0, 0, 0, 0, 1, 0, 0, 0, 0, 0, 0, 1, 0, 0, 0, 1, 1, 1, 0, 0, 0, 0, 0, 0, 0, 0, 0, 0, 0, 0, 0, 0]
theorem gl_step0 : mk 6 6 (lifeV [3] [2, 3] gl0 6 6 true) = gl1 := by decide +kernel
theorem gl_step1 : mk 6 6 (lifeV [3] [2, 3] gl1 6 6 true) = gl2 := by decide +kernel
theorem gl_step2 : mk 6 6 (lifeV [3] [2, 3] gl2 6 6 true) = gl3 := by decide +kernel
theorem gl_step3 : mk 6 6 (lifeV [3] [2, 3] gl3 6 6 true) = gl4 := by decide +kernel
theorem gl_n1 : lifeN [3] [2, 3] 6 6 true gl0 1 = gl1 := gl_step0
theorem gl_n2 : lifeN [3] [2, 3] 6 6 true gl0 2 = gl2 := by rw [lifeN, gl_n1]; exact gl_step1
theorem gl_n3 : lifeN [3] [2, 3] 6 6 true gl0 3 = gl3 := by rw [lifeN, gl_n2]; exact gl_step2
theorem gl_n4 : lifeN [3] [2, 3] 6 6 true gl0 4 = gl4 := by rw [lifeN, gl_n3]; exact gl_step3
theorem gl_no1 : ∀ a, a < 6 → ∀ b, b < 6 → gl1 ≠ shif 6 6 gl0 ((a : Nat) : Int) ((b : Nat) : Int) := by decide +kernel
theorem gl_no2 : ∀ a, a < 6 → ∀ b, b < 6 → gl2 ≠ shif 6 6 gl0 ((a : Nat) : Int) ((b : Nat) : Int) := by decide +kernel
theorem gl_no3 : ∀ a, a < 6 → ∀ b, b < 6 → gl3 ≠ shif 6 6 gl0 ((a : Nat) : Int) ((b : Nat) : Int) := by decide +kernel
theorem gl_yes : gl4 = shif 6 6 gl0 ((1 : Nat) : Int) ((1 : Nat) : Int) := by decide +kernel
theorem gl_only : ∀ a, a < 6 → ∀ b, b < 6 → gl4 = shif 6 6 gl0 ((a : Nat) : Int) ((b : Nat) : Int) → a = 1 ∧ b = 1 := by decide +kernel
theorem gl_mv {V : AV} (h : MvP [3] [2, 3] 6 6 8 gl0 V) : V = .tup [.c (ic 4), .c (ic 1), .c (ic 1), .c (.bool true)] := by
  have y4 : ¬ NoM [3] [2, 3] 6 6 gl0 4 := fun g => g 1 1 (by omega) (by omega) (by rw [gl_n4]; exact gl_yes)
  rcases h with ⟨n, i, k, rfl, h1, h2, h3, h4, h5⟩ | ⟨_, h⟩
  · have hn : n = 4 := by
      rcases Nat.lt_trichotomy n 4 with g | g | g
      · exfalso
        obtain rfl | rfl | rfl : n = 1 ∨ n = 2 ∨ n = 3 := by omega
        · rw [gl_n1] at h3; exact gl_no1 i h2.1 k h2.2 h3
        · rw [gl_n2] at h3; exact gl_no2 i h2.1 k h2.2 h3
        · rw [gl_n3] at h3; exact gl_no3 i h2.1 k h2.2 h3
      · exact g
      · exact absurd (h4 4 (by omega) g) y4
    subst hn
    rw [gl_n4] at h3
    obtain ⟨rfl, rfl⟩ := gl_only i h2.1 k h2.2 h3
    rfl
  · exact absurd (h 4 (by omega) (by omega)) y4

end Go.Proofs.Ytlhidckolillaaa
