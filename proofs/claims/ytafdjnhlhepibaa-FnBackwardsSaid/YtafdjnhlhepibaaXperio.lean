/- When a row of lists comes again. -/
import Derived.Test.YtafdjnhlhepibaaXmade
import Derived.Test.YtafdjnhlhepibaaFB
namespace Go.Proofs.Ytafdjnhlhepibaa
open Go Go.RowKit
set_option linter.unusedVariables false
set_option linter.unusedSimpArgs false
set_option maxRecDepth 100000
set_option maxHeartbeats 8000000

section
variable {α : Type} {x : Nat → α}
/-- What comes has come ahead. -/
def Rep (x : Nat → α) (n : Nat) : Prop := ∃ m, m < n ∧ x m = x n
/-- 'u' steps ahead of what comes again, and 'v' in it. -/
structure Per (x : Nat → α) (u v : Nat) : Prop where
  pos : 1 ≤ v
  eq : x u = x (u + v)
  new : ∀ n, n < u + v → ¬ Rep x n
theorem Rep.per : ∀ n, Rep x n → ∃ u v, Per x u v ∧ u + v ≤ n := by
  intro n
  induction n using Nat.strongRecOn with
  | _ n ih =>
    rintro ⟨m, h1, h2⟩
    by_cases h : ∃ k, k < n ∧ Rep x k
    · obtain ⟨k, h3, h4⟩ := h
      obtain ⟨u, v, h5, h6⟩ := ih k h3 h4
      exact ⟨u, v, h5, by omega⟩
    · exact ⟨m, n - m, ⟨by omega, by rw [h2]; congr 1; omega, fun k hk hr => h ⟨k, by omega, hr⟩⟩, by omega⟩
theorem Per.rep {u v : Nat} (h : Per x u v) : Rep x (u + v) := ⟨u, by have := h.pos; omega, h.eq⟩
theorem Per.diff {u v i j : Nat} (h : Per x u v) (hi : i < j) (hj : j < u + v) : x i ≠ x j := fun e => h.new j hj ⟨i, hi, e⟩
theorem Per.uniq {u v u' v' : Nat} (h : Per x u v) (k : Per x u' v') : u = u' ∧ v = v' := by
  have e : u + v = u' + v' := by
    rcases Nat.lt_trichotomy (u + v) (u' + v') with g | g | g
    · exact absurd h.rep (k.new _ g)
    · exact g
    · exact absurd k.rep (h.new _ g)
  have h1 := h.pos
  have h2 := k.pos
  have e2 : x u = x u' := by rw [h.eq, k.eq, e]
  rcases Nat.lt_trichotomy u u' with g | g | g
  · exact absurd e2 (h.diff g (by omega))
  · omega
  · exact absurd e2.symm (h.diff g (by omega))
variable (hx : ∀ i j, x i = x j → x (i + 1) = x (j + 1))
include hx
theorem step_by {i j : Nat} (e : x i = x j) : ∀ t, x (i + t) = x (j + t)
  | 0 => e
  | t + 1 => hx _ _ (step_by e t)
theorem Per.cyc {u v : Nat} (h : Per x u v) {i : Nat} (hi : u ≤ i) : ∀ k, x (i + k * v) = x i
  | 0 => by rw [Nat.zero_mul, Nat.add_zero]
  | k + 1 => by
    have e := step_by hx h.eq (i - u + k * v)
    rw [Nat.add_mul, Nat.one_mul, show i + (k * v + v) = u + v + (i - u + k * v) by omega, ← e, show u + (i - u + k * v) = i + k * v by omega]
    exact h.cyc hi k
theorem Per.red {u v : Nat} (h : Per x u v) {i : Nat} (hi : u ≤ i) : x i = x (u + (i - u) % v) := by
  have e := h.cyc hx (i := u + (i - u) % v) (by omega) ((i - u) / v)
  rw [← e]; congr 1
  have := Nat.div_add_mod (i - u) v
  rw [Nat.mul_comm] at this; omega
theorem Per.same {u v : Nat} (h : Per x u v) {i j : Nat} (hi : i < j) (e : x i = x j) : u ≤ i ∧ (i - u) % v = (j - u) % v := by
  have hv := h.pos
  have h1 : u ≤ i := by
    refine Nat.le_of_not_lt fun hlt => ?_
    have e2 := step_by hx e (u - 1 - i)
    rw [show i + (u - 1 - i) = u - 1 by omega, h.red hx (show u ≤ j + (u - 1 - i) by omega)] at e2
    have := Nat.mod_lt (j + (u - 1 - i) - u) (show 0 < v by omega)
    exact h.diff (by omega) (by omega) e2
  refine ⟨h1, ?_⟩
  have e2 := e
  rw [h.red hx h1, h.red hx (show u ≤ j by omega)] at e2
  have m1 := Nat.mod_lt (i - u) (show 0 < v by omega)
  have m2 := Nat.mod_lt (j - u) (show 0 < v by omega)
  rcases Nat.lt_trichotomy ((i - u) % v) ((j - u) % v) with g | g | g
  · exact absurd e2 (h.diff (by omega) (by omega))
  · exact g
  · exact absurd e2.symm (h.diff (by omega) (by omega))
/-- One that runs ahead of one that waits at 'p': it is met first behind 'v' steps. -/
theorem Per.met {u v p q : Nat} (h : Per x u v) (hq : 1 ≤ q) (e : x p = x (p + q)) (hn : ∀ k, 1 ≤ k → k < q → x p ≠ x (p + k)) : u ≤ p ∧ v = q := by
  obtain ⟨h1, h2⟩ := h.same hx (by omega) e
  have hv := h.pos
  refine ⟨h1, ?_⟩
  have e1 : x p = x (p + v) := by have := h.cyc hx h1 1; rw [Nat.one_mul] at this; exact this.symm
  rcases Nat.lt_trichotomy v q with g | g | g
  · exact absurd e1 (hn v hv g)
  · exact g
  · exfalso
    rw [show p + q - u = (p - u) + q by omega] at h2
    have h3 : ((p - u) + q) % v = ((p - u) % v + q % v) % v := Nat.add_mod _ _ _
    rw [Nat.mod_eq_of_lt g, ← h2] at h3
    have h4 := Nat.mod_lt (p - u) (show 0 < v by omega)
    generalize (p - u) % v = a at h3 h4
    by_cases h5 : a + q < v
    · have := Nat.mod_eq_of_lt h5; omega
    · have h6 := Nat.mod_eq_sub_mod (show a + q ≥ v by omega)
      have h7 := Nat.mod_eq_of_lt (show a + q - v < v by omega)
      omega
/-- In a round in which it is not met the one that waits is too near, or the round too short. -/
theorem Per.miss {u v p : Nat} (h : Per x u v) (hn : ∀ k, 1 ≤ k → k ≤ p → x (p - 1) ≠ x (p - 1 + k)) (hp : 1 ≤ p) : p ≤ u ∨ p < v := by
  by_cases h1 : p ≤ u
  · exact .inl h1
  by_cases h2 : p < v
  · exact .inr h2
  exfalso
  have e1 : x (p - 1) = x (p - 1 + v) := by have := h.cyc hx (i := p - 1) (by omega) 1; rw [Nat.one_mul] at this; exact this.symm
  exact hn v h.pos (by omega) e1
/-- Two at 'v' steps from each other meet first at 'u'. -/
theorem Per.first {u v m : Nat} (h : Per x u v) (e : x m = x (m + v)) (hn : ∀ k, k < m → x k ≠ x (k + v)) : m = u := by
  have hv := h.pos
  obtain ⟨h1, _⟩ := h.same hx (by omega) e
  rcases Nat.lt_or_ge u m with g | g
  · exact absurd h.eq (hn u g)
  · omega
end

end Go.Proofs.Ytafdjnhlhepibaa
