/- Single cells of rings, and steps of second order. -/
import Derived.Test.YtkeabhhndcpejaaXrun
import Derived.Test.YtkeabhhndcpejaaFB
namespace Go.Proofs.Ytkeabhhndcpejaa
open Go Go.RowKit
set_option linter.unusedVariables false
set_option linter.unusedSimpArgs false
set_option maxRecDepth 100000
set_option maxHeartbeats 8000000


/-- The ring behind the first 'n' single cells. -/
def aloneR (st re : Int) (xs ys os : List Int) : Nat → List Int
  | 0 => ys
  | n + 1 => (aloneR st re xs ys os n).set (os.getD n 0).toNat (told st re xs (aloneR st re xs ys os n) (os.getD n 0))
theorem aloneR_len {st re : Int} {xs ys os : List Int} : ∀ n, (aloneR st re xs ys os n).length = ys.length
  | 0 => rfl
  | n + 1 => by simp [aloneR, aloneR_len n]
theorem mem_set {α : Type} {xs : List α} {i : Nat} {a x : α} (h : x ∈ xs.set i a) : x ∈ xs ∨ x = a := by
  obtain ⟨j, hj⟩ := List.mem_iff_getElem?.1 h
  rw [List.getElem?_set] at hj
  split at hj
  · split at hj
    · exact .inr (Option.some.inj hj).symm
    · cases hj
  · exact .inl (List.mem_of_getElem? hj)
theorem aloneR_rg {st re : Int} {xs ys os : List Int} (hv : VR st re xs) (hr : RG st ys) : ∀ n, RG st (aloneR st re xs ys os n)
  | 0 => hr
  | n + 1 => by
    have ih := aloneR_rg (os := os) hv hr n
    refine ⟨by rw [aloneR_len]; exact hr.1, fun x hx => ?_⟩
    rcases mem_set hx with h | rfl
    · exact ih.2 x h
    · exact (told_in hv ih _).2
/-- The numbers of cells. -/
def OrdP (os : List Int) (n : Nat) : Prop := os.length ≤ 1000 ∧ ∀ x ∈ os, 0 ≤ x ∧ x ≤ (n : Int) - 1
/-- The next ring less the one before. -/
def secondR (st re : Int) (xs bs ys : List Int) : List Int := (List.range ys.length).map fun i : Nat => ((stepR st re xs ys).getD i 0 + st - bs.getD i 0) % st
@[simp] theorem secondR_len {st re : Int} {xs bs ys : List Int} : (secondR st re xs bs ys).length = ys.length := by simp [secondR]
theorem secondR_get {st re : Int} {xs bs ys : List Int} {i : Nat} (h : i < ys.length) : (secondR st re xs bs ys).getD i 0 = ((stepR st re xs ys).getD i 0 + st - bs.getD i 0) % st := getD_map_range h
abbrev SecP (st re : Int) (xs bs ys : List Int) : Prop := VR st re xs ∧ RG st bs ∧ RG st ys ∧ bs.length = ys.length
end Go.Proofs.Ytkeabhhndcpejaa
