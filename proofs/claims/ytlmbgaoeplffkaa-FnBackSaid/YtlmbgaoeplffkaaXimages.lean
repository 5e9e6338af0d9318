/- All small rings, and what they lead to. -/
import Derived.Test.YtlmbgaoeplffkaaXcback
import Derived.Test.YtlmbgaoeplffkaaXrun
import Derived.Test.YtlmbgaoeplffkaaFB
namespace Go.Proofs.Ytlmbgaoeplffkaa
open Go Go.RowKit
set_option linter.unusedVariables false
set_option linter.unusedSimpArgs false
set_option maxRecDepth 100000
set_option maxHeartbeats 8000000


def most (st a b : Int) : Int := if st = 2 then a else b
theorem c_mostCells {s : St} [Wf s] {st re a b : Int} {v : AC} : FnV 50 [.agg [ic st, ic re, v], iv a, iv b] s (iv (most st a b)) := by
  refine F_start code50 ?_
  repeat' (first
 | refine A_go rfl ?_ | refine A_ifT rfl rfl ?_ | refine A_ifF rfl rfl ?_
 | ((first | refine A_eq rfl rfl rfl ?_ ?_) <;> intro hc <;> try first | contradiction | (exfalso; omega) | exact absurd rfl hc)
 | refine A_fld rfl rfl ?_ | refine A_p (by rfl) rfl ?_
 | refine A_ldI rfl (by first | omega | (simp; done) | (simp; omega)) rfl ?_ | refine A_ldB rfl (by first | omega | (simp; done) | (simp; omega)) rfl ?_ | refine A_ld rfl (by rfl) rfl ?_
 | ((first | refine A_box rfl rfl ?_ | refine A_boxC rfl rfl ?_) <;> intro pz hpz)
 | refine A_ret1 rfl (by exact (RP.t rfl RP.nil)) ?_)
  · exact R_v (by rw [most, if_pos hc])
  · exact R_v (by rw [most, if_neg hc])
/-- Rings that are small. -/
def SmallP (st re : Int) (xs : List Int) (n a b : Int) : Prop := VR st re xs ∧ 2 * re + 1 ≤ n ∧ n ≤ most st a b
/-- The numbers of what all rings of 'n' cells lead to. -/
abbrev stp (S : Nat) (re : Int) (xs : List Int) (n i : Nat) : Nat := nm S (stepR S re xs (dg S i n))
def stps (S : Nat) (re : Int) (xs : List Int) (n : Nat) : List Int := (List.range (S ^ n)).map fun i => ((stp S re xs n i : Nat) : Int)
@[simp] theorem stps_len {S n : Nat} {re : Int} {xs : List Int} : (stps S re xs n).length = S ^ n := by simp [stps]
theorem stps_get {S n i : Nat} {re : Int} {xs : List Int} (h : i < S ^ n) : (stps S re xs n).getD i 0 = ((stp S re xs n i : Nat) : Int) := getD_map_range h
theorem dg_rg {S n i : Nat} (hS : 2 ≤ S) (hn : 1 ≤ n ∧ n ≤ 64) : RG S (dg S i n) := ⟨by simp; omega, dg_mem (by omega)⟩
theorem stp_lt {S n i : Nat} {re : Int} {xs : List Int} (hS : 2 ≤ S) (hv : VR S re xs) (hn : 1 ≤ n ∧ n ≤ 64) : stp S re xs n i < S ^ n := by
  have h := nm_lt (S := S) (by omega) (stepR_rg hv (dg_rg (i := i) hS hn)).2 _ (Nat.le_refl _)
  simp only [stepR_len, dg_len] at h
  have e : (stepR S re xs (dg S i n)).length = n := by simp
  rw [stp, nm, e]; exact h
theorem small_pow {S n : Nat} {a b : Int} (hS : 2 ≤ S ∧ S ≤ 3) (h : (n : Int) ≤ most S a b) (hab : a ≤ 12 ∧ b ≤ 8) : n ≤ 12 ∧ S ^ n ≤ 6561 := by
  unfold most at h
  by_cases e : (S : Int) = 2
  · rw [if_pos e] at h
    have e2 : S = 2 := by omega
    subst e2
    have : 2 ^ n ≤ 2 ^ 12 := Nat.pow_le_pow_right (by omega) (by omega)
    have : (2 : Nat) ^ 12 = 4096 := by decide
    omega
  · rw [if_neg e] at h
    have e2 : S = 3 := by omega
    subst e2
    have : 3 ^ n ≤ 3 ^ 8 := Nat.pow_le_pow_right (by omega) (by omega)
    have : (3 : Nat) ^ 8 = 6561 := by decide
    omega
/-- Which numbers came among the first 'm', and how many. -/
def img (N : Nat) (ts : List Int) : Nat → List Bool × Int
  | 0 => (List.replicate N false, 0)
  | m + 1 => if (img N ts m).1.getD (ts.getD m 0).toNat false = false then ((img N ts m).1.set (ts.getD m 0).toNat true, (img N ts m).2 + 1) else img N ts m
theorem img_ok {N : Nat} {ts : List Int} : ∀ m, (img N ts m).1.length = N ∧ 0 ≤ (img N ts m).2 ∧ (img N ts m).2 ≤ m
  | 0 => by simp [img]
  | m + 1 => by
    obtain ⟨h1, h2, h3⟩ := img_ok (N := N) (ts := ts) m
    rw [img]; split
    · exact ⟨by simp [h1], by show 0 ≤ (img N ts m).2 + 1; omega, by show (img N ts m).2 + 1 ≤ _; push_cast; omega⟩
    · exact ⟨h1, h2, by omega⟩
def imgR (st re : Int) (xs : List Int) (n : Int) : Int := (img (st.toNat ^ n.toNat) (stps st.toNat re xs n.toNat) (st.toNat ^ n.toNat)).2
def gardR (st re : Int) (xs : List Int) (n : Int) : Int := ((st.toNat ^ n.toNat : Nat) : Int) - imgR st re xs n
end Go.Proofs.Ytlmbgaoeplffkaa
