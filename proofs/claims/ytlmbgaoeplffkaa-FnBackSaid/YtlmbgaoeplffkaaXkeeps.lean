/- Rules that keep the sum, and what flows. -/
import Derived.Test.YtlmbgaoeplffkaaXpairs
import Derived.Test.YtlmbgaoeplffkaaXpart
import Derived.Test.YtlmbgaoeplffkaaFB
namespace Go.Proofs.Ytlmbgaoeplffkaa
open Go Go.RowKit
set_option linter.unusedVariables false
set_option linter.unusedSimpArgs false
set_option maxRecDepth 100000
set_option maxHeartbeats 8000000


/-- Zeros ahead change no number. -/
theorem nm_zeros {S : Nat} {cs : List Int} (z : Nat) : ∀ m, nmN S (List.replicate z 0 ++ cs) (z + m) = nmN S cs m
  | 0 => by
    have : ∀ k, k ≤ z → nmN S (List.replicate z 0 ++ cs) k = 0 := fun k => by
      induction k with
      | zero => intro _; rfl
      | succ k ih =>
        intro hk
        rw [nmN, ih (by omega), List.getD_eq_getElem?_getD, List.getElem?_append_left (by simp; omega), List.getElem?_replicate, if_pos (by omega)]; simp
    exact this z (Nat.le_refl z)
  | m + 1 => by
    rw [← Nat.add_assoc, nmN, nm_zeros z m, nmN, List.getD_eq_getElem?_getD, List.getElem?_append_right (by simp), List.getD_eq_getElem?_getD]
    simp
theorem DG.part {S : Nat} {cs : List Int} (h : DG S cs) (a n : Nat) : DG S ((cs.drop a).take n) := fun x hx => h x (List.mem_of_mem_drop (List.mem_of_mem_take hx))
/-- The next state of the neighbourhood of zeros and then 'm' cells from 'a' on. -/
def bh (S : Nat) (xs cs : List Int) (m a : Nat) : Int := xs.getD (nm S ((cs.drop a).take m)) 0
theorem bh_in {S w E : Nat} {xs cs : List Int} {m a : Nat} (hS : 2 ≤ S) (hE : E = S ^ (w - 1)) (hw : 1 ≤ w) (hl : xs.length = E * S) (hd : DG S xs) (hc : DG S cs) (hm : m ≤ w) : nm S ((cs.drop a).take m) < E * S ∧ 0 ≤ bh S xs cs m a ∧ bh S xs cs m a ≤ (S : Int) - 1 := by
  have h1 : nm S ((cs.drop a).take m) < S ^ ((cs.drop a).take m).length := nm_lt (by omega) (hc.part a m) _ (Nat.le_refl _)
  have h2 : S ^ ((cs.drop a).take m).length ≤ S ^ w := Nat.pow_le_pow_right (by omega) (by simp; omega)
  have h3 : S ^ w = E * S := by rw [hE, ← Nat.pow_succ, Nat.succ_eq_add_one, show w - 1 + 1 = w by omega]
  have h4 : nm S ((cs.drop a).take m) < E * S := by omega
  exact ⟨h4, hd _ (getD_mem (by omega))⟩
/-- What a rule that keeps the sum must tell. -/
def ks (S w : Nat) (xs cs : List Int) : Nat → Int
  | 0 => cs.getD 0 0
  | k + 1 => ks S w xs cs k + (bh S xs cs (w - (k + 1)) 1 - bh S xs cs (w - (k + 1)) 0)
theorem ks_in {S w E : Nat} {xs cs : List Int} (hS : 2 ≤ S ∧ S ≤ 3) (hE : E = S ^ (w - 1)) (hw : 1 ≤ w) (hl : xs.length = E * S) (hd : DG S xs) (hc : DG S cs) (h0 : 0 < cs.length) : ∀ k : Nat, -(2 * k) ≤ ks S w xs cs k ∧ ks S w xs cs k ≤ 2 * k + 2
  | 0 => by have := hc _ (getD_mem (d := 0) h0); rw [ks]; omega
  | k + 1 => by
    have ih := ks_in hS hE hw hl hd hc h0 k
    have b1 := (bh_in (a := 1) hS.1 hE hw hl hd hc (show w - (k + 1) ≤ w by omega)).2
    have b0 := (bh_in (a := 0) hS.1 hE hw hl hd hc (show w - (k + 1) ≤ w by omega)).2
    rw [ks]; push_cast; omega
def Keeps (S w : Nat) (xs : List Int) : Prop := ∀ n, n < xs.length → ks S w xs (dg S n w) (w - 1) = xs.getD n 0
def KeepsP (st re : Int) (xs : List Int) : Prop := Keeps st.toNat (2 * re + 1).toNat xs
end Go.Proofs.Ytlmbgaoeplffkaa
