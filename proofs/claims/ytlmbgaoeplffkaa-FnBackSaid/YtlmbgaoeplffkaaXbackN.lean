/- Rings that lead to one, by their numbers. -/
import Derived.Test.YtlmbgaoeplffkaaXbackP
import Derived.Test.YtlmbgaoeplffkaaFB
namespace Go.Proofs.Ytlmbgaoeplffkaa
open Go Go.RowKit
set_option linter.unusedVariables false
set_option linter.unusedSimpArgs false
set_option maxRecDepth 100000
set_option maxHeartbeats 8000000


theorem allD_len {S : Nat} : ∀ n, (allD S n).length = S ^ n
  | 0 => rfl
  | n + 1 => by
    rw [allD, List.length_flatMap]
    have e : ((List.range S).map fun d => ((allD S n).map fun l => ((d : Nat) : Int) :: l).length) = List.replicate S (S ^ n) := by
      rw [List.eq_replicate_iff]
      refine ⟨by simp, fun b hb => ?_⟩
      obtain ⟨d, _, rfl⟩ := List.mem_map.1 hb
      rw [List.length_map, allD_len n]
    rw [e, List.sum_replicate_nat, Nat.pow_succ, Nat.mul_comm]
/-- All lists of digits are those of the numbers. -/
theorem allD_dg {S n : Nat} (hS : 0 < S) : allD S n = (List.range (S ^ n)).map fun k => dg S k n := by
  refine ord_eq (S := S) (allD_ord hS n) ?_ fun l => ?_
  · rw [OrdL, List.pairwise_map]
    refine List.pairwise_lt_range.imp_of_mem fun {a b} ha hb h => ?_
    rw [nm_dg hS (List.mem_range.1 ha), nm_dg hS (List.mem_range.1 hb)]; exact h
  · rw [allD_mem, List.mem_map]
    constructor
    · rintro ⟨h1, h2⟩
      refine ⟨nm S l, List.mem_range.2 ?_, ?_⟩
      · rw [← h2]; exact nm_full hS h1
      · rw [← h2]; exact dg_nm hS h1
    · rintro ⟨k, hk, rfl⟩
      exact ⟨dg_mem hS, by simp⟩
/-- Those among the first numbers. -/
def fwdK (st re : Int) (xs to : List Int) (k : Nat) : List (List Int) := ((List.range k).map fun k => dg st.toNat k to.length).filter fun y => decide (stepR st re xs y = to)
theorem fwdK_all {st re : Int} {xs to : List Int} (hS : 0 < st.toNat) : fwdK st re xs to (st.toNat ^ to.length) = fwdL st re xs to := by
  rw [fwdK, fwdL, allD_dg hS]
theorem fwdK_succ {st re : Int} {xs to : List Int} {k : Nat} : fwdK st re xs to (k + 1) = fwdK st re xs to k ++ if stepR st re xs (dg st.toNat k to.length) = to then [dg st.toNat k to.length] else [] := by
  rw [fwdK, fwdK, List.range_succ, List.map_append, List.filter_append]
  congr 1
  by_cases h : stepR st re xs (dg st.toNat k to.length) = to <;> simp [h]
theorem fwdK_pre {st re : Int} {xs to : List Int} {k m : Nat} (h : k ≤ m) : ∃ r, fwdK st re xs to m = fwdK st re xs to k ++ r := by
  induction m with
  | zero => exact ⟨[], by simp [show k = 0 by omega]⟩
  | succ m ih =>
    by_cases e : k = m + 1
    · subst e; exact ⟨[], by simp⟩
    · obtain ⟨r, hr⟩ := ih (by omega)
      exact ⟨_, by rw [fwdK_succ, hr, List.append_assoc]⟩
theorem fwdK_at {st re : Int} {xs to : List Int} {k : Nat} (hS : 0 < st.toNat) (hk : k < st.toNat ^ to.length) (h : stepR st re xs (dg st.toNat k to.length) = to) : (fwdK st re xs to k).length < (fwdL st re xs to).length ∧ (fwdL st re xs to).getD (fwdK st re xs to k).length [] = dg st.toNat k to.length := by
  obtain ⟨r, hr⟩ := fwdK_pre (st := st) (re := re) (xs := xs) (to := to) (show k + 1 ≤ st.toNat ^ to.length from hk)
  rw [fwdK_all hS, fwdK_succ, if_pos h] at hr
  rw [hr]
  refine ⟨by simp, ?_⟩
  rw [List.append_assoc, List.getD_eq_getElem?_getD, List.getElem?_append_right (Nat.le_refl _)]
  simp
theorem fwdL_le {st re : Int} {xs to : List Int} : (fwdL st re xs to).length ≤ st.toNat ^ to.length := by
  have := List.length_filter_le (fun y => decide (stepR st re xs y = to)) (allD st.toNat to.length)
  rw [allD_len] at this; exact this
/-- How many neighbourhoods lead to a state. -/
theorem ptab_tot {S E : Nat} {xs : List Int} {to : Int} (hE : 1 ≤ E) : ∀ m, m ≤ E * S → sg (fun i => (ptab S E xs to m).getD i 0) (E * E) = sg (fun i => if xs.getD i 0 = to then 1 else 0) m
  | 0, _ => by
    have e : ∀ i, (ptab S E xs to 0).getD i 0 = 0 := fun i => by
      rw [ptab, List.getD_eq_getElem?_getD, List.getElem?_replicate]; split <;> rfl
    rw [sg_congr (g := fun _ => 0) fun i _ => e i, sg_zero]; rfl
  | m + 1, h => by
    have ih := ptab_tot (S := S) (xs := xs) (to := to) hE m (by omega)
    rw [sg, ← ih, ptab]
    by_cases g : xs.getD m 0 = to
    · rw [if_pos g, if_pos g]
      have hd : m / S < E := Nat.div_lt_of_lt_mul (by rw [Nat.mul_comm]; omega)
      have hj := lt_mul hd (mod_in (m := m) hE)
      have e : ∀ i, ((ptab S E xs to m).set (m / S * E + m % E) ((ptab S E xs to m).getD (m / S * E + m % E) 0 + 1)).getD i 0 = (ptab S E xs to m).getD i 0 + if i = m / S * E + m % E then 1 else 0 := fun i => by
        rw [getD_set (by rw [ptab_len]; exact hj)]
        by_cases h2 : m / S * E + m % E = i
        · subst h2; rw [if_pos rfl, if_pos rfl]
        · rw [if_neg h2, if_neg fun h3 => h2 h3.symm, Int.add_zero]
      rw [sg_congr fun i _ => e i, sg_add, sg_one (f := fun _ => 1), if_pos hj]
    · rw [if_neg g, if_neg g, Int.add_zero]
theorem ptab_both {S E : Nat} {xs : List Int} (hE : 1 ≤ E) (hl : xs.length = E * S) (hd : DG 2 xs) : sg (fun i => (ptab S E xs 0 (E * S)).getD i 0 + (ptab S E xs 1 (E * S)).getD i 0) (E * E) = xs.length := by
  rw [sg_add, ptab_tot (S := S) hE _ (Nat.le_refl _), ptab_tot (S := S) hE _ (Nat.le_refl _), ← sg_add]
  have e : ∀ n, n ≤ xs.length → sg (fun i => (if xs.getD i 0 = 0 then (1 : Int) else 0) + if xs.getD i 0 = 1 then 1 else 0) n = n := fun n => by
    induction n with
    | zero => intro _; rfl
    | succ n ih =>
      intro h
      have h1 := hd _ (getD_mem (d := 0) (by omega : n < xs.length))
      rw [sg, ih (by omega)]
      by_cases h2 : xs.getD n 0 = 0
      · rw [if_pos h2, if_neg (by omega)]; push_cast; rfl
      · rw [if_neg h2, if_pos (by omega)]; push_cast; omega
  rw [← hl]; exact e _ (Nat.le_refl _)

end Go.Proofs.Ytlmbgaoeplffkaa
