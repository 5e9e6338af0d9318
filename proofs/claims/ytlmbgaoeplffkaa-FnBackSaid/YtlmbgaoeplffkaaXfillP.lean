/- Rings filled cell by cell, as plain lists. -/
import Derived.Test.YtlmbgaoeplffkaaXbackP
import Derived.Test.YtlmbgaoeplffkaaFB
namespace Go.Proofs.Ytlmbgaoeplffkaa
open Go Go.RowKit
set_option linter.unusedVariables false
set_option linter.unusedSimpArgs false
set_option maxRecDepth 100000
set_option maxHeartbeats 8000000


/-- The rings that lead to one and begin so, with so many cells more. -/
def lstL (st re : Int) (xs to : List Int) (m : Nat) (pre : List Int) : List (List Int) := ((allD st.toNat m).map fun l => pre ++ l).filter fun y => decide (stepR st re xs y = to)
theorem lst_all {st re : Int} {xs to : List Int} : lstL st re xs to to.length [] = fwdL st re xs to := by
  rw [lstL, fwdL]
  congr 1
  simp
theorem lst_zero {st re : Int} {xs to pre : List Int} : lstL st re xs to 0 pre = if stepR st re xs pre = to then [pre] else [] := by
  by_cases h : stepR st re xs pre = to <;> simp [lstL, allD, h]
def lstD (st re : Int) (xs to : List Int) (m : Nat) (pre : List Int) (k : Nat) : List (List Int) := (List.range k).flatMap fun (d : Nat) => lstL st re xs to m (pre ++ [((d : Nat) : Int)])
theorem lstD_succ {st re : Int} {xs to pre : List Int} {m k : Nat} : lstD st re xs to m pre (k + 1) = lstD st re xs to m pre k ++ lstL st re xs to m (pre ++ [((k : Nat) : Int)]) := by
  rw [lstD, List.range_succ, List.flatMap_append, lstD]; simp
theorem lst_succ {st re : Int} {xs to pre : List Int} {m : Nat} : lstL st re xs to (m + 1) pre = lstD st re xs to m pre st.toNat := by
  rw [lstL, allD, List.map_flatMap, List.filter_flatMap, lstD]
  congr 1
  funext d
  rw [lstL, List.map_map]
  congr 1
  refine List.map_congr_left fun l _ => ?_
  simp
/-- A neighbourhood that is full already tells another state: nothing is found. -/
theorem lst_none {S w m at_ : Nat} {re : Int} {xs to p : List Int} (hv : VR S re xs) (hto : RG S to) (hw : 2 * re + 1 = w) (hp : p.length = at_ + 1) (hpd : DG S p) (hat : w ≤ at_ + 1) (hm : at_ + 1 + m = to.length)
    (hne : xs.getD (nm S ((p.drop (at_ + 1 - w)).take w)) 0 ≠ to.getD ((at_ : Int) - re).toNat 0) : lstL S re xs to m p = [] := by
  have hre := hv.2.1
  have hl := hto.1
  rw [lstL, List.filter_eq_nil_iff]
  intro y hy
  obtain ⟨l, hl1, rfl⟩ := List.mem_map.1 hy
  rw [Int.toNat_natCast] at hl1
  obtain ⟨h1, h2⟩ := allD_mem.1 hl1
  have hyl : (p ++ l).length = to.length := by simp; omega
  have hyr : RG S (p ++ l) := ⟨by omega, hpd.app h1⟩
  rw [decide_eq_true_eq]
  intro hs
  refine hne ?_
  have hc : ∀ k, k < w → ((p.drop (at_ + 1 - w)).take w).getD k 0 = (p ++ l).getD ((((at_ + 1 - w : Nat) : Int) + k) % (p ++ l).length).toNat 0 := fun k hk => by
    have e : ((((at_ + 1 - w : Nat) : Int) + k) % ((p ++ l).length : Int)).toNat = at_ + 1 - w + k := by
      rw [Int.emod_eq_of_lt (by omega) (by rw [hyl]; omega)]; omega
    rw [e, getD_take hk, List.getD_eq_getElem?_getD, List.getElem?_drop, List.getD_eq_getElem?_getD, List.getElem?_append_left (by omega)]
  have h3 := hood_nm (w := w) hyr hc w (Nat.le_refl w)
  have hcl : ((p.drop (at_ + 1 - w)).take w).length = w := by simp; omega
  have h4 : (stepR S re xs (p ++ l)).getD ((at_ : Int) - re).toNat 0 = told S re xs (p ++ l) ((at_ : Int) - re) := by
    rw [stepR_get (by omega)]
    congr 1
    omega
  rw [← hs, h4, told, show (2 * re + 1).toNat = w by omega, show (at_ : Int) - re - re = ((at_ + 1 - w : Nat) : Int) by omega, ← h3, nm, hcl]
  rfl
theorem fwd_head {S w E : Nat} {re : Int} {xs to : List Int} (hv : VR S re xs) (hto : RG S to) (hE : E = S ^ (w - 1)) (hw : 2 * re + 1 = w) (hwn : w ≤ to.length) : (backL S E w xs (labI re to) to.length) = fwdL S re xs to := backL_eq hv hto hE hw hwn

end Go.Proofs.Ytlmbgaoeplffkaa
