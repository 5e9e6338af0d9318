/- Words with their sets of ends: how lists of them lie in memory. -/
import Derived.Test.YtlmbgaoeplffkaaXorpR
import Derived.Test.YtlmbgaoeplffkaaFB
namespace Go.Proofs.Ytlmbgaoeplffkaa
open Go Go.RowKit
set_option linter.unusedVariables false
set_option linter.unusedSimpArgs false
set_option maxRecDepth 100000
set_option maxHeartbeats 8000000


/-- A word and a set of ends, each in an object of its own. -/
structure Pr where
  wi : Nat
  w : List Int
  ei : Nat
  e : List Bool
abbrev Pr.nil : Pr := ⟨0, [], 0, []⟩
abbrev pcP (z : Pr) : List AC := [.sl z.wi 0 z.w.length, .sl z.ei 0 z.e.length]
abbrev pcS (z : Pr) : List AC := [.sl z.ei 0 z.e.length, .sl z.wi 0 z.w.length]
abbrev pobs (zs : List Pr) : Objs := zs.flatMap fun z => [(z.wi, ints z.w), (z.ei, bools z.e)]
section
variable {α : Type} {f : α → List AC} (hf : ∀ z, (f z).length = 2)
include hf
theorem flatp_len : ∀ zs : List α, (zs.flatMap f).length = zs.length * 2
  | [] => rfl
  | z :: zs => by rw [List.flatMap_cons, List.length_append, hf, flatp_len zs, List.length_cons, Nat.add_mul]; omega
theorem flatp_drop : ∀ (zs : List α) (i : Nat), (zs.flatMap f).drop (i * 2) = (zs.drop i).flatMap f
  | zs, 0 => by simp
  | [], i + 1 => by simp
  | z :: zs, i + 1 => by
    rw [List.flatMap_cons, List.drop_succ_cons, ← flatp_drop zs i, show (i + 1) * 2 = 2 + i * 2 by omega, ← List.drop_drop, List.drop_left' (hf z)]
theorem flatp_cut {zs : List α} {i : Nat} {z : α} (hz : zs[i]? = some z) : cut (zs.flatMap f) (0 + i * 2) 2 = some (f z) := by
  obtain ⟨hi, e⟩ := List.getElem?_eq_some_iff.1 hz
  unfold cut
  rw [if_pos (by rw [flatp_len hf]; omega), Nat.zero_add, flatp_drop hf, List.drop_eq_getElem_cons hi, List.flatMap_cons, List.take_left' (hf _), e]
theorem flatp_at {zs : List α} {i : Nat} {z : α} (hz : zs[i]? = some z) (j : Nat) (hj : j < 2) : (zs.flatMap f)[0 + i * 2 + j]? = (f z)[j]? := by
  have h := flatp_cut hf hz
  unfold cut at h
  rw [if_pos (by rw [flatp_len hf]; have := (List.getElem?_eq_some_iff.1 hz).1; omega)] at h
  have h2 := Option.some.inj h
  rw [← h2, List.getElem?_take, if_pos hj, List.getElem?_drop]
end
theorem pobs_mem {zs : List Pr} {z : Pr} (h : z ∈ zs) {x : Nat × AObj} (hx : x ∈ [(z.wi, ints z.w), (z.ei, bools z.e)]) : x ∈ pobs zs := List.mem_flatMap.2 ⟨z, h, hx⟩
theorem pobs_hasW {zs : List Pr} {z : Pr} (h : z ∈ zs) : Has (pobs zs) z.wi (ints z.w) := by
  obtain ⟨i, hi⟩ := List.mem_iff_getElem?.1 (pobs_mem h (List.mem_cons_self ..))
  exact ⟨i, hi⟩
theorem pobs_hasE {zs : List Pr} {z : Pr} (h : z ∈ zs) : Has (pobs zs) z.ei (bools z.e) := by
  obtain ⟨i, hi⟩ := List.mem_iff_getElem?.1 (pobs_mem h (List.mem_cons_of_mem _ (List.mem_cons_self ..)))
  exact ⟨i, hi⟩
theorem pobs_app {zs ws : List Pr} : pobs (zs ++ ws) = pobs zs ++ pobs ws := List.flatMap_append ..
theorem sub_drop {M N : Objs} : Sub N (M ++ N) :=
  ⟨fun B b s H => H.right, fun j q o h => .inr ⟨M.length + j, o, by rw [List.getElem?_append_right (by omega), show M.length + j - M.length = j by omega]; exact h⟩⟩
/-- One more word behind the others. -/
theorem perm_snoc {A C D : Objs} {x y : Nat × AObj} : (A ++ x :: y :: (C ++ D)).Perm (A ++ (C ++ (D ++ [x, y]))) := by
  refine List.Perm.append_left A ?_
  have h : ([x, y] ++ (C ++ D)).Perm ((C ++ D) ++ [x, y]) := List.perm_append_comm
  rw [List.append_assoc] at h
  exact h
/-- The words of 'k' cells, the first 'n' of them. -/
def Lvl (S E : Nat) (xs : List Int) (k n : Nat) (zs : List Pr) : Prop := zs.length = n ∧ ∀ i z, zs[i]? = some z → z.w = wd S k i ∧ z.e = im S E xs k i
theorem Lvl.nil {S E k : Nat} {xs : List Int} : Lvl S E xs k 0 [] := ⟨rfl, fun i z h => by simp at h⟩
theorem Lvl.snoc {S E k n : Nat} {xs : List Int} {zs : List Pr} {z : Pr} (h : Lvl S E xs k n zs) (h1 : z.w = wd S k n) (h2 : z.e = im S E xs k n) : Lvl S E xs k (n + 1) (zs ++ [z]) := by
  refine ⟨by rw [List.length_append, h.1]; rfl, fun i y hy => ?_⟩
  by_cases hi : i < zs.length
  · rw [List.getElem?_append_left hi] at hy
    exact h.2 i y hy
  · rw [List.getElem?_append_right (by omega)] at hy
    have h3 := h.1
    obtain rfl : i = n := by
      have := (List.getElem?_eq_some_iff.1 hy).1
      simp at this; omega
    rw [h3, Nat.sub_self] at hy
    simp at hy; subst hy
    exact ⟨h1, h2⟩
abbrev OrpP (st re : Int) (xs : List Int) (most : Int) : Prop := (VR st re xs ∧ (1 ≤ most ∧ most ≤ if st = 3 then 7 else 12)) ∧ ¬ NoOrp st.toNat (st.toNat ^ (2 * re).toNat) xs most.toNat
noncomputable def orpW (st re : Int) (xs : List Int) (most : Int) : List Int := wd st.toNat (orpA st.toNat (st.toNat ^ (2 * re).toNat) xs most.toNat).1 (orpA st.toNat (st.toNat ^ (2 * re).toNat) xs most.toNat).2
theorem pow_lim {S k : Nat} (hS : 2 ≤ S ∧ S ≤ 3) (hk : k ≤ if (S : Int) = 3 then 7 else 12) : 1 ≤ S ^ k ∧ S ^ k ≤ 4096 := by
  refine ⟨Nat.pow_pos (by omega), ?_⟩
  obtain rfl | rfl : S = 2 ∨ S = 3 := by omega
  · rw [if_neg (by decide)] at hk
    exact Nat.le_trans (Nat.pow_le_pow_right (by omega) hk) (by decide)
  · rw [if_pos (by decide)] at hk
    exact Nat.le_trans (Nat.pow_le_pow_right (by omega) hk) (by decide)

end Go.Proofs.Ytlmbgaoeplffkaa
