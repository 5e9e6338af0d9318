/- What is found on the way back, as plain lists. -/
import Derived.Test.YtlmbgaoeplffkaaXbackP
import Derived.Test.YtlmbgaoeplffkaaFB
namespace Go.Proofs.Ytlmbgaoeplffkaa
open Go Go.RowKit
set_option linter.unusedVariables false
set_option linter.unusedSimpArgs false
set_option maxRecDepth 100000
set_option maxHeartbeats 8000000


/-- From which ends the rest leads to 'a', with one more label: the first 'm' neighbourhoods. -/
def canS (S E : Nat) (xs : List Int) (l : Int) (nx : List Bool) : Nat → List Bool
  | 0 => List.replicate E false
  | m + 1 => if xs.getD m 0 = l ∧ nx.getD (m % E) false = true then (canS S E xs l nx m).set (m / S) true else canS S E xs l nx m
@[simp] theorem canS_len {S E : Nat} {xs : List Int} {l : Int} {nx : List Bool} : ∀ m, (canS S E xs l nx m).length = E
  | 0 => by simp [canS]
  | m + 1 => by rw [canS]; split <;> simp [canS_len m]
def canL (S E : Nat) (xs : List Int) (a : Nat) : List Int → List Bool
  | [] => (List.replicate E false).set a true
  | l :: ls => canS S E xs l (canL S E xs a ls) (E * S)
@[simp] theorem canL_len {S E a : Nat} {xs : List Int} : ∀ ls, (canL S E xs a ls).length = E
  | [] => by simp [canL]
  | l :: ls => by rw [canL]; simp
theorem canS_step {S E a d : Nat} {xs : List Int} {l : Int} {nx : List Bool} (hd : d < S) : canS S E xs l nx (a * S + (d + 1)) = if xs.getD (a * S + d) 0 = l ∧ nx.getD ((a * S + d) % E) false = true then (canS S E xs l nx (a * S + d)).set a true else canS S E xs l nx (a * S + d) := by
  rw [← Nat.add_assoc, canS, am_div hd]
theorem canS_get {S E b i : Nat} {xs : List Int} {l : Int} {nx : List Bool} (hb : b < E) (hi : i / S = b) (h1 : xs.getD i 0 = l) (h2 : nx.getD (i % E) false = true) : ∀ m, i < m → (canS S E xs l nx m).getD b false = true
  | 0, h => by omega
  | m + 1, h => by
    rw [canS]
    by_cases e : i = m
    · subst e
      rw [if_pos ⟨h1, h2⟩, getD_set (by rw [canS_len, hi]; exact hb), if_pos hi]
    · have ih := canS_get hb hi h1 h2 m (by omega)
      split
      · by_cases hm : m / S < E
        · rw [getD_set (by rw [canS_len]; exact hm), ih]; simp
        · rw [List.set_eq_of_length_le (by rw [canS_len]; omega)]; exact ih
      · exact ih
/-- What the program finds from an end on, behind some digits. -/
def putL (S E : Nat) (xs : List Int) (a n : Nat) : List Int → Nat → List Int → List (List Int)
  | [], u, pre => if u = a then [pre.take n] else []
  | l :: ls, u, pre => (List.range S).flatMap fun (d : Nat) => if xs.getD (u * S + d) 0 = l then putL S E xs a n ls ((u * S + d) % E) (pre ++ [((d : Nat) : Int)]) else []
theorem flatMap_nil {α β : Type} {l : List α} {f : α → List β} (h : ∀ x ∈ l, f x = []) : l.flatMap f = [] := by
  induction l with
  | nil => rfl
  | cons x l ih => rw [List.flatMap_cons, h x List.mem_cons_self, ih fun y hy => h y (List.mem_cons_of_mem _ hy)]; rfl
/-- Where nothing can be found, nothing is. -/
theorem can_no {S E a n : Nat} {xs : List Int} (hE : 1 ≤ E) : ∀ (ls : List Int) (u : Nat) (pre : List Int), u < E → (canL S E xs a ls).getD u false = false → putL S E xs a n ls u pre = []
  | [], u, pre, hu, h => by
    rw [putL, if_neg]
    rintro rfl
    rw [canL, getD_set (by simpa using hu), if_pos rfl] at h
    cases h
  | l :: ls, u, pre, hu, h => by
    rw [putL]
    refine flatMap_nil fun d hd => ?_
    have hd := List.mem_range.1 hd
    split
    · rename_i hl
      refine can_no hE ls _ _ (mod_in hE) ?_
      cases hc : (canL S E xs a ls).getD ((u * S + d) % E) false with
      | false => rfl
      | true =>
        rw [canL, canS_get hu (am_div hd) hl hc _ (lt_mul hu hd)] at h
        cases h
    · rfl
theorem can_end {S E a u : Nat} {xs : List Int} (hu : u < E) (h : (canL S E xs a []).getD u false = true) : u = a := by
  rw [canL] at h
  by_cases ha : a < E
  · rw [getD_set (by simpa using ha)] at h
    by_cases e : a = u
    · exact e.symm
    · rw [if_neg e, List.getD_eq_getElem?_getD, List.getElem?_replicate] at h
      split at h <;> simp at h
  · rw [List.set_eq_of_length_le (by simp; omega), List.getD_eq_getElem?_getD, List.getElem?_replicate] at h
    split at h <;> simp at h
theorem putL_eq {S E a n : Nat} {xs : List Int} : ∀ (ls : List Int) (u : Nat) (pre : List Int), putL S E xs a n ls u pre = ((allD S ls.length).filter fun ds => decide (rnw S E xs u ls ds = some a)).map fun ds => (pre ++ ds).take n
  | [], u, pre => by
    by_cases h : u = a <;> simp [putL, allD, rnw, h]
  | l :: ls, u, pre => by
    rw [putL, List.length_cons, allD, List.filter_flatMap, List.map_flatMap]
    congr 1
    funext d
    rw [List.filter_map, List.map_map]
    by_cases h : xs.getD (u * S + d) 0 = l
    · rw [if_pos h, putL_eq ls]
      have e : ((fun ds => decide (rnw S E xs u (l :: ls) ds = some a)) ∘ fun l' => ((d : Nat) : Int) :: l') = fun ds => decide (rnw S E xs ((u * S + d) % E) ls ds = some a) := by
        funext ds
        simp only [Function.comp_def, rnw, Int.toNat_natCast]
        rw [if_pos h]
      rw [e]
      refine List.map_congr_left fun ds _ => ?_
      simp
    · rw [if_neg h]
      have e : ((allD S ls.length).filter ((fun ds => decide (rnw S E xs u (l :: ls) ds = some a)) ∘ fun l' => ((d : Nat) : Int) :: l')) = [] := by
        rw [List.filter_eq_nil_iff]
        intro ds _
        simp only [Function.comp_def, rnw, Int.toNat_natCast]
        rw [if_neg h]
        simp
      rw [e]; rfl
/-- All of them, end by end. -/
def putA (S E w : Nat) (xs lab : List Int) (n m : Nat) : List (List Int) := (List.range m).flatMap fun a => putL S E xs a n lab a (dg S a (w - 1))
theorem putA_succ {S E w n m : Nat} {xs lab : List Int} : putA S E w xs lab n (m + 1) = putA S E w xs lab n m ++ putL S E xs m n lab m (dg S m (w - 1)) := by
  rw [putA, List.range_succ, List.flatMap_append, putA]; simp
theorem putA_all {S E w : Nat} {xs lab : List Int} : putA S E w xs lab lab.length E = backL S E w xs lab lab.length := by
  rw [putA, backL]
  congr 1
  funext a
  rw [putL_eq]
def putD (S E : Nat) (xs : List Int) (a n : Nat) (l : Int) (ls : List Int) (u : Nat) (pre : List Int) (m : Nat) : List (List Int) := (List.range m).flatMap fun (d : Nat) => if xs.getD (u * S + d) 0 = l then putL S E xs a n ls ((u * S + d) % E) (pre ++ [((d : Nat) : Int)]) else []
theorem putD_succ {S E a n u m : Nat} {xs ls pre : List Int} {l : Int} : putD S E xs a n l ls u pre (m + 1) = putD S E xs a n l ls u pre m ++ if xs.getD (u * S + m) 0 = l then putL S E xs a n ls ((u * S + m) % E) (pre ++ [((m : Nat) : Int)]) else [] := by
  rw [putD, List.range_succ, List.flatMap_append, putD]; simp
theorem putD_len {S E a n u m k : Nat} {xs ls pre : List Int} {l : Int} (h : m ≤ k) : (putD S E xs a n l ls u pre m).length ≤ (putD S E xs a n l ls u pre k).length := by
  obtain ⟨r, hr⟩ : ∃ r, List.range k = List.range m ++ r := by
    induction k with
    | zero => exact ⟨[], by simp [show m = 0 by omega]⟩
    | succ k ih =>
      by_cases e : m = k + 1
      · subst e; exact ⟨[], by simp⟩
      · obtain ⟨r, hr⟩ := ih (by omega)
        exact ⟨r ++ [k], by rw [List.range_succ, hr, List.append_assoc]⟩
  rw [putD, putD, hr, List.flatMap_append, List.length_append]; omega
theorem putA_len {S E w n m k : Nat} {xs lab : List Int} (h : m ≤ k) : (putA S E w xs lab n m).length ≤ (putA S E w xs lab n k).length := by
  obtain ⟨r, hr⟩ : ∃ r, List.range k = List.range m ++ r := by
    induction k with
    | zero => exact ⟨[], by simp [show m = 0 by omega]⟩
    | succ k ih =>
      by_cases e : m = k + 1
      · subst e; exact ⟨[], by simp⟩
      · obtain ⟨r, hr⟩ := ih (by omega)
        exact ⟨r ++ [k], by rw [List.range_succ, hr, List.append_assoc]⟩
  rw [putA, putA, hr, List.flatMap_append, List.length_append]; omega
/-- As many as are asked for: one, or all. -/
def tk (g : Bool) (l : List (List Int)) : List (List Int) := bif g then l else l.take 1
theorem range_cut {m n : Nat} (h : m ≤ n) : ∃ r, List.range n = List.range m ++ r := by
  induction n with
  | zero => exact ⟨[], by simp [show m = 0 by omega]⟩
  | succ n ih =>
    by_cases e : m = n + 1
    · subst e; exact ⟨[], by simp⟩
    · obtain ⟨r, hr⟩ := ih (by omega)
      exact ⟨r ++ [n], by rw [List.range_succ, hr, List.append_assoc]⟩
/-- One was found: the rest does not matter. -/
theorem tk_cut {β : Type} {f : β → List (List Int)} {a b r : List β} (h0 : a.flatMap f = []) (h1 : b.flatMap f ≠ []) : ((a ++ b ++ r).flatMap f).take 1 = (b.flatMap f).take 1 ∧ (a ++ b ++ r).flatMap f ≠ [] := by
  rw [List.flatMap_append, List.flatMap_append, h0, List.nil_append]
  cases hb : b.flatMap f with
  | nil => exact absurd hb h1
  | cons x l => simp

end Go.Proofs.Ytlmbgaoeplffkaa
