/- Sets of numbers and truths. -/
import Derived.Test.YtlmbgaoeplffkaaXmaps
import Derived.Test.YtlmbgaoeplffkaaXimages
import Derived.Test.YtlmbgaoeplffkaaFB
namespace Go.Proofs.Ytlmbgaoeplffkaa
open Go Go.RowKit
set_option linter.unusedVariables false
set_option linter.unusedSimpArgs false
set_option maxRecDepth 100000
set_option maxHeartbeats 8000000


/-- The numbers in a set are those that came. -/
def Keys (ks : List Int) (p : List Bool × Int) : Prop := (ks.length : Int) = p.2 ∧ ∀ k : Nat, (k : Int) ∈ ks ↔ p.1.getD k false = true
theorem keys0 {N : Nat} {ts : List Int} : Keys [] (img N ts 0) := ⟨rfl, fun k => by
  simp only [List.not_mem_nil, false_iff, img, List.getD_eq_getElem?_getD, List.getElem?_replicate]
  split <;> simp⟩
theorem keys_step {N m : Nat} {ts ks : List Int} (hk : Keys ks (img N ts m)) (hv : 0 ≤ ts.getD m 0 ∧ ts.getD m 0 < N) : Keys (ins ks (ts.getD m 0)) (img N ts (m + 1)) := by
  obtain ⟨v, hv'⟩ : ∃ v : Nat, ts.getD m 0 = v := ⟨(ts.getD m 0).toNat, by omega⟩
  have hl := (img_ok (N := N) (ts := ts) m).1
  rw [img, hv', Int.toNat_natCast]
  rw [hv'] at hv
  by_cases h : (img N ts m).1.getD v false = false
  · have hn : (v : Int) ∉ ks := fun hm => by have := (hk.2 v).1 hm; rw [h] at this; cases this
    rw [if_pos h]
    refine ⟨?_, fun k => ?_⟩
    · rw [ins_len, if_neg hn]; have := hk.1; push_cast; show _ = (img N ts m).2 + 1; omega
    · rw [ins_mem, hk.2 k, getD_set (by omega)]
      by_cases e : v = k
      · subst e; simp
      · rw [if_neg e]
        constructor
        · rintro (g | g)
          · exact absurd (by omega) e
          · exact g
        · exact .inr
  · rw [if_neg h]
    have hm : (v : Int) ∈ ks := (hk.2 v).2 (by simpa using h)
    rw [ins, if_pos hm]; exact hk
theorem set_true {bs : List Bool} {v : Nat} (h : bs.getD v false = true) : bs.set v true = bs := by
  by_cases hl : v < bs.length
  · refine ext_getD false (by simp) fun i hi => ?_
    rw [getD_set hl]; split
    · rename_i e; subst e; exact h.symm
    · rfl
  · exact List.set_eq_of_length_le (by omega)
theorem img_set {N m : Nat} {ts : List Int} : (img N ts (m + 1)).1 = (img N ts m).1.set (ts.getD m 0).toNat true := by
  rw [img]; split
  · rfl
  · rename_i h; exact (set_true (by simpa using h)).symm
/-- How many are true. -/
def trues (bs : List Bool) : Nat → Int
  | 0 => 0
  | m + 1 => if bs.getD m false = true then trues bs m + 1 else trues bs m
theorem trues_in {bs : List Bool} : ∀ m : Nat, 0 ≤ trues bs m ∧ trues bs m ≤ m
  | 0 => by simp [trues]
  | m + 1 => by have := trues_in (bs := bs) m; rw [trues]; split <;> push_cast <;> omega
theorem trues_set {bs : List Bool} {v : Nat} (hl : v < bs.length) (h : bs.getD v false = false) : ∀ m, trues (bs.set v true) m = trues bs m + if v < m then 1 else 0
  | 0 => rfl
  | m + 1 => by
    have ih := trues_set hl h m
    have e1 : (bs.set v true).getD m false = if v = m then true else bs.getD m false := getD_set hl
    rw [trues, trues, e1, ih]
    by_cases e : v = m
    · subst e
      have a1 : (if v < v then (1 : Int) else 0) = 0 := if_neg (by omega)
      have a2 : (if v < v + 1 then (1 : Int) else 0) = 1 := if_pos (by omega)
      rw [a1, a2, h]; simp
    · rw [if_neg e]
      by_cases h2 : v < m
      · rw [if_pos h2, if_pos (show v < m + 1 by omega)]; split <;> omega
      · rw [if_neg h2, if_neg (show ¬ v < m + 1 by omega)]; split <;> omega
theorem img_trues {N : Nat} {ts : List Int} : ∀ m, (∀ i, i < m → 0 ≤ ts.getD i 0 ∧ ts.getD i 0 < N) → trues (img N ts m).1 N = (img N ts m).2
  | 0, _ => by
    have : ∀ n, trues (List.replicate N false) n = 0 := fun n => by
      induction n with
      | zero => rfl
      | succ n ih =>
        have e : (List.replicate N false).getD n false = false := by rw [List.getD_eq_getElem?_getD, List.getElem?_replicate]; split <;> rfl
        rw [trues, ih, e]; rfl
    exact this N
  | m + 1, h => by
    have ih := img_trues m fun i hi => h i (by omega)
    have hm := h m (by omega)
    have hl := (img_ok (N := N) (ts := ts) m).1
    rw [img]
    split
    · rename_i g
      show trues ((img N ts m).1.set _ true) N = (img N ts m).2 + 1
      rw [trues_set (by omega) g, if_pos (by omega), ih]
    · exact ih

end Go.Proofs.Ytlmbgaoeplffkaa
