/- Facts on lists. -/
import Derived.Test.YtlmbgaoeplffkaaXtoInts
import Derived.Test.YtlmbgaoeplffkaaFB
namespace Go.Proofs.Ytlmbgaoeplffkaa
open Go Go.RowKit
set_option linter.unusedVariables false
set_option linter.unusedSimpArgs false
set_option maxRecDepth 100000
set_option maxHeartbeats 8000000


theorem all_succ {α : Type} {P : α → Prop} {xs : List α} {i : Nat} {d : α} (h : ∀ x ∈ xs.take i, P x) (hi : i < xs.length) (hx : P (xs.getD i d)) : ∀ x ∈ xs.take (i + 1), P x := by
  intro x hm
  rw [List.take_add_one, getD_some d hi] at hm
  rcases List.mem_append.1 hm with h1 | h1
  · exact h x h1
  · simp at h1; subst h1; exact hx
theorem getD_mem {α : Type} {xs : List α} {i : Nat} {d : α} (hi : i < xs.length) : xs.getD i d ∈ xs := by
  have := getD_some d hi
  exact List.mem_of_getElem? this
theorem all_end {α : Type} {P : α → Prop} {xs : List α} {i : Nat} (h : ∀ x ∈ xs.take i, P x) (hi : xs.length ≤ i) : ∀ x ∈ xs, P x := by
  rwa [List.take_of_length_le hi] at h
theorem mem_get {α : Type} {xs : List α} {x d : α} (h : x ∈ xs) : ∃ i, i < xs.length ∧ xs.getD i d = x := by
  obtain ⟨i, hi⟩ := List.mem_iff_getElem?.1 h
  have hlt := (List.getElem?_eq_some_iff.1 hi).1
  exact ⟨i, hlt, by have := getD_some d hlt; rw [hi] at this; exact (Option.some.inj this).symm⟩
theorem getD_take {α : Type} {xs : List α} {i n : Nat} {d : α} (h : i < n) : (xs.take n).getD i d = xs.getD i d := by
  simp only [List.getD_eq_getElem?_getD, List.getElem?_take, h, if_true]
theorem take_mem {α : Type} {xs : List α} {n : Nat} {x d : α} (h : x ∈ xs.take n) : ∃ i, i < n ∧ i < xs.length ∧ xs.getD i d = x := by
  obtain ⟨i, h1, h2⟩ := mem_get (d := d) h
  have h3 : i < n ∧ i < xs.length := by simp at h1; omega
  exact ⟨i, h3.1, h3.2, by rw [← h2, getD_take h3.1]⟩
theorem mem_take {α : Type} {xs : List α} {i n : Nat} {d : α} (h : i < n) (h2 : i < xs.length) : xs.getD i d ∈ xs.take n := by
  rw [← getD_take h]; exact getD_mem (by simp; omega)
theorem getD_set {α : Type} {xs : List α} {i j : Nat} {a d : α} (hi : i < xs.length) : (xs.set i a).getD j d = if i = j then a else xs.getD j d := by
  simp only [List.getD_eq_getElem?_getD, List.getElem?_set, hi, if_true]
  split <;> rfl
theorem ext_getD {α : Type} {xs ys : List α} (d : α) (hl : xs.length = ys.length) (h : ∀ i, i < xs.length → xs.getD i d = ys.getD i d) : xs = ys := by
  apply List.ext_getElem hl
  intro i h1 h2
  have := h i h1
  simpa [List.getD_eq_getElem?_getD, List.getElem?_eq_getElem h1, List.getElem?_eq_getElem h2] using this
theorem getD_map_range {α : Type} {n i : Nat} {f : Nat → α} {d : α} (h : i < n) : ((List.range n).map f).getD i d = f i := by simp [List.getD_eq_getElem?_getD, h]

end Go.Proofs.Ytlmbgaoeplffkaa
