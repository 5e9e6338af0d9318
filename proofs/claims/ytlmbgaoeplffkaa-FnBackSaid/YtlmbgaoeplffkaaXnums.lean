/- Numbers of digits, put together and taken apart. -/
import Derived.Test.YtlmbgaoeplffkaaXpaths
import Derived.Test.YtlmbgaoeplffkaaXpigeon
import Derived.Test.YtlmbgaoeplffkaaFB
namespace Go.Proofs.Ytlmbgaoeplffkaa
open Go Go.RowKit
set_option linter.unusedVariables false
set_option linter.unusedSimpArgs false
set_option maxRecDepth 100000
set_option maxHeartbeats 8000000


theorem sg_pos {f : Nat → Int} : ∀ {n}, (∀ i, i < n → 0 ≤ f i) → (0 < sg f n ↔ ∃ i, i < n ∧ 0 < f i)
  | 0, _ => by
    constructor
    · intro h; exact absurd h (by simp [sg])
    · rintro ⟨i, h, _⟩; omega
  | n + 1, h => by
    have ih := sg_pos (f := f) (n := n) fun i hi => h i (by omega)
    have h0 := sg_nn (f := f) (n := n) fun i hi => h i (by omega)
    have h1 := h n (by omega)
    rw [sg]
    constructor
    · intro hp
      by_cases e : 0 < f n
      · exact ⟨n, by omega, e⟩
      · obtain ⟨i, a, c⟩ := ih.1 (by omega)
        exact ⟨i, by omega, c⟩
    · rintro ⟨i, a, c⟩
      by_cases e : i = n
      · subst e; omega
      · have := ih.2 ⟨i, by omega, c⟩; omega
theorem nmN_app {S : Nat} {ys zs : List Int} : ∀ m, m ≤ ys.length → nmN S (ys ++ zs) m = nmN S ys m
  | 0, _ => rfl
  | m + 1, h => by
    have e : (ys ++ zs).getD m 0 = ys.getD m 0 := by rw [List.getD_eq_getElem?_getD, List.getElem?_append_left (by omega), ← List.getD_eq_getElem?_getD]
    rw [nmN, nmN, nmN_app m (by omega), e]
theorem nm_snoc {S : Nat} {ys : List Int} {d : Int} : nm S (ys ++ [d]) = nm S ys * S + d.toNat := by
  have e : (ys ++ [d]).getD ys.length 0 = d := by simp
  rw [nm, List.length_append, List.length_singleton, nmN, nmN_app _ (Nat.le_refl _), e]
theorem nmN_cons {S : Nat} {x : Int} {zs : List Int} : ∀ m, nmN S (x :: zs) (m + 1) = x.toNat * S ^ m + nmN S zs m
  | 0 => by simp [nmN]
  | m + 1 => by
    have e : (x :: zs).getD (m + 1) 0 = zs.getD m 0 := by simp
    rw [nmN, nmN_cons m, e, nmN, Nat.add_mul, Nat.mul_assoc, ← Nat.pow_succ, Nat.add_assoc]
theorem DG.drop {S : Nat} {ys : List Int} (h : DG S ys) (k : Nat) : DG S (ys.drop k) := fun x hx => h x (List.mem_of_mem_drop hx)
theorem DG.take {S : Nat} {ys : List Int} (h : DG S ys) (k : Nat) : DG S (ys.take k) := fun x hx => h x (List.mem_of_mem_take hx)
theorem DG.app {S : Nat} {ys zs : List Int} (h : DG S ys) (k : DG S zs) : DG S (ys ++ zs) := fun x hx => (List.mem_append.1 hx).elim (h x) (k x)
theorem DG.one {S d : Nat} (h : d < S) : DG S [(d : Int)] := fun x hx => by obtain rfl := List.mem_singleton.1 hx; omega
/-- Without the first digit. -/
theorem nm_mod {S w : Nat} {cs : List Int} (hS : 0 < S) (h : DG S cs) (hl : cs.length = w) (hw : 1 ≤ w) : nm S cs % S ^ (w - 1) = nm S (cs.drop 1) := by
  cases cs with
  | nil => simp at hl; omega
  | cons x zs =>
    have hz : zs.length = w - 1 := by simp at hl; omega
    have hlt : nm S zs < S ^ (w - 1) := by rw [← hz]; exact nm_lt hS (fun y hy => h y (List.mem_cons_of_mem _ hy)) _ (Nat.le_refl _)
    rw [nm, List.length_cons, nmN_cons, hz, Nat.mul_add_mod', ← hz, List.drop_succ_cons, List.drop_zero]
    rw [nm, hz] at hlt
    rw [hz, nm, hz]
    exact Nat.mod_eq_of_lt hlt
theorem nm_take {S : Nat} {cs : List Int} {m : Nat} (h : m ≤ cs.length) : nm S (cs.take m) = nmN S cs m := by
  have e := nmN_app (S := S) (ys := cs.take m) (zs := cs.drop m) m (by simp; omega)
  rw [List.take_append_drop] at e
  rw [nm, List.length_take, Nat.min_eq_left h, e]
/-- Without the last digit. -/
theorem nm_div {S w : Nat} {cs : List Int} (hS : 0 < S) (h : DG S cs) (hl : cs.length = w) (hw : 1 ≤ w) : nm S cs / S = nm S (cs.take (w - 1)) := by
  obtain ⟨m, rfl⟩ : ∃ m, w = m + 1 := ⟨w - 1, by omega⟩
  have hc := h _ (getD_mem (d := 0) (by omega : m < cs.length))
  rw [Nat.add_sub_cancel, nm_take (by omega), nm, hl, nmN]
  exact am_div (by omega)

end Go.Proofs.Ytlmbgaoeplffkaa
