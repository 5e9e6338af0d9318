/- Rows and what they lead to. -/
import Derived.Test.YtlmbgaoeplffkaaXkeeps
import Derived.Test.YtlmbgaoeplffkaaFB
namespace Go.Proofs.Ytlmbgaoeplffkaa
open Go Go.RowKit
set_option linter.unusedVariables false
set_option linter.unusedSimpArgs false
set_option maxRecDepth 100000
set_option maxHeartbeats 8000000


theorem A_slN {B : List Nat} {b : St} {L : Objs} {l : List AStep} {hist : List Objs} {fr : Frm} {k : KK} {d : Nat} {chk : List Nat} {g : Option (Nat × Bool)} {x y z : Opd} {id off len : Nat} {i n : Nat} {j : Int} (hx : ev fr x = some (.c (.sl id off len))) (hy : ev fr y = some (iv (i : Int))) (hz : ev fr z = some (iv j)) (hg : gon fr g = some true) (hi : j = (i : Int) + n ∧ i + n ≤ len ∧ 0 < n)
    (h : At B b L l hist ((d, .c (.sl id (off + i) n)) :: fr) k) : At B b L (⟨some d, .slice 1 x (some y) (some z), g, chk⟩ :: l) hist fr k :=
  A_slFT hx hy hz hg (by omega) (by
    have e1 : off + (i : Int).toNat * 1 = off + i := by omega
    have e2 : j.toNat - (i : Int).toNat = n := by omega
    rw [e1, e2]; exact h)
/-- The next states of the cells of a row that have all of their neighbourhood in it. -/
def shr (S w : Nat) (xs ys : List Int) : List Int := (List.range (ys.length + 1 - w)).map fun i => bh S xs ys w i
@[simp] theorem shr_len {S w : Nat} {xs ys : List Int} : (shr S w xs ys).length = ys.length + 1 - w := by simp [shr]
theorem shr_get {S w i : Nat} {xs ys : List Int} (h : i < ys.length + 1 - w) : (shr S w xs ys).getD i 0 = bh S xs ys w i := getD_map_range h
theorem shr_dg {S w E : Nat} {xs ys : List Int} (hS : 2 ≤ S) (hE : E = S ^ (w - 1)) (hw : 1 ≤ w) (hl : xs.length = E * S) (hd : DG S xs) (hy : DG S ys) : DG S (shr S w xs ys) := by
  intro x hx
  obtain ⟨i, hi, rfl⟩ := mem_get (d := 0) hx
  rw [shr_get (by simpa using hi)]
  exact (bh_in (m := w) (a := i) hS hE hw hl hd hy (Nat.le_refl _)).2
/-- The same behind so many steps. -/
def ahd (S w : Nat) (xs ys : List Int) : Nat → List Int
  | 0 => ys
  | t + 1 => shr S w xs (ahd S w xs ys t)
theorem ahd_len {S w n T : Nat} {xs ys : List Int} (hw : 1 ≤ w) (hl : ys.length = n + (w - 1) * T) : ∀ t, t ≤ T → (ahd S w xs ys t).length = n + (w - 1) * (T - t)
  | 0, _ => hl
  | t + 1, h => by
    rw [ahd, shr_len, ahd_len hw hl t (by omega), show T - t = (T - (t + 1)) + 1 by omega, Nat.mul_add, Nat.mul_one]; omega
theorem ahd_dg {S w E : Nat} {xs ys : List Int} (hS : 2 ≤ S) (hE : E = S ^ (w - 1)) (hw : 1 ≤ w) (hl : xs.length = E * S) (hd : DG S xs) (hy : DG S ys) : ∀ t, DG S (ahd S w xs ys t)
  | 0 => hy
  | t + 1 => shr_dg hS hE hw hl hd (ahd_dg hS hE hw hl hd hy t)
end Go.Proofs.Ytlmbgaoeplffkaa
