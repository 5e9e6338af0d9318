/- Bits of small numbers. -/
import Derived.Test.YtlhidckolillaaaXplain
import Derived.Test.YtlhidckolillaaaXpart
import Derived.Test.YtlhidckolillaaaFB
namespace Go.Proofs.Ytlhidckolillaaa
open Go Go.RowKit
set_option linter.unusedVariables false
set_option linter.unusedSimpArgs false
set_option maxRecDepth 100000
set_option maxHeartbeats 8000000

section
variable {B : List Nat} {b : St} {L : Objs} {l : List AStep} {hist : List Objs} {fr : Frm} {kk : KK} {d : Nat} {chk : List Nat} {g : Option (Nat × Bool)}
/-- A bit that is shifted: 'p' is 1, 2, 4 or 8. -/
theorem A_shlB {x y : Opd} {a s : Int} {q : IntKind} (p : Int) (hx : ev fr x = some (iv a)) (hy : ev fr y = some (.c (.int q s))) (hg : gon fr g = some true) (ha : 0 ≤ a ∧ a ≤ 1) (hp : (s = 0 ∧ p = 1) ∨ (s = 1 ∧ p = 2) ∨ (s = 2 ∧ p = 4) ∨ (s = 3 ∧ p = 8))
    (h : At B b L l hist ((d, iv (a * p)) :: fr) kk) : At B b L (⟨some d, .bin .shl x y, g, chk⟩ :: l) hist fr kk := by
  refine A_p ?_ hg h
  simp only [evP, hx, hy, Option.bind_some, binV, intBin]
  obtain rfl | rfl : a = 0 ∨ a = 1 := by omega
  all_goals obtain ⟨rfl, rfl⟩ | ⟨rfl, rfl⟩ | ⟨rfl, rfl⟩ | ⟨rfl, rfl⟩ := hp
  all_goals rfl
/-- Bits that are joined. -/
theorem A_orB {x y : Opd} {a c : Int} (p : Int) (hx : ev fr x = some (iv a)) (hy : ev fr y = some (iv c)) (hg : gon fr g = some true) (hp : p = 1 ∨ p = 2 ∨ p = 4 ∨ p = 8) (ha : 0 ≤ a ∧ a < p) (hc : c = 0 ∨ c = p)
    (h : At B b L l hist ((d, iv (a + c)) :: fr) kk) : At B b L (⟨some d, .bin .or x y, g, chk⟩ :: l) hist fr kk := by
  refine A_p ?_ hg h
  simp only [evP, hx, hy, Option.bind_some, binV, intBin]
  obtain rfl | rfl | rfl | rfl := hp
  · obtain rfl : a = 0 := by omega
    obtain rfl | rfl := hc
    all_goals rfl
  · obtain rfl | rfl : a = 0 ∨ a = 1 := by omega
    all_goals obtain rfl | rfl := hc
    all_goals rfl
  · obtain rfl | rfl | rfl | rfl : a = 0 ∨ a = 1 ∨ a = 2 ∨ a = 3 := by omega
    all_goals obtain rfl | rfl := hc
    all_goals rfl
  · obtain rfl | rfl | rfl | rfl | rfl | rfl | rfl | rfl : a = 0 ∨ a = 1 ∨ a = 2 ∨ a = 3 ∨ a = 4 ∨ a = 5 ∨ a = 6 ∨ a = 7 := by omega
    all_goals obtain rfl | rfl := hc
    all_goals rfl
theorem A_shrB {x y : Opd} {a s : Int} {q : IntKind} (p : Int) (hx : ev fr x = some (iv a)) (hy : ev fr y = some (.c (.int q s))) (hg : gon fr g = some true) (ha : 0 ≤ a) (hp : (s = 0 ∧ p = 1) ∨ (s = 1 ∧ p = 2) ∨ (s = 2 ∧ p = 4) ∨ (s = 3 ∧ p = 8))
    (h : At B b L l hist ((d, iv (a / p)) :: fr) kk) : At B b L (⟨some d, .bin .shr x y, g, chk⟩ :: l) hist fr kk := by
  refine A_p ?_ hg h
  simp only [evP, hx, hy, Option.bind_some, binV, intBin]
  obtain ⟨rfl, rfl⟩ | ⟨rfl, rfl⟩ | ⟨rfl, rfl⟩ | ⟨rfl, rfl⟩ := hp
  · rw [if_neg (by omega), Int.fdiv_eq_ediv_of_nonneg _ (by decide)]; rfl
  · rw [if_neg (by omega), Int.fdiv_eq_ediv_of_nonneg _ (by decide)]; rfl
  · rw [if_neg (by omega), Int.fdiv_eq_ediv_of_nonneg _ (by decide)]; rfl
  · rw [if_neg (by omega), Int.fdiv_eq_ediv_of_nonneg _ (by decide)]; rfl
theorem A_and1 {x : Opd} {a : Int} (hx : ev fr x = some (iv a)) (hg : gon fr g = some true) (ha : 0 ≤ a ∧ a ≤ 15)
    (h : At B b L l hist ((d, iv (a % 2)) :: fr) kk) : At B b L (⟨some d, .bin .and x (.k (iv 1)), g, chk⟩ :: l) hist fr kk := by
  refine A_p ?_ hg h
  have hy : ev fr (.k (iv 1)) = some (iv 1) := rfl
  simp only [evP, hx, hy, Option.bind_some, binV, intBin]
  obtain rfl | rfl | rfl | rfl | rfl | rfl | rfl | rfl | rfl | rfl | rfl | rfl | rfl | rfl | rfl | rfl : a = 0 ∨ a = 1 ∨ a = 2 ∨ a = 3 ∨ a = 4 ∨ a = 5 ∨ a = 6 ∨ a = 7 ∨ a = 8 ∨ a = 9 ∨ a = 10 ∨ a = 11 ∨ a = 12 ∨ a = 13 ∨ a = 14 ∨ a = 15 := by omega
  all_goals rfl
end

end Go.Proofs.Ytlhidckolillaaa
