/- Tables that turn. -/
import Derived.Test.YtckobcjjbpnkcaaXwithin
import Derived.Test.YtckobcjjbpnkcaaXlists
import Derived.Test.YtckobcjjbpnkcaaFB
namespace Go.Proofs.Ytckobcjjbpnkcaa
open Go Go.RowKit
set_option linter.unusedVariables false
set_option linter.unusedSimpArgs false
set_option maxRecDepth 100000
set_option maxHeartbeats 8000000


def TurnUpTo (xs : List Int) (i : Nat) : Prop := ∀ j, j < i → (0 ≤ xs.getD j 0 ∧ xs.getD j 0 ≤ 15) ∧ xs.getD j 0 ∉ xs.take j
def Turn (xs : List Int) : Prop := xs.length = 16 ∧ TurnUpTo xs xs.length
theorem TurnUpTo.succ {xs : List Int} {i : Nat} (h : TurnUpTo xs i) (h1 : 0 ≤ xs.getD i 0 ∧ xs.getD i 0 ≤ 15) (h2 : xs.getD i 0 ∉ xs.take i) : TurnUpTo xs (i + 1) := by
  intro j hj
  by_cases e : j = i
  · subst e; exact ⟨h1, h2⟩
  · exact h j (by omega)
instance argOwnE {α : Type} {enc : α → AC} {p t e : Nat} {xs : List α} {B : List Nat} {b s : St} {L : Objs} [H : Own B b s L] [h : Has L p (.rw t e (xs.map enc))] : ArgE enc s p 0 xs := by
  obtain ⟨i, hi⟩ := h.ex
  refine ⟨H.lt hi, ?_⟩
  rcases H.obj i _ _ hi with ⟨g1, g2, g3, g4⟩ | ⟨g1, t', e', g2⟩
  · simp only [srcCells]
    rw [if_neg (by omega)]
    simp only [cellsAt, cellsOf, g4, Option.bind_some, cut, Nat.zero_add, Nat.mul_one, List.length_map, Nat.le_refl, if_true, List.drop_zero, Option.some.injEq]
    exact List.take_of_length_le (by simp)
  · simp only [AObj.rw.injEq, List.map_eq_nil_iff] at g2
    obtain ⟨_, _, rfl⟩ := g2
    have : p = 0 ∨ p = 1 := by omega
    simp [srcCells, this]
instance lookOwnE {α : Type} {enc : α → AC} {B : List Nat} {b : St} {L : Objs} {p t e : Nat} {xs : List α} [h : Has L p (.rw t e (xs.map enc))] : LookE enc B b L p 0 xs := ⟨fun s H => argOwnE (t := t) (e := e)⟩
end Go.Proofs.Ytckobcjjbpnkcaa
