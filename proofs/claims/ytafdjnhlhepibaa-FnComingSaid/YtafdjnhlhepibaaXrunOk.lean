/- Rings that are run, where all is in order. -/
import Derived.Test.YtafdjnhlhepibaaXrun
import Derived.Test.YtafdjnhlhepibaaFB
namespace Go.Proofs.Ytafdjnhlhepibaa
open Go Go.RowKit
set_option linter.unusedVariables false
set_option linter.unusedSimpArgs false
set_option maxRecDepth 100000
set_option maxHeartbeats 8000000


abbrev RnP (st re : Int) (xs ys : List Int) (steps : Int) : Prop := (VR st re xs ∧ RG st ys) ∧ 0 ≤ steps ∧ steps ≤ 1000
theorem c_sRunY {s : St} [Wf s] {st re steps : Int} {id_xs off_xs len_xs : Nat} {xs : List Int} [h_xs : ArgE ic s id_xs off_xs xs] (hl_xs : xs.length = len_xs := by first | rfl | simp | omega | (simp; omega)) {id_ys off_ys len_ys : Nat} {ys : List Int} [h_ys : ArgE ic s id_ys off_ys ys] (hl_ys : ys.length = len_ys := by first | rfl | simp | omega | (simp; omega)) (h : RnP st re xs ys steps) (hb : len_xs ≤ 2000000 ∧ len_ys ≤ 2000000 := by omega) : Fn [] 54 [.agg [ic st, ic re, .sl id_xs off_xs len_xs], .c (.sl id_ys off_ys len_ys), iv steps] s fun R N => ∃ p, R = .tup [.c (.sl p 0 len_ys), .c (.bool true)] ∧ N = [(p, ints (runR st re xs ys steps.toNat))] :=
  (c_specRunRing (xs := xs) (ys := ys)).mono fun R N k => by
    obtain ⟨p, rfl, rfl, _⟩ := k
    exact ⟨p, by simp only [sel_t h, tt_t h, runR_len, hl_ys], by rw [sel_t h]⟩

end Go.Proofs.Ytafdjnhlhepibaa
