/- Parts of lists. -/
import Derived.Test.YtlhidckolillaaaXlists
import Derived.Test.YtlhidckolillaaaFB
namespace Go.Proofs.Ytlhidckolillaaa
open Go Go.RowKit
set_option linter.unusedVariables false
set_option linter.unusedSimpArgs false
set_option maxRecDepth 100000
set_option maxHeartbeats 8000000


/-- Parts of lists. -/
theorem ArgE.part {α : Type} {enc : α → AC} {s : St} {id off : Nat} {xs : List α} (h : ArgE enc s id off xs) {a n : Nat} (ha : a + n ≤ xs.length) (hn : 0 < n) : ArgE enc s id (off + a) ((xs.drop a).take n) := by
  refine ⟨h.lt, ?_⟩
  have hs := h.src
  have hl : ((xs.drop a).take n).length = n := by simp; omega
  rw [hl]
  simp only [srcCells] at hs ⊢
  by_cases h01 : id = 0 ∨ id = 1
  · rw [if_pos h01] at hs
    split at hs
    · rename_i h2; exfalso; omega
    · cases hs
  · rw [if_neg h01] at hs ⊢
    simp only [cellsAt, Option.bind_eq_some_iff, cut] at hs ⊢
    obtain ⟨cs, h1, h2⟩ := hs
    refine ⟨cs, h1, ?_⟩
    split at h2
    · rename_i hle
      rw [if_pos (by omega)]
      simp only [Option.some.injEq] at h2 ⊢
      rw [List.map_take, List.map_drop, ← h2]
      simp only [Nat.mul_one, List.drop_take, List.drop_drop, List.take_take]
      rw [Nat.min_eq_left (by omega)]
    · cases h2
section
variable {B : List Nat} {b : St} {L : Objs} {l : List AStep} {hist : List Objs} {fr : Frm} {kk : KK} {d : Nat} {chk : List Nat} {g : Option (Nat × Bool)}
theorem A_convU {x : Opd} {a : Int} (hx : ev fr x = some (iv a)) (hg : gon fr g = some true) (ha : 0 ≤ a ∧ a ≤ 9223372036854775807)
    (h : At B b L l hist ((d, .c (.int .u64 a)) :: fr) kk) : At B b L (⟨some d, .conv .u64 x, g, chk⟩ :: l) hist fr kk := by
  refine A_p ?_ hg h
  simp only [evP, hx, Option.bind_some, convV]
  have e : IntKind.wrap .u64 a = a := by
    simp [IntKind.wrap, IntKind.bits, IntKind.signed]; omega
  rw [e]
theorem A_convI {x : Opd} {a : Int} (hx : ev fr x = some (.c (.int .u64 a))) (hg : gon fr g = some true) (ha : 0 ≤ a ∧ a ≤ 9223372036854775807)
    (h : At B b L l hist ((d, iv a) :: fr) kk) : At B b L (⟨some d, .conv .i64 x, g, chk⟩ :: l) hist fr kk := by
  refine A_p ?_ hg h
  simp only [evP, hx, Option.bind_some, convV]
  rw [wrap_in (by unfold in64; omega)]
end

end Go.Proofs.Ytlhidckolillaaa
