/- Rings filled cell by cell: the reference. -/
import Derived.Test.YtlmbgaoeplffkaaXfillP
import Derived.Test.YtlmbgaoeplffkaaXmat
import Derived.Test.YtlmbgaoeplffkaaXpairs
import Derived.Test.YtlmbgaoeplffkaaFB
namespace Go.Proofs.Ytlmbgaoeplffkaa
open Go Go.RowKit
set_option linter.unusedVariables false
set_option linter.unusedSimpArgs false
set_option maxRecDepth 100000
set_option maxHeartbeats 8000000


theorem A_negI {B : List Nat} {b : St} {L : Objs} {l : List AStep} {hist : List Objs} {fr : Frm} {kk : KK} {d : Nat} {chk : List Nat} {g : Option (Nat × Bool)} {x : Opd} {a : Int} (hx : ev fr x = some (iv a)) (hg : gon fr g = some true) (ha : -1000000000000 ≤ a ∧ a ≤ 1000000000000)
    (h : At B b L l hist ((d, iv (0 - a)) :: fr) kk) : At B b L (⟨some d, .un .neg x, g, chk⟩ :: l) hist fr kk := by
  refine A_p (v := iv (IntKind.wrap .i64 (0 - a))) (by simp only [evP, hx, Option.bind_some]; rfl) hg ?_
  rw [wrap_in (by unfold in64; omega)]; exact h
theorem orow_nil {p : Nat} {L N : Objs} (h : Sub N L) (hp : p ≤ 1) : Sub ((p, orow []) :: N) L := h.virt hp
end Go.Proofs.Ytlmbgaoeplffkaa
