/- What within and l00In do. -/
import Derived.Test.YtlmbgaoeplffkaaXtoInts
import Derived.Test.YtlmbgaoeplffkaaFB
namespace Go.Proofs.Ytlmbgaoeplffkaa
open Go Go.RowKit
set_option linter.unusedVariables false
set_option linter.unusedSimpArgs false
set_option maxRecDepth 100000
set_option maxHeartbeats 8000000
-- impl.within
def L43 : AFun := ⟨15, [.t 6],
 (.seq (.ops false [⟨(some 6), .mv (.k (bv false)), none, []⟩])
 (.seq (.ops false [⟨(some 7), .mv (.t 0), none, []⟩,
   ⟨(some 8), .mv (.t 1), none, []⟩,
   ⟨(some 9), .bin .geq (.t 7) (.t 8), none, []⟩,
   ⟨(some 10), .mv (.t 9), none, []⟩,
   ⟨(some 11), .mv (.t 0), (some (10, true)), []⟩,
   ⟨(some 12), .mv (.t 2), (some (10, true)), []⟩,
   ⟨(some 13), .bin .leq (.t 11) (.t 12), (some (10, true)), []⟩,
   ⟨(some 14), .pick (.t 10) (.t 13) (.k (bv false)), none, []⟩,
   ⟨(some 6), .mv (.t 14), none, []⟩])
 .ret))⟩
theorem code43 : acode Try.prog hints 43 = some L43 := by kernel_rfl

-- spec.l00In
def L48 : AFun := ⟨15, [.t 6],
 (.seq (.ops false [⟨(some 6), .mv (.k (bv false)), none, []⟩])
 (.seq (.ops false [⟨(some 7), .mv (.t 0), none, []⟩,
   ⟨(some 8), .mv (.t 1), none, []⟩,
   ⟨(some 9), .bin .geq (.t 7) (.t 8), none, []⟩,
   ⟨(some 10), .mv (.t 9), none, []⟩,
   ⟨(some 11), .mv (.t 0), (some (10, true)), []⟩,
   ⟨(some 12), .mv (.t 2), (some (10, true)), []⟩,
   ⟨(some 13), .bin .leq (.t 11) (.t 12), (some (10, true)), []⟩,
   ⟨(some 14), .pick (.t 10) (.t 13) (.k (bv false)), none, []⟩,
   ⟨(some 6), .mv (.t 14), none, []⟩])
 .ret))⟩
theorem code48 : acode Try.prog hints 48 = some L48 := by kernel_rfl


theorem c_within {s : St} [Wf s] {x a b : Int} : FnB 43 [iv x, iv a, iv b] s (a ≤ x ∧ x ≤ b) := by
  refine F_start code43 ?_
  repeat' (first
 | refine A_go rfl ?_ | refine A_ifT rfl rfl ?_ | refine A_ifF rfl rfl ?_
 | refine A_offP rfl rfl ?_ | refine A_offH rfl rfl ?_ | refine A_off0 rfl rfl ?_
 | ((first | refine A_le rfl rfl rfl ?_ ?_ | refine A_ge rfl rfl rfl ?_ ?_) <;> intro hc <;> try first | contradiction | (exfalso; omega) | exact absurd rfl hc)
 | refine A_p (by rfl) rfl ?_
 | refine A_ret1 rfl (by exact (RP.t rfl RP.nil)) ?_)
  all_goals first | exact R_t ⟨by omega, by omega⟩ | exact R_f (by omega)
theorem c_l00In {s : St} [Wf s] {x a b : Int} : FnB 48 [iv x, iv a, iv b] s (a ≤ x ∧ x ≤ b) := by
  refine F_start code48 ?_
  repeat' (first
 | refine A_go rfl ?_ | refine A_ifT rfl rfl ?_ | refine A_ifF rfl rfl ?_
 | refine A_offP rfl rfl ?_ | refine A_offH rfl rfl ?_ | refine A_off0 rfl rfl ?_
 | ((first | refine A_le rfl rfl rfl ?_ ?_ | refine A_ge rfl rfl rfl ?_ ?_) <;> intro hc <;> try first | contradiction | (exfalso; omega) | exact absurd rfl hc)
 | refine A_p (by rfl) rfl ?_
 | refine A_ret1 rfl (by exact (RP.t rfl RP.nil)) ?_)
  all_goals first | exact R_t ⟨by omega, by omega⟩ | exact R_f (by omega)

end Go.Proofs.Ytlmbgaoeplffkaa
