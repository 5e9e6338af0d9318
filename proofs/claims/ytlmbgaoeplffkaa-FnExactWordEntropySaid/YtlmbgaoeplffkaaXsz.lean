/- What szInt64S does. -/
import Derived.Test.YtlmbgaoeplffkaaXtoInts
import Derived.Test.YtlmbgaoeplffkaaFB
namespace Go.Proofs.Ytlmbgaoeplffkaa
open Go Go.RowKit
set_option linter.unusedVariables false
set_option linter.unusedSimpArgs false
set_option maxRecDepth 100000
set_option maxHeartbeats 8000000
-- laws.szInt64S
def L46 : AFun := ⟨12, [.t 4],
 (.seq (.ops false [⟨(some 4), .mv (.k (iv 0)), none, []⟩])
 (.seq (.ops false [⟨(some 5), .mv (.t 1), none, []⟩,
   ⟨(some 6), .mv (.t 0), none, []⟩,
   ⟨(some 7), .len false (.t 6), none, []⟩,
   ⟨(some 8), .bin .sub (.t 5) (.t 7), none, []⟩,
   ⟨(some 1), .mv (.t 8), none, []⟩])
 (.seq (.seq (.ops false [⟨(some 9), .mv (.t 1), none, []⟩,
    ⟨(some 10), .bin .lss (.t 9) (.k (iv 0)), none, []⟩])
  (.cond (.t 10) (.seq (.ops false [⟨(some 4), .mv (.k (iv (-1))), none, []⟩])
   .ret)
   .skip))
 (.seq (.ops false [⟨(some 11), .mv (.t 1), none, []⟩,
   ⟨(some 4), .mv (.t 11), none, []⟩])
 .ret))))⟩
theorem code46 : acode Try.prog hints 46 = some L46 := by kernel_rfl


theorem c_szInt64S {s : St} [Wf s] {id off n : Nat} {left : Int} (hl : 0 ≤ left ∧ left ≤ 2000000 := by omega) (hn : n ≤ 9223372036854775807 := by omega) : Fn [] 46 [.c (.sl id off n), iv left] s fun r N => (∃ l', r = iv l' ∧ l' ≤ left ∧ (l' < 0 ∨ l' = left - n)) ∧ N = [] := by
  refine F_start code46 ?_
  repeat' (first
 | refine A_go rfl ?_ | refine A_ifT rfl rfl ?_ | refine A_ifF rfl rfl ?_
 | refine A_sub rfl rfl rfl (by omega) ?_
 | ((first | refine A_lt rfl rfl rfl ?_ ?_) <;> intro hc <;> try first | contradiction | (exfalso; omega) | exact absurd rfl hc)
 | refine A_p (by rfl) rfl ?_
 | refine A_ret1 rfl (by exact (RP.t rfl RP.nil)) ?_)
  · exact R_n [] ⟨⟨_, rfl, by omega, .inl (by omega)⟩, rfl⟩
  · exact R_n [] ⟨⟨_, rfl, by omega, .inr rfl⟩, rfl⟩

end Go.Proofs.Ytlmbgaoeplffkaa
