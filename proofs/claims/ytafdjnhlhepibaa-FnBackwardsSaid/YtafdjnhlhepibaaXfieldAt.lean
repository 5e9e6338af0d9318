/- What the small functions of fields do. -/
import Derived.Test.YtafdjnhlhepibaaXmadeField
import Derived.Test.YtafdjnhlhepibaaXarith
import Derived.Test.YtafdjnhlhepibaaFB
namespace Go.Proofs.Ytafdjnhlhepibaa
open Go Go.RowKit
set_option linter.unusedVariables false
set_option linter.unusedSimpArgs false
set_option maxRecDepth 100000
set_option maxHeartbeats 8000000
-- impl.floorMod
def L140 : AFun := ⟨12, [.t 4],
 (.seq (.ops false [⟨(some 4), .mv (.k (iv 0)), none, []⟩])
 (.seq (.ops false [⟨(some 5), .mv (.t 0), none, []⟩,
   ⟨(some 6), .mv (.t 1), none, []⟩,
   ⟨(some 7), .bin .rem (.t 5) (.t 6), none, []⟩,
   ⟨(some 8), .mv (.t 1), none, []⟩,
   ⟨(some 9), .bin .add (.t 7) (.t 8), none, []⟩,
   ⟨(some 10), .mv (.t 1), none, []⟩,
   ⟨(some 11), .bin .rem (.t 9) (.t 10), none, []⟩,
   ⟨(some 4), .mv (.t 11), none, []⟩])
 .ret))⟩
theorem code140 : acode Try.prog hints 140 = some L140 := by kernel_rfl


theorem c_floorMod {s : St} [Wf s] {a b : Int} (hb : 0 < b ∧ b ≤ 1000000 := by omega) (ha : -1000000000000 ≤ a ∧ a ≤ 1000000000000 := by omega) : FnV 140 [iv a, iv b] s (iv (a % b)) := by
  obtain ⟨h1, h2, h3⟩ := tmod_facts (a := a) hb.1
  refine F_start code140 ?_
  repeat' (first
 | refine A_go rfl ?_ | refine A_ifT rfl rfl ?_ | refine A_ifF rfl rfl ?_
 | refine A_add rfl rfl rfl (by omega) ?_ | refine A_rem rfl rfl rfl (by omega) ?_ | refine A_remT rfl rfl rfl (by omega) ?_
 | refine A_p (by rfl) rfl ?_
 | refine A_ret1 rfl (by exact (RP.t rfl RP.nil)) ?_)
  rw [h3]; exact R_v rfl
abbrev cel (xs : List Int) (c i k : Int) : Int := xs.getD (i * c + k).toNat 0
/-- A cell, round and round, or 0 beyond the border. -/
def lookV (r c : Int) (xs : List Int) (i k : Int) (t : Bool) : Int := if t = true then cel xs c (i % r) (k % c) else if (0 ≤ i ∧ i < r) ∧ 0 ≤ k ∧ k < c then cel xs c i k else 0
end Go.Proofs.Ytafdjnhlhepibaa
