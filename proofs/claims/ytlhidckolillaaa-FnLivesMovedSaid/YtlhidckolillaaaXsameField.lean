/- What is said of fields that are the same. -/
import Derived.Test.YtlhidckolillaaaXfield
import Derived.Test.YtlhidckolillaaaXequal
import Derived.Test.YtlhidckolillaaaFB
namespace Go.Proofs.Ytlhidckolillaaa
open Go Go.RowKit
set_option linter.unusedVariables false
set_option linter.unusedSimpArgs false
set_option maxRecDepth 100000
set_option maxHeartbeats 8000000
-- impl.SameField
def L24 : AFun := ⟨24, [.t 4],
 (.seq (.ops false [⟨(some 2), .box 26 (.t 0), none, []⟩,
   ⟨(some 3), .box 26 (.t 1), none, []⟩,
   ⟨(some 4), .mv (.k (bv false)), none, []⟩])
 (.seq (.ops false [⟨(some 5), .fieldA 0 (.t 2), none, []⟩,
   ⟨(some 6), .load false 1 (.t 5), none, []⟩,
   ⟨(some 7), .fieldA 0 (.t 3), none, []⟩,
   ⟨(some 8), .load false 1 (.t 7), none, []⟩,
   ⟨(some 9), .bin .eql (.t 6) (.t 8), none, []⟩,
   ⟨(some 10), .mv (.t 9), none, []⟩,
   ⟨(some 11), .fieldA 1 (.t 2), (some (10, true)), []⟩,
   ⟨(some 12), .load false 1 (.t 11), (some (10, true)), []⟩,
   ⟨(some 13), .fieldA 1 (.t 3), (some (10, true)), []⟩,
   ⟨(some 14), .load false 1 (.t 13), (some (10, true)), []⟩,
   ⟨(some 15), .bin .eql (.t 12) (.t 14), (some (10, true)), []⟩,
   ⟨(some 16), .pick (.t 10) (.t 15) (.k (bv false)), none, []⟩,
   ⟨(some 17), .mv (.t 16), none, []⟩,
   ⟨(some 18), .fieldA 2 (.t 2), (some (17, true)), []⟩,
   ⟨(some 19), .load false 1 (.t 18), (some (17, true)), []⟩,
   ⟨(some 20), .fieldA 2 (.t 3), (some (17, true)), []⟩,
   ⟨(some 21), .load false 1 (.t 20), (some (17, true)), []⟩,
   ⟨(some 22), .call (.f 59) [(.t 19), (.t 21)], (some (17, true)), []⟩,
   ⟨(some 23), .pick (.t 17) (.t 22) (.k (bv false)), none, []⟩,
   ⟨(some 4), .mv (.t 23), none, []⟩])
 .ret))⟩
theorem code24 : acode Try.prog hints 24 = some L24 := by kernel_rfl


theorem c_implSameField {s : St} [Wf s] {r c r2 c2 : Int} {id off len id2 off2 len2 : Nat} {xs ys : List Int} [hx : ArgE ic s id off xs] [hy : ArgE ic s id2 off2 ys] (hl : xs.length = len := by first | rfl | simp | omega | (simp; omega)) (hl2 : ys.length = len2 := by first | rfl | simp | omega | (simp; omega)) (hb : len ≤ 2000000 := by omega) :
    FnB 24 [.agg [ic r, ic c, .sl id off len], .agg [ic r2, ic c2, .sl id2 off2 len2]] s (r = r2 ∧ c = c2 ∧ xs = ys) := by
  refine F_start code24 ?_
  repeat' (first
 | refine A_go rfl ?_ | refine A_ifT rfl rfl ?_ | refine A_ifF rfl rfl ?_
 | refine A_offP rfl rfl ?_ | refine A_offH rfl rfl ?_ | refine A_off0 rfl rfl ?_
 | ((first | refine A_eq rfl rfl rfl ?_ ?_) <;> intro hc <;> try first | contradiction | (exfalso; omega) | exact absurd rfl hc)
 | (refine A_callB rfl rfl (fun s H => c_slicesEqual) ?_ ?_ <;> intro hc <;> try first | contradiction | (exfalso; omega) | exact absurd rfl hc | exact absurd (And.intro rfl rfl) hc | exact absurd (And.intro rfl (And.intro rfl rfl)) hc | exact absurd (Eq.trans (by assumption) (Eq.symm (by assumption))) hc)
 | refine A_fld rfl rfl ?_ | refine A_p (by rfl) rfl ?_
 | refine A_ldI rfl (by first | omega | (simp; done) | (simp; omega)) rfl ?_ | refine A_ldB rfl (by first | omega | (simp; done) | (simp; omega)) rfl ?_ | refine A_ld rfl (by rfl) rfl ?_
 | ((first | refine A_box rfl rfl ?_ | refine A_boxC rfl rfl ?_) <;> intro pz hpz)
 | refine A_ret1 rfl (by exact (RP.t rfl RP.nil)) ?_)
  all_goals first | exact R_t ⟨by assumption, by assumption, by assumption⟩ | exact R_f (by simp_all)

end Go.Proofs.Ytlhidckolillaaa
