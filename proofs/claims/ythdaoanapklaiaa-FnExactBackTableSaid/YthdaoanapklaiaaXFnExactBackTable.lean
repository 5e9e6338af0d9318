/- The law FnExactBackTable runs to true. -/
import Derived.Test.YthdaoanapklaiaaXbackTable
import Derived.Test.YthdaoanapklaiaaXtoInts
import Derived.Test.YthdaoanapklaiaaXeqInts
import Derived.Test.YthdaoanapklaiaaXmark
import Derived.Test.YthdaoanapklaiaaFB
namespace Go.Proofs.Ythdaoanapklaiaa
open Go Go.RowKit
set_option linter.unusedVariables false
set_option linter.unusedSimpArgs false
set_option maxRecDepth 100000
set_option maxHeartbeats 8000000
-- laws.FnExactBackTable
def L9 : AFun := ⟨93, [.t 2],
 (.seq (.ops false [⟨(some 2), .mv (.k (bv false)), none, []⟩])
 (.seq (.seq (.ops false [⟨(some 13), .mv (.t 0), none, []⟩,
    ⟨(some 14), .len false (.t 13), none, []⟩,
    ⟨(some 15), .bin .gtr (.t 14) (.k (iv 1048576)), none, []⟩])
  (.cond (.t 15) (.seq (.ops false [⟨(some 2), .mv (.k (bv true)), none, []⟩])
   .ret)
   .skip))
 (.seq (.ops false [⟨(some 17), .mv (.t 0), none, []⟩,
   ⟨(some 18), .call (.f 11) [(.t 17)], none, []⟩,
   ⟨(some 19), .call (.f 32) [(.t 18)], none, []⟩,
   ⟨(some 16), .mv (.t 19), none, []⟩,
   ⟨(some 20), .ext (.t 16) 0, none, []⟩,
   ⟨(some 21), .ext (.t 16) 1, none, []⟩,
   ⟨(some 3), .mv (.t 20), none, []⟩,
   ⟨(some 4), .mv (.t 21), none, []⟩])
 (.seq (.ops false [⟨(some 22), .mv (.t 0), none, []⟩,
   ⟨(some 23), .call (.f 11) [(.t 22)], none, []⟩,
   ⟨(some 5), .mv (.t 23), none, []⟩])
 (.seq (.ops false [⟨(some 25), .mv (.t 5), none, []⟩,
   ⟨(some 26), .call (.f 33) [(.t 25)], none, []⟩,
   ⟨(some 24), .mv (.t 26), none, []⟩,
   ⟨(some 27), .ext (.t 24) 0, none, []⟩,
   ⟨(some 28), .ext (.t 24) 1, none, []⟩,
   ⟨(some 6), .mv (.t 27), none, []⟩,
   ⟨(some 7), .mv (.t 28), none, []⟩])
 (.seq (.seq (.ops false [⟨(some 29), .mv (.t 6), none, []⟩,
    ⟨(some 30), .mv (.t 3), none, []⟩,
    ⟨(some 31), .call (.f 13) [(.t 29), (.t 30)], none, []⟩,
    ⟨(some 32), .un .not (.t 31), none, []⟩,
    ⟨(some 33), .mv (.t 32), none, []⟩,
    ⟨(some 34), .mv (.t 7), (some (33, false)), []⟩,
    ⟨(some 35), .mv (.t 4), (some (33, false)), []⟩,
    ⟨(some 36), .beq true (.t 34) (.t 35), (some (33, false)), []⟩,
    ⟨(some 37), .pick (.t 33) (.k (bv true)) (.t 36), none, []⟩])
  (.cond (.t 37) (.seq (.ops false [⟨(some 2), .mv (.k (bv false)), none, []⟩])
   .ret)
   .skip))
 (.seq (.seq (.ops false [⟨(some 38), .mv (.t 5), none, []⟩,
    ⟨(some 39), .mv (.t 0), none, []⟩,
    ⟨(some 40), .call (.f 11) [(.t 39)], none, []⟩,
    ⟨(some 41), .call (.f 13) [(.t 38), (.t 40)], none, []⟩,
    ⟨(some 42), .un .not (.t 41), none, []⟩])
  (.cond (.t 42) (.seq (.ops false [⟨(some 2), .mv (.k (bv false)), none, []⟩])
   .ret)
   .skip))
 (.seq (.ops false [⟨(some 8), .mv (.k (iv 1)), none, []⟩])
 (.seq (.ops false [⟨(some 43), .mv (.t 5), none, []⟩,
   ⟨(some 44), .mv (.t 8), none, []⟩,
   ⟨(some 45), .call (.f 34) [(.t 43), (.t 44)], none, []⟩,
   ⟨(some 8), .mv (.t 45), none, []⟩])
 (.seq (.seq (.ops false [⟨(some 46), .mv (.t 8), none, []⟩,
    ⟨(some 47), .bin .lss (.t 46) (.k (iv 0)), none, []⟩,
    ⟨(some 48), .mv (.t 47), none, []⟩,
    ⟨(some 49), .mv (.t 6), (some (48, false)), []⟩,
    ⟨(some 50), .mv (.t 3), (some (48, false)), []⟩,
    ⟨(some 51), .call (.f 13) [(.t 49), (.t 50)], (some (48, false)), []⟩,
    ⟨(some 52), .un .not (.t 51), (some (48, false)), []⟩,
    ⟨(some 53), .pick (.t 48) (.k (bv true)) (.t 52), none, []⟩,
    ⟨(some 54), .mv (.t 53), none, []⟩,
    ⟨(some 55), .mv (.t 7), (some (54, false)), []⟩,
    ⟨(some 56), .mv (.t 4), (some (54, false)), []⟩,
    ⟨(some 57), .beq true (.t 55) (.t 56), (some (54, false)), []⟩,
    ⟨(some 58), .pick (.t 54) (.k (bv true)) (.t 57), none, []⟩])
  (.cond (.t 58) (.seq (.ops false [⟨(some 2), .mv (.k (bv false)), none, []⟩])
   .ret)
   .skip))
 (.seq (.ops false [⟨(some 9), .mv (.k (iv 1)), none, []⟩])
 (.seq (.ops false [⟨(some 59), .mv (.t 6), none, []⟩,
   ⟨(some 60), .mv (.t 9), none, []⟩,
   ⟨(some 61), .call (.f 34) [(.t 59), (.t 60)], none, []⟩,
   ⟨(some 9), .mv (.t 61), none, []⟩])
 (.seq (.ops false [⟨(some 10), .mv (.k (iv 1)), none, []⟩])
 (.seq (.ops false [⟨(some 62), .mv (.t 6), none, []⟩,
   ⟨(some 63), .mv (.t 10), none, []⟩,
   ⟨(some 64), .call (.f 35) [(.t 62), (.t 63)], none, []⟩,
   ⟨(some 10), .mv (.t 64), none, []⟩])
 (.seq (.seq (.ops false [⟨(some 65), .mv (.t 10), none, []⟩,
    ⟨(some 66), .bin .lss (.t 65) (.k (iv 0)), none, []⟩])
  (.cond (.t 66) (.seq (.ops false [⟨(some 2), .mv (.k (bv false)), none, []⟩])
   .ret)
   .skip))
 (.seq (.seq (.ops false [⟨(some 67), .mv (.t 10), none, []⟩,
    ⟨(some 68), .mv (.t 9), none, []⟩,
    ⟨(some 69), .bin .neq (.t 67) (.t 68), none, []⟩])
  (.cond (.t 69) (.seq (.ops false [⟨(some 2), .mv (.k (bv false)), none, []⟩])
   .ret)
   .skip))
 (.seq (.ops false [⟨(some 71), .mv (.t 0), none, []⟩,
   ⟨(some 72), .call (.f 11) [(.t 71)], none, []⟩,
   ⟨(some 73), .call (.f 33) [(.t 72)], none, []⟩,
   ⟨(some 70), .mv (.t 73), none, []⟩,
   ⟨(some 74), .ext (.t 70) 0, none, []⟩,
   ⟨(some 75), .ext (.t 70) 1, none, []⟩,
   ⟨(some 11), .mv (.t 74), none, []⟩,
   ⟨(some 12), .mv (.t 75), none, []⟩])
 (.seq (.seq (.ops false [⟨(some 76), .mv (.t 11), none, []⟩,
    ⟨(some 77), .mv (.t 3), none, []⟩,
    ⟨(some 78), .call (.f 13) [(.t 76), (.t 77)], none, []⟩,
    ⟨(some 79), .un .not (.t 78), none, []⟩,
    ⟨(some 80), .mv (.t 79), none, []⟩,
    ⟨(some 81), .mv (.t 12), (some (80, false)), []⟩,
    ⟨(some 82), .mv (.t 4), (some (80, false)), []⟩,
    ⟨(some 83), .beq true (.t 81) (.t 82), (some (80, false)), []⟩,
    ⟨(some 84), .pick (.t 80) (.k (bv true)) (.t 83), none, []⟩])
  (.cond (.t 84) (.seq (.ops false [⟨(some 2), .mv (.k (bv false)), none, []⟩])
   .ret)
   .skip))
 (.seq (.ops false [⟨(some 10), .mv (.k (iv 1)), none, []⟩])
 (.seq (.ops false [⟨(some 85), .mv (.t 6), none, []⟩,
   ⟨(some 86), .mv (.t 10), none, []⟩,
   ⟨(some 87), .call (.f 35) [(.t 85), (.t 86)], none, []⟩,
   ⟨(some 10), .mv (.t 87), none, []⟩])
 (.seq (.seq (.ops false [⟨(some 88), .mv (.t 10), none, []⟩,
    ⟨(some 89), .bin .lss (.t 88) (.k (iv 0)), none, []⟩])
  (.cond (.t 89) (.seq (.ops false [⟨(some 2), .mv (.k (bv false)), none, []⟩])
   .ret)
   .skip))
 (.seq (.seq (.ops false [⟨(some 90), .mv (.t 10), none, []⟩,
    ⟨(some 91), .mv (.t 9), none, []⟩,
    ⟨(some 92), .bin .neq (.t 90) (.t 91), none, []⟩])
  (.cond (.t 92) (.seq (.ops false [⟨(some 2), .mv (.k (bv false)), none, []⟩])
   .ret)
   .skip))
 (.seq (.ops false [⟨(some 2), .mv (.k (bv true)), none, []⟩])
 .ret)))))))))))))))))))))))⟩
theorem code9 : acode Try.prog hints 9 = some L9 := by kernel_rfl

theorem c_FnExactBackTable {s : St} [Wf s] {i0 o0 n0 : Nat} {x0 : List Int} (h0 : ArgE ic s i0 o0 x0) (l0 : x0.length = n0) (b0 : ∀ n ∈ x0, -9223372036854775808 ≤ n ∧ n ≤ 9223372036854775807) (u0 : n0 ≤ 9223372036854775807) :
    FnV 9 [.c (.sl i0 o0 n0)] s (bv true) := by
  refine F_start code9 ?_
  repeat' (first
 | refine A_go rfl ?_ | refine A_ifT rfl rfl ?_ | refine A_ifF rfl rfl ?_ | refine A_offP rfl rfl ?_ | refine A_offH rfl rfl ?_ | refine A_off0 rfl rfl ?_
 | refine A_add rfl rfl rfl (by omega) ?_ | refine A_sub rfl rfl rfl (by omega) ?_ | refine A_mul rfl rfl rfl (by omega) ?_ | refine A_rem rfl rfl rfl (by omega) ?_ | refine A_remT rfl rfl rfl (by omega) ?_ | refine A_quo rfl rfl rfl (by omega) ?_
 | ((first | refine A_lt rfl rfl rfl ?_ ?_ | refine A_le rfl rfl rfl ?_ ?_ | refine A_gt rfl rfl rfl ?_ ?_ | refine A_ge rfl rfl rfl ?_ ?_ | refine A_eq rfl rfl rfl ?_ ?_ | refine A_ne rfl rfl rfl ?_ ?_ | refine A_beq rfl rfl rfl ?_ ?_) <;> intro hc <;> try first | contradiction | (exfalso; omega) | exact absurd rfl hc)
 | refine A_idxN1 rfl rfl rfl (by omega) ?_ | refine A_idx1 rfl rfl rfl (by omega) ?_ | refine A_idxArr1 rfl rfl rfl (by omega) ?_
 | (refine A_callM rfl rfl (fun s H => c_toInt64S) ?_; rintro _ _ ⟨pz, rfl, rfl⟩) | (refine A_callM0 rfl rfl (fun s H => c_toInt64S) ?_; rintro _ _ ⟨pz, rfl, rfl⟩)
 | (refine A_callM rfl rfl (fun s H => c_specBackTable) ?_; rintro _ _ ⟨pz, rfl, rfl, hlen⟩) | (refine A_callM0 rfl rfl (fun s H => c_specBackTable) ?_; rintro _ _ ⟨pz, rfl, rfl, hlen⟩)
 | (refine A_callM rfl rfl (fun s H => c_implBackTable) ?_; rintro _ _ ⟨pz, rfl, rfl, hlen⟩) | (refine A_callM0 rfl rfl (fun s H => c_implBackTable) ?_; rintro _ _ ⟨pz, rfl, rfl, hlen⟩)
 | (refine A_callB rfl rfl (fun s H => c_eqInt64S) ?_ ?_ <;> intro hc <;> try first | contradiction | (exfalso; omega) | exact absurd rfl hc | exact absurd (And.intro rfl rfl) hc | exact absurd (And.intro rfl (And.intro rfl rfl)) hc)
 | (refine A_callM rfl rfl (fun s H => c_markInt64S) ?_; rintro _ _ ⟨rfl, rfl⟩) | (refine A_callM0 rfl rfl (fun s H => c_markInt64S) ?_; rintro _ _ ⟨rfl, rfl⟩)
 | refine A_callV rfl rfl (fun s H => c_heldInt64S) ?_
 | refine A_fld rfl rfl ?_ | refine A_mk3 rfl rfl rfl rfl ?_ | refine A_mk23 rfl rfl rfl ?_ | refine A_mk2 rfl rfl rfl ?_ | refine A_p (by rfl) rfl ?_
 | refine A_ldI rfl (by first | omega | (simp; done) | (simp; omega)) rfl ?_ | refine A_ldB rfl (by first | omega | (simp; done) | (simp; omega)) rfl ?_ | refine A_ld rfl (by rfl) rfl ?_ | refine A_ldW rfl (by simp) rfl ?_
 | refine A_st rfl rfl rfl ?_ | refine A_stW rfl rfl (by simp) rfl ?_ | refine A_stE rfl rfl (by first | omega | (simp; done) | (simp; omega)) rfl ?_
 | ((first | refine A_alloc rfl ?_ | refine A_box rfl rfl ?_ | refine A_boxC rfl rfl ?_ | refine A_makeN rfl rfl rfl (by omega) ?_ | refine A_make rfl rfl rfl (by omega) ?_ | refine A_bld1 rfl rfl ?_ | refine A_bld2 rfl rfl rfl ?_ | refine A_bld4 rfl rfl rfl rfl rfl ?_) <;> intro pz hpz)
 | refine A_bld0 rfl ?_ | (refine A_app rfl rfl rfl (by first | omega | (simp; done) | (simp; omega)) (by first | omega | (simp; done) | (simp; omega)) (by omega) ?_; intro pz) | (refine A_appN (enc := ic) rfl (by decide) rfl rfl (by first | omega | (simp; done) | (simp; omega)) (by omega) ?_; intro pz)
 | refine A_chk rfl rfl (by simp only [List.mem_cons, List.not_mem_nil, or_false, forall_eq_or_imp, forall_eq]; repeat' (first | exact ⟨_, rfl, inferInstance⟩ | apply And.intro)) ?_ | refine A_chkI rfl (by assumption) rfl (by simp) ?_
 | refine A_ret1 rfl (by first | exact (RP.t rfl RP.nil) | exact (RP.c rfl inferInstance rfl (by simp) RP.nil)) ?_ | refine A_ret rfl (by first | exact (RP.t rfl (RP.t rfl RP.nil)) | exact (RP.c rfl inferInstance rfl (by simp) (RP.t rfl RP.nil)) | exact (RP.t rfl (RP.t rfl (RP.t rfl RP.nil))) | exact (RP.c rfl inferInstance rfl (by simp) (RP.t rfl (RP.t rfl RP.nil))) | exact (RP.c rfl inferInstance rfl (by simp) (RP.t rfl (RP.t rfl (RP.t rfl (RP.t rfl RP.nil)))))) ?_ | refine A_ret0 rfl ?_)
  all_goals exact R_v rfl

end Go.Proofs.Ythdaoanapklaiaa
