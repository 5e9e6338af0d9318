/- The law FnExactAddingPeriod runs to true. -/
import Derived.Test.YtafdjnhlhepibaaXadding
import Derived.Test.YtafdjnhlhepibaaXruleLaws
import Derived.Test.YtafdjnhlhepibaaFB
namespace Go.Proofs.Ytafdjnhlhepibaa
open Go Go.RowKit
set_option linter.unusedVariables false
set_option linter.unusedSimpArgs false
set_option maxRecDepth 100000
set_option maxHeartbeats 8000000
-- laws.FnExactAddingPeriod
def L5 : AFun := ⟨57, [.t 6],
 (.seq (.ops false [⟨(some 3), .box 24 (.t 0), none, []⟩,
   ⟨(some 6), .mv (.k (bv false)), none, []⟩])
 (.seq (.ops false [⟨(some 7), .mv (.k (iv 1048576)), none, []⟩])
 (.seq (.ops false [⟨(some 15), .load true 3 (.t 3), none, []⟩,
   ⟨(some 16), .mv (.t 7), none, []⟩,
   ⟨(some 17), .call (.f 11) [(.t 15), (.t 16)], none, []⟩,
   ⟨(some 7), .mv (.t 17), none, []⟩])
 (.seq (.seq (.ops false [⟨(some 18), .mv (.t 7), none, []⟩,
    ⟨(some 19), .bin .lss (.t 18) (.k (iv 0)), none, []⟩])
  (.cond (.t 19) (.seq (.ops false [⟨(some 6), .mv (.k (bv true)), none, []⟩])
   .ret)
   .skip))
 (.seq (.ops false [⟨(some 21), .load true 3 (.t 3), none, []⟩,
   ⟨(some 22), .call (.f 14) [(.t 21)], none, []⟩,
   ⟨(some 23), .mv (.t 1), none, []⟩,
   ⟨(some 24), .mv (.t 2), none, []⟩,
   ⟨(some 25), .call (.f 27) [(.t 22), (.t 23), (.t 24)], none, []⟩,
   ⟨(some 20), .mv (.t 25), none, []⟩,
   ⟨(some 26), .ext (.t 20) 0, none, []⟩,
   ⟨(some 27), .ext (.t 20) 1, none, []⟩,
   ⟨(some 28), .ext (.t 20) 2, none, []⟩,
   ⟨(some 8), .mv (.t 26), none, []⟩,
   ⟨(some 9), .mv (.t 27), none, []⟩,
   ⟨(some 10), .mv (.t 28), none, []⟩])
 (.seq (.ops false [⟨(some 29), .load true 3 (.t 3), none, []⟩,
   ⟨(some 30), .call (.f 14) [(.t 29)], none, []⟩,
   ⟨(some 11), .alloc 30 [.int .i64 0, .int .i64 0, .sl 0 0 0], none, []⟩,
   ⟨none, .store 3 (.t 11) (.t 30), none, []⟩])
 (.seq (.ops false [⟨(some 32), .load true 3 (.t 11), none, []⟩,
   ⟨(some 33), .mv (.t 1), none, []⟩,
   ⟨(some 34), .mv (.t 2), none, []⟩,
   ⟨(some 35), .call (.f 28) [(.t 32), (.t 33), (.t 34)], none, []⟩,
   ⟨(some 31), .mv (.t 35), none, []⟩,
   ⟨(some 36), .ext (.t 31) 0, none, []⟩,
   ⟨(some 37), .ext (.t 31) 1, none, []⟩,
   ⟨(some 38), .ext (.t 31) 2, none, []⟩,
   ⟨(some 12), .mv (.t 36), none, []⟩,
   ⟨(some 13), .mv (.t 37), none, []⟩,
   ⟨(some 14), .mv (.t 38), none, []⟩])
 (.seq (.seq (.ops false [⟨(some 39), .mv (.t 12), none, []⟩,
    ⟨(some 40), .mv (.t 8), none, []⟩,
    ⟨(some 41), .bin .neq (.t 39) (.t 40), none, []⟩,
    ⟨(some 42), .mv (.t 41), none, []⟩,
    ⟨(some 43), .mv (.t 13), (some (42, false)), []⟩,
    ⟨(some 44), .mv (.t 9), (some (42, false)), []⟩,
    ⟨(some 45), .bin .neq (.t 43) (.t 44), (some (42, false)), []⟩,
    ⟨(some 46), .pick (.t 42) (.k (bv true)) (.t 45), none, []⟩,
    ⟨(some 47), .mv (.t 46), none, []⟩,
    ⟨(some 48), .mv (.t 14), (some (47, false)), []⟩,
    ⟨(some 49), .mv (.t 10), (some (47, false)), []⟩,
    ⟨(some 50), .beq true (.t 48) (.t 49), (some (47, false)), []⟩,
    ⟨(some 51), .pick (.t 47) (.k (bv true)) (.t 50), none, []⟩])
  (.cond (.t 51) (.seq (.ops false [⟨(some 6), .mv (.k (bv false)), none, []⟩])
   .ret)
   .skip))
 (.seq (.seq (.ops true [⟨(some 53), .load true 3 (.t 3), none, []⟩,
    ⟨(some 54), .call (.f 14) [(.t 53)], none, []⟩,
    ⟨(some 52), .load true 3 (.t 11), none, [0]⟩,
    ⟨(some 55), .call (.f 18) [(.t 52), (.t 54)], none, []⟩,
    ⟨(some 56), .un .not (.t 55), none, []⟩])
  (.cond (.t 56) (.seq (.ops false [⟨(some 6), .mv (.k (bv false)), none, []⟩])
   .ret)
   .skip))
 (.seq (.ops false [⟨(some 6), .mv (.k (bv true)), none, []⟩])
 .ret))))))))))⟩
theorem code5 : acode Try.prog hints 5 = some L5 := by kernel_rfl

theorem c_FnExactAddingPeriod {s : St} [Wf s] {a0_0 : Int} (w0_0 : -9223372036854775808 ≤ a0_0 ∧ a0_0 ≤ 9223372036854775807) {a0_1 : Int} (w0_1 : -9223372036854775808 ≤ a0_1 ∧ a0_1 ≤ 9223372036854775807) {i0_2 o0_2 n0_2 : Nat} {x0_2 : List Int} (h0_2 : ArgE ic s i0_2 o0_2 x0_2) (l0_2 : x0_2.length = n0_2) (b0_2 : ∀ n ∈ x0_2, -9223372036854775808 ≤ n ∧ n ≤ 9223372036854775807) (u0_2 : n0_2 ≤ 9223372036854775807) {a1 : Int} (w1 : -9223372036854775808 ≤ a1 ∧ a1 ≤ 9223372036854775807) {a2 : Int} (w2 : -9223372036854775808 ≤ a2 ∧ a2 ≤ 9223372036854775807) :
    FnV 5 [.agg [.int .i64 a0_0, .int .i64 a0_1, .sl i0_2 o0_2 n0_2], .c (.int .i64 a1), .c (.int .i64 a2)] s (bv true) := by
  refine F_start code5 ?_
  repeat' (first
 | refine A_go rfl ?_ | refine A_ifT rfl rfl ?_ | refine A_ifF rfl rfl ?_ | refine A_offP rfl rfl ?_ | refine A_offH rfl rfl ?_ | refine A_off0 rfl rfl ?_
 | refine A_add rfl rfl rfl (by omega) ?_ | refine A_sub rfl rfl rfl (by omega) ?_ | refine A_mul rfl rfl rfl (by omega) ?_ | refine A_rem rfl rfl rfl (by omega) ?_ | refine A_remT rfl rfl rfl (by omega) ?_ | refine A_quo rfl rfl rfl (by omega) ?_
 | ((first | refine A_lt rfl rfl rfl ?_ ?_ | refine A_le rfl rfl rfl ?_ ?_ | refine A_gt rfl rfl rfl ?_ ?_ | refine A_ge rfl rfl rfl ?_ ?_ | refine A_eq rfl rfl rfl ?_ ?_ | refine A_ne rfl rfl rfl ?_ ?_ | refine A_beq rfl rfl rfl ?_ ?_) <;> intro hc <;> try first | contradiction | (exfalso; omega) | exact absurd rfl hc)
 | refine A_idxN1 rfl rfl rfl (by omega) ?_ | refine A_idx1 rfl rfl rfl (by omega) ?_ | refine A_idxArr1 rfl rfl rfl (by omega) ?_
 | (refine A_callM rfl rfl (fun s H => c_szRule) ?_; rintro _ _ ⟨⟨l, rfl, hl1, hl2⟩, rfl⟩) | (refine A_callM0 rfl rfl (fun s H => c_szRule) ?_; rintro _ _ ⟨⟨l, rfl, hl1, hl2⟩, rfl⟩)
 | (refine A_callM rfl rfl (fun s H => c_toRule) ?_; rintro _ _ ⟨pz, rfl, rfl⟩) | (refine A_callM0 rfl rfl (fun s H => c_toRule) ?_; rintro _ _ ⟨pz, rfl, rfl⟩)
 | refine A_callV rfl rfl (fun s H => c_specAddingPeriod) ?_
 | refine A_callV rfl rfl (fun s H => c_implAddingPeriod) ?_
 | (refine A_callB rfl rfl (fun s H => c_eqRule) ?_ ?_ <;> intro hc <;> try first | contradiction | (exfalso; omega) | exact absurd rfl hc | exact absurd (And.intro rfl rfl) hc | exact absurd (And.intro rfl (And.intro rfl rfl)) hc | exact absurd (Eq.trans (by assumption) (Eq.symm (by assumption))) hc)
 | refine A_fld rfl rfl ?_ | refine A_mk3 rfl rfl rfl rfl ?_ | refine A_mk23 rfl rfl rfl ?_ | refine A_mk2 rfl rfl rfl ?_ | refine A_mk13 rfl rfl ?_ | refine A_p (by rfl) rfl ?_
 | refine A_ldI rfl (by first | omega | (simp; done) | (simp; omega)) rfl ?_ | refine A_ldB rfl (by first | omega | (simp; done) | (simp; omega)) rfl ?_ | refine A_ld rfl (by rfl) rfl ?_ | refine A_ldW rfl (by simp) rfl ?_
 | refine A_st rfl rfl rfl ?_ | refine A_stW rfl rfl (by simp) rfl ?_ | refine A_stE rfl rfl (by first | omega | (simp; done) | (simp; omega)) rfl ?_
 | ((first | refine A_alloc rfl ?_ | refine A_box rfl rfl ?_ | refine A_boxC rfl rfl ?_ | refine A_makeN rfl rfl rfl (by omega) ?_ | refine A_make rfl rfl rfl (by omega) ?_ | refine A_bld1 rfl rfl ?_ | refine A_bld2 rfl rfl rfl ?_ | refine A_bld4 rfl rfl rfl rfl rfl ?_) <;> intro pz hpz)
 | refine A_bld0 rfl ?_ | (refine A_app rfl rfl rfl (by first | omega | (simp; done) | (simp; omega)) (by first | omega | (simp; done) | (simp; omega)) (by omega) ?_; intro pz) | (refine A_appN (enc := ic) rfl (by decide) rfl rfl (by first | omega | (simp; done) | (simp; omega)) (by omega) ?_; intro pz)
 | refine A_chk1 rfl rfl rfl ?_ | refine A_chk2 rfl rfl rfl rfl ?_ | refine A_chk3 rfl rfl rfl rfl rfl ?_ | refine A_chk4 rfl rfl rfl rfl rfl rfl ?_ | refine A_chkI rfl (by assumption) rfl (by simp) ?_
 | refine A_ret1 rfl (by first | exact (RP.t rfl RP.nil) | exact (RP.c rfl inferInstance rfl (by simp) RP.nil)) ?_ | refine A_ret rfl (by first | exact (RP.t rfl (RP.t rfl RP.nil)) | exact (RP.c rfl inferInstance rfl (by simp) (RP.t rfl RP.nil)) | exact (RP.t rfl (RP.t rfl (RP.t rfl RP.nil))) | exact (RP.c rfl inferInstance rfl (by simp) (RP.t rfl (RP.t rfl RP.nil))) | exact (RP.c rfl inferInstance rfl (by simp) (RP.t rfl (RP.t rfl (RP.t rfl (RP.t rfl RP.nil)))))) ?_ | refine A_ret0 rfl ?_)
  all_goals exact R_v rfl

end Go.Proofs.Ytafdjnhlhepibaa
