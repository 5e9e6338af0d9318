/- The law FnExactIsOnto runs to true. -/
import Derived.Test.YtkeabhhndcpejaaXontoI
import Derived.Test.YtkeabhhndcpejaaXruleLaws
import Derived.Test.YtkeabhhndcpejaaFB
namespace Go.Proofs.Ytkeabhhndcpejaa
open Go Go.RowKit
set_option linter.unusedVariables false
set_option linter.unusedSimpArgs false
set_option maxRecDepth 100000
set_option maxHeartbeats 8000000
-- laws.FnExactIsOnto
def L13 : AFun := ⟨40, [.t 2],
 (.seq (.ops false [⟨(some 1), .box 24 (.t 0), none, []⟩,
   ⟨(some 2), .mv (.k (bv false)), none, []⟩])
 (.seq (.ops false [⟨(some 3), .mv (.k (iv 1048576)), none, []⟩])
 (.seq (.ops false [⟨(some 9), .load true 3 (.t 1), none, []⟩,
   ⟨(some 10), .mv (.t 3), none, []⟩,
   ⟨(some 11), .call (.f 15) [(.t 9), (.t 10)], none, []⟩,
   ⟨(some 3), .mv (.t 11), none, []⟩])
 (.seq (.seq (.ops false [⟨(some 12), .mv (.t 3), none, []⟩,
    ⟨(some 13), .bin .lss (.t 12) (.k (iv 0)), none, []⟩])
  (.cond (.t 13) (.seq (.ops false [⟨(some 2), .mv (.k (bv true)), none, []⟩])
   .ret)
   .skip))
 (.seq (.ops false [⟨(some 15), .load true 3 (.t 1), none, []⟩,
   ⟨(some 16), .call (.f 17) [(.t 15)], none, []⟩,
   ⟨(some 17), .call (.f 46) [(.t 16)], none, []⟩,
   ⟨(some 14), .mv (.t 17), none, []⟩,
   ⟨(some 18), .ext (.t 14) 0, none, []⟩,
   ⟨(some 19), .ext (.t 14) 1, none, []⟩,
   ⟨(some 4), .mv (.t 18), none, []⟩,
   ⟨(some 5), .mv (.t 19), none, []⟩])
 (.seq (.ops false [⟨(some 20), .load true 3 (.t 1), none, []⟩,
   ⟨(some 21), .call (.f 17) [(.t 20)], none, []⟩,
   ⟨(some 6), .alloc 28 [.int .i64 0, .int .i64 0, .sl 0 0 0], none, []⟩,
   ⟨none, .store 3 (.t 6) (.t 21), none, []⟩])
 (.seq (.ops false [⟨(some 23), .load true 3 (.t 6), none, []⟩,
   ⟨(some 24), .call (.f 47) [(.t 23)], none, []⟩,
   ⟨(some 22), .mv (.t 24), none, []⟩,
   ⟨(some 25), .ext (.t 22) 0, none, []⟩,
   ⟨(some 26), .ext (.t 22) 1, none, []⟩,
   ⟨(some 7), .mv (.t 25), none, []⟩,
   ⟨(some 8), .mv (.t 26), none, []⟩])
 (.seq (.seq (.ops false [⟨(some 27), .mv (.t 7), none, []⟩,
    ⟨(some 28), .mv (.t 4), none, []⟩,
    ⟨(some 29), .beq true (.t 27) (.t 28), none, []⟩,
    ⟨(some 30), .mv (.t 29), none, []⟩,
    ⟨(some 31), .mv (.t 8), (some (30, false)), []⟩,
    ⟨(some 32), .mv (.t 5), (some (30, false)), []⟩,
    ⟨(some 33), .beq true (.t 31) (.t 32), (some (30, false)), []⟩,
    ⟨(some 34), .pick (.t 30) (.k (bv true)) (.t 33), none, []⟩])
  (.cond (.t 34) (.seq (.ops false [⟨(some 2), .mv (.k (bv false)), none, []⟩])
   .ret)
   .skip))
 (.seq (.seq (.ops true [⟨(some 36), .load true 3 (.t 1), none, []⟩,
    ⟨(some 37), .call (.f 17) [(.t 36)], none, []⟩,
    ⟨(some 35), .load true 3 (.t 6), none, [0]⟩,
    ⟨(some 38), .call (.f 21) [(.t 35), (.t 37)], none, []⟩,
    ⟨(some 39), .un .not (.t 38), none, []⟩])
  (.cond (.t 39) (.seq (.ops false [⟨(some 2), .mv (.k (bv false)), none, []⟩])
   .ret)
   .skip))
 (.seq (.ops false [⟨(some 2), .mv (.k (bv true)), none, []⟩])
 .ret))))))))))⟩
theorem code13 : acode Try.prog hints 13 = some L13 := by kernel_rfl

theorem c_FnExactIsOnto {s : St} [Wf s] {a0_0 : Int} (w0_0 : -9223372036854775808 ≤ a0_0 ∧ a0_0 ≤ 9223372036854775807) {a0_1 : Int} (w0_1 : -9223372036854775808 ≤ a0_1 ∧ a0_1 ≤ 9223372036854775807) {i0_2 o0_2 n0_2 : Nat} {x0_2 : List Int} (h0_2 : ArgE ic s i0_2 o0_2 x0_2) (l0_2 : x0_2.length = n0_2) (b0_2 : ∀ n ∈ x0_2, -9223372036854775808 ≤ n ∧ n ≤ 9223372036854775807) (u0_2 : n0_2 ≤ 9223372036854775807) :
    FnV 13 [.agg [.int .i64 a0_0, .int .i64 a0_1, .sl i0_2 o0_2 n0_2]] s (bv true) := by
  refine F_start code13 ?_
  repeat' (first
 | refine A_go rfl ?_ | refine A_ifT rfl rfl ?_ | refine A_ifF rfl rfl ?_ | refine A_offP rfl rfl ?_ | refine A_offH rfl rfl ?_ | refine A_off0 rfl rfl ?_
 | refine A_add rfl rfl rfl (by omega) ?_ | refine A_sub rfl rfl rfl (by omega) ?_ | refine A_mul rfl rfl rfl (by omega) ?_ | refine A_rem rfl rfl rfl (by omega) ?_ | refine A_remT rfl rfl rfl (by omega) ?_ | refine A_quo rfl rfl rfl (by omega) ?_
 | ((first | refine A_lt rfl rfl rfl ?_ ?_ | refine A_le rfl rfl rfl ?_ ?_ | refine A_gt rfl rfl rfl ?_ ?_ | refine A_ge rfl rfl rfl ?_ ?_ | refine A_eq rfl rfl rfl ?_ ?_ | refine A_ne rfl rfl rfl ?_ ?_ | refine A_beq rfl rfl rfl ?_ ?_) <;> intro hc <;> try first | contradiction | (exfalso; omega) | exact absurd rfl hc)
 | refine A_idxN1 rfl rfl rfl (by omega) ?_ | refine A_idx1 rfl rfl rfl (by omega) ?_ | refine A_idxArr1 rfl rfl rfl (by omega) ?_
 | (refine A_callM rfl rfl (fun s H => c_szRule) ?_; rintro _ _ ⟨⟨l, rfl, hl1, hl2⟩, rfl⟩) | (refine A_callM0 rfl rfl (fun s H => c_szRule) ?_; rintro _ _ ⟨⟨l, rfl, hl1, hl2⟩, rfl⟩)
 | (refine A_callM rfl rfl (fun s H => c_toRule) ?_; rintro _ _ ⟨pz, rfl, rfl⟩) | (refine A_callM0 rfl rfl (fun s H => c_toRule) ?_; rintro _ _ ⟨pz, rfl, rfl⟩)
 | refine A_callV rfl rfl (fun s H => c_specIsOnto) ?_
 | refine A_callV rfl rfl (fun s H => c_implIsOnto) ?_
 | (refine A_callB rfl rfl (fun s H => c_eqRule) ?_ ?_ <;> intro hc <;> try first | contradiction | (exfalso; omega) | exact absurd rfl hc | exact absurd (And.intro rfl rfl) hc | exact absurd (And.intro rfl (And.intro rfl rfl)) hc | exact absurd (Eq.trans (by assumption) (Eq.symm (by assumption))) hc)
 | refine A_fld rfl rfl ?_ | refine A_mk3 rfl rfl rfl rfl ?_ | refine A_mk23 rfl rfl rfl ?_ | refine A_mk2 rfl rfl rfl ?_ | refine A_mk13 rfl rfl ?_ | refine A_p (by rfl) rfl ?_
 | refine A_ldI rfl (by first | omega | (simp; done) | (simp; omega)) rfl ?_ | refine A_ldB rfl (by first | omega | (simp; done) | (simp; omega)) rfl ?_ | refine A_ld rfl (by rfl) rfl ?_ | refine A_ldW rfl (by simp) rfl ?_
 | refine A_st rfl rfl rfl ?_ | refine A_stW rfl rfl (by simp) rfl ?_ | refine A_stE rfl rfl (by first | omega | (simp; done) | (simp; omega)) rfl ?_
 | ((first | refine A_alloc rfl ?_ | refine A_box rfl rfl ?_ | refine A_boxC rfl rfl ?_ | refine A_makeN rfl rfl rfl (by omega) ?_ | refine A_make rfl rfl rfl (by omega) ?_ | refine A_bld1 rfl rfl ?_ | refine A_bld2 rfl rfl rfl ?_ | refine A_bld4 rfl rfl rfl rfl rfl ?_) <;> intro pz hpz)
 | refine A_bld0 rfl ?_ | (refine A_app rfl rfl rfl (by first | omega | (simp; done) | (simp; omega)) (by first | omega | (simp; done) | (simp; omega)) (by omega) ?_; intro pz) | (refine A_appN (enc := ic) rfl (by decide) rfl rfl (by first | omega | (simp; done) | (simp; omega)) (by omega) ?_; intro pz)
 | refine A_chk1 rfl rfl rfl ?_ | refine A_chk2 rfl rfl rfl rfl ?_ | refine A_chk3 rfl rfl rfl rfl rfl ?_ | refine A_chk4 rfl rfl rfl rfl rfl rfl ?_ | refine A_chkI rfl (by assumption) rfl (by simp) ?_
 | refine A_ret1 rfl (by first | exact (RP.t rfl RP.nil) | exact (RP.c rfl inferInstance rfl (by simp) RP.nil)) ?_ | refine A_ret rfl (by first | exact (RP.t rfl (RP.t rfl RP.nil)) | exact (RP.c rfl inferInstance rfl (by simp) (RP.t rfl RP.nil)) | exact (RP.t rfl (RP.t rfl (RP.t rfl RP.nil))) | exact (RP.c rfl inferInstance rfl (by simp) (RP.t rfl (RP.t rfl RP.nil))) | exact (RP.c rfl inferInstance rfl (by simp) (RP.t rfl (RP.t rfl (RP.t rfl (RP.t rfl RP.nil)))))) ?_ | refine A_ret0 rfl ?_)
  all_goals exact R_v rfl

end Go.Proofs.Ytkeabhhndcpejaa
