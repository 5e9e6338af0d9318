/- The law FnExactWordsBack runs to true. -/
import Derived.Test.YtkeabhhndcpejaaXwordsBack
import Derived.Test.YtkeabhhndcpejaaXruleLaws
import Derived.Test.YtkeabhhndcpejaaFB
namespace Go.Proofs.Ytkeabhhndcpejaa
open Go Go.RowKit
set_option linter.unusedVariables false
set_option linter.unusedSimpArgs false
set_option maxRecDepth 100000
set_option maxHeartbeats 8000000
-- laws.FnExactWordsBack
def L5 : AFun := ⟨56, [.t 4],
 (.seq (.ops false [⟨(some 2), .box 24 (.t 0), none, []⟩,
   ⟨(some 4), .mv (.k (bv false)), none, []⟩])
 (.seq (.seq (.ops false [⟨(some 12), .mv (.t 1), none, []⟩,
    ⟨(some 13), .len false (.t 12), none, []⟩,
    ⟨(some 14), .bin .gtr (.t 13) (.k (iv 1048576)), none, []⟩])
  (.cond (.t 14) (.seq (.ops false [⟨(some 4), .mv (.k (bv true)), none, []⟩])
   .ret)
   .skip))
 (.seq (.ops false [⟨(some 5), .mv (.k (iv 1048576)), none, []⟩])
 (.seq (.ops false [⟨(some 15), .load true 3 (.t 2), none, []⟩,
   ⟨(some 16), .mv (.t 5), none, []⟩,
   ⟨(some 17), .call (.f 15) [(.t 15), (.t 16)], none, []⟩,
   ⟨(some 5), .mv (.t 17), none, []⟩])
 (.seq (.seq (.ops false [⟨(some 18), .mv (.t 5), none, []⟩,
    ⟨(some 19), .bin .lss (.t 18) (.k (iv 0)), none, []⟩])
  (.cond (.t 19) (.seq (.ops false [⟨(some 4), .mv (.k (bv true)), none, []⟩])
   .ret)
   .skip))
 (.seq (.ops false [⟨(some 21), .load true 3 (.t 2), none, []⟩,
   ⟨(some 22), .call (.f 17) [(.t 21)], none, []⟩,
   ⟨(some 23), .mv (.t 1), none, []⟩,
   ⟨(some 24), .call (.f 18) [(.t 23)], none, []⟩,
   ⟨(some 25), .call (.f 27) [(.t 22), (.t 24)], none, []⟩,
   ⟨(some 20), .mv (.t 25), none, []⟩,
   ⟨(some 26), .ext (.t 20) 0, none, []⟩,
   ⟨(some 27), .ext (.t 20) 1, none, []⟩,
   ⟨(some 6), .mv (.t 26), none, []⟩,
   ⟨(some 7), .mv (.t 27), none, []⟩])
 (.seq (.ops false [⟨(some 28), .load true 3 (.t 2), none, []⟩,
   ⟨(some 29), .call (.f 17) [(.t 28)], none, []⟩,
   ⟨(some 8), .alloc 28 [.int .i64 0, .int .i64 0, .sl 0 0 0], none, []⟩,
   ⟨none, .store 3 (.t 8) (.t 29), none, []⟩])
 (.seq (.ops false [⟨(some 30), .mv (.t 1), none, []⟩,
   ⟨(some 31), .call (.f 18) [(.t 30)], none, []⟩,
   ⟨(some 9), .mv (.t 31), none, []⟩])
 (.seq (.ops false [⟨(some 33), .load true 3 (.t 8), none, []⟩,
   ⟨(some 34), .mv (.t 9), none, []⟩,
   ⟨(some 35), .call (.f 28) [(.t 33), (.t 34)], none, []⟩,
   ⟨(some 32), .mv (.t 35), none, []⟩,
   ⟨(some 36), .ext (.t 32) 0, none, []⟩,
   ⟨(some 37), .ext (.t 32) 1, none, []⟩,
   ⟨(some 10), .mv (.t 36), none, []⟩,
   ⟨(some 11), .mv (.t 37), none, []⟩])
 (.seq (.seq (.ops false [⟨(some 38), .mv (.t 10), none, []⟩,
    ⟨(some 39), .mv (.t 6), none, []⟩,
    ⟨(some 40), .bin .neq (.t 38) (.t 39), none, []⟩,
    ⟨(some 41), .mv (.t 40), none, []⟩,
    ⟨(some 42), .mv (.t 11), (some (41, false)), []⟩,
    ⟨(some 43), .mv (.t 7), (some (41, false)), []⟩,
    ⟨(some 44), .beq true (.t 42) (.t 43), (some (41, false)), []⟩,
    ⟨(some 45), .pick (.t 41) (.k (bv true)) (.t 44), none, []⟩])
  (.cond (.t 45) (.seq (.ops false [⟨(some 4), .mv (.k (bv false)), none, []⟩])
   .ret)
   .skip))
 (.seq (.seq (.ops true [⟨(some 47), .load true 3 (.t 2), none, []⟩,
    ⟨(some 48), .call (.f 17) [(.t 47)], none, []⟩,
    ⟨(some 46), .load true 3 (.t 8), none, [0]⟩,
    ⟨(some 49), .call (.f 21) [(.t 46), (.t 48)], none, []⟩,
    ⟨(some 50), .un .not (.t 49), none, []⟩])
  (.cond (.t 50) (.seq (.ops false [⟨(some 4), .mv (.k (bv false)), none, []⟩])
   .ret)
   .skip))
 (.seq (.seq (.ops false [⟨(some 51), .mv (.t 9), none, []⟩,
    ⟨(some 52), .mv (.t 1), none, []⟩,
    ⟨(some 53), .call (.f 18) [(.t 52)], none, []⟩,
    ⟨(some 54), .call (.f 20) [(.t 51), (.t 53)], none, []⟩,
    ⟨(some 55), .un .not (.t 54), none, []⟩])
  (.cond (.t 55) (.seq (.ops false [⟨(some 4), .mv (.k (bv false)), none, []⟩])
   .ret)
   .skip))
 (.seq (.ops false [⟨(some 4), .mv (.k (bv true)), none, []⟩])
 .ret)))))))))))))⟩
theorem code5 : acode Try.prog hints 5 = some L5 := by kernel_rfl

theorem c_FnExactWordsBack {s : St} [Wf s] {a0_0 : Int} (w0_0 : -9223372036854775808 ≤ a0_0 ∧ a0_0 ≤ 9223372036854775807) {a0_1 : Int} (w0_1 : -9223372036854775808 ≤ a0_1 ∧ a0_1 ≤ 9223372036854775807) {i0_2 o0_2 n0_2 : Nat} {x0_2 : List Int} (h0_2 : ArgE ic s i0_2 o0_2 x0_2) (l0_2 : x0_2.length = n0_2) (b0_2 : ∀ n ∈ x0_2, -9223372036854775808 ≤ n ∧ n ≤ 9223372036854775807) (u0_2 : n0_2 ≤ 9223372036854775807) {i1 o1 n1 : Nat} {x1 : List Int} (h1 : ArgE ic s i1 o1 x1) (l1 : x1.length = n1) (b1 : ∀ n ∈ x1, -9223372036854775808 ≤ n ∧ n ≤ 9223372036854775807) (u1 : n1 ≤ 9223372036854775807) :
    FnV 5 [.agg [.int .i64 a0_0, .int .i64 a0_1, .sl i0_2 o0_2 n0_2], .c (.sl i1 o1 n1)] s (bv true) := by
  refine F_start code5 ?_
  repeat' (first
 | refine A_go rfl ?_ | refine A_ifT rfl rfl ?_ | refine A_ifF rfl rfl ?_ | refine A_offP rfl rfl ?_ | refine A_offH rfl rfl ?_ | refine A_off0 rfl rfl ?_
 | refine A_add rfl rfl rfl (by omega) ?_ | refine A_sub rfl rfl rfl (by omega) ?_ | refine A_mul rfl rfl rfl (by omega) ?_ | refine A_rem rfl rfl rfl (by omega) ?_ | refine A_remT rfl rfl rfl (by omega) ?_ | refine A_quo rfl rfl rfl (by omega) ?_
 | ((first | refine A_lt rfl rfl rfl ?_ ?_ | refine A_le rfl rfl rfl ?_ ?_ | refine A_gt rfl rfl rfl ?_ ?_ | refine A_ge rfl rfl rfl ?_ ?_ | refine A_eq rfl rfl rfl ?_ ?_ | refine A_ne rfl rfl rfl ?_ ?_ | refine A_beq rfl rfl rfl ?_ ?_) <;> intro hc <;> try first | contradiction | (exfalso; omega) | exact absurd rfl hc)
 | refine A_idxN1 rfl rfl rfl (by omega) ?_ | refine A_idx1 rfl rfl rfl (by omega) ?_ | refine A_idxArr1 rfl rfl rfl (by omega) ?_
 | (refine A_callM rfl rfl (fun s H => c_szRule) ?_; rintro _ _ ⟨⟨l, rfl, hl1, hl2⟩, rfl⟩) | (refine A_callM0 rfl rfl (fun s H => c_szRule) ?_; rintro _ _ ⟨⟨l, rfl, hl1, hl2⟩, rfl⟩)
 | (refine A_callM rfl rfl (fun s H => c_toRule) ?_; rintro _ _ ⟨pz, rfl, rfl⟩) | (refine A_callM0 rfl rfl (fun s H => c_toRule) ?_; rintro _ _ ⟨pz, rfl, rfl⟩)
 | (refine A_callM rfl rfl (fun s H => c_toInt64S) ?_; rintro _ _ ⟨pz, rfl, rfl⟩) | (refine A_callM0 rfl rfl (fun s H => c_toInt64S) ?_; rintro _ _ ⟨pz, rfl, rfl⟩)
 | refine A_callV rfl rfl (fun s H => c_specWordsBack) ?_
 | refine A_callV rfl rfl (fun s H => c_implWordsBack) ?_
 | (refine A_callB rfl rfl (fun s H => c_eqRule) ?_ ?_ <;> intro hc <;> try first | contradiction | (exfalso; omega) | exact absurd rfl hc | exact absurd (And.intro rfl rfl) hc | exact absurd (And.intro rfl (And.intro rfl rfl)) hc)
 | (refine A_callB rfl rfl (fun s H => c_eqInt64S) ?_ ?_ <;> intro hc <;> try first | contradiction | (exfalso; omega) | exact absurd rfl hc | exact absurd (And.intro rfl rfl) hc | exact absurd (And.intro rfl (And.intro rfl rfl)) hc)
 | refine A_fld rfl rfl ?_ | refine A_mk3 rfl rfl rfl rfl ?_ | refine A_mk23 rfl rfl rfl ?_ | refine A_mk2 rfl rfl rfl ?_ | refine A_p (by rfl) rfl ?_
 | refine A_ldI rfl (by first | omega | (simp; done) | (simp; omega)) rfl ?_ | refine A_ldB rfl (by first | omega | (simp; done) | (simp; omega)) rfl ?_ | refine A_ld rfl (by rfl) rfl ?_ | refine A_ldW rfl (by simp) rfl ?_
 | refine A_st rfl rfl rfl ?_ | refine A_stW rfl rfl (by simp) rfl ?_ | refine A_stE rfl rfl (by first | omega | (simp; done) | (simp; omega)) rfl ?_
 | ((first | refine A_alloc rfl ?_ | refine A_box rfl rfl ?_ | refine A_boxC rfl rfl ?_ | refine A_makeN rfl rfl rfl (by omega) ?_ | refine A_make rfl rfl rfl (by omega) ?_ | refine A_bld1 rfl rfl ?_ | refine A_bld2 rfl rfl rfl ?_ | refine A_bld4 rfl rfl rfl rfl rfl ?_) <;> intro pz hpz)
 | refine A_bld0 rfl ?_ | (refine A_app rfl rfl rfl (by first | omega | (simp; done) | (simp; omega)) (by first | omega | (simp; done) | (simp; omega)) (by omega) ?_; intro pz) | (refine A_appN (enc := ic) rfl (by decide) rfl rfl (by first | omega | (simp; done) | (simp; omega)) (by omega) ?_; intro pz)
 | refine A_chk1 rfl rfl rfl ?_ | refine A_chk2 rfl rfl rfl rfl ?_ | refine A_chk3 rfl rfl rfl rfl rfl ?_ | refine A_chk4 rfl rfl rfl rfl rfl rfl ?_ | refine A_chkI rfl (by assumption) rfl (by simp) ?_
 | refine A_ret1 rfl (by first | exact (RP.t rfl RP.nil) | exact (RP.c rfl inferInstance rfl (by simp) RP.nil)) ?_ | refine A_ret rfl (by first | exact (RP.t rfl (RP.t rfl RP.nil)) | exact (RP.c rfl inferInstance rfl (by simp) (RP.t rfl RP.nil)) | exact (RP.t rfl (RP.t rfl (RP.t rfl RP.nil))) | exact (RP.c rfl inferInstance rfl (by simp) (RP.t rfl (RP.t rfl RP.nil))) | exact (RP.c rfl inferInstance rfl (by simp) (RP.t rfl (RP.t rfl (RP.t rfl (RP.t rfl RP.nil)))))) ?_ | refine A_ret0 rfl ?_)
  all_goals exact R_v rfl

end Go.Proofs.Ytkeabhhndcpejaa
