/- The law FnExactCellsApart runs to true. -/
import Derived.Test.YtblidekcilkcjaaXcount
import Derived.Test.YtblidekcilkcjaaFB
namespace Go.Proofs.Ytblidekcilkcjaa
open Go Go.RowKit
set_option linter.unusedVariables false
set_option linter.unusedSimpArgs false
set_option maxRecDepth 100000
set_option maxHeartbeats 8000000
-- laws.FnExactCellsApart
def L5 : AFun := ⟨58, [.t 4],
 (.seq (.ops false [⟨(some 2), .box 31 (.t 0), none, []⟩,
   ⟨(some 3), .box 31 (.t 1), none, []⟩,
   ⟨(some 4), .mv (.k (bv false)), none, []⟩])
 (.seq (.ops false [⟨(some 5), .mv (.k (iv 1048576)), none, []⟩])
 (.seq (.ops false [⟨(some 12), .load true 3 (.t 2), none, []⟩,
   ⟨(some 13), .mv (.t 5), none, []⟩,
   ⟨(some 14), .call (.f 20) [(.t 12), (.t 13)], none, []⟩,
   ⟨(some 5), .mv (.t 14), none, []⟩])
 (.seq (.seq (.ops false [⟨(some 15), .mv (.t 5), none, []⟩,
    ⟨(some 16), .bin .lss (.t 15) (.k (iv 0)), none, []⟩])
  (.cond (.t 16) (.seq (.ops false [⟨(some 4), .mv (.k (bv true)), none, []⟩])
   .ret)
   .skip))
 (.seq (.ops false [⟨(some 17), .load true 3 (.t 3), none, []⟩,
   ⟨(some 18), .mv (.t 5), none, []⟩,
   ⟨(some 19), .call (.f 20) [(.t 17), (.t 18)], none, []⟩,
   ⟨(some 5), .mv (.t 19), none, []⟩])
 (.seq (.seq (.ops false [⟨(some 20), .mv (.t 5), none, []⟩,
    ⟨(some 21), .bin .lss (.t 20) (.k (iv 0)), none, []⟩])
  (.cond (.t 21) (.seq (.ops false [⟨(some 4), .mv (.k (bv true)), none, []⟩])
   .ret)
   .skip))
 (.seq (.ops true [⟨(some 23), .load true 3 (.t 2), none, []⟩,
   ⟨(some 24), .call (.f 22) [(.t 23)], none, []⟩,
   ⟨(some 25), .load true 3 (.t 3), none, [0]⟩,
   ⟨(some 26), .call (.f 22) [(.t 25)], none, []⟩,
   ⟨(some 27), .call (.f 24) [(.t 24), (.t 26)], none, []⟩,
   ⟨(some 22), .mv (.t 27), none, []⟩,
   ⟨(some 28), .ext (.t 22) 0, none, []⟩,
   ⟨(some 29), .ext (.t 22) 1, none, []⟩,
   ⟨(some 6), .mv (.t 28), none, []⟩,
   ⟨(some 7), .mv (.t 29), none, []⟩])
 (.seq (.ops false [⟨(some 30), .load true 3 (.t 2), none, []⟩,
   ⟨(some 31), .call (.f 22) [(.t 30)], none, []⟩,
   ⟨(some 8), .alloc 25 [.int .i64 0, .int .i64 0, .sl 0 0 0], none, []⟩,
   ⟨none, .store 3 (.t 8) (.t 31), none, []⟩])
 (.seq (.ops false [⟨(some 32), .load true 3 (.t 3), none, []⟩,
   ⟨(some 33), .call (.f 22) [(.t 32)], none, []⟩,
   ⟨(some 9), .alloc 25 [.int .i64 0, .int .i64 0, .sl 0 0 0], none, []⟩,
   ⟨none, .store 3 (.t 9) (.t 33), none, []⟩])
 (.seq (.ops false [⟨(some 35), .load true 3 (.t 8), none, []⟩,
   ⟨(some 36), .load true 3 (.t 9), none, []⟩,
   ⟨(some 37), .call (.f 25) [(.t 35), (.t 36)], none, []⟩,
   ⟨(some 34), .mv (.t 37), none, []⟩,
   ⟨(some 38), .ext (.t 34) 0, none, []⟩,
   ⟨(some 39), .ext (.t 34) 1, none, []⟩,
   ⟨(some 10), .mv (.t 38), none, []⟩,
   ⟨(some 11), .mv (.t 39), none, []⟩])
 (.seq (.seq (.ops false [⟨(some 40), .mv (.t 10), none, []⟩,
    ⟨(some 41), .mv (.t 6), none, []⟩,
    ⟨(some 42), .bin .neq (.t 40) (.t 41), none, []⟩,
    ⟨(some 43), .mv (.t 42), none, []⟩,
    ⟨(some 44), .mv (.t 11), (some (43, false)), []⟩,
    ⟨(some 45), .mv (.t 7), (some (43, false)), []⟩,
    ⟨(some 46), .beq true (.t 44) (.t 45), (some (43, false)), []⟩,
    ⟨(some 47), .pick (.t 43) (.k (bv true)) (.t 46), none, []⟩])
  (.cond (.t 47) (.seq (.ops false [⟨(some 4), .mv (.k (bv false)), none, []⟩])
   .ret)
   .skip))
 (.seq (.seq (.ops true [⟨(some 49), .load true 3 (.t 2), none, []⟩,
    ⟨(some 50), .call (.f 22) [(.t 49)], none, []⟩,
    ⟨(some 48), .load true 3 (.t 8), none, [0]⟩,
    ⟨(some 51), .call (.f 17) [(.t 48), (.t 50)], none, []⟩,
    ⟨(some 52), .un .not (.t 51), none, []⟩])
  (.cond (.t 52) (.seq (.ops false [⟨(some 4), .mv (.k (bv false)), none, []⟩])
   .ret)
   .skip))
 (.seq (.seq (.ops true [⟨(some 54), .load true 3 (.t 3), none, []⟩,
    ⟨(some 55), .call (.f 22) [(.t 54)], none, []⟩,
    ⟨(some 53), .load true 3 (.t 9), none, [0]⟩,
    ⟨(some 56), .call (.f 17) [(.t 53), (.t 55)], none, []⟩,
    ⟨(some 57), .un .not (.t 56), none, []⟩])
  (.cond (.t 57) (.seq (.ops false [⟨(some 4), .mv (.k (bv false)), none, []⟩])
   .ret)
   .skip))
 (.seq (.ops false [⟨(some 4), .mv (.k (bv true)), none, []⟩])
 .ret))))))))))))))⟩
theorem code5 : acode Try.prog hints 5 = some L5 := by kernel_rfl

theorem c_FnExactCellsApart {s : St} [Wf s] {a0_0 : Int} (w0_0 : -9223372036854775808 ≤ a0_0 ∧ a0_0 ≤ 9223372036854775807) {a0_1 : Int} (w0_1 : -9223372036854775808 ≤ a0_1 ∧ a0_1 ≤ 9223372036854775807) {i0_2 o0_2 n0_2 : Nat} {x0_2 : List Int} (h0_2 : ArgE ic s i0_2 o0_2 x0_2) (l0_2 : x0_2.length = n0_2) (b0_2 : ∀ n ∈ x0_2, -9223372036854775808 ≤ n ∧ n ≤ 9223372036854775807) (u0_2 : n0_2 ≤ 9223372036854775807) {a1_0 : Int} (w1_0 : -9223372036854775808 ≤ a1_0 ∧ a1_0 ≤ 9223372036854775807) {a1_1 : Int} (w1_1 : -9223372036854775808 ≤ a1_1 ∧ a1_1 ≤ 9223372036854775807) {i1_2 o1_2 n1_2 : Nat} {x1_2 : List Int} (h1_2 : ArgE ic s i1_2 o1_2 x1_2) (l1_2 : x1_2.length = n1_2) (b1_2 : ∀ n ∈ x1_2, -9223372036854775808 ≤ n ∧ n ≤ 9223372036854775807) (u1_2 : n1_2 ≤ 9223372036854775807) :
    FnV 5 [.agg [.int .i64 a0_0, .int .i64 a0_1, .sl i0_2 o0_2 n0_2], .agg [.int .i64 a1_0, .int .i64 a1_1, .sl i1_2 o1_2 n1_2]] s (bv true) := by
  refine F_start code5 ?_
  repeat' (first
 | refine A_go rfl ?_ | refine A_ifT rfl rfl ?_ | refine A_ifF rfl rfl ?_ | refine A_offP rfl rfl ?_ | refine A_offH rfl rfl ?_ | refine A_off0 rfl rfl ?_
 | refine A_add rfl rfl rfl (by omega) ?_ | refine A_sub rfl rfl rfl (by omega) ?_ | refine A_mul rfl rfl rfl (by omega) ?_ | refine A_rem rfl rfl rfl (by omega) ?_ | refine A_remT rfl rfl rfl (by omega) ?_ | refine A_quo rfl rfl rfl (by omega) ?_
 | ((first | refine A_lt rfl rfl rfl ?_ ?_ | refine A_le rfl rfl rfl ?_ ?_ | refine A_gt rfl rfl rfl ?_ ?_ | refine A_ge rfl rfl rfl ?_ ?_ | refine A_eq rfl rfl rfl ?_ ?_ | refine A_ne rfl rfl rfl ?_ ?_ | refine A_beq rfl rfl rfl ?_ ?_) <;> intro hc <;> try first | contradiction | (exfalso; omega) | exact absurd rfl hc)
 | refine A_idxN1 rfl rfl rfl (by omega) ?_ | refine A_idx1 rfl rfl rfl (by omega) ?_ | refine A_idxArr1 rfl rfl rfl (by omega) ?_
 | (refine A_callM rfl rfl (fun s H => c_szField) ?_; rintro _ _ ⟨⟨l, rfl, hl1, hl2⟩, rfl⟩) | (refine A_callM0 rfl rfl (fun s H => c_szField) ?_; rintro _ _ ⟨⟨l, rfl, hl1, hl2⟩, rfl⟩)
 | (refine A_callM rfl rfl (fun s H => c_toField) ?_; rintro _ _ ⟨pz, rfl, rfl⟩) | (refine A_callM0 rfl rfl (fun s H => c_toField) ?_; rintro _ _ ⟨pz, rfl, rfl⟩)
 | refine A_callV rfl rfl (fun s H => c_specCellsApart) ?_
 | refine A_callV rfl rfl (fun s H => c_implCellsApart) ?_
 | (refine A_callB rfl rfl (fun s H => c_eqField) ?_ ?_ <;> intro hc <;> try first | contradiction | (exfalso; omega) | exact absurd rfl hc | exact absurd (And.intro rfl rfl) hc | exact absurd (And.intro rfl (And.intro rfl rfl)) hc)
 | refine A_fld rfl rfl ?_ | refine A_mk3 rfl rfl rfl rfl ?_ | refine A_mk23 rfl rfl rfl ?_ | refine A_mk2 rfl rfl rfl ?_ | refine A_p (by rfl) rfl ?_
 | refine A_ldI rfl (by first | omega | (simp; done) | (simp; omega)) rfl ?_ | refine A_ldB rfl (by first | omega | (simp; done) | (simp; omega)) rfl ?_ | refine A_ld rfl (by rfl) rfl ?_ | refine A_ldW rfl (by simp) rfl ?_
 | refine A_st rfl rfl rfl ?_ | refine A_stW rfl rfl (by simp) rfl ?_ | refine A_stE rfl rfl (by first | omega | (simp; done) | (simp; omega)) rfl ?_
 | ((first | refine A_alloc rfl ?_ | refine A_box rfl rfl ?_ | refine A_boxC rfl rfl ?_ | refine A_makeN rfl rfl rfl (by omega) ?_ | refine A_make rfl rfl rfl (by omega) ?_ | refine A_bld1 rfl rfl ?_ | refine A_bld2 rfl rfl rfl ?_ | refine A_bld4 rfl rfl rfl rfl rfl ?_) <;> intro pz hpz)
 | refine A_bld0 rfl ?_ | (refine A_app rfl rfl rfl (by first | omega | (simp; done) | (simp; omega)) (by first | omega | (simp; done) | (simp; omega)) (by omega) ?_; intro pz) | (refine A_appN (enc := ic) rfl (by decide) rfl rfl (by first | omega | (simp; done) | (simp; omega)) (by omega) ?_; intro pz)
 | refine A_chk rfl rfl (by simp only [List.mem_cons, List.not_mem_nil, or_false, forall_eq_or_imp, forall_eq]; repeat' (first | exact ⟨_, rfl, inferInstance⟩ | apply And.intro)) ?_ | refine A_chkI rfl (by assumption) rfl (by simp) ?_
 | refine A_ret1 rfl (by first | exact (RP.t rfl RP.nil) | exact (RP.c rfl inferInstance rfl (by simp) RP.nil)) ?_ | refine A_ret rfl (by first | exact (RP.t rfl (RP.t rfl RP.nil)) | exact (RP.c rfl inferInstance rfl (by simp) (RP.t rfl RP.nil)) | exact (RP.t rfl (RP.t rfl (RP.t rfl RP.nil))) | exact (RP.c rfl inferInstance rfl (by simp) (RP.t rfl (RP.t rfl RP.nil))) | exact (RP.c rfl inferInstance rfl (by simp) (RP.t rfl (RP.t rfl (RP.t rfl (RP.t rfl RP.nil)))))) ?_ | refine A_ret0 rfl ?_)
  all_goals exact R_v rfl

end Go.Proofs.Ytblidekcilkcjaa
