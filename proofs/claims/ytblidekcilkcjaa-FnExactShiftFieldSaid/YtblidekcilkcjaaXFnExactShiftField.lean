/- The law FnExactShiftField runs to true. -/
import Derived.Test.YtblidekcilkcjaaXfieldS
import Derived.Test.YtblidekcilkcjaaFB
namespace Go.Proofs.Ytblidekcilkcjaa
open Go Go.RowKit
set_option linter.unusedVariables false
set_option linter.unusedSimpArgs false
set_option maxRecDepth 100000
set_option maxHeartbeats 8000000
-- laws.FnExactShiftField
def L10 : AFun := ⟨106, [.t 6],
 (.seq (.ops false [⟨(some 3), .box 31 (.t 0), none, []⟩,
   ⟨(some 6), .mv (.k (bv false)), none, []⟩])
 (.seq (.ops false [⟨(some 7), .mv (.k (iv 1048576)), none, []⟩])
 (.seq (.ops false [⟨(some 18), .load true 3 (.t 3), none, []⟩,
   ⟨(some 19), .mv (.t 7), none, []⟩,
   ⟨(some 20), .call (.f 20) [(.t 18), (.t 19)], none, []⟩,
   ⟨(some 7), .mv (.t 20), none, []⟩])
 (.seq (.seq (.ops false [⟨(some 21), .mv (.t 7), none, []⟩,
    ⟨(some 22), .bin .lss (.t 21) (.k (iv 0)), none, []⟩])
  (.cond (.t 22) (.seq (.ops false [⟨(some 6), .mv (.k (bv true)), none, []⟩])
   .ret)
   .skip))
 (.seq (.ops false [⟨(some 24), .load true 3 (.t 3), none, []⟩,
   ⟨(some 25), .call (.f 22) [(.t 24)], none, []⟩,
   ⟨(some 26), .mv (.t 1), none, []⟩,
   ⟨(some 27), .mv (.t 2), none, []⟩,
   ⟨(some 28), .call (.f 34) [(.t 25), (.t 26), (.t 27)], none, []⟩,
   ⟨(some 23), .mv (.t 28), none, []⟩,
   ⟨(some 29), .ext (.t 23) 0, none, []⟩,
   ⟨(some 30), .ext (.t 23) 1, none, []⟩,
   ⟨(some 8), .alloc 25 [.int .i64 0, .int .i64 0, .sl 0 0 0], none, []⟩,
   ⟨none, .store 3 (.t 8) (.t 29), none, []⟩,
   ⟨(some 9), .mv (.t 30), none, []⟩])
 (.seq (.ops false [⟨(some 31), .load true 3 (.t 3), none, []⟩,
   ⟨(some 32), .call (.f 22) [(.t 31)], none, []⟩,
   ⟨(some 10), .alloc 25 [.int .i64 0, .int .i64 0, .sl 0 0 0], none, []⟩,
   ⟨none, .store 3 (.t 10) (.t 32), none, []⟩])
 (.seq (.ops false [⟨(some 34), .load true 3 (.t 10), none, []⟩,
   ⟨(some 35), .mv (.t 1), none, []⟩,
   ⟨(some 36), .mv (.t 2), none, []⟩,
   ⟨(some 37), .call (.f 35) [(.t 34), (.t 35), (.t 36)], none, []⟩,
   ⟨(some 33), .mv (.t 37), none, []⟩,
   ⟨(some 38), .ext (.t 33) 0, none, []⟩,
   ⟨(some 39), .ext (.t 33) 1, none, []⟩,
   ⟨(some 11), .alloc 25 [.int .i64 0, .int .i64 0, .sl 0 0 0], none, []⟩,
   ⟨none, .store 3 (.t 11) (.t 38), none, []⟩,
   ⟨(some 12), .mv (.t 39), none, []⟩])
 (.seq (.seq (.ops false [⟨(some 40), .load true 3 (.t 11), none, []⟩,
    ⟨(some 41), .load true 3 (.t 8), none, []⟩,
    ⟨(some 42), .call (.f 17) [(.t 40), (.t 41)], none, []⟩,
    ⟨(some 43), .un .not (.t 42), none, []⟩,
    ⟨(some 44), .mv (.t 43), none, []⟩,
    ⟨(some 45), .mv (.t 12), (some (44, false)), []⟩,
    ⟨(some 46), .mv (.t 9), (some (44, false)), []⟩,
    ⟨(some 47), .beq true (.t 45) (.t 46), (some (44, false)), []⟩,
    ⟨(some 48), .pick (.t 44) (.k (bv true)) (.t 47), none, []⟩])
  (.cond (.t 48) (.seq (.ops false [⟨(some 6), .mv (.k (bv false)), none, []⟩])
   .ret)
   .skip))
 (.seq (.seq (.ops true [⟨(some 50), .load true 3 (.t 3), none, []⟩,
    ⟨(some 51), .call (.f 22) [(.t 50)], none, []⟩,
    ⟨(some 49), .load true 3 (.t 10), none, [0]⟩,
    ⟨(some 52), .call (.f 17) [(.t 49), (.t 51)], none, []⟩,
    ⟨(some 53), .un .not (.t 52), none, []⟩])
  (.cond (.t 53) (.seq (.ops false [⟨(some 6), .mv (.k (bv false)), none, []⟩])
   .ret)
   .skip))
 (.seq (.ops false [⟨(some 13), .mv (.k (iv 1)), none, []⟩])
 (.seq (.ops false [⟨(some 54), .load true 3 (.t 10), none, []⟩,
   ⟨(some 55), .mv (.t 13), none, []⟩,
   ⟨(some 56), .call (.f 18) [(.t 54), (.t 55)], none, []⟩,
   ⟨(some 13), .mv (.t 56), none, []⟩])
 (.seq (.seq (.ops false [⟨(some 57), .mv (.t 13), none, []⟩,
    ⟨(some 58), .bin .lss (.t 57) (.k (iv 0)), none, []⟩,
    ⟨(some 59), .mv (.t 58), none, []⟩,
    ⟨(some 60), .load true 3 (.t 11), (some (59, false)), []⟩,
    ⟨(some 61), .load true 3 (.t 8), (some (59, false)), []⟩,
    ⟨(some 62), .call (.f 17) [(.t 60), (.t 61)], (some (59, false)), []⟩,
    ⟨(some 63), .un .not (.t 62), (some (59, false)), []⟩,
    ⟨(some 64), .pick (.t 59) (.k (bv true)) (.t 63), none, []⟩,
    ⟨(some 65), .mv (.t 64), none, []⟩,
    ⟨(some 66), .mv (.t 12), (some (65, false)), []⟩,
    ⟨(some 67), .mv (.t 9), (some (65, false)), []⟩,
    ⟨(some 68), .beq true (.t 66) (.t 67), (some (65, false)), []⟩,
    ⟨(some 69), .pick (.t 65) (.k (bv true)) (.t 68), none, []⟩])
  (.cond (.t 69) (.seq (.ops false [⟨(some 6), .mv (.k (bv false)), none, []⟩])
   .ret)
   .skip))
 (.seq (.ops false [⟨(some 14), .mv (.k (iv 1)), none, []⟩])
 (.seq (.ops false [⟨(some 70), .load true 3 (.t 11), none, []⟩,
   ⟨(some 71), .mv (.t 14), none, []⟩,
   ⟨(some 72), .call (.f 18) [(.t 70), (.t 71)], none, []⟩,
   ⟨(some 14), .mv (.t 72), none, []⟩])
 (.seq (.ops false [⟨(some 15), .mv (.k (iv 1)), none, []⟩])
 (.seq (.ops false [⟨(some 73), .load true 3 (.t 11), none, []⟩,
   ⟨(some 74), .mv (.t 15), none, []⟩,
   ⟨(some 75), .call (.f 19) [(.t 73), (.t 74)], none, []⟩,
   ⟨(some 15), .mv (.t 75), none, []⟩])
 (.seq (.seq (.ops false [⟨(some 76), .mv (.t 15), none, []⟩,
    ⟨(some 77), .bin .lss (.t 76) (.k (iv 0)), none, []⟩])
  (.cond (.t 77) (.seq (.ops false [⟨(some 6), .mv (.k (bv false)), none, []⟩])
   .ret)
   .skip))
 (.seq (.seq (.ops false [⟨(some 78), .mv (.t 15), none, []⟩,
    ⟨(some 79), .mv (.t 14), none, []⟩,
    ⟨(some 80), .bin .neq (.t 78) (.t 79), none, []⟩])
  (.cond (.t 80) (.seq (.ops false [⟨(some 6), .mv (.k (bv false)), none, []⟩])
   .ret)
   .skip))
 (.seq (.ops false [⟨(some 82), .load true 3 (.t 3), none, []⟩,
   ⟨(some 83), .call (.f 22) [(.t 82)], none, []⟩,
   ⟨(some 84), .mv (.t 1), none, []⟩,
   ⟨(some 85), .mv (.t 2), none, []⟩,
   ⟨(some 86), .call (.f 35) [(.t 83), (.t 84), (.t 85)], none, []⟩,
   ⟨(some 81), .mv (.t 86), none, []⟩,
   ⟨(some 87), .ext (.t 81) 0, none, []⟩,
   ⟨(some 88), .ext (.t 81) 1, none, []⟩,
   ⟨(some 16), .alloc 25 [.int .i64 0, .int .i64 0, .sl 0 0 0], none, []⟩,
   ⟨none, .store 3 (.t 16) (.t 87), none, []⟩,
   ⟨(some 17), .mv (.t 88), none, []⟩])
 (.seq (.seq (.ops false [⟨(some 89), .load true 3 (.t 16), none, []⟩,
    ⟨(some 90), .load true 3 (.t 8), none, []⟩,
    ⟨(some 91), .call (.f 17) [(.t 89), (.t 90)], none, []⟩,
    ⟨(some 92), .un .not (.t 91), none, []⟩,
    ⟨(some 93), .mv (.t 92), none, []⟩,
    ⟨(some 94), .mv (.t 17), (some (93, false)), []⟩,
    ⟨(some 95), .mv (.t 9), (some (93, false)), []⟩,
    ⟨(some 96), .beq true (.t 94) (.t 95), (some (93, false)), []⟩,
    ⟨(some 97), .pick (.t 93) (.k (bv true)) (.t 96), none, []⟩])
  (.cond (.t 97) (.seq (.ops false [⟨(some 6), .mv (.k (bv false)), none, []⟩])
   .ret)
   .skip))
 (.seq (.ops false [⟨(some 15), .mv (.k (iv 1)), none, []⟩])
 (.seq (.ops false [⟨(some 98), .load true 3 (.t 11), none, []⟩,
   ⟨(some 99), .mv (.t 15), none, []⟩,
   ⟨(some 100), .call (.f 19) [(.t 98), (.t 99)], none, []⟩,
   ⟨(some 15), .mv (.t 100), none, []⟩])
 (.seq (.seq (.ops false [⟨(some 101), .mv (.t 15), none, []⟩,
    ⟨(some 102), .bin .lss (.t 101) (.k (iv 0)), none, []⟩])
  (.cond (.t 102) (.seq (.ops false [⟨(some 6), .mv (.k (bv false)), none, []⟩])
   .ret)
   .skip))
 (.seq (.seq (.ops false [⟨(some 103), .mv (.t 15), none, []⟩,
    ⟨(some 104), .mv (.t 14), none, []⟩,
    ⟨(some 105), .bin .neq (.t 103) (.t 104), none, []⟩])
  (.cond (.t 105) (.seq (.ops false [⟨(some 6), .mv (.k (bv false)), none, []⟩])
   .ret)
   .skip))
 (.seq (.ops false [⟨(some 6), .mv (.k (bv true)), none, []⟩])
 .ret)))))))))))))))))))))))))⟩
theorem code10 : acode Try.prog hints 10 = some L10 := by kernel_rfl

theorem c_FnExactShiftField {s : St} [Wf s] {a0_0 : Int} (w0_0 : -9223372036854775808 ≤ a0_0 ∧ a0_0 ≤ 9223372036854775807) {a0_1 : Int} (w0_1 : -9223372036854775808 ≤ a0_1 ∧ a0_1 ≤ 9223372036854775807) {i0_2 o0_2 n0_2 : Nat} {x0_2 : List Int} (h0_2 : ArgE ic s i0_2 o0_2 x0_2) (l0_2 : x0_2.length = n0_2) (b0_2 : ∀ n ∈ x0_2, -9223372036854775808 ≤ n ∧ n ≤ 9223372036854775807) (u0_2 : n0_2 ≤ 9223372036854775807) {a1 : Int} (w1 : -9223372036854775808 ≤ a1 ∧ a1 ≤ 9223372036854775807) {a2 : Int} (w2 : -9223372036854775808 ≤ a2 ∧ a2 ≤ 9223372036854775807) :
    FnV 10 [.agg [.int .i64 a0_0, .int .i64 a0_1, .sl i0_2 o0_2 n0_2], .c (.int .i64 a1), .c (.int .i64 a2)] s (bv true) := by
  refine F_start code10 ?_
  repeat' (first
 | refine A_go rfl ?_ | refine A_ifT rfl rfl ?_ | refine A_ifF rfl rfl ?_ | refine A_offP rfl rfl ?_ | refine A_offH rfl rfl ?_ | refine A_off0 rfl rfl ?_
 | refine A_add rfl rfl rfl (by omega) ?_ | refine A_sub rfl rfl rfl (by omega) ?_ | refine A_mul rfl rfl rfl (by omega) ?_ | refine A_rem rfl rfl rfl (by omega) ?_ | refine A_remT rfl rfl rfl (by omega) ?_ | refine A_quo rfl rfl rfl (by omega) ?_
 | ((first | refine A_lt rfl rfl rfl ?_ ?_ | refine A_le rfl rfl rfl ?_ ?_ | refine A_gt rfl rfl rfl ?_ ?_ | refine A_ge rfl rfl rfl ?_ ?_ | refine A_eq rfl rfl rfl ?_ ?_ | refine A_ne rfl rfl rfl ?_ ?_ | refine A_beq rfl rfl rfl ?_ ?_) <;> intro hc <;> try first | contradiction | (exfalso; omega) | exact absurd rfl hc)
 | refine A_idxN1 rfl rfl rfl (by omega) ?_ | refine A_idx1 rfl rfl rfl (by omega) ?_ | refine A_idxArr1 rfl rfl rfl (by omega) ?_
 | (refine A_callM rfl rfl (fun s H => c_szField) ?_; rintro _ _ ⟨⟨l, rfl, hl1, hl2⟩, rfl⟩) | (refine A_callM0 rfl rfl (fun s H => c_szField) ?_; rintro _ _ ⟨⟨l, rfl, hl1, hl2⟩, rfl⟩)
 | (refine A_callM rfl rfl (fun s H => c_toField) ?_; rintro _ _ ⟨pz, rfl, rfl⟩) | (refine A_callM0 rfl rfl (fun s H => c_toField) ?_; rintro _ _ ⟨pz, rfl, rfl⟩)
 | (refine A_callM rfl rfl (fun s H => c_specShiftField) ?_; rintro _ _ ⟨pz, rfl, rfl, hlen⟩) | (refine A_callM0 rfl rfl (fun s H => c_specShiftField) ?_; rintro _ _ ⟨pz, rfl, rfl, hlen⟩)
 | (refine A_callM rfl rfl (fun s H => c_implShiftField) ?_; rintro _ _ ⟨pz, rfl, rfl, hlen⟩) | (refine A_callM0 rfl rfl (fun s H => c_implShiftField) ?_; rintro _ _ ⟨pz, rfl, rfl, hlen⟩)
 | (refine A_callB rfl rfl (fun s H => c_eqField) ?_ ?_ <;> intro hc <;> try first | contradiction | (exfalso; omega) | exact absurd rfl hc | exact absurd (And.intro rfl rfl) hc | exact absurd (And.intro rfl (And.intro rfl rfl)) hc)
 | (refine A_callM rfl rfl (fun s H => c_markField) ?_; rintro _ _ ⟨rfl, rfl⟩) | (refine A_callM0 rfl rfl (fun s H => c_markField) ?_; rintro _ _ ⟨rfl, rfl⟩)
 | refine A_callV rfl rfl (fun s H => c_heldField) ?_
 | refine A_fld rfl rfl ?_ | refine A_mk3 rfl rfl rfl rfl ?_ | refine A_mk23 rfl rfl rfl ?_ | refine A_mk2 rfl rfl rfl ?_ | refine A_p (by rfl) rfl ?_
 | refine A_ldI rfl (by first | omega | (simp; done) | (simp; omega)) rfl ?_ | refine A_ldB rfl (by first | omega | (simp; done) | (simp; omega)) rfl ?_ | refine A_ld rfl (by rfl) rfl ?_ | refine A_ldW rfl (by simp) rfl ?_
 | refine A_st rfl rfl rfl ?_ | refine A_stW rfl rfl (by simp) rfl ?_ | refine A_stE rfl rfl (by first | omega | (simp; done) | (simp; omega)) rfl ?_
 | ((first | refine A_alloc rfl ?_ | refine A_box rfl rfl ?_ | refine A_boxC rfl rfl ?_ | refine A_makeN rfl rfl rfl (by omega) ?_ | refine A_make rfl rfl rfl (by omega) ?_ | refine A_bld1 rfl rfl ?_ | refine A_bld2 rfl rfl rfl ?_ | refine A_bld4 rfl rfl rfl rfl rfl ?_) <;> intro pz hpz)
 | refine A_bld0 rfl ?_ | (refine A_app rfl rfl rfl (by first | omega | (simp; done) | (simp; omega)) (by first | omega | (simp; done) | (simp; omega)) (by omega) ?_; intro pz) | (refine A_appN (enc := ic) rfl (by decide) rfl rfl (by first | omega | (simp; done) | (simp; omega)) (by omega) ?_; intro pz)
 | refine A_chk rfl rfl (by simp only [List.mem_cons, List.not_mem_nil, or_false, forall_eq_or_imp, forall_eq]; repeat' (first | exact ⟨_, rfl, inferInstance⟩ | apply And.intro)) ?_ | refine A_chkI rfl (by assumption) rfl (by simp) ?_
 | refine A_ret1 rfl (by first | exact (RP.t rfl RP.nil) | exact (RP.c rfl inferInstance rfl (by simp) RP.nil)) ?_ | refine A_ret rfl (by first | exact (RP.t rfl (RP.t rfl RP.nil)) | exact (RP.c rfl inferInstance rfl (by simp) (RP.t rfl RP.nil)) | exact (RP.t rfl (RP.t rfl (RP.t rfl RP.nil))) | exact (RP.c rfl inferInstance rfl (by simp) (RP.t rfl (RP.t rfl RP.nil))) | exact (RP.c rfl inferInstance rfl (by simp) (RP.t rfl (RP.t rfl (RP.t rfl (RP.t rfl RP.nil)))))) ?_ | refine A_ret0 rfl ?_)
  all_goals exact R_v rfl

end Go.Proofs.Ytblidekcilkcjaa
