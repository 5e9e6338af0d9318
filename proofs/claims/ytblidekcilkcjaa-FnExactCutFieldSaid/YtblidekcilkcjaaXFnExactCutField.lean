/- The law FnExactCutField runs to true. -/
import Derived.Test.YtblidekcilkcjaaXfieldS
import Derived.Test.YtblidekcilkcjaaFB
namespace Go.Proofs.Ytblidekcilkcjaa
open Go Go.RowKit
set_option linter.unusedVariables false
set_option linter.unusedSimpArgs false
set_option maxRecDepth 100000
set_option maxHeartbeats 8000000
-- laws.FnExactCutField
def L8 : AFun := ⟨116, [.t 10],
 (.seq (.ops false [⟨(some 5), .box 31 (.t 0), none, []⟩,
   ⟨(some 10), .mv (.k (bv false)), none, []⟩])
 (.seq (.ops false [⟨(some 11), .mv (.k (iv 1048576)), none, []⟩])
 (.seq (.ops false [⟨(some 22), .load true 3 (.t 5), none, []⟩,
   ⟨(some 23), .mv (.t 11), none, []⟩,
   ⟨(some 24), .call (.f 20) [(.t 22), (.t 23)], none, []⟩,
   ⟨(some 11), .mv (.t 24), none, []⟩])
 (.seq (.seq (.ops false [⟨(some 25), .mv (.t 11), none, []⟩,
    ⟨(some 26), .bin .lss (.t 25) (.k (iv 0)), none, []⟩])
  (.cond (.t 26) (.seq (.ops false [⟨(some 10), .mv (.k (bv true)), none, []⟩])
   .ret)
   .skip))
 (.seq (.ops false [⟨(some 28), .load true 3 (.t 5), none, []⟩,
   ⟨(some 29), .call (.f 22) [(.t 28)], none, []⟩,
   ⟨(some 30), .mv (.t 1), none, []⟩,
   ⟨(some 31), .mv (.t 2), none, []⟩,
   ⟨(some 32), .mv (.t 3), none, []⟩,
   ⟨(some 33), .mv (.t 4), none, []⟩,
   ⟨(some 34), .call (.f 30) [(.t 29), (.t 30), (.t 31), (.t 32), (.t 33)], none, []⟩,
   ⟨(some 27), .mv (.t 34), none, []⟩,
   ⟨(some 35), .ext (.t 27) 0, none, []⟩,
   ⟨(some 36), .ext (.t 27) 1, none, []⟩,
   ⟨(some 12), .alloc 25 [.int .i64 0, .int .i64 0, .sl 0 0 0], none, []⟩,
   ⟨none, .store 3 (.t 12) (.t 35), none, []⟩,
   ⟨(some 13), .mv (.t 36), none, []⟩])
 (.seq (.ops false [⟨(some 37), .load true 3 (.t 5), none, []⟩,
   ⟨(some 38), .call (.f 22) [(.t 37)], none, []⟩,
   ⟨(some 14), .alloc 25 [.int .i64 0, .int .i64 0, .sl 0 0 0], none, []⟩,
   ⟨none, .store 3 (.t 14) (.t 38), none, []⟩])
 (.seq (.ops false [⟨(some 40), .load true 3 (.t 14), none, []⟩,
   ⟨(some 41), .mv (.t 1), none, []⟩,
   ⟨(some 42), .mv (.t 2), none, []⟩,
   ⟨(some 43), .mv (.t 3), none, []⟩,
   ⟨(some 44), .mv (.t 4), none, []⟩,
   ⟨(some 45), .call (.f 31) [(.t 40), (.t 41), (.t 42), (.t 43), (.t 44)], none, []⟩,
   ⟨(some 39), .mv (.t 45), none, []⟩,
   ⟨(some 46), .ext (.t 39) 0, none, []⟩,
   ⟨(some 47), .ext (.t 39) 1, none, []⟩,
   ⟨(some 15), .alloc 25 [.int .i64 0, .int .i64 0, .sl 0 0 0], none, []⟩,
   ⟨none, .store 3 (.t 15) (.t 46), none, []⟩,
   ⟨(some 16), .mv (.t 47), none, []⟩])
 (.seq (.seq (.ops false [⟨(some 48), .load true 3 (.t 15), none, []⟩,
    ⟨(some 49), .load true 3 (.t 12), none, []⟩,
    ⟨(some 50), .call (.f 17) [(.t 48), (.t 49)], none, []⟩,
    ⟨(some 51), .un .not (.t 50), none, []⟩,
    ⟨(some 52), .mv (.t 51), none, []⟩,
    ⟨(some 53), .mv (.t 16), (some (52, false)), []⟩,
    ⟨(some 54), .mv (.t 13), (some (52, false)), []⟩,
    ⟨(some 55), .beq true (.t 53) (.t 54), (some (52, false)), []⟩,
    ⟨(some 56), .pick (.t 52) (.k (bv true)) (.t 55), none, []⟩])
  (.cond (.t 56) (.seq (.ops false [⟨(some 10), .mv (.k (bv false)), none, []⟩])
   .ret)
   .skip))
 (.seq (.seq (.ops true [⟨(some 58), .load true 3 (.t 5), none, []⟩,
    ⟨(some 59), .call (.f 22) [(.t 58)], none, []⟩,
    ⟨(some 57), .load true 3 (.t 14), none, [0]⟩,
    ⟨(some 60), .call (.f 17) [(.t 57), (.t 59)], none, []⟩,
    ⟨(some 61), .un .not (.t 60), none, []⟩])
  (.cond (.t 61) (.seq (.ops false [⟨(some 10), .mv (.k (bv false)), none, []⟩])
   .ret)
   .skip))
 (.seq (.ops false [⟨(some 17), .mv (.k (iv 1)), none, []⟩])
 (.seq (.ops false [⟨(some 62), .load true 3 (.t 14), none, []⟩,
   ⟨(some 63), .mv (.t 17), none, []⟩,
   ⟨(some 64), .call (.f 18) [(.t 62), (.t 63)], none, []⟩,
   ⟨(some 17), .mv (.t 64), none, []⟩])
 (.seq (.seq (.ops false [⟨(some 65), .mv (.t 17), none, []⟩,
    ⟨(some 66), .bin .lss (.t 65) (.k (iv 0)), none, []⟩,
    ⟨(some 67), .mv (.t 66), none, []⟩,
    ⟨(some 68), .load true 3 (.t 15), (some (67, false)), []⟩,
    ⟨(some 69), .load true 3 (.t 12), (some (67, false)), []⟩,
    ⟨(some 70), .call (.f 17) [(.t 68), (.t 69)], (some (67, false)), []⟩,
    ⟨(some 71), .un .not (.t 70), (some (67, false)), []⟩,
    ⟨(some 72), .pick (.t 67) (.k (bv true)) (.t 71), none, []⟩,
    ⟨(some 73), .mv (.t 72), none, []⟩,
    ⟨(some 74), .mv (.t 16), (some (73, false)), []⟩,
    ⟨(some 75), .mv (.t 13), (some (73, false)), []⟩,
    ⟨(some 76), .beq true (.t 74) (.t 75), (some (73, false)), []⟩,
    ⟨(some 77), .pick (.t 73) (.k (bv true)) (.t 76), none, []⟩])
  (.cond (.t 77) (.seq (.ops false [⟨(some 10), .mv (.k (bv false)), none, []⟩])
   .ret)
   .skip))
 (.seq (.ops false [⟨(some 18), .mv (.k (iv 1)), none, []⟩])
 (.seq (.ops false [⟨(some 78), .load true 3 (.t 15), none, []⟩,
   ⟨(some 79), .mv (.t 18), none, []⟩,
   ⟨(some 80), .call (.f 18) [(.t 78), (.t 79)], none, []⟩,
   ⟨(some 18), .mv (.t 80), none, []⟩])
 (.seq (.ops false [⟨(some 19), .mv (.k (iv 1)), none, []⟩])
 (.seq (.ops false [⟨(some 81), .load true 3 (.t 15), none, []⟩,
   ⟨(some 82), .mv (.t 19), none, []⟩,
   ⟨(some 83), .call (.f 19) [(.t 81), (.t 82)], none, []⟩,
   ⟨(some 19), .mv (.t 83), none, []⟩])
 (.seq (.seq (.ops false [⟨(some 84), .mv (.t 19), none, []⟩,
    ⟨(some 85), .bin .lss (.t 84) (.k (iv 0)), none, []⟩])
  (.cond (.t 85) (.seq (.ops false [⟨(some 10), .mv (.k (bv false)), none, []⟩])
   .ret)
   .skip))
 (.seq (.seq (.ops false [⟨(some 86), .mv (.t 19), none, []⟩,
    ⟨(some 87), .mv (.t 18), none, []⟩,
    ⟨(some 88), .bin .neq (.t 86) (.t 87), none, []⟩])
  (.cond (.t 88) (.seq (.ops false [⟨(some 10), .mv (.k (bv false)), none, []⟩])
   .ret)
   .skip))
 (.seq (.ops false [⟨(some 90), .load true 3 (.t 5), none, []⟩,
   ⟨(some 91), .call (.f 22) [(.t 90)], none, []⟩,
   ⟨(some 92), .mv (.t 1), none, []⟩,
   ⟨(some 93), .mv (.t 2), none, []⟩,
   ⟨(some 94), .mv (.t 3), none, []⟩,
   ⟨(some 95), .mv (.t 4), none, []⟩,
   ⟨(some 96), .call (.f 31) [(.t 91), (.t 92), (.t 93), (.t 94), (.t 95)], none, []⟩,
   ⟨(some 89), .mv (.t 96), none, []⟩,
   ⟨(some 97), .ext (.t 89) 0, none, []⟩,
   ⟨(some 98), .ext (.t 89) 1, none, []⟩,
   ⟨(some 20), .alloc 25 [.int .i64 0, .int .i64 0, .sl 0 0 0], none, []⟩,
   ⟨none, .store 3 (.t 20) (.t 97), none, []⟩,
   ⟨(some 21), .mv (.t 98), none, []⟩])
 (.seq (.seq (.ops false [⟨(some 99), .load true 3 (.t 20), none, []⟩,
    ⟨(some 100), .load true 3 (.t 12), none, []⟩,
    ⟨(some 101), .call (.f 17) [(.t 99), (.t 100)], none, []⟩,
    ⟨(some 102), .un .not (.t 101), none, []⟩,
    ⟨(some 103), .mv (.t 102), none, []⟩,
    ⟨(some 104), .mv (.t 21), (some (103, false)), []⟩,
    ⟨(some 105), .mv (.t 13), (some (103, false)), []⟩,
    ⟨(some 106), .beq true (.t 104) (.t 105), (some (103, false)), []⟩,
    ⟨(some 107), .pick (.t 103) (.k (bv true)) (.t 106), none, []⟩])
  (.cond (.t 107) (.seq (.ops false [⟨(some 10), .mv (.k (bv false)), none, []⟩])
   .ret)
   .skip))
 (.seq (.ops false [⟨(some 19), .mv (.k (iv 1)), none, []⟩])
 (.seq (.ops false [⟨(some 108), .load true 3 (.t 15), none, []⟩,
   ⟨(some 109), .mv (.t 19), none, []⟩,
   ⟨(some 110), .call (.f 19) [(.t 108), (.t 109)], none, []⟩,
   ⟨(some 19), .mv (.t 110), none, []⟩])
 (.seq (.seq (.ops false [⟨(some 111), .mv (.t 19), none, []⟩,
    ⟨(some 112), .bin .lss (.t 111) (.k (iv 0)), none, []⟩])
  (.cond (.t 112) (.seq (.ops false [⟨(some 10), .mv (.k (bv false)), none, []⟩])
   .ret)
   .skip))
 (.seq (.seq (.ops false [⟨(some 113), .mv (.t 19), none, []⟩,
    ⟨(some 114), .mv (.t 18), none, []⟩,
    ⟨(some 115), .bin .neq (.t 113) (.t 114), none, []⟩])
  (.cond (.t 115) (.seq (.ops false [⟨(some 10), .mv (.k (bv false)), none, []⟩])
   .ret)
   .skip))
 (.seq (.ops false [⟨(some 10), .mv (.k (bv true)), none, []⟩])
 .ret)))))))))))))))))))))))))⟩
theorem code8 : acode Try.prog hints 8 = some L8 := by kernel_rfl

theorem c_FnExactCutField {s : St} [Wf s] {a0_0 : Int} (w0_0 : -9223372036854775808 ≤ a0_0 ∧ a0_0 ≤ 9223372036854775807) {a0_1 : Int} (w0_1 : -9223372036854775808 ≤ a0_1 ∧ a0_1 ≤ 9223372036854775807) {i0_2 o0_2 n0_2 : Nat} {x0_2 : List Int} (h0_2 : ArgE ic s i0_2 o0_2 x0_2) (l0_2 : x0_2.length = n0_2) (b0_2 : ∀ n ∈ x0_2, -9223372036854775808 ≤ n ∧ n ≤ 9223372036854775807) (u0_2 : n0_2 ≤ 9223372036854775807) {a1 : Int} (w1 : -9223372036854775808 ≤ a1 ∧ a1 ≤ 9223372036854775807) {a2 : Int} (w2 : -9223372036854775808 ≤ a2 ∧ a2 ≤ 9223372036854775807) {a3 : Int} (w3 : -9223372036854775808 ≤ a3 ∧ a3 ≤ 9223372036854775807) {a4 : Int} (w4 : -9223372036854775808 ≤ a4 ∧ a4 ≤ 9223372036854775807) :
    FnV 8 [.agg [.int .i64 a0_0, .int .i64 a0_1, .sl i0_2 o0_2 n0_2], .c (.int .i64 a1), .c (.int .i64 a2), .c (.int .i64 a3), .c (.int .i64 a4)] s (bv true) := by
  refine F_start code8 ?_
  repeat' (first
 | refine A_go rfl ?_ | refine A_ifT rfl rfl ?_ | refine A_ifF rfl rfl ?_ | refine A_offP rfl rfl ?_ | refine A_offH rfl rfl ?_ | refine A_off0 rfl rfl ?_
 | refine A_add rfl rfl rfl (by omega) ?_ | refine A_sub rfl rfl rfl (by omega) ?_ | refine A_mul rfl rfl rfl (by omega) ?_ | refine A_rem rfl rfl rfl (by omega) ?_ | refine A_remT rfl rfl rfl (by omega) ?_ | refine A_quo rfl rfl rfl (by omega) ?_
 | ((first | refine A_lt rfl rfl rfl ?_ ?_ | refine A_le rfl rfl rfl ?_ ?_ | refine A_gt rfl rfl rfl ?_ ?_ | refine A_ge rfl rfl rfl ?_ ?_ | refine A_eq rfl rfl rfl ?_ ?_ | refine A_ne rfl rfl rfl ?_ ?_ | refine A_beq rfl rfl rfl ?_ ?_) <;> intro hc <;> try first | contradiction | (exfalso; omega) | exact absurd rfl hc)
 | refine A_idxN1 rfl rfl rfl (by omega) ?_ | refine A_idx1 rfl rfl rfl (by omega) ?_ | refine A_idxArr1 rfl rfl rfl (by omega) ?_
 | (refine A_callM rfl rfl (fun s H => c_szField) ?_; rintro _ _ ⟨⟨l, rfl, hl1, hl2⟩, rfl⟩) | (refine A_callM0 rfl rfl (fun s H => c_szField) ?_; rintro _ _ ⟨⟨l, rfl, hl1, hl2⟩, rfl⟩)
 | (refine A_callM rfl rfl (fun s H => c_toField) ?_; rintro _ _ ⟨pz, rfl, rfl⟩) | (refine A_callM0 rfl rfl (fun s H => c_toField) ?_; rintro _ _ ⟨pz, rfl, rfl⟩)
 | (refine A_callM rfl rfl (fun s H => c_specCutField) ?_; rintro _ _ ⟨pz, rfl, rfl, hlen⟩) | (refine A_callM0 rfl rfl (fun s H => c_specCutField) ?_; rintro _ _ ⟨pz, rfl, rfl, hlen⟩)
 | (refine A_callM rfl rfl (fun s H => c_implCutField) ?_; rintro _ _ ⟨pz, rfl, rfl, hlen⟩) | (refine A_callM0 rfl rfl (fun s H => c_implCutField) ?_; rintro _ _ ⟨pz, rfl, rfl, hlen⟩)
 | (refine A_callB rfl rfl (fun s H => c_eqField) ?_ ?_ <;> intro hc <;> try first | contradiction | (exfalso; omega) | exact absurd rfl hc | exact absurd (And.intro rfl rfl) hc | exact absurd (And.intro rfl (And.intro rfl rfl)) hc)
 | (refine A_callM rfl rfl (fun s H => c_markField) ?_; rintro _ _ ⟨rfl, rfl⟩) | (refine A_callM0 rfl rfl (fun s H => c_markField) ?_; rintro _ _ ⟨rfl, rfl⟩)
 | refine A_callV rfl rfl (fun s H => c_heldField) ?_
 | refine A_fld rfl rfl ?_ | refine A_mk3 rfl rfl rfl rfl ?_ | refine A_mk23 rfl rfl rfl ?_ | refine A_mk2 rfl rfl rfl ?_ | refine A_p (by rfl) rfl ?_
 | refine A_ldI rfl (by first | omega | (simp; done) | (simp; omega)) rfl ?_ | refine A_ldB rfl (by first | omega | (simp; done) | (simp; omega)) rfl ?_ | refine A_ld rfl (by rfl) rfl ?_ | refine A_ldW rfl (by simp) rfl ?_
 | refine A_st rfl rfl rfl ?_ | refine A_stW rfl rfl (by simp) rfl ?_ | refine A_stE rfl rfl (by first | omega | (simp; done) | (simp; omega)) rfl ?_
 | ((first | refine A_alloc rfl ?_ | refine A_box rfl rfl ?_ | refine A_boxC rfl rfl ?_ | refine A_makeN rfl rfl rfl (by omega) ?_ | refine A_make rfl rfl rfl (by omega) ?_ | refine A_bld1 rfl rfl ?_ | refine A_bld2 rfl rfl rfl ?_ | refine A_bld4 rfl rfl rfl rfl rfl ?_) <;> intro pz hpz)
 | refine A_bld0 rfl ?_ | (refine A_app rfl rfl rfl (by first | omega | (simp; done) | (simp; omega)) (by first | omega | (simp; done) | (simp; omega)) (by omega) ?_; intro pz) | (refine A_appN (enc := ic) rfl (by decide) rfl rfl (by first | omega | (simp; done) | (simp; omega)) (by omega) ?_; intro pz)
 | refine A_chk rfl rfl (by simp only [List.mem_cons, List.not_mem_nil, or_false, forall_eq_or_imp, forall_eq]; repeat' (first | exact ⟨_, rfl, inferInstance⟩ | apply And.intro)) ?_ | refine A_chkI rfl (by assumption) rfl (by simp) ?_
 | refine A_ret1 rfl (by first | exact (RP.t rfl RP.nil) | exact (RP.c rfl inferInstance rfl (by simp) RP.nil)) ?_ | refine A_ret rfl (by first | exact (RP.t rfl (RP.t rfl RP.nil)) | exact (RP.c rfl inferInstance rfl (by simp) (RP.t rfl RP.nil)) | exact (RP.t rfl (RP.t rfl (RP.t rfl RP.nil))) | exact (RP.c rfl inferInstance rfl (by simp) (RP.t rfl (RP.t rfl RP.nil))) | exact (RP.c rfl inferInstance rfl (by simp) (RP.t rfl (RP.t rfl (RP.t rfl (RP.t rfl RP.nil)))))) ?_ | refine A_ret0 rfl ?_)
  all_goals exact R_v rfl

end Go.Proofs.Ytblidekcilkcjaa
