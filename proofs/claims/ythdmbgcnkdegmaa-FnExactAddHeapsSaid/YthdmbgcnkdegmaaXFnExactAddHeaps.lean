/- The law FnExactAddHeaps runs to true. -/
import Derived.Test.YthdmbgcnkdegmaaXaddHeaps
import Derived.Test.YthdmbgcnkdegmaaFB
namespace Go.Proofs.Ythdmbgcnkdegmaa
open Go Go.RowKit
set_option linter.unusedVariables false
set_option linter.unusedSimpArgs false
set_option maxRecDepth 100000
set_option maxHeartbeats 8000000
-- laws.FnExactAddHeaps
def L4 : AFun := ⟨119, [.t 4],
 (.seq (.ops false [⟨(some 2), .box 24 (.t 0), none, []⟩,
   ⟨(some 3), .box 24 (.t 1), none, []⟩,
   ⟨(some 4), .mv (.k (bv false)), none, []⟩])
 (.seq (.ops false [⟨(some 5), .mv (.k (iv 1048576)), none, []⟩])
 (.seq (.ops false [⟨(some 17), .load true 3 (.t 2), none, []⟩,
   ⟨(some 18), .mv (.t 5), none, []⟩,
   ⟨(some 19), .call (.f 15) [(.t 17), (.t 18)], none, []⟩,
   ⟨(some 5), .mv (.t 19), none, []⟩])
 (.seq (.seq (.ops false [⟨(some 20), .mv (.t 5), none, []⟩,
    ⟨(some 21), .bin .lss (.t 20) (.k (iv 0)), none, []⟩])
  (.cond (.t 21) (.seq (.ops false [⟨(some 4), .mv (.k (bv true)), none, []⟩])
   .ret)
   .skip))
 (.seq (.ops false [⟨(some 22), .load true 3 (.t 3), none, []⟩,
   ⟨(some 23), .mv (.t 5), none, []⟩,
   ⟨(some 24), .call (.f 15) [(.t 22), (.t 23)], none, []⟩,
   ⟨(some 5), .mv (.t 24), none, []⟩])
 (.seq (.seq (.ops false [⟨(some 25), .mv (.t 5), none, []⟩,
    ⟨(some 26), .bin .lss (.t 25) (.k (iv 0)), none, []⟩])
  (.cond (.t 26) (.seq (.ops false [⟨(some 4), .mv (.k (bv true)), none, []⟩])
   .ret)
   .skip))
 (.seq (.ops true [⟨(some 28), .load true 3 (.t 2), none, []⟩,
   ⟨(some 29), .call (.f 17) [(.t 28)], none, []⟩,
   ⟨(some 30), .load true 3 (.t 3), none, [0]⟩,
   ⟨(some 31), .call (.f 17) [(.t 30)], none, []⟩,
   ⟨(some 32), .call (.f 22) [(.t 29), (.t 31)], none, []⟩,
   ⟨(some 27), .mv (.t 32), none, []⟩,
   ⟨(some 33), .ext (.t 27) 0, none, []⟩,
   ⟨(some 6), .alloc 26 [.int .i64 0, .int .i64 0, .sl 0 0 0], none, []⟩,
   ⟨none, .store 3 (.t 6) (.t 33), none, []⟩,
   ⟨(some 34), .ext (.t 27) 1, none, []⟩,
   ⟨(some 7), .mv (.t 34), none, []⟩])
 (.seq (.ops false [⟨(some 35), .load true 3 (.t 2), none, []⟩,
   ⟨(some 36), .call (.f 17) [(.t 35)], none, []⟩,
   ⟨(some 8), .alloc 26 [.int .i64 0, .int .i64 0, .sl 0 0 0], none, []⟩,
   ⟨none, .store 3 (.t 8) (.t 36), none, []⟩])
 (.seq (.ops false [⟨(some 37), .load true 3 (.t 3), none, []⟩,
   ⟨(some 38), .call (.f 17) [(.t 37)], none, []⟩,
   ⟨(some 9), .alloc 26 [.int .i64 0, .int .i64 0, .sl 0 0 0], none, []⟩,
   ⟨none, .store 3 (.t 9) (.t 38), none, []⟩])
 (.seq (.ops false [⟨(some 40), .load true 3 (.t 8), none, []⟩,
   ⟨(some 41), .load true 3 (.t 9), none, []⟩,
   ⟨(some 42), .call (.f 23) [(.t 40), (.t 41)], none, []⟩,
   ⟨(some 39), .mv (.t 42), none, []⟩,
   ⟨(some 43), .ext (.t 39) 0, none, []⟩,
   ⟨(some 44), .ext (.t 39) 1, none, []⟩,
   ⟨(some 10), .alloc 26 [.int .i64 0, .int .i64 0, .sl 0 0 0], none, []⟩,
   ⟨none, .store 3 (.t 10) (.t 43), none, []⟩,
   ⟨(some 11), .mv (.t 44), none, []⟩])
 (.seq (.seq (.ops false [⟨(some 45), .load true 3 (.t 10), none, []⟩,
    ⟨(some 46), .load true 3 (.t 6), none, []⟩,
    ⟨(some 47), .call (.f 19) [(.t 45), (.t 46)], none, []⟩,
    ⟨(some 48), .un .not (.t 47), none, []⟩,
    ⟨(some 49), .mv (.t 48), none, []⟩,
    ⟨(some 50), .mv (.t 11), (some (49, false)), []⟩,
    ⟨(some 51), .mv (.t 7), (some (49, false)), []⟩,
    ⟨(some 52), .beq true (.t 50) (.t 51), (some (49, false)), []⟩,
    ⟨(some 53), .pick (.t 49) (.k (bv true)) (.t 52), none, []⟩])
  (.cond (.t 53) (.seq (.ops false [⟨(some 4), .mv (.k (bv false)), none, []⟩])
   .ret)
   .skip))
 (.seq (.seq (.ops true [⟨(some 55), .load true 3 (.t 2), none, []⟩,
    ⟨(some 56), .call (.f 17) [(.t 55)], none, []⟩,
    ⟨(some 54), .load true 3 (.t 8), none, [0]⟩,
    ⟨(some 57), .call (.f 19) [(.t 54), (.t 56)], none, []⟩,
    ⟨(some 58), .un .not (.t 57), none, []⟩])
  (.cond (.t 58) (.seq (.ops false [⟨(some 4), .mv (.k (bv false)), none, []⟩])
   .ret)
   .skip))
 (.seq (.seq (.ops true [⟨(some 60), .load true 3 (.t 3), none, []⟩,
    ⟨(some 61), .call (.f 17) [(.t 60)], none, []⟩,
    ⟨(some 59), .load true 3 (.t 9), none, [0]⟩,
    ⟨(some 62), .call (.f 19) [(.t 59), (.t 61)], none, []⟩,
    ⟨(some 63), .un .not (.t 62), none, []⟩])
  (.cond (.t 63) (.seq (.ops false [⟨(some 4), .mv (.k (bv false)), none, []⟩])
   .ret)
   .skip))
 (.seq (.ops false [⟨(some 12), .mv (.k (iv 1)), none, []⟩])
 (.seq (.ops false [⟨(some 64), .load true 3 (.t 8), none, []⟩,
   ⟨(some 65), .mv (.t 12), none, []⟩,
   ⟨(some 66), .call (.f 20) [(.t 64), (.t 65)], none, []⟩,
   ⟨(some 12), .mv (.t 66), none, []⟩])
 (.seq (.ops false [⟨(some 67), .load true 3 (.t 9), none, []⟩,
   ⟨(some 68), .mv (.t 12), none, []⟩,
   ⟨(some 69), .call (.f 20) [(.t 67), (.t 68)], none, []⟩,
   ⟨(some 12), .mv (.t 69), none, []⟩])
 (.seq (.seq (.ops false [⟨(some 70), .mv (.t 12), none, []⟩,
    ⟨(some 71), .bin .lss (.t 70) (.k (iv 0)), none, []⟩,
    ⟨(some 72), .mv (.t 71), none, []⟩,
    ⟨(some 73), .load true 3 (.t 10), (some (72, false)), []⟩,
    ⟨(some 74), .load true 3 (.t 6), (some (72, false)), []⟩,
    ⟨(some 75), .call (.f 19) [(.t 73), (.t 74)], (some (72, false)), []⟩,
    ⟨(some 76), .un .not (.t 75), (some (72, false)), []⟩,
    ⟨(some 77), .pick (.t 72) (.k (bv true)) (.t 76), none, []⟩,
    ⟨(some 78), .mv (.t 77), none, []⟩,
    ⟨(some 79), .mv (.t 11), (some (78, false)), []⟩,
    ⟨(some 80), .mv (.t 7), (some (78, false)), []⟩,
    ⟨(some 81), .beq true (.t 79) (.t 80), (some (78, false)), []⟩,
    ⟨(some 82), .pick (.t 78) (.k (bv true)) (.t 81), none, []⟩])
  (.cond (.t 82) (.seq (.ops false [⟨(some 4), .mv (.k (bv false)), none, []⟩])
   .ret)
   .skip))
 (.seq (.ops false [⟨(some 13), .mv (.k (iv 1)), none, []⟩])
 (.seq (.ops false [⟨(some 83), .load true 3 (.t 10), none, []⟩,
   ⟨(some 84), .mv (.t 13), none, []⟩,
   ⟨(some 85), .call (.f 20) [(.t 83), (.t 84)], none, []⟩,
   ⟨(some 13), .mv (.t 85), none, []⟩])
 (.seq (.ops false [⟨(some 14), .mv (.k (iv 1)), none, []⟩])
 (.seq (.ops false [⟨(some 86), .load true 3 (.t 10), none, []⟩,
   ⟨(some 87), .mv (.t 14), none, []⟩,
   ⟨(some 88), .call (.f 21) [(.t 86), (.t 87)], none, []⟩,
   ⟨(some 14), .mv (.t 88), none, []⟩])
 (.seq (.seq (.ops false [⟨(some 89), .mv (.t 14), none, []⟩,
    ⟨(some 90), .bin .lss (.t 89) (.k (iv 0)), none, []⟩])
  (.cond (.t 90) (.seq (.ops false [⟨(some 4), .mv (.k (bv false)), none, []⟩])
   .ret)
   .skip))
 (.seq (.seq (.ops false [⟨(some 91), .mv (.t 14), none, []⟩,
    ⟨(some 92), .mv (.t 13), none, []⟩,
    ⟨(some 93), .bin .neq (.t 91) (.t 92), none, []⟩])
  (.cond (.t 93) (.seq (.ops false [⟨(some 4), .mv (.k (bv false)), none, []⟩])
   .ret)
   .skip))
 (.seq (.ops true [⟨(some 95), .load true 3 (.t 2), none, []⟩,
   ⟨(some 96), .call (.f 17) [(.t 95)], none, []⟩,
   ⟨(some 97), .load true 3 (.t 3), none, [0]⟩,
   ⟨(some 98), .call (.f 17) [(.t 97)], none, []⟩,
   ⟨(some 99), .call (.f 23) [(.t 96), (.t 98)], none, []⟩,
   ⟨(some 94), .mv (.t 99), none, []⟩,
   ⟨(some 100), .ext (.t 94) 0, none, []⟩,
   ⟨(some 15), .alloc 26 [.int .i64 0, .int .i64 0, .sl 0 0 0], none, []⟩,
   ⟨none, .store 3 (.t 15) (.t 100), none, []⟩,
   ⟨(some 101), .ext (.t 94) 1, none, []⟩,
   ⟨(some 16), .mv (.t 101), none, []⟩])
 (.seq (.seq (.ops false [⟨(some 102), .load true 3 (.t 15), none, []⟩,
    ⟨(some 103), .load true 3 (.t 6), none, []⟩,
    ⟨(some 104), .call (.f 19) [(.t 102), (.t 103)], none, []⟩,
    ⟨(some 105), .un .not (.t 104), none, []⟩,
    ⟨(some 106), .mv (.t 105), none, []⟩,
    ⟨(some 107), .mv (.t 16), (some (106, false)), []⟩,
    ⟨(some 108), .mv (.t 7), (some (106, false)), []⟩,
    ⟨(some 109), .beq true (.t 107) (.t 108), (some (106, false)), []⟩,
    ⟨(some 110), .pick (.t 106) (.k (bv true)) (.t 109), none, []⟩])
  (.cond (.t 110) (.seq (.ops false [⟨(some 4), .mv (.k (bv false)), none, []⟩])
   .ret)
   .skip))
 (.seq (.ops false [⟨(some 14), .mv (.k (iv 1)), none, []⟩])
 (.seq (.ops false [⟨(some 111), .load true 3 (.t 10), none, []⟩,
   ⟨(some 112), .mv (.t 14), none, []⟩,
   ⟨(some 113), .call (.f 21) [(.t 111), (.t 112)], none, []⟩,
   ⟨(some 14), .mv (.t 113), none, []⟩])
 (.seq (.seq (.ops false [⟨(some 114), .mv (.t 14), none, []⟩,
    ⟨(some 115), .bin .lss (.t 114) (.k (iv 0)), none, []⟩])
  (.cond (.t 115) (.seq (.ops false [⟨(some 4), .mv (.k (bv false)), none, []⟩])
   .ret)
   .skip))
 (.seq (.seq (.ops false [⟨(some 116), .mv (.t 14), none, []⟩,
    ⟨(some 117), .mv (.t 13), none, []⟩,
    ⟨(some 118), .bin .neq (.t 116) (.t 117), none, []⟩])
  (.cond (.t 118) (.seq (.ops false [⟨(some 4), .mv (.k (bv false)), none, []⟩])
   .ret)
   .skip))
 (.seq (.ops false [⟨(some 4), .mv (.k (bv true)), none, []⟩])
 .ret))))))))))))))))))))))))))))))⟩
theorem code4 : acode Try.prog hints 4 = some L4 := by kernel_rfl

theorem c_FnExactAddHeaps {s : St} [Wf s] {a0_0 : Int} (w0_0 : -9223372036854775808 ≤ a0_0 ∧ a0_0 ≤ 9223372036854775807) {a0_1 : Int} (w0_1 : -9223372036854775808 ≤ a0_1 ∧ a0_1 ≤ 9223372036854775807) {i0_2 o0_2 n0_2 : Nat} {x0_2 : List Int} (h0_2 : ArgE ic s i0_2 o0_2 x0_2) (l0_2 : x0_2.length = n0_2) (b0_2 : ∀ n ∈ x0_2, -9223372036854775808 ≤ n ∧ n ≤ 9223372036854775807) (u0_2 : n0_2 ≤ 9223372036854775807) {a1_0 : Int} (w1_0 : -9223372036854775808 ≤ a1_0 ∧ a1_0 ≤ 9223372036854775807) {a1_1 : Int} (w1_1 : -9223372036854775808 ≤ a1_1 ∧ a1_1 ≤ 9223372036854775807) {i1_2 o1_2 n1_2 : Nat} {x1_2 : List Int} (h1_2 : ArgE ic s i1_2 o1_2 x1_2) (l1_2 : x1_2.length = n1_2) (b1_2 : ∀ n ∈ x1_2, -9223372036854775808 ≤ n ∧ n ≤ 9223372036854775807) (u1_2 : n1_2 ≤ 9223372036854775807) :
    FnV 4 [.agg [.int .i64 a0_0, .int .i64 a0_1, .sl i0_2 o0_2 n0_2], .agg [.int .i64 a1_0, .int .i64 a1_1, .sl i1_2 o1_2 n1_2]] s (bv true) := by
  refine F_start code4 ?_
  repeat' (first
 | refine A_go rfl ?_ | refine A_ifT rfl rfl ?_ | refine A_ifF rfl rfl ?_ | refine A_offP rfl rfl ?_ | refine A_offH rfl rfl ?_ | refine A_off0 rfl rfl ?_
 | refine A_add rfl rfl rfl (by omega) ?_ | refine A_sub rfl rfl rfl (by omega) ?_ | refine A_mul rfl rfl rfl (by omega) ?_ | refine A_rem rfl rfl rfl (by omega) ?_ | refine A_remT rfl rfl rfl (by omega) ?_ | refine A_quo rfl rfl rfl (by omega) ?_
 | ((first | refine A_lt rfl rfl rfl ?_ ?_ | refine A_le rfl rfl rfl ?_ ?_ | refine A_gt rfl rfl rfl ?_ ?_ | refine A_ge rfl rfl rfl ?_ ?_ | refine A_eq rfl rfl rfl ?_ ?_ | refine A_ne rfl rfl rfl ?_ ?_ | refine A_beq rfl rfl rfl ?_ ?_) <;> intro hc <;> try first | contradiction | (exfalso; omega) | exact absurd rfl hc)
 | refine A_idxN1 rfl rfl rfl (by omega) ?_ | refine A_idx1 rfl rfl rfl (by omega) ?_ | refine A_idxArr1 rfl rfl rfl (by omega) ?_
 | (refine A_callM rfl rfl (fun s H => c_szField) ?_; rintro _ _ ⟨⟨l, rfl, hl1, hl2⟩, rfl⟩) | (refine A_callM0 rfl rfl (fun s H => c_szField) ?_; rintro _ _ ⟨⟨l, rfl, hl1, hl2⟩, rfl⟩)
 | (refine A_callM rfl rfl (fun s H => c_toField) ?_; rintro _ _ ⟨pz, rfl, rfl⟩) | (refine A_callM0 rfl rfl (fun s H => c_toField) ?_; rintro _ _ ⟨pz, rfl, rfl⟩)
 | (refine A_callM rfl rfl (fun s H => c_specAddHeaps) ?_; rintro _ _ ⟨pz, rfl, rfl, hlen⟩) | (refine A_callM0 rfl rfl (fun s H => c_specAddHeaps) ?_; rintro _ _ ⟨pz, rfl, rfl, hlen⟩)
 | (refine A_callM rfl rfl (fun s H => c_implAddHeaps) ?_; rintro _ _ ⟨pz, rfl, rfl, hlen⟩) | (refine A_callM0 rfl rfl (fun s H => c_implAddHeaps) ?_; rintro _ _ ⟨pz, rfl, rfl, hlen⟩)
 | (refine A_callB rfl rfl (fun s H => c_eqField) ?_ ?_ <;> intro hc <;> try first | contradiction | (exfalso; omega) | exact absurd rfl hc | exact absurd (And.intro rfl rfl) hc | exact absurd (And.intro rfl (And.intro rfl rfl)) hc)
 | (refine A_callM rfl rfl (fun s H => c_markField) ?_; rintro _ _ ⟨rfl, rfl⟩) | (refine A_callM0 rfl rfl (fun s H => c_markField) ?_; rintro _ _ ⟨rfl, rfl⟩)
 | refine A_callV rfl rfl (fun s H => c_heldField) ?_
 | refine A_fld rfl rfl ?_ | refine A_mk3 rfl rfl rfl rfl ?_ | refine A_mk23 rfl rfl rfl ?_ | refine A_mk2 rfl rfl rfl ?_ | refine A_p (by rfl) rfl ?_
 | refine A_ldI rfl (by first | omega | (simp; done) | (simp; omega)) rfl ?_ | refine A_ldB rfl (by first | omega | (simp; done) | (simp; omega)) rfl ?_ | refine A_ld rfl (by rfl) rfl ?_ | refine A_ldW rfl (by simp) rfl ?_
 | refine A_st rfl rfl rfl ?_ | refine A_stW rfl rfl (by simp) rfl ?_ | refine A_stE rfl rfl (by first | omega | (simp; done) | (simp; omega)) rfl ?_
 | ((first | refine A_alloc rfl ?_ | refine A_box rfl rfl ?_ | refine A_boxC rfl rfl ?_ | refine A_makeN rfl rfl rfl (by omega) ?_ | refine A_make rfl rfl rfl (by omega) ?_ | refine A_bld1 rfl rfl ?_ | refine A_bld2 rfl rfl rfl ?_ | refine A_bld4 rfl rfl rfl rfl rfl ?_) <;> intro pz hpz)
 | refine A_bld0 rfl ?_ | (refine A_app rfl rfl rfl (by first | omega | (simp; done) | (simp; omega)) (by first | omega | (simp; done) | (simp; omega)) (by omega) ?_; intro pz) | (refine A_appN (enc := ic) rfl (by decide) rfl rfl (by first | omega | (simp; done) | (simp; omega)) (by omega) ?_; intro pz)
 | refine A_chk1 rfl rfl rfl ?_ | refine A_chk2 rfl rfl rfl rfl ?_ | refine A_chk3 rfl rfl rfl rfl rfl ?_ | refine A_chk4 rfl rfl rfl rfl rfl rfl ?_ | refine A_chkI rfl (by assumption) rfl (by simp) ?_
 | refine A_ret1 rfl (by first | exact (RP.t rfl RP.nil) | exact (RP.c rfl inferInstance rfl (by simp) RP.nil)) ?_ | refine A_ret rfl (by first | exact (RP.t rfl (RP.t rfl RP.nil)) | exact (RP.c rfl inferInstance rfl (by simp) (RP.t rfl RP.nil)) | exact (RP.t rfl (RP.t rfl (RP.t rfl RP.nil))) | exact (RP.c rfl inferInstance rfl (by simp) (RP.t rfl (RP.t rfl RP.nil))) | exact (RP.c rfl inferInstance rfl (by simp) (RP.t rfl (RP.t rfl (RP.t rfl (RP.t rfl RP.nil)))))) ?_ | refine A_ret0 rfl ?_)
  all_goals exact R_v rfl

end Go.Proofs.Ythdmbgcnkdegmaa
