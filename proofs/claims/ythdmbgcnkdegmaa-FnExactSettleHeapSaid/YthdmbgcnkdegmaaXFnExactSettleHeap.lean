/- The law FnExactSettleHeap runs to true. -/
import Derived.Test.YthdmbgcnkdegmaaXsettleS
import Derived.Test.YthdmbgcnkdegmaaFB
namespace Go.Proofs.Ythdmbgcnkdegmaa
open Go Go.RowKit
set_option linter.unusedVariables false
set_option linter.unusedSimpArgs false
set_option maxRecDepth 100000
set_option maxHeartbeats 8000000
-- laws.FnExactSettleHeap
def L3 : AFun := ⟨117, [.t 2],
 (.seq (.ops false [⟨(some 1), .box 24 (.t 0), none, []⟩,
   ⟨(some 2), .mv (.k (bv false)), none, []⟩])
 (.seq (.ops false [⟨(some 3), .mv (.k (iv 1048576)), none, []⟩])
 (.seq (.ops false [⟨(some 17), .load true 3 (.t 1), none, []⟩,
   ⟨(some 18), .mv (.t 3), none, []⟩,
   ⟨(some 19), .call (.f 15) [(.t 17), (.t 18)], none, []⟩,
   ⟨(some 3), .mv (.t 19), none, []⟩])
 (.seq (.seq (.ops false [⟨(some 20), .mv (.t 3), none, []⟩,
    ⟨(some 21), .bin .lss (.t 20) (.k (iv 0)), none, []⟩])
  (.cond (.t 21) (.seq (.ops false [⟨(some 2), .mv (.k (bv true)), none, []⟩])
   .ret)
   .skip))
 (.seq (.ops false [⟨(some 23), .load true 3 (.t 1), none, []⟩,
   ⟨(some 24), .call (.f 17) [(.t 23)], none, []⟩,
   ⟨(some 25), .call (.f 16) [(.t 24)], none, []⟩,
   ⟨(some 22), .mv (.t 25), none, []⟩,
   ⟨(some 26), .ext (.t 22) 0, none, []⟩,
   ⟨(some 27), .ext (.t 22) 1, none, []⟩,
   ⟨(some 28), .ext (.t 22) 2, none, []⟩,
   ⟨(some 4), .alloc 26 [.int .i64 0, .int .i64 0, .sl 0 0 0], none, []⟩,
   ⟨none, .store 3 (.t 4) (.t 26), none, []⟩,
   ⟨(some 5), .mv (.t 27), none, []⟩,
   ⟨(some 6), .mv (.t 28), none, []⟩])
 (.seq (.ops false [⟨(some 29), .load true 3 (.t 1), none, []⟩,
   ⟨(some 30), .call (.f 17) [(.t 29)], none, []⟩,
   ⟨(some 7), .alloc 26 [.int .i64 0, .int .i64 0, .sl 0 0 0], none, []⟩,
   ⟨none, .store 3 (.t 7) (.t 30), none, []⟩])
 (.seq (.ops false [⟨(some 32), .load true 3 (.t 7), none, []⟩,
   ⟨(some 33), .call (.f 18) [(.t 32)], none, []⟩,
   ⟨(some 31), .mv (.t 33), none, []⟩,
   ⟨(some 34), .ext (.t 31) 0, none, []⟩,
   ⟨(some 35), .ext (.t 31) 1, none, []⟩,
   ⟨(some 36), .ext (.t 31) 2, none, []⟩,
   ⟨(some 8), .alloc 26 [.int .i64 0, .int .i64 0, .sl 0 0 0], none, []⟩,
   ⟨none, .store 3 (.t 8) (.t 34), none, []⟩,
   ⟨(some 9), .mv (.t 35), none, []⟩,
   ⟨(some 10), .mv (.t 36), none, []⟩])
 (.seq (.seq (.ops false [⟨(some 37), .load true 3 (.t 8), none, []⟩,
    ⟨(some 38), .load true 3 (.t 4), none, []⟩,
    ⟨(some 39), .call (.f 19) [(.t 37), (.t 38)], none, []⟩,
    ⟨(some 40), .un .not (.t 39), none, []⟩,
    ⟨(some 41), .mv (.t 40), none, []⟩,
    ⟨(some 42), .mv (.t 9), (some (41, false)), []⟩,
    ⟨(some 43), .mv (.t 5), (some (41, false)), []⟩,
    ⟨(some 44), .bin .neq (.t 42) (.t 43), (some (41, false)), []⟩,
    ⟨(some 45), .pick (.t 41) (.k (bv true)) (.t 44), none, []⟩,
    ⟨(some 46), .mv (.t 45), none, []⟩,
    ⟨(some 47), .mv (.t 10), (some (46, false)), []⟩,
    ⟨(some 48), .mv (.t 6), (some (46, false)), []⟩,
    ⟨(some 49), .beq true (.t 47) (.t 48), (some (46, false)), []⟩,
    ⟨(some 50), .pick (.t 46) (.k (bv true)) (.t 49), none, []⟩])
  (.cond (.t 50) (.seq (.ops false [⟨(some 2), .mv (.k (bv false)), none, []⟩])
   .ret)
   .skip))
 (.seq (.seq (.ops true [⟨(some 52), .load true 3 (.t 1), none, []⟩,
    ⟨(some 53), .call (.f 17) [(.t 52)], none, []⟩,
    ⟨(some 51), .load true 3 (.t 7), none, [0]⟩,
    ⟨(some 54), .call (.f 19) [(.t 51), (.t 53)], none, []⟩,
    ⟨(some 55), .un .not (.t 54), none, []⟩])
  (.cond (.t 55) (.seq (.ops false [⟨(some 2), .mv (.k (bv false)), none, []⟩])
   .ret)
   .skip))
 (.seq (.ops false [⟨(some 11), .mv (.k (iv 1)), none, []⟩])
 (.seq (.ops false [⟨(some 56), .load true 3 (.t 7), none, []⟩,
   ⟨(some 57), .mv (.t 11), none, []⟩,
   ⟨(some 58), .call (.f 20) [(.t 56), (.t 57)], none, []⟩,
   ⟨(some 11), .mv (.t 58), none, []⟩])
 (.seq (.seq (.ops false [⟨(some 59), .mv (.t 11), none, []⟩,
    ⟨(some 60), .bin .lss (.t 59) (.k (iv 0)), none, []⟩,
    ⟨(some 61), .mv (.t 60), none, []⟩,
    ⟨(some 62), .load true 3 (.t 8), (some (61, false)), []⟩,
    ⟨(some 63), .load true 3 (.t 4), (some (61, false)), []⟩,
    ⟨(some 64), .call (.f 19) [(.t 62), (.t 63)], (some (61, false)), []⟩,
    ⟨(some 65), .un .not (.t 64), (some (61, false)), []⟩,
    ⟨(some 66), .pick (.t 61) (.k (bv true)) (.t 65), none, []⟩,
    ⟨(some 67), .mv (.t 66), none, []⟩,
    ⟨(some 68), .mv (.t 9), (some (67, false)), []⟩,
    ⟨(some 69), .mv (.t 5), (some (67, false)), []⟩,
    ⟨(some 70), .bin .neq (.t 68) (.t 69), (some (67, false)), []⟩,
    ⟨(some 71), .pick (.t 67) (.k (bv true)) (.t 70), none, []⟩,
    ⟨(some 72), .mv (.t 71), none, []⟩,
    ⟨(some 73), .mv (.t 10), (some (72, false)), []⟩,
    ⟨(some 74), .mv (.t 6), (some (72, false)), []⟩,
    ⟨(some 75), .beq true (.t 73) (.t 74), (some (72, false)), []⟩,
    ⟨(some 76), .pick (.t 72) (.k (bv true)) (.t 75), none, []⟩])
  (.cond (.t 76) (.seq (.ops false [⟨(some 2), .mv (.k (bv false)), none, []⟩])
   .ret)
   .skip))
 (.seq (.ops false [⟨(some 12), .mv (.k (iv 1)), none, []⟩])
 (.seq (.ops false [⟨(some 77), .load true 3 (.t 8), none, []⟩,
   ⟨(some 78), .mv (.t 12), none, []⟩,
   ⟨(some 79), .call (.f 20) [(.t 77), (.t 78)], none, []⟩,
   ⟨(some 12), .mv (.t 79), none, []⟩])
 (.seq (.ops false [⟨(some 13), .mv (.k (iv 1)), none, []⟩])
 (.seq (.ops false [⟨(some 80), .load true 3 (.t 8), none, []⟩,
   ⟨(some 81), .mv (.t 13), none, []⟩,
   ⟨(some 82), .call (.f 21) [(.t 80), (.t 81)], none, []⟩,
   ⟨(some 13), .mv (.t 82), none, []⟩])
 (.seq (.seq (.ops false [⟨(some 83), .mv (.t 13), none, []⟩,
    ⟨(some 84), .bin .lss (.t 83) (.k (iv 0)), none, []⟩])
  (.cond (.t 84) (.seq (.ops false [⟨(some 2), .mv (.k (bv false)), none, []⟩])
   .ret)
   .skip))
 (.seq (.seq (.ops false [⟨(some 85), .mv (.t 13), none, []⟩,
    ⟨(some 86), .mv (.t 12), none, []⟩,
    ⟨(some 87), .bin .neq (.t 85) (.t 86), none, []⟩])
  (.cond (.t 87) (.seq (.ops false [⟨(some 2), .mv (.k (bv false)), none, []⟩])
   .ret)
   .skip))
 (.seq (.ops false [⟨(some 89), .load true 3 (.t 1), none, []⟩,
   ⟨(some 90), .call (.f 17) [(.t 89)], none, []⟩,
   ⟨(some 91), .call (.f 18) [(.t 90)], none, []⟩,
   ⟨(some 88), .mv (.t 91), none, []⟩,
   ⟨(some 92), .ext (.t 88) 0, none, []⟩,
   ⟨(some 93), .ext (.t 88) 1, none, []⟩,
   ⟨(some 94), .ext (.t 88) 2, none, []⟩,
   ⟨(some 14), .alloc 26 [.int .i64 0, .int .i64 0, .sl 0 0 0], none, []⟩,
   ⟨none, .store 3 (.t 14) (.t 92), none, []⟩,
   ⟨(some 15), .mv (.t 93), none, []⟩,
   ⟨(some 16), .mv (.t 94), none, []⟩])
 (.seq (.seq (.ops false [⟨(some 95), .load true 3 (.t 14), none, []⟩,
    ⟨(some 96), .load true 3 (.t 4), none, []⟩,
    ⟨(some 97), .call (.f 19) [(.t 95), (.t 96)], none, []⟩,
    ⟨(some 98), .un .not (.t 97), none, []⟩,
    ⟨(some 99), .mv (.t 98), none, []⟩,
    ⟨(some 100), .mv (.t 15), (some (99, false)), []⟩,
    ⟨(some 101), .mv (.t 5), (some (99, false)), []⟩,
    ⟨(some 102), .bin .neq (.t 100) (.t 101), (some (99, false)), []⟩,
    ⟨(some 103), .pick (.t 99) (.k (bv true)) (.t 102), none, []⟩,
    ⟨(some 104), .mv (.t 103), none, []⟩,
    ⟨(some 105), .mv (.t 16), (some (104, false)), []⟩,
    ⟨(some 106), .mv (.t 6), (some (104, false)), []⟩,
    ⟨(some 107), .beq true (.t 105) (.t 106), (some (104, false)), []⟩,
    ⟨(some 108), .pick (.t 104) (.k (bv true)) (.t 107), none, []⟩])
  (.cond (.t 108) (.seq (.ops false [⟨(some 2), .mv (.k (bv false)), none, []⟩])
   .ret)
   .skip))
 (.seq (.ops false [⟨(some 13), .mv (.k (iv 1)), none, []⟩])
 (.seq (.ops false [⟨(some 109), .load true 3 (.t 8), none, []⟩,
   ⟨(some 110), .mv (.t 13), none, []⟩,
   ⟨(some 111), .call (.f 21) [(.t 109), (.t 110)], none, []⟩,
   ⟨(some 13), .mv (.t 111), none, []⟩])
 (.seq (.seq (.ops false [⟨(some 112), .mv (.t 13), none, []⟩,
    ⟨(some 113), .bin .lss (.t 112) (.k (iv 0)), none, []⟩])
  (.cond (.t 113) (.seq (.ops false [⟨(some 2), .mv (.k (bv false)), none, []⟩])
   .ret)
   .skip))
 (.seq (.seq (.ops false [⟨(some 114), .mv (.t 13), none, []⟩,
    ⟨(some 115), .mv (.t 12), none, []⟩,
    ⟨(some 116), .bin .neq (.t 114) (.t 115), none, []⟩])
  (.cond (.t 116) (.seq (.ops false [⟨(some 2), .mv (.k (bv false)), none, []⟩])
   .ret)
   .skip))
 (.seq (.ops false [⟨(some 2), .mv (.k (bv true)), none, []⟩])
 .ret)))))))))))))))))))))))))⟩
theorem code3 : acode Try.prog hints 3 = some L3 := by kernel_rfl

theorem c_FnExactSettleHeap {s : St} [Wf s] {a0_0 : Int} (w0_0 : -9223372036854775808 ≤ a0_0 ∧ a0_0 ≤ 9223372036854775807) {a0_1 : Int} (w0_1 : -9223372036854775808 ≤ a0_1 ∧ a0_1 ≤ 9223372036854775807) {i0_2 o0_2 n0_2 : Nat} {x0_2 : List Int} (h0_2 : ArgE ic s i0_2 o0_2 x0_2) (l0_2 : x0_2.length = n0_2) (b0_2 : ∀ n ∈ x0_2, -9223372036854775808 ≤ n ∧ n ≤ 9223372036854775807) (u0_2 : n0_2 ≤ 9223372036854775807) :
    FnV 3 [.agg [.int .i64 a0_0, .int .i64 a0_1, .sl i0_2 o0_2 n0_2]] s (bv true) := by
  refine F_start code3 ?_
  repeat' (first
 | refine A_go rfl ?_ | refine A_ifT rfl rfl ?_ | refine A_ifF rfl rfl ?_ | refine A_offP rfl rfl ?_ | refine A_offH rfl rfl ?_ | refine A_off0 rfl rfl ?_
 | refine A_add rfl rfl rfl (by omega) ?_ | refine A_sub rfl rfl rfl (by omega) ?_ | refine A_mul rfl rfl rfl (by omega) ?_ | refine A_rem rfl rfl rfl (by omega) ?_ | refine A_remT rfl rfl rfl (by omega) ?_ | refine A_quo rfl rfl rfl (by omega) ?_
 | ((first | refine A_lt rfl rfl rfl ?_ ?_ | refine A_le rfl rfl rfl ?_ ?_ | refine A_gt rfl rfl rfl ?_ ?_ | refine A_ge rfl rfl rfl ?_ ?_ | refine A_eq rfl rfl rfl ?_ ?_ | refine A_ne rfl rfl rfl ?_ ?_ | refine A_beq rfl rfl rfl ?_ ?_) <;> intro hc <;> try first | contradiction | (exfalso; omega) | exact absurd rfl hc)
 | refine A_idxN1 rfl rfl rfl (by omega) ?_ | refine A_idx1 rfl rfl rfl (by omega) ?_ | refine A_idxArr1 rfl rfl rfl (by omega) ?_
 | (refine A_callM rfl rfl (fun s H => c_szField) ?_; rintro _ _ ⟨⟨l, rfl, hl1, hl2⟩, rfl⟩) | (refine A_callM0 rfl rfl (fun s H => c_szField) ?_; rintro _ _ ⟨⟨l, rfl, hl1, hl2⟩, rfl⟩)
 | (refine A_callM rfl rfl (fun s H => c_toField) ?_; rintro _ _ ⟨pz, rfl, rfl⟩) | (refine A_callM0 rfl rfl (fun s H => c_toField) ?_; rintro _ _ ⟨pz, rfl, rfl⟩)
 | (refine A_callM rfl rfl (fun s H => c_specSettleHeap) ?_; rintro _ _ ⟨pz, rfl, rfl, hlen⟩) | (refine A_callM0 rfl rfl (fun s H => c_specSettleHeap) ?_; rintro _ _ ⟨pz, rfl, rfl, hlen⟩)
 | (refine A_callM rfl rfl (fun s H => c_implSettleHeap) ?_; rintro _ _ ⟨pz, rfl, rfl, hlen⟩) | (refine A_callM0 rfl rfl (fun s H => c_implSettleHeap) ?_; rintro _ _ ⟨pz, rfl, rfl, hlen⟩)
 | (refine A_callB rfl rfl (fun s H => c_eqField) ?_ ?_ <;> intro hc <;> try first | contradiction | (exfalso; omega) | exact absurd rfl hc | exact absurd (And.intro rfl rfl) hc | exact absurd (And.intro rfl (And.intro rfl rfl)) hc)
 | (refine A_callM rfl rfl (fun s H => c_markField) ?_; rintro _ _ ⟨rfl, rfl⟩) | (refine A_callM0 rfl rfl (fun s H => c_markField) ?_; rintro _ _ ⟨rfl, rfl⟩)
 | refine A_callV rfl rfl (fun s H => c_heldField) ?_
 | refine A_fld rfl rfl ?_ | refine A_mk3 rfl rfl rfl rfl ?_ | refine A_mk23 rfl rfl rfl ?_ | refine A_mk2 rfl rfl rfl ?_ | refine A_p (by rfl) rfl ?_
 | refine A_ldI rfl (by first | omega | (simp; done) | (simp; omega)) rfl ?_ | refine A_ldB rfl (by first | omega | (simp; done) | (simp; omega)) rfl ?_ | refine A_ld rfl (by rfl) rfl ?_ | refine A_ldW rfl (by simp) rfl ?_
 | refine A_st rfl rfl rfl ?_ | refine A_stW rfl rfl (by simp) rfl ?_ | refine A_stE rfl rfl (by first | omega | (simp; done) | (simp; omega)) rfl ?_
 | ((first | refine A_alloc rfl ?_ | refine A_box rfl rfl ?_ | refine A_boxC rfl rfl ?_ | refine A_makeN rfl rfl rfl (by omega) ?_ | refine A_make rfl rfl rfl (by omega) ?_ | refine A_bld1 rfl rfl ?_ | refine A_bld2 rfl rfl rfl ?_ | refine A_bld4 rfl rfl rfl rfl rfl ?_) <;> intro pz hpz)
 | refine A_bld0 rfl ?_ | (refine A_app rfl rfl rfl (by first | omega | (simp; done) | (simp; omega)) (by first | omega | (simp; done) | (simp; omega)) (by omega) ?_; intro pz) | (refine A_appN (enc := ic) rfl (by decide) rfl rfl (by first | omega | (simp; done) | (simp; omega)) (by omega) ?_; intro pz)
 | refine A_chk1 rfl rfl rfl ?_ | refine A_chk2 rfl rfl rfl rfl ?_ | refine A_chk3 rfl rfl rfl rfl rfl ?_ | refine A_chk4 rfl rfl rfl rfl rfl rfl ?_ | refine A_chkI rfl (by assumption) rfl (by simp) ?_
 | refine A_ret1 rfl (by first | exact (RP.t rfl RP.nil) | exact (RP.c rfl inferInstance rfl (by simp) RP.nil)) ?_ | refine A_ret rfl (by first | exact (RP.t rfl (RP.t rfl RP.nil)) | exact (RP.c rfl inferInstance rfl (by simp) (RP.t rfl RP.nil)) | exact (RP.t rfl (RP.t rfl (RP.t rfl RP.nil))) | exact (RP.c rfl inferInstance rfl (by simp) (RP.t rfl (RP.t rfl RP.nil))) | exact (RP.c rfl inferInstance rfl (by simp) (RP.t rfl (RP.t rfl (RP.t rfl (RP.t rfl RP.nil)))))) ?_ | refine A_ret0 rfl ?_)
  all_goals exact R_v rfl

end Go.Proofs.Ythdmbgcnkdegmaa
