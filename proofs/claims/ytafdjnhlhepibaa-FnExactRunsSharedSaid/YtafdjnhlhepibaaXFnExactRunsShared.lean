/- The law FnExactRunsShared runs to true. -/
import Derived.Test.YtafdjnhlhepibaaXsharedM
import Derived.Test.YtafdjnhlhepibaaXruleLaws
import Derived.Test.YtafdjnhlhepibaaFB
namespace Go.Proofs.Ytafdjnhlhepibaa
open Go Go.RowKit
set_option linter.unusedVariables false
set_option linter.unusedSimpArgs false
set_option maxRecDepth 100000
set_option maxHeartbeats 8000000
-- laws.FnExactRunsShared
def L3 : AFun := ⟨129, [.t 8],
 (.seq (.ops false [⟨(some 4), .box 24 (.t 0), none, []⟩,
   ⟨(some 8), .mv (.k (bv false)), none, []⟩])
 (.seq (.ops false [⟨(some 9), .mv (.k (iv 1048576)), none, []⟩])
 (.seq (.ops false [⟨(some 21), .load true 3 (.t 4), none, []⟩,
   ⟨(some 22), .mv (.t 9), none, []⟩,
   ⟨(some 23), .call (.f 11) [(.t 21), (.t 22)], none, []⟩,
   ⟨(some 9), .mv (.t 23), none, []⟩])
 (.seq (.seq (.ops false [⟨(some 24), .mv (.t 9), none, []⟩,
    ⟨(some 25), .bin .lss (.t 24) (.k (iv 0)), none, []⟩])
  (.cond (.t 25) (.seq (.ops false [⟨(some 8), .mv (.k (bv true)), none, []⟩])
   .ret)
   .skip))
 (.seq (.ops false [⟨(some 26), .mv (.t 1), none, []⟩,
   ⟨(some 27), .mv (.t 9), none, []⟩,
   ⟨(some 28), .call (.f 12) [(.t 26), (.t 27)], none, []⟩,
   ⟨(some 9), .mv (.t 28), none, []⟩])
 (.seq (.seq (.ops false [⟨(some 29), .mv (.t 9), none, []⟩,
    ⟨(some 30), .bin .lss (.t 29) (.k (iv 0)), none, []⟩])
  (.cond (.t 30) (.seq (.ops false [⟨(some 8), .mv (.k (bv true)), none, []⟩])
   .ret)
   .skip))
 (.seq (.ops false [⟨(some 32), .load true 3 (.t 4), none, []⟩,
   ⟨(some 33), .call (.f 14) [(.t 32)], none, []⟩,
   ⟨(some 34), .mv (.t 1), none, []⟩,
   ⟨(some 35), .call (.f 15) [(.t 34)], none, []⟩,
   ⟨(some 36), .mv (.t 2), none, []⟩,
   ⟨(some 37), .mv (.t 3), none, []⟩,
   ⟨(some 38), .call (.f 13) [(.t 33), (.t 35), (.t 36), (.t 37)], none, []⟩,
   ⟨(some 31), .mv (.t 38), none, []⟩,
   ⟨(some 39), .ext (.t 31) 0, none, []⟩,
   ⟨(some 40), .ext (.t 31) 1, none, []⟩,
   ⟨(some 10), .mv (.t 39), none, []⟩,
   ⟨(some 11), .mv (.t 40), none, []⟩])
 (.seq (.ops false [⟨(some 41), .load true 3 (.t 4), none, []⟩,
   ⟨(some 42), .call (.f 14) [(.t 41)], none, []⟩,
   ⟨(some 12), .alloc 30 [.int .i64 0, .int .i64 0, .sl 0 0 0], none, []⟩,
   ⟨none, .store 3 (.t 12) (.t 42), none, []⟩])
 (.seq (.ops false [⟨(some 43), .mv (.t 1), none, []⟩,
   ⟨(some 44), .call (.f 15) [(.t 43)], none, []⟩,
   ⟨(some 13), .mv (.t 44), none, []⟩])
 (.seq (.ops false [⟨(some 46), .load true 3 (.t 12), none, []⟩,
   ⟨(some 47), .mv (.t 13), none, []⟩,
   ⟨(some 48), .mv (.t 2), none, []⟩,
   ⟨(some 49), .mv (.t 3), none, []⟩,
   ⟨(some 50), .call (.f 16) [(.t 46), (.t 47), (.t 48), (.t 49)], none, []⟩,
   ⟨(some 45), .mv (.t 50), none, []⟩,
   ⟨(some 51), .ext (.t 45) 0, none, []⟩,
   ⟨(some 52), .ext (.t 45) 1, none, []⟩,
   ⟨(some 14), .mv (.t 51), none, []⟩,
   ⟨(some 15), .mv (.t 52), none, []⟩])
 (.seq (.seq (.ops false [⟨(some 53), .mv (.t 14), none, []⟩,
    ⟨(some 54), .mv (.t 10), none, []⟩,
    ⟨(some 55), .call (.f 17) [(.t 53), (.t 54)], none, []⟩,
    ⟨(some 56), .un .not (.t 55), none, []⟩,
    ⟨(some 57), .mv (.t 56), none, []⟩,
    ⟨(some 58), .mv (.t 15), (some (57, false)), []⟩,
    ⟨(some 59), .mv (.t 11), (some (57, false)), []⟩,
    ⟨(some 60), .beq true (.t 58) (.t 59), (some (57, false)), []⟩,
    ⟨(some 61), .pick (.t 57) (.k (bv true)) (.t 60), none, []⟩])
  (.cond (.t 61) (.seq (.ops false [⟨(some 8), .mv (.k (bv false)), none, []⟩])
   .ret)
   .skip))
 (.seq (.seq (.ops true [⟨(some 63), .load true 3 (.t 4), none, []⟩,
    ⟨(some 64), .call (.f 14) [(.t 63)], none, []⟩,
    ⟨(some 62), .load true 3 (.t 12), none, [0]⟩,
    ⟨(some 65), .call (.f 18) [(.t 62), (.t 64)], none, []⟩,
    ⟨(some 66), .un .not (.t 65), none, []⟩])
  (.cond (.t 66) (.seq (.ops false [⟨(some 8), .mv (.k (bv false)), none, []⟩])
   .ret)
   .skip))
 (.seq (.seq (.ops false [⟨(some 67), .mv (.t 13), none, []⟩,
    ⟨(some 68), .mv (.t 1), none, []⟩,
    ⟨(some 69), .call (.f 15) [(.t 68)], none, []⟩,
    ⟨(some 70), .call (.f 17) [(.t 67), (.t 69)], none, []⟩,
    ⟨(some 71), .un .not (.t 70), none, []⟩])
  (.cond (.t 71) (.seq (.ops false [⟨(some 8), .mv (.k (bv false)), none, []⟩])
   .ret)
   .skip))
 (.seq (.ops false [⟨(some 16), .mv (.k (iv 1)), none, []⟩])
 (.seq (.ops false [⟨(some 72), .load true 3 (.t 12), none, []⟩,
   ⟨(some 73), .mv (.t 16), none, []⟩,
   ⟨(some 74), .call (.f 19) [(.t 72), (.t 73)], none, []⟩,
   ⟨(some 16), .mv (.t 74), none, []⟩])
 (.seq (.ops false [⟨(some 75), .mv (.t 13), none, []⟩,
   ⟨(some 76), .mv (.t 16), none, []⟩,
   ⟨(some 77), .call (.f 20) [(.t 75), (.t 76)], none, []⟩,
   ⟨(some 16), .mv (.t 77), none, []⟩])
 (.seq (.seq (.ops false [⟨(some 78), .mv (.t 16), none, []⟩,
    ⟨(some 79), .bin .lss (.t 78) (.k (iv 0)), none, []⟩,
    ⟨(some 80), .mv (.t 79), none, []⟩,
    ⟨(some 81), .mv (.t 14), (some (80, false)), []⟩,
    ⟨(some 82), .mv (.t 10), (some (80, false)), []⟩,
    ⟨(some 83), .call (.f 17) [(.t 81), (.t 82)], (some (80, false)), []⟩,
    ⟨(some 84), .un .not (.t 83), (some (80, false)), []⟩,
    ⟨(some 85), .pick (.t 80) (.k (bv true)) (.t 84), none, []⟩,
    ⟨(some 86), .mv (.t 85), none, []⟩,
    ⟨(some 87), .mv (.t 15), (some (86, false)), []⟩,
    ⟨(some 88), .mv (.t 11), (some (86, false)), []⟩,
    ⟨(some 89), .beq true (.t 87) (.t 88), (some (86, false)), []⟩,
    ⟨(some 90), .pick (.t 86) (.k (bv true)) (.t 89), none, []⟩])
  (.cond (.t 90) (.seq (.ops false [⟨(some 8), .mv (.k (bv false)), none, []⟩])
   .ret)
   .skip))
 (.seq (.ops false [⟨(some 17), .mv (.k (iv 1)), none, []⟩])
 (.seq (.ops false [⟨(some 91), .mv (.t 14), none, []⟩,
   ⟨(some 92), .mv (.t 17), none, []⟩,
   ⟨(some 93), .call (.f 20) [(.t 91), (.t 92)], none, []⟩,
   ⟨(some 17), .mv (.t 93), none, []⟩])
 (.seq (.ops false [⟨(some 18), .mv (.k (iv 1)), none, []⟩])
 (.seq (.ops false [⟨(some 94), .mv (.t 14), none, []⟩,
   ⟨(some 95), .mv (.t 18), none, []⟩,
   ⟨(some 96), .call (.f 21) [(.t 94), (.t 95)], none, []⟩,
   ⟨(some 18), .mv (.t 96), none, []⟩])
 (.seq (.seq (.ops false [⟨(some 97), .mv (.t 18), none, []⟩,
    ⟨(some 98), .bin .lss (.t 97) (.k (iv 0)), none, []⟩])
  (.cond (.t 98) (.seq (.ops false [⟨(some 8), .mv (.k (bv false)), none, []⟩])
   .ret)
   .skip))
 (.seq (.seq (.ops false [⟨(some 99), .mv (.t 18), none, []⟩,
    ⟨(some 100), .mv (.t 17), none, []⟩,
    ⟨(some 101), .bin .neq (.t 99) (.t 100), none, []⟩])
  (.cond (.t 101) (.seq (.ops false [⟨(some 8), .mv (.k (bv false)), none, []⟩])
   .ret)
   .skip))
 (.seq (.ops false [⟨(some 103), .load true 3 (.t 4), none, []⟩,
   ⟨(some 104), .call (.f 14) [(.t 103)], none, []⟩,
   ⟨(some 105), .mv (.t 1), none, []⟩,
   ⟨(some 106), .call (.f 15) [(.t 105)], none, []⟩,
   ⟨(some 107), .mv (.t 2), none, []⟩,
   ⟨(some 108), .mv (.t 3), none, []⟩,
   ⟨(some 109), .call (.f 16) [(.t 104), (.t 106), (.t 107), (.t 108)], none, []⟩,
   ⟨(some 102), .mv (.t 109), none, []⟩,
   ⟨(some 110), .ext (.t 102) 0, none, []⟩,
   ⟨(some 111), .ext (.t 102) 1, none, []⟩,
   ⟨(some 19), .mv (.t 110), none, []⟩,
   ⟨(some 20), .mv (.t 111), none, []⟩])
 (.seq (.seq (.ops false [⟨(some 112), .mv (.t 19), none, []⟩,
    ⟨(some 113), .mv (.t 10), none, []⟩,
    ⟨(some 114), .call (.f 17) [(.t 112), (.t 113)], none, []⟩,
    ⟨(some 115), .un .not (.t 114), none, []⟩,
    ⟨(some 116), .mv (.t 115), none, []⟩,
    ⟨(some 117), .mv (.t 20), (some (116, false)), []⟩,
    ⟨(some 118), .mv (.t 11), (some (116, false)), []⟩,
    ⟨(some 119), .beq true (.t 117) (.t 118), (some (116, false)), []⟩,
    ⟨(some 120), .pick (.t 116) (.k (bv true)) (.t 119), none, []⟩])
  (.cond (.t 120) (.seq (.ops false [⟨(some 8), .mv (.k (bv false)), none, []⟩])
   .ret)
   .skip))
 (.seq (.ops false [⟨(some 18), .mv (.k (iv 1)), none, []⟩])
 (.seq (.ops false [⟨(some 121), .mv (.t 14), none, []⟩,
   ⟨(some 122), .mv (.t 18), none, []⟩,
   ⟨(some 123), .call (.f 21) [(.t 121), (.t 122)], none, []⟩,
   ⟨(some 18), .mv (.t 123), none, []⟩])
 (.seq (.seq (.ops false [⟨(some 124), .mv (.t 18), none, []⟩,
    ⟨(some 125), .bin .lss (.t 124) (.k (iv 0)), none, []⟩])
  (.cond (.t 125) (.seq (.ops false [⟨(some 8), .mv (.k (bv false)), none, []⟩])
   .ret)
   .skip))
 (.seq (.seq (.ops false [⟨(some 126), .mv (.t 18), none, []⟩,
    ⟨(some 127), .mv (.t 17), none, []⟩,
    ⟨(some 128), .bin .neq (.t 126) (.t 127), none, []⟩])
  (.cond (.t 128) (.seq (.ops false [⟨(some 8), .mv (.k (bv false)), none, []⟩])
   .ret)
   .skip))
 (.seq (.ops false [⟨(some 8), .mv (.k (bv true)), none, []⟩])
 .ret))))))))))))))))))))))))))))))⟩
theorem code3 : acode Try.prog hints 3 = some L3 := by kernel_rfl


theorem c_FnExactRunsShared {s : St} [Wf s] {a0_0 : Int} (w0_0 : -9223372036854775808 ≤ a0_0 ∧ a0_0 ≤ 9223372036854775807) {a0_1 : Int} (w0_1 : -9223372036854775808 ≤ a0_1 ∧ a0_1 ≤ 9223372036854775807) {i0_2 o0_2 n0_2 : Nat} {x0_2 : List Int} (h0_2 : ArgE ic s i0_2 o0_2 x0_2) (l0_2 : x0_2.length = n0_2) (b0_2 : ∀ n ∈ x0_2, -9223372036854775808 ≤ n ∧ n ≤ 9223372036854775807) (u0_2 : n0_2 ≤ 9223372036854775807) {i1 o1 n1 : Nat} {x1 : List Row} (h1 : ArgE rc s i1 o1 x1) (g1 : ArgAll s x1) (f1 : RowsOk x1) (k1 : ∀ z ∈ x1, z.len ≤ 9223372036854775807) (l1 : x1.length = n1) (u1 : n1 ≤ 9223372036854775807) {a2 : Int} (w2 : -9223372036854775808 ≤ a2 ∧ a2 ≤ 9223372036854775807) {a3 : Int} (w3 : -9223372036854775808 ≤ a3 ∧ a3 ≤ 9223372036854775807) :
    FnV 3 [.agg [.int .i64 a0_0, .int .i64 a0_1, .sl i0_2 o0_2 n0_2], .c (.sl i1 o1 n1), .c (.int .i64 a2), .c (.int .i64 a3)] s (bv true) := by
  haveI : Fact' (RowsOk x1) := ⟨f1⟩
  refine F_start code3 ?_
  repeat' (first
 | refine A_go rfl ?_ | refine A_ifT rfl rfl ?_ | refine A_ifF rfl rfl ?_ | refine A_offP rfl rfl ?_ | refine A_offH rfl rfl ?_ | refine A_off0 rfl rfl ?_
 | refine A_add rfl rfl rfl (by omega) ?_ | refine A_sub rfl rfl rfl (by omega) ?_ | refine A_mul rfl rfl rfl (by omega) ?_ | refine A_rem rfl rfl rfl (by omega) ?_ | refine A_remT rfl rfl rfl (by omega) ?_ | refine A_quo rfl rfl rfl (by omega) ?_
 | ((first | refine A_lt rfl rfl rfl ?_ ?_ | refine A_le rfl rfl rfl ?_ ?_ | refine A_gt rfl rfl rfl ?_ ?_ | refine A_ge rfl rfl rfl ?_ ?_ | refine A_eq rfl rfl rfl ?_ ?_ | refine A_ne rfl rfl rfl ?_ ?_ | refine A_beq rfl rfl rfl ?_ ?_) <;> intro hc <;> try first | contradiction | (exfalso; omega) | exact absurd rfl hc)
 | refine A_idxN1 rfl rfl rfl (by omega) ?_ | refine A_idx1 rfl rfl rfl (by omega) ?_ | refine A_idxArr1 rfl rfl rfl (by omega) ?_
 | (refine A_callM rfl rfl (fun s H => c_szRule) ?_; rintro _ _ ⟨⟨l, rfl, hl1, hl2⟩, rfl⟩) | (refine A_callM0 rfl rfl (fun s H => c_szRule) ?_; rintro _ _ ⟨⟨l, rfl, hl1, hl2⟩, rfl⟩)
 | (refine A_callM rfl rfl (fun s H => c_szInt64SS (hz := k1) (hn := l1)) ?_; rintro _ _ ⟨⟨l, rfl, hl1⟩, rfl⟩) | (refine A_callM0 rfl rfl (fun s H => c_szInt64SS (hz := k1) (hn := l1)) ?_; rintro _ _ ⟨⟨l, rfl, hl1⟩, rfl⟩)
 | (refine A_callM rfl rfl (fun s H => c_toRule) ?_; rintro _ _ ⟨pz, rfl, rfl⟩) | (refine A_callM0 rfl rfl (fun s H => c_toRule) ?_; rintro _ _ ⟨pz, rfl, rfl⟩)
 | (refine A_callM rfl rfl (fun s H => c_toInt64SS) ?_; rintro _ _ ⟨pz, ws, rfl, hok, rfl, hws, hwl, hsl⟩) | (refine A_callM0 rfl rfl (fun s H => c_toInt64SS) ?_; rintro _ _ ⟨pz, ws, rfl, hok, rfl, hws, hwl, hsl⟩)
 | (refine A_callM rfl rfl (fun s H => c_sRuns) ?_; rintro _ _ ⟨pz, zs, rfl, hok, rfl, hzs, hsl, hlen⟩) | (refine A_callM0 rfl rfl (fun s H => c_sRuns) ?_; rintro _ _ ⟨pz, zs, rfl, hok, rfl, hzs, hsl, hlen⟩)
 | (refine A_callM rfl rfl (fun s H => c_iRuns) ?_; rintro _ _ ⟨pz, zs, rfl, hok, rfl, hzs, hsl, hlen⟩) | (refine A_callM0 rfl rfl (fun s H => c_iRuns) ?_; rintro _ _ ⟨pz, zs, rfl, hok, rfl, hzs, hsl, hlen⟩)
 | (refine A_callB rfl rfl (fun s H => c_eqInt64SS) ?_ ?_ <;> intro hc <;> try first | contradiction | (exfalso; omega) | exact absurd rfl hc | exact absurd (And.intro rfl rfl) hc | exact absurd (And.intro rfl (And.intro rfl rfl)) hc | exact absurd (Eq.trans (by assumption) (Eq.symm (by assumption))) hc)
 | (refine A_callB rfl rfl (fun s H => c_eqRule) ?_ ?_ <;> intro hc <;> try first | contradiction | (exfalso; omega) | exact absurd rfl hc | exact absurd (And.intro rfl rfl) hc | exact absurd (And.intro rfl (And.intro rfl rfl)) hc | exact absurd (Eq.trans (by assumption) (Eq.symm (by assumption))) hc)
 | (refine A_callB rfl rfl (fun s H => c_eqInt64SS) ?_ ?_ <;> intro hc <;> try first | contradiction | (exfalso; omega) | exact absurd rfl hc | exact absurd (And.intro rfl rfl) hc | exact absurd (And.intro rfl (And.intro rfl rfl)) hc | exact absurd (Eq.trans (by assumption) (Eq.symm (by assumption))) hc)
 | (refine A_callM rfl rfl (fun s H => c_markRule) ?_; rintro _ _ ⟨rfl, rfl⟩) | (refine A_callM0 rfl rfl (fun s H => c_markRule) ?_; rintro _ _ ⟨rfl, rfl⟩)
 | (refine A_callM rfl rfl (fun s H => c_markM) ?_; rintro _ _ ⟨rfl, rfl⟩) | (refine A_callM0 rfl rfl (fun s H => c_markM) ?_; rintro _ _ ⟨rfl, rfl⟩)
 | refine A_callV rfl rfl (fun s H => c_heldInt64SS) ?_
 | refine A_fld rfl rfl ?_ | refine A_mk3 rfl rfl rfl rfl ?_ | refine A_mk23 rfl rfl rfl ?_ | refine A_mk2 rfl rfl rfl ?_ | refine A_mk13 rfl rfl ?_ | refine A_p (by rfl) rfl ?_
 | refine A_ldI rfl (by first | omega | (simp; done) | (simp; omega)) rfl ?_ | refine A_ldB rfl (by first | omega | (simp; done) | (simp; omega)) rfl ?_ | refine A_ld rfl (by rfl) rfl ?_ | refine A_ldW rfl (by simp) rfl ?_
 | refine A_st rfl rfl rfl ?_ | refine A_stW rfl rfl (by simp) rfl ?_ | refine A_stE rfl rfl (by first | omega | (simp; done) | (simp; omega)) rfl ?_
 | ((first | refine A_alloc rfl ?_ | refine A_box rfl rfl ?_ | refine A_boxC rfl rfl ?_ | refine A_makeN rfl rfl rfl (by omega) ?_ | refine A_make rfl rfl rfl (by omega) ?_ | refine A_bld1 rfl rfl ?_ | refine A_bld2 rfl rfl rfl ?_ | refine A_bld4 rfl rfl rfl rfl rfl ?_) <;> intro pz hpz)
 | refine A_bld0 rfl ?_ | (refine A_app rfl rfl rfl (by first | omega | (simp; done) | (simp; omega)) (by first | omega | (simp; done) | (simp; omega)) (by omega) ?_; intro pz) | (refine A_appN (enc := ic) rfl (by decide) rfl rfl (by first | omega | (simp; done) | (simp; omega)) (by omega) ?_; intro pz)
 | refine A_chk1 rfl rfl rfl ?_ | refine A_chk2 rfl rfl rfl rfl ?_ | refine A_chk3 rfl rfl rfl rfl rfl ?_ | refine A_chk4 rfl rfl rfl rfl rfl rfl ?_ | refine A_chkI rfl (by assumption) rfl (by simp) ?_
 | refine A_ret1 rfl (by first | exact (RP.t rfl RP.nil) | exact (RP.c rfl inferInstance rfl (by simp) RP.nil)) ?_ | refine A_ret rfl (by first | exact (RP.t rfl (RP.t rfl RP.nil)) | exact (RP.c rfl inferInstance rfl (by simp) (RP.t rfl RP.nil)) | exact (RP.t rfl (RP.t rfl (RP.t rfl RP.nil))) | exact (RP.c rfl inferInstance rfl (by simp) (RP.t rfl (RP.t rfl RP.nil))) | exact (RP.c rfl inferInstance rfl (by simp) (RP.t rfl (RP.t rfl (RP.t rfl (RP.t rfl RP.nil)))))) ?_ | refine A_ret0 rfl ?_)
  all_goals exact R_v rfl

end Go.Proofs.Ytafdjnhlhepibaa
