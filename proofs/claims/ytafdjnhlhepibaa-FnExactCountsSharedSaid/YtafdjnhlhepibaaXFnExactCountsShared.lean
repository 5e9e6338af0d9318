/- The law FnExactCountsShared runs to true. -/
import Derived.Test.YtafdjnhlhepibaaXsharedM
import Derived.Test.YtafdjnhlhepibaaXruleLaws
import Derived.Test.YtafdjnhlhepibaaFB
namespace Go.Proofs.Ytafdjnhlhepibaa
open Go Go.RowKit
set_option linter.unusedVariables false
set_option linter.unusedSimpArgs false
set_option maxRecDepth 100000
set_option maxHeartbeats 8000000
-- laws.FnExactCountsShared
def L4 : AFun := ⟨124, [.t 6],
 (.seq (.ops false [⟨(some 3), .box 24 (.t 0), none, []⟩,
   ⟨(some 6), .mv (.k (bv false)), none, []⟩])
 (.seq (.ops false [⟨(some 7), .mv (.k (iv 1048576)), none, []⟩])
 (.seq (.ops false [⟨(some 19), .load true 3 (.t 3), none, []⟩,
   ⟨(some 20), .mv (.t 7), none, []⟩,
   ⟨(some 21), .call (.f 11) [(.t 19), (.t 20)], none, []⟩,
   ⟨(some 7), .mv (.t 21), none, []⟩])
 (.seq (.seq (.ops false [⟨(some 22), .mv (.t 7), none, []⟩,
    ⟨(some 23), .bin .lss (.t 22) (.k (iv 0)), none, []⟩])
  (.cond (.t 23) (.seq (.ops false [⟨(some 6), .mv (.k (bv true)), none, []⟩])
   .ret)
   .skip))
 (.seq (.ops false [⟨(some 24), .mv (.t 1), none, []⟩,
   ⟨(some 25), .mv (.t 7), none, []⟩,
   ⟨(some 26), .call (.f 12) [(.t 24), (.t 25)], none, []⟩,
   ⟨(some 7), .mv (.t 26), none, []⟩])
 (.seq (.seq (.ops false [⟨(some 27), .mv (.t 7), none, []⟩,
    ⟨(some 28), .bin .lss (.t 27) (.k (iv 0)), none, []⟩])
  (.cond (.t 28) (.seq (.ops false [⟨(some 6), .mv (.k (bv true)), none, []⟩])
   .ret)
   .skip))
 (.seq (.ops false [⟨(some 30), .load true 3 (.t 3), none, []⟩,
   ⟨(some 31), .call (.f 14) [(.t 30)], none, []⟩,
   ⟨(some 32), .mv (.t 1), none, []⟩,
   ⟨(some 33), .call (.f 15) [(.t 32)], none, []⟩,
   ⟨(some 34), .mv (.t 2), none, []⟩,
   ⟨(some 35), .call (.f 22) [(.t 31), (.t 33), (.t 34)], none, []⟩,
   ⟨(some 29), .mv (.t 35), none, []⟩,
   ⟨(some 36), .ext (.t 29) 0, none, []⟩,
   ⟨(some 37), .ext (.t 29) 1, none, []⟩,
   ⟨(some 8), .mv (.t 36), none, []⟩,
   ⟨(some 9), .mv (.t 37), none, []⟩])
 (.seq (.ops false [⟨(some 38), .load true 3 (.t 3), none, []⟩,
   ⟨(some 39), .call (.f 14) [(.t 38)], none, []⟩,
   ⟨(some 10), .alloc 30 [.int .i64 0, .int .i64 0, .sl 0 0 0], none, []⟩,
   ⟨none, .store 3 (.t 10) (.t 39), none, []⟩])
 (.seq (.ops false [⟨(some 40), .mv (.t 1), none, []⟩,
   ⟨(some 41), .call (.f 15) [(.t 40)], none, []⟩,
   ⟨(some 11), .mv (.t 41), none, []⟩])
 (.seq (.ops false [⟨(some 43), .load true 3 (.t 10), none, []⟩,
   ⟨(some 44), .mv (.t 11), none, []⟩,
   ⟨(some 45), .mv (.t 2), none, []⟩,
   ⟨(some 46), .call (.f 23) [(.t 43), (.t 44), (.t 45)], none, []⟩,
   ⟨(some 42), .mv (.t 46), none, []⟩,
   ⟨(some 47), .ext (.t 42) 0, none, []⟩,
   ⟨(some 48), .ext (.t 42) 1, none, []⟩,
   ⟨(some 12), .mv (.t 47), none, []⟩,
   ⟨(some 13), .mv (.t 48), none, []⟩])
 (.seq (.seq (.ops false [⟨(some 49), .mv (.t 12), none, []⟩,
    ⟨(some 50), .mv (.t 8), none, []⟩,
    ⟨(some 51), .call (.f 24) [(.t 49), (.t 50)], none, []⟩,
    ⟨(some 52), .un .not (.t 51), none, []⟩,
    ⟨(some 53), .mv (.t 52), none, []⟩,
    ⟨(some 54), .mv (.t 13), (some (53, false)), []⟩,
    ⟨(some 55), .mv (.t 9), (some (53, false)), []⟩,
    ⟨(some 56), .beq true (.t 54) (.t 55), (some (53, false)), []⟩,
    ⟨(some 57), .pick (.t 53) (.k (bv true)) (.t 56), none, []⟩])
  (.cond (.t 57) (.seq (.ops false [⟨(some 6), .mv (.k (bv false)), none, []⟩])
   .ret)
   .skip))
 (.seq (.seq (.ops true [⟨(some 59), .load true 3 (.t 3), none, []⟩,
    ⟨(some 60), .call (.f 14) [(.t 59)], none, []⟩,
    ⟨(some 58), .load true 3 (.t 10), none, [0]⟩,
    ⟨(some 61), .call (.f 18) [(.t 58), (.t 60)], none, []⟩,
    ⟨(some 62), .un .not (.t 61), none, []⟩])
  (.cond (.t 62) (.seq (.ops false [⟨(some 6), .mv (.k (bv false)), none, []⟩])
   .ret)
   .skip))
 (.seq (.seq (.ops false [⟨(some 63), .mv (.t 11), none, []⟩,
    ⟨(some 64), .mv (.t 1), none, []⟩,
    ⟨(some 65), .call (.f 15) [(.t 64)], none, []⟩,
    ⟨(some 66), .call (.f 17) [(.t 63), (.t 65)], none, []⟩,
    ⟨(some 67), .un .not (.t 66), none, []⟩])
  (.cond (.t 67) (.seq (.ops false [⟨(some 6), .mv (.k (bv false)), none, []⟩])
   .ret)
   .skip))
 (.seq (.ops false [⟨(some 14), .mv (.k (iv 1)), none, []⟩])
 (.seq (.ops false [⟨(some 68), .load true 3 (.t 10), none, []⟩,
   ⟨(some 69), .mv (.t 14), none, []⟩,
   ⟨(some 70), .call (.f 19) [(.t 68), (.t 69)], none, []⟩,
   ⟨(some 14), .mv (.t 70), none, []⟩])
 (.seq (.ops false [⟨(some 71), .mv (.t 11), none, []⟩,
   ⟨(some 72), .mv (.t 14), none, []⟩,
   ⟨(some 73), .call (.f 20) [(.t 71), (.t 72)], none, []⟩,
   ⟨(some 14), .mv (.t 73), none, []⟩])
 (.seq (.seq (.ops false [⟨(some 74), .mv (.t 14), none, []⟩,
    ⟨(some 75), .bin .lss (.t 74) (.k (iv 0)), none, []⟩,
    ⟨(some 76), .mv (.t 75), none, []⟩,
    ⟨(some 77), .mv (.t 12), (some (76, false)), []⟩,
    ⟨(some 78), .mv (.t 8), (some (76, false)), []⟩,
    ⟨(some 79), .call (.f 24) [(.t 77), (.t 78)], (some (76, false)), []⟩,
    ⟨(some 80), .un .not (.t 79), (some (76, false)), []⟩,
    ⟨(some 81), .pick (.t 76) (.k (bv true)) (.t 80), none, []⟩,
    ⟨(some 82), .mv (.t 81), none, []⟩,
    ⟨(some 83), .mv (.t 13), (some (82, false)), []⟩,
    ⟨(some 84), .mv (.t 9), (some (82, false)), []⟩,
    ⟨(some 85), .beq true (.t 83) (.t 84), (some (82, false)), []⟩,
    ⟨(some 86), .pick (.t 82) (.k (bv true)) (.t 85), none, []⟩])
  (.cond (.t 86) (.seq (.ops false [⟨(some 6), .mv (.k (bv false)), none, []⟩])
   .ret)
   .skip))
 (.seq (.ops false [⟨(some 15), .mv (.k (iv 1)), none, []⟩])
 (.seq (.ops false [⟨(some 87), .mv (.t 12), none, []⟩,
   ⟨(some 88), .mv (.t 15), none, []⟩,
   ⟨(some 89), .call (.f 25) [(.t 87), (.t 88)], none, []⟩,
   ⟨(some 15), .mv (.t 89), none, []⟩])
 (.seq (.ops false [⟨(some 16), .mv (.k (iv 1)), none, []⟩])
 (.seq (.ops false [⟨(some 90), .mv (.t 12), none, []⟩,
   ⟨(some 91), .mv (.t 16), none, []⟩,
   ⟨(some 92), .call (.f 26) [(.t 90), (.t 91)], none, []⟩,
   ⟨(some 16), .mv (.t 92), none, []⟩])
 (.seq (.seq (.ops false [⟨(some 93), .mv (.t 16), none, []⟩,
    ⟨(some 94), .bin .lss (.t 93) (.k (iv 0)), none, []⟩])
  (.cond (.t 94) (.seq (.ops false [⟨(some 6), .mv (.k (bv false)), none, []⟩])
   .ret)
   .skip))
 (.seq (.seq (.ops false [⟨(some 95), .mv (.t 16), none, []⟩,
    ⟨(some 96), .mv (.t 15), none, []⟩,
    ⟨(some 97), .bin .neq (.t 95) (.t 96), none, []⟩])
  (.cond (.t 97) (.seq (.ops false [⟨(some 6), .mv (.k (bv false)), none, []⟩])
   .ret)
   .skip))
 (.seq (.ops false [⟨(some 99), .load true 3 (.t 3), none, []⟩,
   ⟨(some 100), .call (.f 14) [(.t 99)], none, []⟩,
   ⟨(some 101), .mv (.t 1), none, []⟩,
   ⟨(some 102), .call (.f 15) [(.t 101)], none, []⟩,
   ⟨(some 103), .mv (.t 2), none, []⟩,
   ⟨(some 104), .call (.f 23) [(.t 100), (.t 102), (.t 103)], none, []⟩,
   ⟨(some 98), .mv (.t 104), none, []⟩,
   ⟨(some 105), .ext (.t 98) 0, none, []⟩,
   ⟨(some 106), .ext (.t 98) 1, none, []⟩,
   ⟨(some 17), .mv (.t 105), none, []⟩,
   ⟨(some 18), .mv (.t 106), none, []⟩])
 (.seq (.seq (.ops false [⟨(some 107), .mv (.t 17), none, []⟩,
    ⟨(some 108), .mv (.t 8), none, []⟩,
    ⟨(some 109), .call (.f 24) [(.t 107), (.t 108)], none, []⟩,
    ⟨(some 110), .un .not (.t 109), none, []⟩,
    ⟨(some 111), .mv (.t 110), none, []⟩,
    ⟨(some 112), .mv (.t 18), (some (111, false)), []⟩,
    ⟨(some 113), .mv (.t 9), (some (111, false)), []⟩,
    ⟨(some 114), .beq true (.t 112) (.t 113), (some (111, false)), []⟩,
    ⟨(some 115), .pick (.t 111) (.k (bv true)) (.t 114), none, []⟩])
  (.cond (.t 115) (.seq (.ops false [⟨(some 6), .mv (.k (bv false)), none, []⟩])
   .ret)
   .skip))
 (.seq (.ops false [⟨(some 16), .mv (.k (iv 1)), none, []⟩])
 (.seq (.ops false [⟨(some 116), .mv (.t 12), none, []⟩,
   ⟨(some 117), .mv (.t 16), none, []⟩,
   ⟨(some 118), .call (.f 26) [(.t 116), (.t 117)], none, []⟩,
   ⟨(some 16), .mv (.t 118), none, []⟩])
 (.seq (.seq (.ops false [⟨(some 119), .mv (.t 16), none, []⟩,
    ⟨(some 120), .bin .lss (.t 119) (.k (iv 0)), none, []⟩])
  (.cond (.t 120) (.seq (.ops false [⟨(some 6), .mv (.k (bv false)), none, []⟩])
   .ret)
   .skip))
 (.seq (.seq (.ops false [⟨(some 121), .mv (.t 16), none, []⟩,
    ⟨(some 122), .mv (.t 15), none, []⟩,
    ⟨(some 123), .bin .neq (.t 121) (.t 122), none, []⟩])
  (.cond (.t 123) (.seq (.ops false [⟨(some 6), .mv (.k (bv false)), none, []⟩])
   .ret)
   .skip))
 (.seq (.ops false [⟨(some 6), .mv (.k (bv true)), none, []⟩])
 .ret))))))))))))))))))))))))))))))⟩
theorem code4 : acode Try.prog hints 4 = some L4 := by kernel_rfl


theorem c_FnExactCountsShared {s : St} [Wf s] {a0_0 : Int} (w0_0 : -9223372036854775808 ≤ a0_0 ∧ a0_0 ≤ 9223372036854775807) {a0_1 : Int} (w0_1 : -9223372036854775808 ≤ a0_1 ∧ a0_1 ≤ 9223372036854775807) {i0_2 o0_2 n0_2 : Nat} {x0_2 : List Int} (h0_2 : ArgE ic s i0_2 o0_2 x0_2) (l0_2 : x0_2.length = n0_2) (b0_2 : ∀ n ∈ x0_2, -9223372036854775808 ≤ n ∧ n ≤ 9223372036854775807) (u0_2 : n0_2 ≤ 9223372036854775807) {i1 o1 n1 : Nat} {x1 : List Row} (h1 : ArgE rc s i1 o1 x1) (g1 : ArgAll s x1) (f1 : RowsOk x1) (k1 : ∀ z ∈ x1, z.len ≤ 9223372036854775807) (l1 : x1.length = n1) (u1 : n1 ≤ 9223372036854775807) {a2 : Int} (w2 : -9223372036854775808 ≤ a2 ∧ a2 ≤ 9223372036854775807) :
    FnV 4 [.agg [.int .i64 a0_0, .int .i64 a0_1, .sl i0_2 o0_2 n0_2], .c (.sl i1 o1 n1), .c (.int .i64 a2)] s (bv true) := by
  haveI : Fact' (RowsOk x1) := ⟨f1⟩
  refine F_start code4 ?_
  repeat' (first
 | refine A_go rfl ?_ | refine A_ifT rfl rfl ?_ | refine A_ifF rfl rfl ?_ | refine A_offP rfl rfl ?_ | refine A_offH rfl rfl ?_ | refine A_off0 rfl rfl ?_
 | refine A_add rfl rfl rfl (by omega) ?_ | refine A_sub rfl rfl rfl (by omega) ?_ | refine A_mul rfl rfl rfl (by omega) ?_ | refine A_rem rfl rfl rfl (by omega) ?_ | refine A_remT rfl rfl rfl (by omega) ?_ | refine A_quo rfl rfl rfl (by omega) ?_
 | ((first | refine A_lt rfl rfl rfl ?_ ?_ | refine A_le rfl rfl rfl ?_ ?_ | refine A_gt rfl rfl rfl ?_ ?_ | refine A_ge rfl rfl rfl ?_ ?_ | refine A_eq rfl rfl rfl ?_ ?_ | refine A_ne rfl rfl rfl ?_ ?_ | refine A_beq rfl rfl rfl ?_ ?_) <;> intro hc <;> try first | contradiction | (exfalso; omega) | exact absurd rfl hc)
 | refine A_idxN1 rfl rfl rfl (by omega) ?_ | refine A_idx1 rfl rfl rfl (by omega) ?_ | refine A_idxArr1 rfl rfl rfl (by omega) ?_
 | (refine A_callM rfl rfl (fun s H => c_szRule) ?_; rintro _ _ ⟨⟨l, rfl, hl1, hl2⟩, rfl⟩) | (refine A_callM0 rfl rfl (fun s H => c_szRule) ?_; rintro _ _ ⟨⟨l, rfl, hl1, hl2⟩, rfl⟩)
 | (refine A_callM rfl rfl (fun s H => c_szInt64SS (hz := k1) (hn := l1)) ?_; rintro _ _ ⟨⟨l, rfl, hl1⟩, rfl⟩) | (refine A_callM0 rfl rfl (fun s H => c_szInt64SS (hz := k1) (hn := l1)) ?_; rintro _ _ ⟨⟨l, rfl, hl1⟩, rfl⟩)
 | (refine A_callM rfl rfl (fun s H => c_toRule) ?_; rintro _ _ ⟨pz, rfl, rfl⟩) | (refine A_callM0 rfl rfl (fun s H => c_toRule) ?_; rintro _ _ ⟨pz, rfl, rfl⟩)
 | (refine A_callM rfl rfl (fun s H => c_toInt64SS) ?_; rintro _ _ ⟨pz, ws, rfl, hok, rfl, hws, hwl, hsl⟩) | (refine A_callM0 rfl rfl (fun s H => c_toInt64SS) ?_; rintro _ _ ⟨pz, ws, rfl, hok, rfl, hws, hwl, hsl⟩)
 | (refine A_callM rfl rfl (fun s H => c_sCounts) ?_; rintro _ _ ⟨pz, rfl, rfl, hlen⟩) | (refine A_callM0 rfl rfl (fun s H => c_sCounts) ?_; rintro _ _ ⟨pz, rfl, rfl, hlen⟩)
 | (refine A_callM rfl rfl (fun s H => c_iCounts) ?_; rintro _ _ ⟨pz, rfl, rfl, hlen⟩) | (refine A_callM0 rfl rfl (fun s H => c_iCounts) ?_; rintro _ _ ⟨pz, rfl, rfl, hlen⟩)
 | (refine A_callB rfl rfl (fun s H => c_eqInt64S) ?_ ?_ <;> intro hc <;> try first | contradiction | (exfalso; omega) | exact absurd rfl hc | exact absurd (And.intro rfl rfl) hc | exact absurd (And.intro rfl (And.intro rfl rfl)) hc | exact absurd (Eq.trans (by assumption) (Eq.symm (by assumption))) hc)
 | (refine A_callB rfl rfl (fun s H => c_eqRule) ?_ ?_ <;> intro hc <;> try first | contradiction | (exfalso; omega) | exact absurd rfl hc | exact absurd (And.intro rfl rfl) hc | exact absurd (And.intro rfl (And.intro rfl rfl)) hc | exact absurd (Eq.trans (by assumption) (Eq.symm (by assumption))) hc)
 | (refine A_callB rfl rfl (fun s H => c_eqInt64SS) ?_ ?_ <;> intro hc <;> try first | contradiction | (exfalso; omega) | exact absurd rfl hc | exact absurd (And.intro rfl rfl) hc | exact absurd (And.intro rfl (And.intro rfl rfl)) hc | exact absurd (Eq.trans (by assumption) (Eq.symm (by assumption))) hc)
 | (refine A_callM rfl rfl (fun s H => c_markRule) ?_; rintro _ _ ⟨rfl, rfl⟩) | (refine A_callM0 rfl rfl (fun s H => c_markRule) ?_; rintro _ _ ⟨rfl, rfl⟩)
 | (refine A_callM rfl rfl (fun s H => c_markM) ?_; rintro _ _ ⟨rfl, rfl⟩) | (refine A_callM0 rfl rfl (fun s H => c_markM) ?_; rintro _ _ ⟨rfl, rfl⟩)
 | (refine A_callM rfl rfl (fun s H => c_markInt64S) ?_; rintro _ _ ⟨rfl, rfl⟩) | (refine A_callM0 rfl rfl (fun s H => c_markInt64S) ?_; rintro _ _ ⟨rfl, rfl⟩)
 | refine A_callV rfl rfl (fun s H => c_heldInt64S) ?_
 | refine A_fld rfl rfl ?_ | refine A_mk3 rfl rfl rfl rfl ?_ | refine A_mk23 rfl rfl rfl ?_ | refine A_mk2 rfl rfl rfl ?_ | refine A_mk13 rfl rfl ?_ | refine A_p (by rfl) rfl ?_
 | refine A_ldI rfl (by first | omega | (simp; done) | (simp; omega)) rfl ?_ | refine A_ldB rfl (by first | omega | (simp; done) | (simp; omega)) rfl ?_ | refine A_ld rfl (by rfl) rfl ?_ | refine A_ldW rfl (by simp) rfl ?_
 | refine A_st rfl rfl rfl ?_ | refine A_stW rfl rfl (by simp) rfl ?_ | refine A_stE rfl rfl (by first | omega | (simp; done) | (simp; omega)) rfl ?_
 | ((first | refine A_alloc rfl ?_ | refine A_box rfl rfl ?_ | refine A_boxC rfl rfl ?_ | refine A_makeN rfl rfl rfl (by omega) ?_ | refine A_make rfl rfl rfl (by omega) ?_ | refine A_bld1 rfl rfl ?_ | refine A_bld2 rfl rfl rfl ?_ | refine A_bld4 rfl rfl rfl rfl rfl ?_) <;> intro pz hpz)
 | refine A_bld0 rfl ?_ | (refine A_app rfl rfl rfl (by first | omega | (simp; done) | (simp; omega)) (by first | omega | (simp; done) | (simp; omega)) (by omega) ?_; intro pz) | (refine A_appN (enc := ic) rfl (by decide) rfl rfl (by first | omega | (simp; done) | (simp; omega)) (by omega) ?_; intro pz)
 | refine A_chk1 rfl rfl rfl ?_ | refine A_chk2 rfl rfl rfl rfl ?_ | refine A_chk3 rfl rfl rfl rfl rfl ?_ | refine A_chk4 rfl rfl rfl rfl rfl rfl ?_ | refine A_chkI rfl (by assumption) rfl (by simp) ?_
 | refine A_ret1 rfl (by first | exact (RP.t rfl RP.nil) | exact (RP.c rfl inferInstance rfl (by simp) RP.nil)) ?_ | refine A_ret rfl (by first | exact (RP.t rfl (RP.t rfl RP.nil)) | exact (RP.c rfl inferInstance rfl (by simp) (RP.t rfl RP.nil)) | exact (RP.t rfl (RP.t rfl (RP.t rfl RP.nil))) | exact (RP.c rfl inferInstance rfl (by simp) (RP.t rfl (RP.t rfl RP.nil))) | exact (RP.c rfl inferInstance rfl (by simp) (RP.t rfl (RP.t rfl (RP.t rfl (RP.t rfl RP.nil)))))) ?_ | refine A_ret0 rfl ?_)
  all_goals exact R_v rfl

end Go.Proofs.Ytafdjnhlhepibaa
