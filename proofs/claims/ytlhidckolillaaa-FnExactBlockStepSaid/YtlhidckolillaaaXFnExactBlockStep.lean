/- The law FnExactBlockStep runs to true. -/
import Derived.Test.YtlhidckolillaaaXblocksS
import Derived.Test.YtlhidckolillaaaXfieldG
import Derived.Test.YtlhidckolillaaaXtoInts
import Derived.Test.YtlhidckolillaaaXeqInts
import Derived.Test.YtlhidckolillaaaXmark
import Derived.Test.YtlhidckolillaaaFB
namespace Go.Proofs.Ytlhidckolillaaa
open Go Go.RowKit
set_option linter.unusedVariables false
set_option linter.unusedSimpArgs false
set_option maxRecDepth 100000
set_option maxHeartbeats 8000000
-- laws.FnExactBlockStep
def L3 : AFun := ⟨122, [.t 6],
 (.seq (.ops false [⟨(some 3), .box 24 (.t 0), none, []⟩,
   ⟨(some 6), .mv (.k (bv false)), none, []⟩])
 (.seq (.seq (.ops false [⟨(some 19), .mv (.t 1), none, []⟩,
    ⟨(some 20), .len false (.t 19), none, []⟩,
    ⟨(some 21), .bin .gtr (.t 20) (.k (iv 1048576)), none, []⟩])
  (.cond (.t 21) (.seq (.ops false [⟨(some 6), .mv (.k (bv true)), none, []⟩])
   .ret)
   .skip))
 (.seq (.ops false [⟨(some 7), .mv (.k (iv 1048576)), none, []⟩])
 (.seq (.ops false [⟨(some 22), .load true 3 (.t 3), none, []⟩,
   ⟨(some 23), .mv (.t 7), none, []⟩,
   ⟨(some 24), .call (.f 6) [(.t 22), (.t 23)], none, []⟩,
   ⟨(some 7), .mv (.t 24), none, []⟩])
 (.seq (.seq (.ops false [⟨(some 25), .mv (.t 7), none, []⟩,
    ⟨(some 26), .bin .lss (.t 25) (.k (iv 0)), none, []⟩])
  (.cond (.t 26) (.seq (.ops false [⟨(some 6), .mv (.k (bv true)), none, []⟩])
   .ret)
   .skip))
 (.seq (.ops false [⟨(some 28), .load true 3 (.t 3), none, []⟩,
   ⟨(some 29), .call (.f 8) [(.t 28)], none, []⟩,
   ⟨(some 30), .mv (.t 1), none, []⟩,
   ⟨(some 31), .call (.f 9) [(.t 30)], none, []⟩,
   ⟨(some 32), .mv (.t 2), none, []⟩,
   ⟨(some 33), .call (.f 7) [(.t 29), (.t 31), (.t 32)], none, []⟩,
   ⟨(some 27), .mv (.t 33), none, []⟩,
   ⟨(some 34), .ext (.t 27) 0, none, []⟩,
   ⟨(some 35), .ext (.t 27) 1, none, []⟩,
   ⟨(some 8), .alloc 26 [.int .i64 0, .int .i64 0, .sl 0 0 0], none, []⟩,
   ⟨none, .store 3 (.t 8) (.t 34), none, []⟩,
   ⟨(some 9), .mv (.t 35), none, []⟩])
 (.seq (.ops false [⟨(some 36), .load true 3 (.t 3), none, []⟩,
   ⟨(some 37), .call (.f 8) [(.t 36)], none, []⟩,
   ⟨(some 10), .alloc 26 [.int .i64 0, .int .i64 0, .sl 0 0 0], none, []⟩,
   ⟨none, .store 3 (.t 10) (.t 37), none, []⟩])
 (.seq (.ops false [⟨(some 38), .mv (.t 1), none, []⟩,
   ⟨(some 39), .call (.f 9) [(.t 38)], none, []⟩,
   ⟨(some 11), .mv (.t 39), none, []⟩])
 (.seq (.ops false [⟨(some 41), .load true 3 (.t 10), none, []⟩,
   ⟨(some 42), .mv (.t 11), none, []⟩,
   ⟨(some 43), .mv (.t 2), none, []⟩,
   ⟨(some 44), .call (.f 10) [(.t 41), (.t 42), (.t 43)], none, []⟩,
   ⟨(some 40), .mv (.t 44), none, []⟩,
   ⟨(some 45), .ext (.t 40) 0, none, []⟩,
   ⟨(some 46), .ext (.t 40) 1, none, []⟩,
   ⟨(some 12), .alloc 26 [.int .i64 0, .int .i64 0, .sl 0 0 0], none, []⟩,
   ⟨none, .store 3 (.t 12) (.t 45), none, []⟩,
   ⟨(some 13), .mv (.t 46), none, []⟩])
 (.seq (.seq (.ops false [⟨(some 47), .load true 3 (.t 12), none, []⟩,
    ⟨(some 48), .load true 3 (.t 8), none, []⟩,
    ⟨(some 49), .call (.f 11) [(.t 47), (.t 48)], none, []⟩,
    ⟨(some 50), .un .not (.t 49), none, []⟩,
    ⟨(some 51), .mv (.t 50), none, []⟩,
    ⟨(some 52), .mv (.t 13), (some (51, false)), []⟩,
    ⟨(some 53), .mv (.t 9), (some (51, false)), []⟩,
    ⟨(some 54), .beq true (.t 52) (.t 53), (some (51, false)), []⟩,
    ⟨(some 55), .pick (.t 51) (.k (bv true)) (.t 54), none, []⟩])
  (.cond (.t 55) (.seq (.ops false [⟨(some 6), .mv (.k (bv false)), none, []⟩])
   .ret)
   .skip))
 (.seq (.seq (.ops true [⟨(some 57), .load true 3 (.t 3), none, []⟩,
    ⟨(some 58), .call (.f 8) [(.t 57)], none, []⟩,
    ⟨(some 56), .load true 3 (.t 10), none, [0]⟩,
    ⟨(some 59), .call (.f 11) [(.t 56), (.t 58)], none, []⟩,
    ⟨(some 60), .un .not (.t 59), none, []⟩])
  (.cond (.t 60) (.seq (.ops false [⟨(some 6), .mv (.k (bv false)), none, []⟩])
   .ret)
   .skip))
 (.seq (.seq (.ops false [⟨(some 61), .mv (.t 11), none, []⟩,
    ⟨(some 62), .mv (.t 1), none, []⟩,
    ⟨(some 63), .call (.f 9) [(.t 62)], none, []⟩,
    ⟨(some 64), .call (.f 12) [(.t 61), (.t 63)], none, []⟩,
    ⟨(some 65), .un .not (.t 64), none, []⟩])
  (.cond (.t 65) (.seq (.ops false [⟨(some 6), .mv (.k (bv false)), none, []⟩])
   .ret)
   .skip))
 (.seq (.ops false [⟨(some 14), .mv (.k (iv 1)), none, []⟩])
 (.seq (.ops false [⟨(some 66), .load true 3 (.t 10), none, []⟩,
   ⟨(some 67), .mv (.t 14), none, []⟩,
   ⟨(some 68), .call (.f 13) [(.t 66), (.t 67)], none, []⟩,
   ⟨(some 14), .mv (.t 68), none, []⟩])
 (.seq (.ops false [⟨(some 69), .mv (.t 11), none, []⟩,
   ⟨(some 70), .mv (.t 14), none, []⟩,
   ⟨(some 71), .call (.f 14) [(.t 69), (.t 70)], none, []⟩,
   ⟨(some 14), .mv (.t 71), none, []⟩])
 (.seq (.seq (.ops false [⟨(some 72), .mv (.t 14), none, []⟩,
    ⟨(some 73), .bin .lss (.t 72) (.k (iv 0)), none, []⟩,
    ⟨(some 74), .mv (.t 73), none, []⟩,
    ⟨(some 75), .load true 3 (.t 12), (some (74, false)), []⟩,
    ⟨(some 76), .load true 3 (.t 8), (some (74, false)), []⟩,
    ⟨(some 77), .call (.f 11) [(.t 75), (.t 76)], (some (74, false)), []⟩,
    ⟨(some 78), .un .not (.t 77), (some (74, false)), []⟩,
    ⟨(some 79), .pick (.t 74) (.k (bv true)) (.t 78), none, []⟩,
    ⟨(some 80), .mv (.t 79), none, []⟩,
    ⟨(some 81), .mv (.t 13), (some (80, false)), []⟩,
    ⟨(some 82), .mv (.t 9), (some (80, false)), []⟩,
    ⟨(some 83), .beq true (.t 81) (.t 82), (some (80, false)), []⟩,
    ⟨(some 84), .pick (.t 80) (.k (bv true)) (.t 83), none, []⟩])
  (.cond (.t 84) (.seq (.ops false [⟨(some 6), .mv (.k (bv false)), none, []⟩])
   .ret)
   .skip))
 (.seq (.ops false [⟨(some 15), .mv (.k (iv 1)), none, []⟩])
 (.seq (.ops false [⟨(some 85), .load true 3 (.t 12), none, []⟩,
   ⟨(some 86), .mv (.t 15), none, []⟩,
   ⟨(some 87), .call (.f 13) [(.t 85), (.t 86)], none, []⟩,
   ⟨(some 15), .mv (.t 87), none, []⟩])
 (.seq (.ops false [⟨(some 16), .mv (.k (iv 1)), none, []⟩])
 (.seq (.ops false [⟨(some 88), .load true 3 (.t 12), none, []⟩,
   ⟨(some 89), .mv (.t 16), none, []⟩,
   ⟨(some 90), .call (.f 15) [(.t 88), (.t 89)], none, []⟩,
   ⟨(some 16), .mv (.t 90), none, []⟩])
 (.seq (.seq (.ops false [⟨(some 91), .mv (.t 16), none, []⟩,
    ⟨(some 92), .bin .lss (.t 91) (.k (iv 0)), none, []⟩])
  (.cond (.t 92) (.seq (.ops false [⟨(some 6), .mv (.k (bv false)), none, []⟩])
   .ret)
   .skip))
 (.seq (.seq (.ops false [⟨(some 93), .mv (.t 16), none, []⟩,
    ⟨(some 94), .mv (.t 15), none, []⟩,
    ⟨(some 95), .bin .neq (.t 93) (.t 94), none, []⟩])
  (.cond (.t 95) (.seq (.ops false [⟨(some 6), .mv (.k (bv false)), none, []⟩])
   .ret)
   .skip))
 (.seq (.ops false [⟨(some 97), .load true 3 (.t 3), none, []⟩,
   ⟨(some 98), .call (.f 8) [(.t 97)], none, []⟩,
   ⟨(some 99), .mv (.t 1), none, []⟩,
   ⟨(some 100), .call (.f 9) [(.t 99)], none, []⟩,
   ⟨(some 101), .mv (.t 2), none, []⟩,
   ⟨(some 102), .call (.f 10) [(.t 98), (.t 100), (.t 101)], none, []⟩,
   ⟨(some 96), .mv (.t 102), none, []⟩,
   ⟨(some 103), .ext (.t 96) 0, none, []⟩,
   ⟨(some 104), .ext (.t 96) 1, none, []⟩,
   ⟨(some 17), .alloc 26 [.int .i64 0, .int .i64 0, .sl 0 0 0], none, []⟩,
   ⟨none, .store 3 (.t 17) (.t 103), none, []⟩,
   ⟨(some 18), .mv (.t 104), none, []⟩])
 (.seq (.seq (.ops false [⟨(some 105), .load true 3 (.t 17), none, []⟩,
    ⟨(some 106), .load true 3 (.t 8), none, []⟩,
    ⟨(some 107), .call (.f 11) [(.t 105), (.t 106)], none, []⟩,
    ⟨(some 108), .un .not (.t 107), none, []⟩,
    ⟨(some 109), .mv (.t 108), none, []⟩,
    ⟨(some 110), .mv (.t 18), (some (109, false)), []⟩,
    ⟨(some 111), .mv (.t 9), (some (109, false)), []⟩,
    ⟨(some 112), .beq true (.t 110) (.t 111), (some (109, false)), []⟩,
    ⟨(some 113), .pick (.t 109) (.k (bv true)) (.t 112), none, []⟩])
  (.cond (.t 113) (.seq (.ops false [⟨(some 6), .mv (.k (bv false)), none, []⟩])
   .ret)
   .skip))
 (.seq (.ops false [⟨(some 16), .mv (.k (iv 1)), none, []⟩])
 (.seq (.ops false [⟨(some 114), .load true 3 (.t 12), none, []⟩,
   ⟨(some 115), .mv (.t 16), none, []⟩,
   ⟨(some 116), .call (.f 15) [(.t 114), (.t 115)], none, []⟩,
   ⟨(some 16), .mv (.t 116), none, []⟩])
 (.seq (.seq (.ops false [⟨(some 117), .mv (.t 16), none, []⟩,
    ⟨(some 118), .bin .lss (.t 117) (.k (iv 0)), none, []⟩])
  (.cond (.t 118) (.seq (.ops false [⟨(some 6), .mv (.k (bv false)), none, []⟩])
   .ret)
   .skip))
 (.seq (.seq (.ops false [⟨(some 119), .mv (.t 16), none, []⟩,
    ⟨(some 120), .mv (.t 15), none, []⟩,
    ⟨(some 121), .bin .neq (.t 119) (.t 120), none, []⟩])
  (.cond (.t 121) (.seq (.ops false [⟨(some 6), .mv (.k (bv false)), none, []⟩])
   .ret)
   .skip))
 (.seq (.ops false [⟨(some 6), .mv (.k (bv true)), none, []⟩])
 .ret)))))))))))))))))))))))))))))⟩
theorem code3 : acode Try.prog hints 3 = some L3 := by kernel_rfl

theorem c_FnExactBlockStep {s : St} [Wf s] {a0_0 : Int} (w0_0 : -9223372036854775808 ≤ a0_0 ∧ a0_0 ≤ 9223372036854775807) {a0_1 : Int} (w0_1 : -9223372036854775808 ≤ a0_1 ∧ a0_1 ≤ 9223372036854775807) {i0_2 o0_2 n0_2 : Nat} {x0_2 : List Int} (h0_2 : ArgE ic s i0_2 o0_2 x0_2) (l0_2 : x0_2.length = n0_2) (b0_2 : ∀ n ∈ x0_2, -9223372036854775808 ≤ n ∧ n ≤ 9223372036854775807) (u0_2 : n0_2 ≤ 9223372036854775807) {i1 o1 n1 : Nat} {x1 : List Int} (h1 : ArgE ic s i1 o1 x1) (l1 : x1.length = n1) (b1 : ∀ n ∈ x1, -9223372036854775808 ≤ n ∧ n ≤ 9223372036854775807) (u1 : n1 ≤ 9223372036854775807) {t2 : Bool} :
    FnV 3 [.agg [.int .i64 a0_0, .int .i64 a0_1, .sl i0_2 o0_2 n0_2], .c (.sl i1 o1 n1), .c (.bool t2)] s (bv true) := by
  refine F_start code3 ?_
  repeat' (first
 | refine A_go rfl ?_ | refine A_ifT rfl rfl ?_ | refine A_ifF rfl rfl ?_
 | refine A_offP rfl rfl ?_ | refine A_offH rfl rfl ?_ | refine A_off0 rfl rfl ?_
 | ((first | refine A_lt rfl rfl rfl ?_ ?_ | refine A_gt rfl rfl rfl ?_ ?_ | refine A_ne rfl rfl rfl ?_ ?_ | refine A_beq rfl rfl rfl ?_ ?_) <;> intro hc <;> try first | contradiction | (exfalso; omega) | exact absurd rfl hc)
 | (refine A_callM rfl rfl (fun s H => c_szField) ?_; rintro _ _ ⟨⟨l, rfl, hl1, hl2⟩, rfl⟩) | (refine A_callM0 rfl rfl (fun s H => c_szField) ?_; rintro _ _ ⟨⟨l, rfl, hl1, hl2⟩, rfl⟩)
 | (refine A_callM rfl rfl (fun s H => c_toField) ?_; rintro _ _ ⟨pz, rfl, rfl⟩) | (refine A_callM0 rfl rfl (fun s H => c_toField) ?_; rintro _ _ ⟨pz, rfl, rfl⟩)
 | (refine A_callM rfl rfl (fun s H => c_toInt64S) ?_; rintro _ _ ⟨pz, rfl, rfl⟩) | (refine A_callM0 rfl rfl (fun s H => c_toInt64S) ?_; rintro _ _ ⟨pz, rfl, rfl⟩)
 | (refine A_callM rfl rfl (fun s H => c_specBlockStep) ?_; rintro _ _ ⟨pz, rfl, rfl, hlen⟩) | (refine A_callM0 rfl rfl (fun s H => c_specBlockStep) ?_; rintro _ _ ⟨pz, rfl, rfl, hlen⟩)
 | (refine A_callM rfl rfl (fun s H => c_implBlockStep) ?_; rintro _ _ ⟨pz, rfl, rfl, hlen⟩) | (refine A_callM0 rfl rfl (fun s H => c_implBlockStep) ?_; rintro _ _ ⟨pz, rfl, rfl, hlen⟩)
 | (refine A_callB rfl rfl (fun s H => c_eqField) ?_ ?_ <;> intro hc <;> try first | contradiction | (exfalso; omega) | exact absurd rfl hc | exact absurd (And.intro rfl rfl) hc | exact absurd (And.intro rfl (And.intro rfl rfl)) hc | exact absurd (Eq.trans (by assumption) (Eq.symm (by assumption))) hc)
 | (refine A_callB rfl rfl (fun s H => c_eqInt64S) ?_ ?_ <;> intro hc <;> try first | contradiction | (exfalso; omega) | exact absurd rfl hc | exact absurd (And.intro rfl rfl) hc | exact absurd (And.intro rfl (And.intro rfl rfl)) hc | exact absurd (Eq.trans (by assumption) (Eq.symm (by assumption))) hc)
 | (refine A_callM rfl rfl (fun s H => c_markField) ?_; rintro _ _ ⟨rfl, rfl⟩) | (refine A_callM0 rfl rfl (fun s H => c_markField) ?_; rintro _ _ ⟨rfl, rfl⟩)
 | (refine A_callM rfl rfl (fun s H => c_markInt64S) ?_; rintro _ _ ⟨rfl, rfl⟩) | (refine A_callM0 rfl rfl (fun s H => c_markInt64S) ?_; rintro _ _ ⟨rfl, rfl⟩)
 | refine A_callV rfl rfl (fun s H => c_heldField) ?_
 | refine A_p (by rfl) rfl ?_
 | refine A_ldW rfl (by simp) rfl ?_
 | refine A_stW rfl rfl (by simp) rfl ?_
 | ((first | refine A_alloc rfl ?_ | refine A_box rfl rfl ?_ | refine A_boxC rfl rfl ?_) <;> intro pz hpz)
 | refine A_chk1 rfl rfl rfl ?_ | refine A_chk2 rfl rfl rfl rfl ?_ | refine A_chk3 rfl rfl rfl rfl rfl ?_ | refine A_chk4 rfl rfl rfl rfl rfl rfl ?_ | refine A_chkI rfl (by assumption) rfl (by simp) ?_
 | refine A_ret1 rfl (by exact (RP.t rfl RP.nil)) ?_)
  all_goals exact R_v rfl

end Go.Proofs.Ytlhidckolillaaa
