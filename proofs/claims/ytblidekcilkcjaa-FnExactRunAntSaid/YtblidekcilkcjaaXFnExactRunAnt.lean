/- The law FnExactRunAnt runs to true. -/
import Derived.Test.YtblidekcilkcjaaXant
import Derived.Test.YtblidekcilkcjaaFB
namespace Go.Proofs.Ytblidekcilkcjaa
open Go Go.RowKit
set_option linter.unusedVariables false
set_option linter.unusedSimpArgs false
set_option maxRecDepth 100000
set_option maxHeartbeats 8000000
-- laws.FnExactRunAnt
def L11 : AFun := ⟨179, [.t 10],
 (.seq (.ops false [⟨(some 5), .box 31 (.t 0), none, []⟩,
   ⟨(some 10), .mv (.k (bv false)), none, []⟩])
 (.seq (.ops false [⟨(some 11), .mv (.k (iv 1048576)), none, []⟩])
 (.seq (.ops false [⟨(some 31), .load true 3 (.t 5), none, []⟩,
   ⟨(some 32), .mv (.t 11), none, []⟩,
   ⟨(some 33), .call (.f 20) [(.t 31), (.t 32)], none, []⟩,
   ⟨(some 11), .mv (.t 33), none, []⟩])
 (.seq (.seq (.ops false [⟨(some 34), .mv (.t 11), none, []⟩,
    ⟨(some 35), .bin .lss (.t 34) (.k (iv 0)), none, []⟩])
  (.cond (.t 35) (.seq (.ops false [⟨(some 10), .mv (.k (bv true)), none, []⟩])
   .ret)
   .skip))
 (.seq (.ops false [⟨(some 37), .load true 3 (.t 5), none, []⟩,
   ⟨(some 38), .call (.f 22) [(.t 37)], none, []⟩,
   ⟨(some 39), .mv (.t 1), none, []⟩,
   ⟨(some 40), .mv (.t 2), none, []⟩,
   ⟨(some 41), .mv (.t 3), none, []⟩,
   ⟨(some 42), .mv (.t 4), none, []⟩,
   ⟨(some 43), .call (.f 36) [(.t 38), (.t 39), (.t 40), (.t 41), (.t 42)], none, []⟩,
   ⟨(some 36), .mv (.t 43), none, []⟩,
   ⟨(some 44), .ext (.t 36) 0, none, []⟩,
   ⟨(some 45), .ext (.t 36) 1, none, []⟩,
   ⟨(some 46), .ext (.t 36) 2, none, []⟩,
   ⟨(some 47), .ext (.t 36) 3, none, []⟩,
   ⟨(some 48), .ext (.t 36) 4, none, []⟩,
   ⟨(some 12), .alloc 25 [.int .i64 0, .int .i64 0, .sl 0 0 0], none, []⟩,
   ⟨none, .store 3 (.t 12) (.t 44), none, []⟩,
   ⟨(some 13), .mv (.t 45), none, []⟩,
   ⟨(some 14), .mv (.t 46), none, []⟩,
   ⟨(some 15), .mv (.t 47), none, []⟩,
   ⟨(some 16), .mv (.t 48), none, []⟩])
 (.seq (.ops false [⟨(some 49), .load true 3 (.t 5), none, []⟩,
   ⟨(some 50), .call (.f 22) [(.t 49)], none, []⟩,
   ⟨(some 17), .alloc 25 [.int .i64 0, .int .i64 0, .sl 0 0 0], none, []⟩,
   ⟨none, .store 3 (.t 17) (.t 50), none, []⟩])
 (.seq (.ops false [⟨(some 52), .load true 3 (.t 17), none, []⟩,
   ⟨(some 53), .mv (.t 1), none, []⟩,
   ⟨(some 54), .mv (.t 2), none, []⟩,
   ⟨(some 55), .mv (.t 3), none, []⟩,
   ⟨(some 56), .mv (.t 4), none, []⟩,
   ⟨(some 57), .call (.f 37) [(.t 52), (.t 53), (.t 54), (.t 55), (.t 56)], none, []⟩,
   ⟨(some 51), .mv (.t 57), none, []⟩,
   ⟨(some 58), .ext (.t 51) 0, none, []⟩,
   ⟨(some 59), .ext (.t 51) 1, none, []⟩,
   ⟨(some 60), .ext (.t 51) 2, none, []⟩,
   ⟨(some 61), .ext (.t 51) 3, none, []⟩,
   ⟨(some 62), .ext (.t 51) 4, none, []⟩,
   ⟨(some 18), .alloc 25 [.int .i64 0, .int .i64 0, .sl 0 0 0], none, []⟩,
   ⟨none, .store 3 (.t 18) (.t 58), none, []⟩,
   ⟨(some 19), .mv (.t 59), none, []⟩,
   ⟨(some 20), .mv (.t 60), none, []⟩,
   ⟨(some 21), .mv (.t 61), none, []⟩,
   ⟨(some 22), .mv (.t 62), none, []⟩])
 (.seq (.seq (.ops false [⟨(some 63), .load true 3 (.t 18), none, []⟩,
    ⟨(some 64), .load true 3 (.t 12), none, []⟩,
    ⟨(some 65), .call (.f 17) [(.t 63), (.t 64)], none, []⟩,
    ⟨(some 66), .un .not (.t 65), none, []⟩,
    ⟨(some 67), .mv (.t 66), none, []⟩,
    ⟨(some 68), .mv (.t 19), (some (67, false)), []⟩,
    ⟨(some 69), .mv (.t 13), (some (67, false)), []⟩,
    ⟨(some 70), .bin .neq (.t 68) (.t 69), (some (67, false)), []⟩,
    ⟨(some 71), .pick (.t 67) (.k (bv true)) (.t 70), none, []⟩,
    ⟨(some 72), .mv (.t 71), none, []⟩,
    ⟨(some 73), .mv (.t 20), (some (72, false)), []⟩,
    ⟨(some 74), .mv (.t 14), (some (72, false)), []⟩,
    ⟨(some 75), .bin .neq (.t 73) (.t 74), (some (72, false)), []⟩,
    ⟨(some 76), .pick (.t 72) (.k (bv true)) (.t 75), none, []⟩,
    ⟨(some 77), .mv (.t 76), none, []⟩,
    ⟨(some 78), .mv (.t 21), (some (77, false)), []⟩,
    ⟨(some 79), .mv (.t 15), (some (77, false)), []⟩,
    ⟨(some 80), .bin .neq (.t 78) (.t 79), (some (77, false)), []⟩,
    ⟨(some 81), .pick (.t 77) (.k (bv true)) (.t 80), none, []⟩,
    ⟨(some 82), .mv (.t 81), none, []⟩,
    ⟨(some 83), .mv (.t 22), (some (82, false)), []⟩,
    ⟨(some 84), .mv (.t 16), (some (82, false)), []⟩,
    ⟨(some 85), .beq true (.t 83) (.t 84), (some (82, false)), []⟩,
    ⟨(some 86), .pick (.t 82) (.k (bv true)) (.t 85), none, []⟩])
  (.cond (.t 86) (.seq (.ops false [⟨(some 10), .mv (.k (bv false)), none, []⟩])
   .ret)
   .skip))
 (.seq (.seq (.ops true [⟨(some 88), .load true 3 (.t 5), none, []⟩,
    ⟨(some 89), .call (.f 22) [(.t 88)], none, []⟩,
    ⟨(some 87), .load true 3 (.t 17), none, [0]⟩,
    ⟨(some 90), .call (.f 17) [(.t 87), (.t 89)], none, []⟩,
    ⟨(some 91), .un .not (.t 90), none, []⟩])
  (.cond (.t 91) (.seq (.ops false [⟨(some 10), .mv (.k (bv false)), none, []⟩])
   .ret)
   .skip))
 (.seq (.ops false [⟨(some 23), .mv (.k (iv 1)), none, []⟩])
 (.seq (.ops false [⟨(some 92), .load true 3 (.t 17), none, []⟩,
   ⟨(some 93), .mv (.t 23), none, []⟩,
   ⟨(some 94), .call (.f 18) [(.t 92), (.t 93)], none, []⟩,
   ⟨(some 23), .mv (.t 94), none, []⟩])
 (.seq (.seq (.ops false [⟨(some 95), .mv (.t 23), none, []⟩,
    ⟨(some 96), .bin .lss (.t 95) (.k (iv 0)), none, []⟩,
    ⟨(some 97), .mv (.t 96), none, []⟩,
    ⟨(some 98), .load true 3 (.t 18), (some (97, false)), []⟩,
    ⟨(some 99), .load true 3 (.t 12), (some (97, false)), []⟩,
    ⟨(some 100), .call (.f 17) [(.t 98), (.t 99)], (some (97, false)), []⟩,
    ⟨(some 101), .un .not (.t 100), (some (97, false)), []⟩,
    ⟨(some 102), .pick (.t 97) (.k (bv true)) (.t 101), none, []⟩,
    ⟨(some 103), .mv (.t 102), none, []⟩,
    ⟨(some 104), .mv (.t 19), (some (103, false)), []⟩,
    ⟨(some 105), .mv (.t 13), (some (103, false)), []⟩,
    ⟨(some 106), .bin .neq (.t 104) (.t 105), (some (103, false)), []⟩,
    ⟨(some 107), .pick (.t 103) (.k (bv true)) (.t 106), none, []⟩,
    ⟨(some 108), .mv (.t 107), none, []⟩,
    ⟨(some 109), .mv (.t 20), (some (108, false)), []⟩,
    ⟨(some 110), .mv (.t 14), (some (108, false)), []⟩,
    ⟨(some 111), .bin .neq (.t 109) (.t 110), (some (108, false)), []⟩,
    ⟨(some 112), .pick (.t 108) (.k (bv true)) (.t 111), none, []⟩,
    ⟨(some 113), .mv (.t 112), none, []⟩,
    ⟨(some 114), .mv (.t 21), (some (113, false)), []⟩,
    ⟨(some 115), .mv (.t 15), (some (113, false)), []⟩,
    ⟨(some 116), .bin .neq (.t 114) (.t 115), (some (113, false)), []⟩,
    ⟨(some 117), .pick (.t 113) (.k (bv true)) (.t 116), none, []⟩,
    ⟨(some 118), .mv (.t 117), none, []⟩,
    ⟨(some 119), .mv (.t 22), (some (118, false)), []⟩,
    ⟨(some 120), .mv (.t 16), (some (118, false)), []⟩,
    ⟨(some 121), .beq true (.t 119) (.t 120), (some (118, false)), []⟩,
    ⟨(some 122), .pick (.t 118) (.k (bv true)) (.t 121), none, []⟩])
  (.cond (.t 122) (.seq (.ops false [⟨(some 10), .mv (.k (bv false)), none, []⟩])
   .ret)
   .skip))
 (.seq (.ops false [⟨(some 24), .mv (.k (iv 1)), none, []⟩])
 (.seq (.ops false [⟨(some 123), .load true 3 (.t 18), none, []⟩,
   ⟨(some 124), .mv (.t 24), none, []⟩,
   ⟨(some 125), .call (.f 18) [(.t 123), (.t 124)], none, []⟩,
   ⟨(some 24), .mv (.t 125), none, []⟩])
 (.seq (.ops false [⟨(some 25), .mv (.k (iv 1)), none, []⟩])
 (.seq (.ops false [⟨(some 126), .load true 3 (.t 18), none, []⟩,
   ⟨(some 127), .mv (.t 25), none, []⟩,
   ⟨(some 128), .call (.f 19) [(.t 126), (.t 127)], none, []⟩,
   ⟨(some 25), .mv (.t 128), none, []⟩])
 (.seq (.seq (.ops false [⟨(some 129), .mv (.t 25), none, []⟩,
    ⟨(some 130), .bin .lss (.t 129) (.k (iv 0)), none, []⟩])
  (.cond (.t 130) (.seq (.ops false [⟨(some 10), .mv (.k (bv false)), none, []⟩])
   .ret)
   .skip))
 (.seq (.seq (.ops false [⟨(some 131), .mv (.t 25), none, []⟩,
    ⟨(some 132), .mv (.t 24), none, []⟩,
    ⟨(some 133), .bin .neq (.t 131) (.t 132), none, []⟩])
  (.cond (.t 133) (.seq (.ops false [⟨(some 10), .mv (.k (bv false)), none, []⟩])
   .ret)
   .skip))
 (.seq (.ops false [⟨(some 135), .load true 3 (.t 5), none, []⟩,
   ⟨(some 136), .call (.f 22) [(.t 135)], none, []⟩,
   ⟨(some 137), .mv (.t 1), none, []⟩,
   ⟨(some 138), .mv (.t 2), none, []⟩,
   ⟨(some 139), .mv (.t 3), none, []⟩,
   ⟨(some 140), .mv (.t 4), none, []⟩,
   ⟨(some 141), .call (.f 37) [(.t 136), (.t 137), (.t 138), (.t 139), (.t 140)], none, []⟩,
   ⟨(some 134), .mv (.t 141), none, []⟩,
   ⟨(some 142), .ext (.t 134) 0, none, []⟩,
   ⟨(some 143), .ext (.t 134) 1, none, []⟩,
   ⟨(some 144), .ext (.t 134) 2, none, []⟩,
   ⟨(some 145), .ext (.t 134) 3, none, []⟩,
   ⟨(some 146), .ext (.t 134) 4, none, []⟩,
   ⟨(some 26), .alloc 25 [.int .i64 0, .int .i64 0, .sl 0 0 0], none, []⟩,
   ⟨none, .store 3 (.t 26) (.t 142), none, []⟩,
   ⟨(some 27), .mv (.t 143), none, []⟩,
   ⟨(some 28), .mv (.t 144), none, []⟩,
   ⟨(some 29), .mv (.t 145), none, []⟩,
   ⟨(some 30), .mv (.t 146), none, []⟩])
 (.seq (.seq (.ops false [⟨(some 147), .load true 3 (.t 26), none, []⟩,
    ⟨(some 148), .load true 3 (.t 12), none, []⟩,
    ⟨(some 149), .call (.f 17) [(.t 147), (.t 148)], none, []⟩,
    ⟨(some 150), .un .not (.t 149), none, []⟩,
    ⟨(some 151), .mv (.t 150), none, []⟩,
    ⟨(some 152), .mv (.t 27), (some (151, false)), []⟩,
    ⟨(some 153), .mv (.t 13), (some (151, false)), []⟩,
    ⟨(some 154), .bin .neq (.t 152) (.t 153), (some (151, false)), []⟩,
    ⟨(some 155), .pick (.t 151) (.k (bv true)) (.t 154), none, []⟩,
    ⟨(some 156), .mv (.t 155), none, []⟩,
    ⟨(some 157), .mv (.t 28), (some (156, false)), []⟩,
    ⟨(some 158), .mv (.t 14), (some (156, false)), []⟩,
    ⟨(some 159), .bin .neq (.t 157) (.t 158), (some (156, false)), []⟩,
    ⟨(some 160), .pick (.t 156) (.k (bv true)) (.t 159), none, []⟩,
    ⟨(some 161), .mv (.t 160), none, []⟩,
    ⟨(some 162), .mv (.t 29), (some (161, false)), []⟩,
    ⟨(some 163), .mv (.t 15), (some (161, false)), []⟩,
    ⟨(some 164), .bin .neq (.t 162) (.t 163), (some (161, false)), []⟩,
    ⟨(some 165), .pick (.t 161) (.k (bv true)) (.t 164), none, []⟩,
    ⟨(some 166), .mv (.t 165), none, []⟩,
    ⟨(some 167), .mv (.t 30), (some (166, false)), []⟩,
    ⟨(some 168), .mv (.t 16), (some (166, false)), []⟩,
    ⟨(some 169), .beq true (.t 167) (.t 168), (some (166, false)), []⟩,
    ⟨(some 170), .pick (.t 166) (.k (bv true)) (.t 169), none, []⟩])
  (.cond (.t 170) (.seq (.ops false [⟨(some 10), .mv (.k (bv false)), none, []⟩])
   .ret)
   .skip))
 (.seq (.ops false [⟨(some 25), .mv (.k (iv 1)), none, []⟩])
 (.seq (.ops false [⟨(some 171), .load true 3 (.t 18), none, []⟩,
   ⟨(some 172), .mv (.t 25), none, []⟩,
   ⟨(some 173), .call (.f 19) [(.t 171), (.t 172)], none, []⟩,
   ⟨(some 25), .mv (.t 173), none, []⟩])
 (.seq (.seq (.ops false [⟨(some 174), .mv (.t 25), none, []⟩,
    ⟨(some 175), .bin .lss (.t 174) (.k (iv 0)), none, []⟩])
  (.cond (.t 175) (.seq (.ops false [⟨(some 10), .mv (.k (bv false)), none, []⟩])
   .ret)
   .skip))
 (.seq (.seq (.ops false [⟨(some 176), .mv (.t 25), none, []⟩,
    ⟨(some 177), .mv (.t 24), none, []⟩,
    ⟨(some 178), .bin .neq (.t 176) (.t 177), none, []⟩])
  (.cond (.t 178) (.seq (.ops false [⟨(some 10), .mv (.k (bv false)), none, []⟩])
   .ret)
   .skip))
 (.seq (.ops false [⟨(some 10), .mv (.k (bv true)), none, []⟩])
 .ret)))))))))))))))))))))))))⟩
theorem code11 : acode Try.prog hints 11 = some L11 := by kernel_rfl

theorem c_FnExactRunAnt {s : St} [Wf s] {a0_0 : Int} (w0_0 : -9223372036854775808 ≤ a0_0 ∧ a0_0 ≤ 9223372036854775807) {a0_1 : Int} (w0_1 : -9223372036854775808 ≤ a0_1 ∧ a0_1 ≤ 9223372036854775807) {i0_2 o0_2 n0_2 : Nat} {x0_2 : List Int} (h0_2 : ArgE ic s i0_2 o0_2 x0_2) (l0_2 : x0_2.length = n0_2) (b0_2 : ∀ n ∈ x0_2, -9223372036854775808 ≤ n ∧ n ≤ 9223372036854775807) (u0_2 : n0_2 ≤ 9223372036854775807) {a1 : Int} (w1 : -9223372036854775808 ≤ a1 ∧ a1 ≤ 9223372036854775807) {a2 : Int} (w2 : -9223372036854775808 ≤ a2 ∧ a2 ≤ 9223372036854775807) {a3 : Int} (w3 : -9223372036854775808 ≤ a3 ∧ a3 ≤ 9223372036854775807) {a4 : Int} (w4 : -9223372036854775808 ≤ a4 ∧ a4 ≤ 9223372036854775807) :
    FnV 11 [.agg [.int .i64 a0_0, .int .i64 a0_1, .sl i0_2 o0_2 n0_2], .c (.int .i64 a1), .c (.int .i64 a2), .c (.int .i64 a3), .c (.int .i64 a4)] s (bv true) := by
  refine F_start code11 ?_
  repeat' (first
 | refine A_go rfl ?_ | refine A_ifT rfl rfl ?_ | refine A_ifF rfl rfl ?_ | refine A_offP rfl rfl ?_ | refine A_offH rfl rfl ?_ | refine A_off0 rfl rfl ?_
 | refine A_add rfl rfl rfl (by omega) ?_ | refine A_sub rfl rfl rfl (by omega) ?_ | refine A_mul rfl rfl rfl (by omega) ?_ | refine A_rem rfl rfl rfl (by omega) ?_ | refine A_remT rfl rfl rfl (by omega) ?_ | refine A_quo rfl rfl rfl (by omega) ?_
 | ((first | refine A_lt rfl rfl rfl ?_ ?_ | refine A_le rfl rfl rfl ?_ ?_ | refine A_gt rfl rfl rfl ?_ ?_ | refine A_ge rfl rfl rfl ?_ ?_ | refine A_eq rfl rfl rfl ?_ ?_ | refine A_ne rfl rfl rfl ?_ ?_ | refine A_beq rfl rfl rfl ?_ ?_) <;> intro hc <;> try first | contradiction | (exfalso; omega) | exact absurd rfl hc)
 | refine A_idxN1 rfl rfl rfl (by omega) ?_ | refine A_idx1 rfl rfl rfl (by omega) ?_ | refine A_idxArr1 rfl rfl rfl (by omega) ?_
 | (refine A_callM rfl rfl (fun s H => c_szField) ?_; rintro _ _ ⟨⟨l, rfl, hl1, hl2⟩, rfl⟩) | (refine A_callM0 rfl rfl (fun s H => c_szField) ?_; rintro _ _ ⟨⟨l, rfl, hl1, hl2⟩, rfl⟩)
 | (refine A_callM rfl rfl (fun s H => c_toField) ?_; rintro _ _ ⟨pz, rfl, rfl⟩) | (refine A_callM0 rfl rfl (fun s H => c_toField) ?_; rintro _ _ ⟨pz, rfl, rfl⟩)
 | (refine A_callM rfl rfl (fun s H => c_specRunAnt) ?_; rintro _ _ ⟨pz, rfl, rfl, hlen⟩) | (refine A_callM0 rfl rfl (fun s H => c_specRunAnt) ?_; rintro _ _ ⟨pz, rfl, rfl, hlen⟩)
 | (refine A_callM rfl rfl (fun s H => c_implRunAnt) ?_; rintro _ _ ⟨pz, rfl, rfl, hlen⟩) | (refine A_callM0 rfl rfl (fun s H => c_implRunAnt) ?_; rintro _ _ ⟨pz, rfl, rfl, hlen⟩)
 | (refine A_callB rfl rfl (fun s H => c_eqField) ?_ ?_ <;> intro hc <;> try first | contradiction | (exfalso; omega) | exact absurd rfl hc | exact absurd (And.intro rfl rfl) hc | exact absurd (And.intro rfl (And.intro rfl rfl)) hc)
 | (refine A_callM rfl rfl (fun s H => c_markField) ?_; rintro _ _ ⟨rfl, rfl⟩) | (refine A_callM0 rfl rfl (fun s H => c_markField) ?_; rintro _ _ ⟨rfl, rfl⟩)
 | refine A_callV rfl rfl (fun s H => c_heldField) ?_
 | refine A_fld rfl rfl ?_ | refine A_mk3 rfl rfl rfl rfl ?_ | refine A_mk23 rfl rfl rfl ?_ | refine A_mk2 rfl rfl rfl ?_ | refine A_p (by rfl) rfl ?_
 | refine A_ldI rfl (by first | omega | (simp; done) | (simp; omega)) rfl ?_ | refine A_ldB rfl (by first | omega | (simp; done) | (simp; omega)) rfl ?_ | refine A_ld rfl (by rfl) rfl ?_ | refine A_ldW rfl (by simp) rfl ?_
 | refine A_st rfl rfl rfl ?_ | refine A_stW rfl rfl (by simp) rfl ?_ | refine A_stE rfl rfl (by first | omega | (simp; done) | (simp; omega)) rfl ?_
 | ((first | refine A_alloc rfl ?_ | refine A_box rfl rfl ?_ | refine A_boxC rfl rfl ?_ | refine A_makeN rfl rfl rfl (by omega) ?_ | refine A_make rfl rfl rfl (by omega) ?_ | refine A_bld1 rfl rfl ?_ | refine A_bld2 rfl rfl rfl ?_ | refine A_bld4 rfl rfl rfl rfl rfl ?_) <;> intro pz hpz)
 | refine A_bld0 rfl ?_ | (refine A_app rfl rfl rfl (by first | omega | (simp; done) | (simp; omega)) (by first | omega | (simp; done) | (simp; omega)) (by omega) ?_; intro pz) | (refine A_appN (enc := ic) rfl (by decide) rfl rfl (by first | omega | (simp; done) | (simp; omega)) (by omega) ?_; intro pz)
 | refine A_chk1 rfl rfl rfl ?_ | refine A_chk2 rfl rfl rfl rfl ?_ | refine A_chk3 rfl rfl rfl rfl rfl ?_ | refine A_chk4 rfl rfl rfl rfl rfl rfl ?_ | refine A_chkI rfl (by assumption) rfl (by simp) ?_
 | refine A_ret1 rfl (by first | exact (RP.t rfl RP.nil) | exact (RP.c rfl inferInstance rfl (by simp) RP.nil)) ?_ | refine A_ret rfl (by first | exact (RP.t rfl (RP.t rfl RP.nil)) | exact (RP.c rfl inferInstance rfl (by simp) (RP.t rfl RP.nil)) | exact (RP.t rfl (RP.t rfl (RP.t rfl RP.nil))) | exact (RP.c rfl inferInstance rfl (by simp) (RP.t rfl (RP.t rfl RP.nil))) | exact (RP.c rfl inferInstance rfl (by simp) (RP.t rfl (RP.t rfl (RP.t rfl (RP.t rfl RP.nil)))))) ?_ | refine A_ret0 rfl ?_)
  all_goals exact R_v rfl

end Go.Proofs.Ytblidekcilkcjaa
