/- The law FnExactAllBack runs to true. -/
import Derived.Test.YtafdjnhlhepibaaXallBack
import Derived.Test.YtafdjnhlhepibaaXruleLaws
import Derived.Test.YtafdjnhlhepibaaFB
namespace Go.Proofs.Ytafdjnhlhepibaa
open Go Go.RowKit
set_option linter.unusedVariables false
set_option linter.unusedSimpArgs false
set_option maxRecDepth 100000
set_option maxHeartbeats 8000000
-- laws.FnExactAllBack
def L7 : AFun := ⟨117, [.t 4],
 (.seq (.ops false [⟨(some 2), .box 24 (.t 0), none, []⟩,
   ⟨(some 4), .mv (.k (bv false)), none, []⟩])
 (.seq (.seq (.ops false [⟨(some 17), .mv (.t 1), none, []⟩,
    ⟨(some 18), .len false (.t 17), none, []⟩,
    ⟨(some 19), .bin .gtr (.t 18) (.k (iv 1048576)), none, []⟩])
  (.cond (.t 19) (.seq (.ops false [⟨(some 4), .mv (.k (bv true)), none, []⟩])
   .ret)
   .skip))
 (.seq (.ops false [⟨(some 5), .mv (.k (iv 1048576)), none, []⟩])
 (.seq (.ops false [⟨(some 20), .load true 3 (.t 2), none, []⟩,
   ⟨(some 21), .mv (.t 5), none, []⟩,
   ⟨(some 22), .call (.f 11) [(.t 20), (.t 21)], none, []⟩,
   ⟨(some 5), .mv (.t 22), none, []⟩])
 (.seq (.seq (.ops false [⟨(some 23), .mv (.t 5), none, []⟩,
    ⟨(some 24), .bin .lss (.t 23) (.k (iv 0)), none, []⟩])
  (.cond (.t 24) (.seq (.ops false [⟨(some 4), .mv (.k (bv true)), none, []⟩])
   .ret)
   .skip))
 (.seq (.ops false [⟨(some 26), .load true 3 (.t 2), none, []⟩,
   ⟨(some 27), .call (.f 14) [(.t 26)], none, []⟩,
   ⟨(some 28), .mv (.t 1), none, []⟩,
   ⟨(some 29), .call (.f 32) [(.t 28)], none, []⟩,
   ⟨(some 30), .call (.f 31) [(.t 27), (.t 29)], none, []⟩,
   ⟨(some 25), .mv (.t 30), none, []⟩,
   ⟨(some 31), .ext (.t 25) 0, none, []⟩,
   ⟨(some 32), .ext (.t 25) 1, none, []⟩,
   ⟨(some 6), .mv (.t 31), none, []⟩,
   ⟨(some 7), .mv (.t 32), none, []⟩])
 (.seq (.ops false [⟨(some 33), .load true 3 (.t 2), none, []⟩,
   ⟨(some 34), .call (.f 14) [(.t 33)], none, []⟩,
   ⟨(some 8), .alloc 30 [.int .i64 0, .int .i64 0, .sl 0 0 0], none, []⟩,
   ⟨none, .store 3 (.t 8) (.t 34), none, []⟩])
 (.seq (.ops false [⟨(some 35), .mv (.t 1), none, []⟩,
   ⟨(some 36), .call (.f 32) [(.t 35)], none, []⟩,
   ⟨(some 9), .mv (.t 36), none, []⟩])
 (.seq (.ops false [⟨(some 38), .load true 3 (.t 8), none, []⟩,
   ⟨(some 39), .mv (.t 9), none, []⟩,
   ⟨(some 40), .call (.f 33) [(.t 38), (.t 39)], none, []⟩,
   ⟨(some 37), .mv (.t 40), none, []⟩,
   ⟨(some 41), .ext (.t 37) 0, none, []⟩,
   ⟨(some 42), .ext (.t 37) 1, none, []⟩,
   ⟨(some 10), .mv (.t 41), none, []⟩,
   ⟨(some 11), .mv (.t 42), none, []⟩])
 (.seq (.seq (.ops false [⟨(some 43), .mv (.t 10), none, []⟩,
    ⟨(some 44), .mv (.t 6), none, []⟩,
    ⟨(some 45), .call (.f 17) [(.t 43), (.t 44)], none, []⟩,
    ⟨(some 46), .un .not (.t 45), none, []⟩,
    ⟨(some 47), .mv (.t 46), none, []⟩,
    ⟨(some 48), .mv (.t 11), (some (47, false)), []⟩,
    ⟨(some 49), .mv (.t 7), (some (47, false)), []⟩,
    ⟨(some 50), .beq true (.t 48) (.t 49), (some (47, false)), []⟩,
    ⟨(some 51), .pick (.t 47) (.k (bv true)) (.t 50), none, []⟩])
  (.cond (.t 51) (.seq (.ops false [⟨(some 4), .mv (.k (bv false)), none, []⟩])
   .ret)
   .skip))
 (.seq (.seq (.ops true [⟨(some 53), .load true 3 (.t 2), none, []⟩,
    ⟨(some 54), .call (.f 14) [(.t 53)], none, []⟩,
    ⟨(some 52), .load true 3 (.t 8), none, [0]⟩,
    ⟨(some 55), .call (.f 18) [(.t 52), (.t 54)], none, []⟩,
    ⟨(some 56), .un .not (.t 55), none, []⟩])
  (.cond (.t 56) (.seq (.ops false [⟨(some 4), .mv (.k (bv false)), none, []⟩])
   .ret)
   .skip))
 (.seq (.seq (.ops false [⟨(some 57), .mv (.t 9), none, []⟩,
    ⟨(some 58), .mv (.t 1), none, []⟩,
    ⟨(some 59), .call (.f 32) [(.t 58)], none, []⟩,
    ⟨(some 60), .call (.f 24) [(.t 57), (.t 59)], none, []⟩,
    ⟨(some 61), .un .not (.t 60), none, []⟩])
  (.cond (.t 61) (.seq (.ops false [⟨(some 4), .mv (.k (bv false)), none, []⟩])
   .ret)
   .skip))
 (.seq (.ops false [⟨(some 12), .mv (.k (iv 1)), none, []⟩])
 (.seq (.ops false [⟨(some 62), .load true 3 (.t 8), none, []⟩,
   ⟨(some 63), .mv (.t 12), none, []⟩,
   ⟨(some 64), .call (.f 19) [(.t 62), (.t 63)], none, []⟩,
   ⟨(some 12), .mv (.t 64), none, []⟩])
 (.seq (.ops false [⟨(some 65), .mv (.t 9), none, []⟩,
   ⟨(some 66), .mv (.t 12), none, []⟩,
   ⟨(some 67), .call (.f 25) [(.t 65), (.t 66)], none, []⟩,
   ⟨(some 12), .mv (.t 67), none, []⟩])
 (.seq (.seq (.ops false [⟨(some 68), .mv (.t 12), none, []⟩,
    ⟨(some 69), .bin .lss (.t 68) (.k (iv 0)), none, []⟩,
    ⟨(some 70), .mv (.t 69), none, []⟩,
    ⟨(some 71), .mv (.t 10), (some (70, false)), []⟩,
    ⟨(some 72), .mv (.t 6), (some (70, false)), []⟩,
    ⟨(some 73), .call (.f 17) [(.t 71), (.t 72)], (some (70, false)), []⟩,
    ⟨(some 74), .un .not (.t 73), (some (70, false)), []⟩,
    ⟨(some 75), .pick (.t 70) (.k (bv true)) (.t 74), none, []⟩,
    ⟨(some 76), .mv (.t 75), none, []⟩,
    ⟨(some 77), .mv (.t 11), (some (76, false)), []⟩,
    ⟨(some 78), .mv (.t 7), (some (76, false)), []⟩,
    ⟨(some 79), .beq true (.t 77) (.t 78), (some (76, false)), []⟩,
    ⟨(some 80), .pick (.t 76) (.k (bv true)) (.t 79), none, []⟩])
  (.cond (.t 80) (.seq (.ops false [⟨(some 4), .mv (.k (bv false)), none, []⟩])
   .ret)
   .skip))
 (.seq (.ops false [⟨(some 13), .mv (.k (iv 1)), none, []⟩])
 (.seq (.ops false [⟨(some 81), .mv (.t 10), none, []⟩,
   ⟨(some 82), .mv (.t 13), none, []⟩,
   ⟨(some 83), .call (.f 20) [(.t 81), (.t 82)], none, []⟩,
   ⟨(some 13), .mv (.t 83), none, []⟩])
 (.seq (.ops false [⟨(some 14), .mv (.k (iv 1)), none, []⟩])
 (.seq (.ops false [⟨(some 84), .mv (.t 10), none, []⟩,
   ⟨(some 85), .mv (.t 14), none, []⟩,
   ⟨(some 86), .call (.f 21) [(.t 84), (.t 85)], none, []⟩,
   ⟨(some 14), .mv (.t 86), none, []⟩])
 (.seq (.seq (.ops false [⟨(some 87), .mv (.t 14), none, []⟩,
    ⟨(some 88), .bin .lss (.t 87) (.k (iv 0)), none, []⟩])
  (.cond (.t 88) (.seq (.ops false [⟨(some 4), .mv (.k (bv false)), none, []⟩])
   .ret)
   .skip))
 (.seq (.seq (.ops false [⟨(some 89), .mv (.t 14), none, []⟩,
    ⟨(some 90), .mv (.t 13), none, []⟩,
    ⟨(some 91), .bin .neq (.t 89) (.t 90), none, []⟩])
  (.cond (.t 91) (.seq (.ops false [⟨(some 4), .mv (.k (bv false)), none, []⟩])
   .ret)
   .skip))
 (.seq (.ops false [⟨(some 93), .load true 3 (.t 2), none, []⟩,
   ⟨(some 94), .call (.f 14) [(.t 93)], none, []⟩,
   ⟨(some 95), .mv (.t 1), none, []⟩,
   ⟨(some 96), .call (.f 32) [(.t 95)], none, []⟩,
   ⟨(some 97), .call (.f 33) [(.t 94), (.t 96)], none, []⟩,
   ⟨(some 92), .mv (.t 97), none, []⟩,
   ⟨(some 98), .ext (.t 92) 0, none, []⟩,
   ⟨(some 99), .ext (.t 92) 1, none, []⟩,
   ⟨(some 15), .mv (.t 98), none, []⟩,
   ⟨(some 16), .mv (.t 99), none, []⟩])
 (.seq (.seq (.ops false [⟨(some 100), .mv (.t 15), none, []⟩,
    ⟨(some 101), .mv (.t 6), none, []⟩,
    ⟨(some 102), .call (.f 17) [(.t 100), (.t 101)], none, []⟩,
    ⟨(some 103), .un .not (.t 102), none, []⟩,
    ⟨(some 104), .mv (.t 103), none, []⟩,
    ⟨(some 105), .mv (.t 16), (some (104, false)), []⟩,
    ⟨(some 106), .mv (.t 7), (some (104, false)), []⟩,
    ⟨(some 107), .beq true (.t 105) (.t 106), (some (104, false)), []⟩,
    ⟨(some 108), .pick (.t 104) (.k (bv true)) (.t 107), none, []⟩])
  (.cond (.t 108) (.seq (.ops false [⟨(some 4), .mv (.k (bv false)), none, []⟩])
   .ret)
   .skip))
 (.seq (.ops false [⟨(some 14), .mv (.k (iv 1)), none, []⟩])
 (.seq (.ops false [⟨(some 109), .mv (.t 10), none, []⟩,
   ⟨(some 110), .mv (.t 14), none, []⟩,
   ⟨(some 111), .call (.f 21) [(.t 109), (.t 110)], none, []⟩,
   ⟨(some 14), .mv (.t 111), none, []⟩])
 (.seq (.seq (.ops false [⟨(some 112), .mv (.t 14), none, []⟩,
    ⟨(some 113), .bin .lss (.t 112) (.k (iv 0)), none, []⟩])
  (.cond (.t 113) (.seq (.ops false [⟨(some 4), .mv (.k (bv false)), none, []⟩])
   .ret)
   .skip))
 (.seq (.seq (.ops false [⟨(some 114), .mv (.t 14), none, []⟩,
    ⟨(some 115), .mv (.t 13), none, []⟩,
    ⟨(some 116), .bin .neq (.t 114) (.t 115), none, []⟩])
  (.cond (.t 116) (.seq (.ops false [⟨(some 4), .mv (.k (bv false)), none, []⟩])
   .ret)
   .skip))
 (.seq (.ops false [⟨(some 4), .mv (.k (bv true)), none, []⟩])
 .ret)))))))))))))))))))))))))))))⟩
theorem code7 : acode Try.prog hints 7 = some L7 := by kernel_rfl

theorem c_FnExactAllBack {s : St} [Wf s] {a0_0 : Int} (w0_0 : -9223372036854775808 ≤ a0_0 ∧ a0_0 ≤ 9223372036854775807) {a0_1 : Int} (w0_1 : -9223372036854775808 ≤ a0_1 ∧ a0_1 ≤ 9223372036854775807) {i0_2 o0_2 n0_2 : Nat} {x0_2 : List Int} (h0_2 : ArgE ic s i0_2 o0_2 x0_2) (l0_2 : x0_2.length = n0_2) (b0_2 : ∀ n ∈ x0_2, -9223372036854775808 ≤ n ∧ n ≤ 9223372036854775807) (u0_2 : n0_2 ≤ 9223372036854775807) {i1 o1 n1 : Nat} {x1 : List Int} (h1 : ArgE ic s i1 o1 x1) (l1 : x1.length = n1) (b1 : ∀ n ∈ x1, -9223372036854775808 ≤ n ∧ n ≤ 9223372036854775807) (u1 : n1 ≤ 9223372036854775807) :
    FnV 7 [.agg [.int .i64 a0_0, .int .i64 a0_1, .sl i0_2 o0_2 n0_2], .c (.sl i1 o1 n1)] s (bv true) := by
  refine F_start code7 ?_
  repeat' (first
 | refine A_go rfl ?_ | refine A_ifT rfl rfl ?_ | refine A_ifF rfl rfl ?_
 | refine A_offP rfl rfl ?_ | refine A_offH rfl rfl ?_ | refine A_off0 rfl rfl ?_
 | ((first | refine A_lt rfl rfl rfl ?_ ?_ | refine A_gt rfl rfl rfl ?_ ?_ | refine A_ne rfl rfl rfl ?_ ?_ | refine A_beq rfl rfl rfl ?_ ?_) <;> intro hc <;> try first | contradiction | (exfalso; omega) | exact absurd rfl hc)
 | (refine A_callM rfl rfl (fun s H => c_szRule) ?_; rintro _ _ ⟨⟨l, rfl, hl1, hl2⟩, rfl⟩) | (refine A_callM0 rfl rfl (fun s H => c_szRule) ?_; rintro _ _ ⟨⟨l, rfl, hl1, hl2⟩, rfl⟩)
 | (refine A_callM rfl rfl (fun s H => c_toRule) ?_; rintro _ _ ⟨pz, rfl, rfl⟩) | (refine A_callM0 rfl rfl (fun s H => c_toRule) ?_; rintro _ _ ⟨pz, rfl, rfl⟩)
 | (refine A_callM rfl rfl (fun s H => c_toInt64S) ?_; rintro _ _ ⟨pz, rfl, rfl⟩) | (refine A_callM0 rfl rfl (fun s H => c_toInt64S) ?_; rintro _ _ ⟨pz, rfl, rfl⟩)
 | (refine A_callM rfl rfl (fun s H => c_specAllBack) ?_; rintro _ _ ⟨pz, zs, rfl, hok, rfl, hzs, hsl, hlen⟩) | (refine A_callM0 rfl rfl (fun s H => c_specAllBack) ?_; rintro _ _ ⟨pz, zs, rfl, hok, rfl, hzs, hsl, hlen⟩)
 | (refine A_callM rfl rfl (fun s H => c_implAllBack) ?_; rintro _ _ ⟨pz, zs, rfl, hok, rfl, hzs, hsl, hlen⟩) | (refine A_callM0 rfl rfl (fun s H => c_implAllBack) ?_; rintro _ _ ⟨pz, zs, rfl, hok, rfl, hzs, hsl, hlen⟩)
 | (refine A_callB rfl rfl (fun s H => c_eqInt64SS) ?_ ?_ <;> intro hc <;> try first | contradiction | (exfalso; omega) | exact absurd rfl hc | exact absurd (And.intro rfl rfl) hc | exact absurd (And.intro rfl (And.intro rfl rfl)) hc | exact absurd (Eq.trans (by assumption) (Eq.symm (by assumption))) hc)
 | (refine A_callB rfl rfl (fun s H => c_eqRule) ?_ ?_ <;> intro hc <;> try first | contradiction | (exfalso; omega) | exact absurd rfl hc | exact absurd (And.intro rfl rfl) hc | exact absurd (And.intro rfl (And.intro rfl rfl)) hc | exact absurd (Eq.trans (by assumption) (Eq.symm (by assumption))) hc)
 | (refine A_callB rfl rfl (fun s H => c_eqInt64S) ?_ ?_ <;> intro hc <;> try first | contradiction | (exfalso; omega) | exact absurd rfl hc | exact absurd (And.intro rfl rfl) hc | exact absurd (And.intro rfl (And.intro rfl rfl)) hc | exact absurd (Eq.trans (by assumption) (Eq.symm (by assumption))) hc)
 | (refine A_callM rfl rfl (fun s H => c_markRule) ?_; rintro _ _ ⟨rfl, rfl⟩) | (refine A_callM0 rfl rfl (fun s H => c_markRule) ?_; rintro _ _ ⟨rfl, rfl⟩)
 | (refine A_callM rfl rfl (fun s H => c_markInt64S) ?_; rintro _ _ ⟨rfl, rfl⟩) | (refine A_callM0 rfl rfl (fun s H => c_markInt64S) ?_; rintro _ _ ⟨rfl, rfl⟩)
 | (refine A_callM rfl rfl (fun s H => c_markInt64SS) ?_; rintro _ _ ⟨rfl, rfl⟩) | (refine A_callM0 rfl rfl (fun s H => c_markInt64SS) ?_; rintro _ _ ⟨rfl, rfl⟩)
 | refine A_callV rfl rfl (fun s H => c_heldInt64SS) ?_
 | refine A_p (by rfl) rfl ?_
 | refine A_ldW rfl (by simp) rfl ?_
 | refine A_stW rfl rfl (by simp) rfl ?_
 | ((first | refine A_alloc rfl ?_ | refine A_box rfl rfl ?_ | refine A_boxC rfl rfl ?_) <;> intro pz hpz)
 | refine A_chk1 rfl rfl rfl ?_ | refine A_chk2 rfl rfl rfl rfl ?_ | refine A_chk3 rfl rfl rfl rfl rfl ?_ | refine A_chk4 rfl rfl rfl rfl rfl rfl ?_ | refine A_chkI rfl (by assumption) rfl (by simp) ?_
 | refine A_ret1 rfl (by exact (RP.t rfl RP.nil)) ?_)
  all_goals exact R_v rfl

end Go.Proofs.Ytafdjnhlhepibaa
