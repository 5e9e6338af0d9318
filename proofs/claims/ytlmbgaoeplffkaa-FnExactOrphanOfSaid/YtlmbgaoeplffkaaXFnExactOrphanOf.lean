/- The law FnExactOrphanOf runs to true. -/
import Derived.Test.YtlmbgaoeplffkaaXorpS
import Derived.Test.YtlmbgaoeplffkaaXruleLaws
import Derived.Test.YtlmbgaoeplffkaaFB
namespace Go.Proofs.Ytlmbgaoeplffkaa
open Go Go.RowKit
set_option linter.unusedVariables false
set_option linter.unusedSimpArgs false
set_option maxRecDepth 100000
set_option maxHeartbeats 8000000
-- laws.FnExactOrphanOf
def L4 : AFun := ⟨101, [.t 4],
 (.seq (.ops false [⟨(some 2), .box 41 (.t 0), none, []⟩,
   ⟨(some 4), .mv (.k (bv false)), none, []⟩])
 (.seq (.ops false [⟨(some 5), .mv (.k (iv 1048576)), none, []⟩])
 (.seq (.ops false [⟨(some 16), .load true 3 (.t 2), none, []⟩,
   ⟨(some 17), .mv (.t 5), none, []⟩,
   ⟨(some 18), .call (.f 17) [(.t 16), (.t 17)], none, []⟩,
   ⟨(some 5), .mv (.t 18), none, []⟩])
 (.seq (.seq (.ops false [⟨(some 19), .mv (.t 5), none, []⟩,
    ⟨(some 20), .bin .lss (.t 19) (.k (iv 0)), none, []⟩])
  (.cond (.t 20) (.seq (.ops false [⟨(some 4), .mv (.k (bv true)), none, []⟩])
   .ret)
   .skip))
 (.seq (.ops false [⟨(some 22), .load true 3 (.t 2), none, []⟩,
   ⟨(some 23), .call (.f 19) [(.t 22)], none, []⟩,
   ⟨(some 24), .mv (.t 1), none, []⟩,
   ⟨(some 25), .call (.f 18) [(.t 23), (.t 24)], none, []⟩,
   ⟨(some 21), .mv (.t 25), none, []⟩,
   ⟨(some 26), .ext (.t 21) 0, none, []⟩,
   ⟨(some 27), .ext (.t 21) 1, none, []⟩,
   ⟨(some 6), .mv (.t 26), none, []⟩,
   ⟨(some 7), .mv (.t 27), none, []⟩])
 (.seq (.ops false [⟨(some 28), .load true 3 (.t 2), none, []⟩,
   ⟨(some 29), .call (.f 19) [(.t 28)], none, []⟩,
   ⟨(some 8), .alloc 27 [.int .i64 0, .int .i64 0, .sl 0 0 0], none, []⟩,
   ⟨none, .store 3 (.t 8) (.t 29), none, []⟩])
 (.seq (.ops false [⟨(some 31), .load true 3 (.t 8), none, []⟩,
   ⟨(some 32), .mv (.t 1), none, []⟩,
   ⟨(some 33), .call (.f 20) [(.t 31), (.t 32)], none, []⟩,
   ⟨(some 30), .mv (.t 33), none, []⟩,
   ⟨(some 34), .ext (.t 30) 0, none, []⟩,
   ⟨(some 35), .ext (.t 30) 1, none, []⟩,
   ⟨(some 9), .mv (.t 34), none, []⟩,
   ⟨(some 10), .mv (.t 35), none, []⟩])
 (.seq (.seq (.ops false [⟨(some 36), .mv (.t 9), none, []⟩,
    ⟨(some 37), .mv (.t 6), none, []⟩,
    ⟨(some 38), .call (.f 21) [(.t 36), (.t 37)], none, []⟩,
    ⟨(some 39), .un .not (.t 38), none, []⟩,
    ⟨(some 40), .mv (.t 39), none, []⟩,
    ⟨(some 41), .mv (.t 10), (some (40, false)), []⟩,
    ⟨(some 42), .mv (.t 7), (some (40, false)), []⟩,
    ⟨(some 43), .beq true (.t 41) (.t 42), (some (40, false)), []⟩,
    ⟨(some 44), .pick (.t 40) (.k (bv true)) (.t 43), none, []⟩])
  (.cond (.t 44) (.seq (.ops false [⟨(some 4), .mv (.k (bv false)), none, []⟩])
   .ret)
   .skip))
 (.seq (.seq (.ops true [⟨(some 46), .load true 3 (.t 2), none, []⟩,
    ⟨(some 47), .call (.f 19) [(.t 46)], none, []⟩,
    ⟨(some 45), .load true 3 (.t 8), none, [0]⟩,
    ⟨(some 48), .call (.f 22) [(.t 45), (.t 47)], none, []⟩,
    ⟨(some 49), .un .not (.t 48), none, []⟩])
  (.cond (.t 49) (.seq (.ops false [⟨(some 4), .mv (.k (bv false)), none, []⟩])
   .ret)
   .skip))
 (.seq (.ops false [⟨(some 11), .mv (.k (iv 1)), none, []⟩])
 (.seq (.ops false [⟨(some 50), .load true 3 (.t 8), none, []⟩,
   ⟨(some 51), .mv (.t 11), none, []⟩,
   ⟨(some 52), .call (.f 23) [(.t 50), (.t 51)], none, []⟩,
   ⟨(some 11), .mv (.t 52), none, []⟩])
 (.seq (.seq (.ops false [⟨(some 53), .mv (.t 11), none, []⟩,
    ⟨(some 54), .bin .lss (.t 53) (.k (iv 0)), none, []⟩,
    ⟨(some 55), .mv (.t 54), none, []⟩,
    ⟨(some 56), .mv (.t 9), (some (55, false)), []⟩,
    ⟨(some 57), .mv (.t 6), (some (55, false)), []⟩,
    ⟨(some 58), .call (.f 21) [(.t 56), (.t 57)], (some (55, false)), []⟩,
    ⟨(some 59), .un .not (.t 58), (some (55, false)), []⟩,
    ⟨(some 60), .pick (.t 55) (.k (bv true)) (.t 59), none, []⟩,
    ⟨(some 61), .mv (.t 60), none, []⟩,
    ⟨(some 62), .mv (.t 10), (some (61, false)), []⟩,
    ⟨(some 63), .mv (.t 7), (some (61, false)), []⟩,
    ⟨(some 64), .beq true (.t 62) (.t 63), (some (61, false)), []⟩,
    ⟨(some 65), .pick (.t 61) (.k (bv true)) (.t 64), none, []⟩])
  (.cond (.t 65) (.seq (.ops false [⟨(some 4), .mv (.k (bv false)), none, []⟩])
   .ret)
   .skip))
 (.seq (.ops false [⟨(some 12), .mv (.k (iv 1)), none, []⟩])
 (.seq (.ops false [⟨(some 66), .mv (.t 9), none, []⟩,
   ⟨(some 67), .mv (.t 12), none, []⟩,
   ⟨(some 68), .call (.f 24) [(.t 66), (.t 67)], none, []⟩,
   ⟨(some 12), .mv (.t 68), none, []⟩])
 (.seq (.ops false [⟨(some 13), .mv (.k (iv 1)), none, []⟩])
 (.seq (.ops false [⟨(some 69), .mv (.t 9), none, []⟩,
   ⟨(some 70), .mv (.t 13), none, []⟩,
   ⟨(some 71), .call (.f 25) [(.t 69), (.t 70)], none, []⟩,
   ⟨(some 13), .mv (.t 71), none, []⟩])
 (.seq (.seq (.ops false [⟨(some 72), .mv (.t 13), none, []⟩,
    ⟨(some 73), .bin .lss (.t 72) (.k (iv 0)), none, []⟩])
  (.cond (.t 73) (.seq (.ops false [⟨(some 4), .mv (.k (bv false)), none, []⟩])
   .ret)
   .skip))
 (.seq (.seq (.ops false [⟨(some 74), .mv (.t 13), none, []⟩,
    ⟨(some 75), .mv (.t 12), none, []⟩,
    ⟨(some 76), .bin .neq (.t 74) (.t 75), none, []⟩])
  (.cond (.t 76) (.seq (.ops false [⟨(some 4), .mv (.k (bv false)), none, []⟩])
   .ret)
   .skip))
 (.seq (.ops false [⟨(some 78), .load true 3 (.t 2), none, []⟩,
   ⟨(some 79), .call (.f 19) [(.t 78)], none, []⟩,
   ⟨(some 80), .mv (.t 1), none, []⟩,
   ⟨(some 81), .call (.f 20) [(.t 79), (.t 80)], none, []⟩,
   ⟨(some 77), .mv (.t 81), none, []⟩,
   ⟨(some 82), .ext (.t 77) 0, none, []⟩,
   ⟨(some 83), .ext (.t 77) 1, none, []⟩,
   ⟨(some 14), .mv (.t 82), none, []⟩,
   ⟨(some 15), .mv (.t 83), none, []⟩])
 (.seq (.seq (.ops false [⟨(some 84), .mv (.t 14), none, []⟩,
    ⟨(some 85), .mv (.t 6), none, []⟩,
    ⟨(some 86), .call (.f 21) [(.t 84), (.t 85)], none, []⟩,
    ⟨(some 87), .un .not (.t 86), none, []⟩,
    ⟨(some 88), .mv (.t 87), none, []⟩,
    ⟨(some 89), .mv (.t 15), (some (88, false)), []⟩,
    ⟨(some 90), .mv (.t 7), (some (88, false)), []⟩,
    ⟨(some 91), .beq true (.t 89) (.t 90), (some (88, false)), []⟩,
    ⟨(some 92), .pick (.t 88) (.k (bv true)) (.t 91), none, []⟩])
  (.cond (.t 92) (.seq (.ops false [⟨(some 4), .mv (.k (bv false)), none, []⟩])
   .ret)
   .skip))
 (.seq (.ops false [⟨(some 13), .mv (.k (iv 1)), none, []⟩])
 (.seq (.ops false [⟨(some 93), .mv (.t 9), none, []⟩,
   ⟨(some 94), .mv (.t 13), none, []⟩,
   ⟨(some 95), .call (.f 25) [(.t 93), (.t 94)], none, []⟩,
   ⟨(some 13), .mv (.t 95), none, []⟩])
 (.seq (.seq (.ops false [⟨(some 96), .mv (.t 13), none, []⟩,
    ⟨(some 97), .bin .lss (.t 96) (.k (iv 0)), none, []⟩])
  (.cond (.t 97) (.seq (.ops false [⟨(some 4), .mv (.k (bv false)), none, []⟩])
   .ret)
   .skip))
 (.seq (.seq (.ops false [⟨(some 98), .mv (.t 13), none, []⟩,
    ⟨(some 99), .mv (.t 12), none, []⟩,
    ⟨(some 100), .bin .neq (.t 98) (.t 99), none, []⟩])
  (.cond (.t 100) (.seq (.ops false [⟨(some 4), .mv (.k (bv false)), none, []⟩])
   .ret)
   .skip))
 (.seq (.ops false [⟨(some 4), .mv (.k (bv true)), none, []⟩])
 .ret)))))))))))))))))))))))))⟩
theorem code4 : acode Try.prog hints 4 = some L4 := by kernel_rfl

theorem c_FnExactOrphanOf {s : St} [Wf s] {a0_0 : Int} (w0_0 : -9223372036854775808 ≤ a0_0 ∧ a0_0 ≤ 9223372036854775807) {a0_1 : Int} (w0_1 : -9223372036854775808 ≤ a0_1 ∧ a0_1 ≤ 9223372036854775807) {i0_2 o0_2 n0_2 : Nat} {x0_2 : List Int} (h0_2 : ArgE ic s i0_2 o0_2 x0_2) (l0_2 : x0_2.length = n0_2) (b0_2 : ∀ n ∈ x0_2, -9223372036854775808 ≤ n ∧ n ≤ 9223372036854775807) (u0_2 : n0_2 ≤ 9223372036854775807) {a1 : Int} (w1 : -9223372036854775808 ≤ a1 ∧ a1 ≤ 9223372036854775807) :
    FnV 4 [.agg [.int .i64 a0_0, .int .i64 a0_1, .sl i0_2 o0_2 n0_2], .c (.int .i64 a1)] s (bv true) := by
  refine F_start code4 ?_
  repeat' (first
 | refine A_go rfl ?_ | refine A_ifT rfl rfl ?_ | refine A_ifF rfl rfl ?_
 | refine A_offP rfl rfl ?_ | refine A_offH rfl rfl ?_ | refine A_off0 rfl rfl ?_
 | ((first | refine A_lt rfl rfl rfl ?_ ?_ | refine A_ne rfl rfl rfl ?_ ?_ | refine A_beq rfl rfl rfl ?_ ?_) <;> intro hc <;> try first | contradiction | (exfalso; omega) | exact absurd rfl hc)
 | (refine A_callM rfl rfl (fun s H => c_szRule) ?_; rintro _ _ ⟨⟨l, rfl, hl1, hl2⟩, rfl⟩) | (refine A_callM0 rfl rfl (fun s H => c_szRule) ?_; rintro _ _ ⟨⟨l, rfl, hl1, hl2⟩, rfl⟩)
 | (refine A_callM rfl rfl (fun s H => c_toRule) ?_; rintro _ _ ⟨pz, rfl, rfl⟩) | (refine A_callM0 rfl rfl (fun s H => c_toRule) ?_; rintro _ _ ⟨pz, rfl, rfl⟩)
 | (refine A_callM rfl rfl (fun s H => c_toInt64S) ?_; rintro _ _ ⟨pz, rfl, rfl⟩) | (refine A_callM0 rfl rfl (fun s H => c_toInt64S) ?_; rintro _ _ ⟨pz, rfl, rfl⟩)
 | (refine A_callM rfl rfl (fun s H => c_specOrphanOf) ?_; rintro _ _ ⟨pz, rfl, rfl, hlen⟩) | (refine A_callM0 rfl rfl (fun s H => c_specOrphanOf) ?_; rintro _ _ ⟨pz, rfl, rfl, hlen⟩)
 | (refine A_callM rfl rfl (fun s H => c_implOrphanOf) ?_; rintro _ _ ⟨pz, rfl, rfl, hlen⟩) | (refine A_callM0 rfl rfl (fun s H => c_implOrphanOf) ?_; rintro _ _ ⟨pz, rfl, rfl, hlen⟩)
 | (refine A_callB rfl rfl (fun s H => c_eqRule) ?_ ?_ <;> intro hc <;> try first | contradiction | (exfalso; omega) | exact absurd rfl hc | exact absurd (And.intro rfl rfl) hc | exact absurd (And.intro rfl (And.intro rfl rfl)) hc | exact absurd (Eq.trans (by assumption) (Eq.symm (by assumption))) hc)
 | (refine A_callB rfl rfl (fun s H => c_eqInt64S) ?_ ?_ <;> intro hc <;> try first | contradiction | (exfalso; omega) | exact absurd rfl hc | exact absurd (And.intro rfl rfl) hc | exact absurd (And.intro rfl (And.intro rfl rfl)) hc | exact absurd (Eq.trans (by assumption) (Eq.symm (by assumption))) hc)
 | (refine A_callM rfl rfl (fun s H => c_markRule) ?_; rintro _ _ ⟨rfl, rfl⟩) | (refine A_callM0 rfl rfl (fun s H => c_markRule) ?_; rintro _ _ ⟨rfl, rfl⟩)
 | (refine A_callM rfl rfl (fun s H => c_markInt64S) ?_; rintro _ _ ⟨rfl, rfl⟩) | (refine A_callM0 rfl rfl (fun s H => c_markInt64S) ?_; rintro _ _ ⟨rfl, rfl⟩)
 | refine A_callV rfl rfl (fun s H => c_heldInt64S) ?_
 | refine A_p (by rfl) rfl ?_
 | refine A_ldW rfl (by simp) rfl ?_
 | refine A_stW rfl rfl (by simp) rfl ?_
 | ((first | refine A_alloc rfl ?_ | refine A_box rfl rfl ?_ | refine A_boxC rfl rfl ?_) <;> intro pz hpz)
 | refine A_chk1 rfl rfl rfl ?_ | refine A_chk2 rfl rfl rfl rfl ?_ | refine A_chk3 rfl rfl rfl rfl rfl ?_ | refine A_chk4 rfl rfl rfl rfl rfl rfl ?_ | refine A_chkI rfl (by assumption) rfl (by simp) ?_
 | refine A_ret1 rfl (by exact (RP.t rfl RP.nil)) ?_)
  all_goals exact R_v rfl

end Go.Proofs.Ytlmbgaoeplffkaa
