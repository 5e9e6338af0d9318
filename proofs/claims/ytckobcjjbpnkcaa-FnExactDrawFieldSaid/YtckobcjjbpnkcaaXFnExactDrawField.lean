/- The law FnExactDrawField runs to true. -/
import Derived.Test.YtckobcjjbpnkcaaXdrawField
import Derived.Test.YtckobcjjbpnkcaaXfieldG
import Derived.Test.YtckobcjjbpnkcaaFB
namespace Go.Proofs.Ytckobcjjbpnkcaa
open Go Go.RowKit
set_option linter.unusedVariables false
set_option linter.unusedSimpArgs false
set_option maxRecDepth 100000
set_option maxHeartbeats 8000000
-- laws.FnExactDrawField
def L3 : AFun := ⟨94, [.t 8],
 (.seq (.ops false [⟨(some 8), .mv (.k (bv false)), none, []⟩])
 (.seq (.ops false [⟨(some 21), .mv (.t 0), none, []⟩,
   ⟨(some 22), .mv (.t 1), none, []⟩,
   ⟨(some 23), .mv (.t 2), none, []⟩,
   ⟨(some 24), .mv (.t 3), none, []⟩,
   ⟨(some 25), .call (.f 8) [(.t 21), (.t 22), (.t 23), (.t 24)], none, []⟩,
   ⟨(some 20), .mv (.t 25), none, []⟩,
   ⟨(some 26), .ext (.t 20) 0, none, []⟩,
   ⟨(some 27), .ext (.t 20) 1, none, []⟩,
   ⟨(some 28), .ext (.t 20) 2, none, []⟩,
   ⟨(some 9), .alloc 25 [.int .i64 0, .int .i64 0, .sl 0 0 0], none, []⟩,
   ⟨none, .store 3 (.t 9) (.t 26), none, []⟩,
   ⟨(some 10), .mv (.t 27), none, []⟩,
   ⟨(some 11), .mv (.t 28), none, []⟩])
 (.seq (.ops false [⟨(some 30), .mv (.t 0), none, []⟩,
   ⟨(some 31), .mv (.t 1), none, []⟩,
   ⟨(some 32), .mv (.t 2), none, []⟩,
   ⟨(some 33), .mv (.t 3), none, []⟩,
   ⟨(some 34), .call (.f 9) [(.t 30), (.t 31), (.t 32), (.t 33)], none, []⟩,
   ⟨(some 29), .mv (.t 34), none, []⟩,
   ⟨(some 35), .ext (.t 29) 0, none, []⟩,
   ⟨(some 36), .ext (.t 29) 1, none, []⟩,
   ⟨(some 37), .ext (.t 29) 2, none, []⟩,
   ⟨(some 12), .alloc 25 [.int .i64 0, .int .i64 0, .sl 0 0 0], none, []⟩,
   ⟨none, .store 3 (.t 12) (.t 35), none, []⟩,
   ⟨(some 13), .mv (.t 36), none, []⟩,
   ⟨(some 14), .mv (.t 37), none, []⟩])
 (.seq (.seq (.ops false [⟨(some 38), .load true 3 (.t 12), none, []⟩,
    ⟨(some 39), .load true 3 (.t 9), none, []⟩,
    ⟨(some 40), .call (.f 10) [(.t 38), (.t 39)], none, []⟩,
    ⟨(some 41), .un .not (.t 40), none, []⟩,
    ⟨(some 42), .mv (.t 41), none, []⟩,
    ⟨(some 43), .mv (.t 13), (some (42, false)), []⟩,
    ⟨(some 44), .mv (.t 10), (some (42, false)), []⟩,
    ⟨(some 45), .bin .neq (.t 43) (.t 44), (some (42, false)), []⟩,
    ⟨(some 46), .pick (.t 42) (.k (bv true)) (.t 45), none, []⟩,
    ⟨(some 47), .mv (.t 46), none, []⟩,
    ⟨(some 48), .mv (.t 14), (some (47, false)), []⟩,
    ⟨(some 49), .mv (.t 11), (some (47, false)), []⟩,
    ⟨(some 50), .beq true (.t 48) (.t 49), (some (47, false)), []⟩,
    ⟨(some 51), .pick (.t 47) (.k (bv true)) (.t 50), none, []⟩])
  (.cond (.t 51) (.seq (.ops false [⟨(some 8), .mv (.k (bv false)), none, []⟩])
   .ret)
   .skip))
 (.seq (.ops false [⟨(some 15), .mv (.k (iv 1)), none, []⟩])
 (.seq (.ops false [⟨(some 52), .load true 3 (.t 12), none, []⟩,
   ⟨(some 53), .mv (.t 15), none, []⟩,
   ⟨(some 54), .call (.f 11) [(.t 52), (.t 53)], none, []⟩,
   ⟨(some 15), .mv (.t 54), none, []⟩])
 (.seq (.ops false [⟨(some 16), .mv (.k (iv 1)), none, []⟩])
 (.seq (.ops false [⟨(some 55), .load true 3 (.t 12), none, []⟩,
   ⟨(some 56), .mv (.t 16), none, []⟩,
   ⟨(some 57), .call (.f 12) [(.t 55), (.t 56)], none, []⟩,
   ⟨(some 16), .mv (.t 57), none, []⟩])
 (.seq (.seq (.ops false [⟨(some 58), .mv (.t 16), none, []⟩,
    ⟨(some 59), .bin .lss (.t 58) (.k (iv 0)), none, []⟩])
  (.cond (.t 59) (.seq (.ops false [⟨(some 8), .mv (.k (bv false)), none, []⟩])
   .ret)
   .skip))
 (.seq (.seq (.ops false [⟨(some 60), .mv (.t 16), none, []⟩,
    ⟨(some 61), .mv (.t 15), none, []⟩,
    ⟨(some 62), .bin .neq (.t 60) (.t 61), none, []⟩])
  (.cond (.t 62) (.seq (.ops false [⟨(some 8), .mv (.k (bv false)), none, []⟩])
   .ret)
   .skip))
 (.seq (.ops false [⟨(some 64), .mv (.t 0), none, []⟩,
   ⟨(some 65), .mv (.t 1), none, []⟩,
   ⟨(some 66), .mv (.t 2), none, []⟩,
   ⟨(some 67), .mv (.t 3), none, []⟩,
   ⟨(some 68), .call (.f 9) [(.t 64), (.t 65), (.t 66), (.t 67)], none, []⟩,
   ⟨(some 63), .mv (.t 68), none, []⟩,
   ⟨(some 69), .ext (.t 63) 0, none, []⟩,
   ⟨(some 70), .ext (.t 63) 1, none, []⟩,
   ⟨(some 71), .ext (.t 63) 2, none, []⟩,
   ⟨(some 17), .alloc 25 [.int .i64 0, .int .i64 0, .sl 0 0 0], none, []⟩,
   ⟨none, .store 3 (.t 17) (.t 69), none, []⟩,
   ⟨(some 18), .mv (.t 70), none, []⟩,
   ⟨(some 19), .mv (.t 71), none, []⟩])
 (.seq (.seq (.ops false [⟨(some 72), .load true 3 (.t 17), none, []⟩,
    ⟨(some 73), .load true 3 (.t 9), none, []⟩,
    ⟨(some 74), .call (.f 10) [(.t 72), (.t 73)], none, []⟩,
    ⟨(some 75), .un .not (.t 74), none, []⟩,
    ⟨(some 76), .mv (.t 75), none, []⟩,
    ⟨(some 77), .mv (.t 18), (some (76, false)), []⟩,
    ⟨(some 78), .mv (.t 10), (some (76, false)), []⟩,
    ⟨(some 79), .bin .neq (.t 77) (.t 78), (some (76, false)), []⟩,
    ⟨(some 80), .pick (.t 76) (.k (bv true)) (.t 79), none, []⟩,
    ⟨(some 81), .mv (.t 80), none, []⟩,
    ⟨(some 82), .mv (.t 19), (some (81, false)), []⟩,
    ⟨(some 83), .mv (.t 11), (some (81, false)), []⟩,
    ⟨(some 84), .beq true (.t 82) (.t 83), (some (81, false)), []⟩,
    ⟨(some 85), .pick (.t 81) (.k (bv true)) (.t 84), none, []⟩])
  (.cond (.t 85) (.seq (.ops false [⟨(some 8), .mv (.k (bv false)), none, []⟩])
   .ret)
   .skip))
 (.seq (.ops false [⟨(some 16), .mv (.k (iv 1)), none, []⟩])
 (.seq (.ops false [⟨(some 86), .load true 3 (.t 12), none, []⟩,
   ⟨(some 87), .mv (.t 16), none, []⟩,
   ⟨(some 88), .call (.f 12) [(.t 86), (.t 87)], none, []⟩,
   ⟨(some 16), .mv (.t 88), none, []⟩])
 (.seq (.seq (.ops false [⟨(some 89), .mv (.t 16), none, []⟩,
    ⟨(some 90), .bin .lss (.t 89) (.k (iv 0)), none, []⟩])
  (.cond (.t 90) (.seq (.ops false [⟨(some 8), .mv (.k (bv false)), none, []⟩])
   .ret)
   .skip))
 (.seq (.seq (.ops false [⟨(some 91), .mv (.t 16), none, []⟩,
    ⟨(some 92), .mv (.t 15), none, []⟩,
    ⟨(some 93), .bin .neq (.t 91) (.t 92), none, []⟩])
  (.cond (.t 93) (.seq (.ops false [⟨(some 8), .mv (.k (bv false)), none, []⟩])
   .ret)
   .skip))
 (.seq (.ops false [⟨(some 8), .mv (.k (bv true)), none, []⟩])
 .ret)))))))))))))))))⟩
theorem code3 : acode Try.prog hints 3 = some L3 := by kernel_rfl

theorem c_FnExactDrawField {s : St} [Wf s] {a0 : Int} (w0 : -9223372036854775808 ≤ a0 ∧ a0 ≤ 9223372036854775807) {a1 : Int} (w1 : -9223372036854775808 ≤ a1 ∧ a1 ≤ 9223372036854775807) {f2 : Nat} {a3 : Int} (w3 : -9223372036854775808 ≤ a3 ∧ a3 ≤ 9223372036854775807) :
    FnV 3 [.c (.int .i64 a0), .c (.int .i64 a1), .c (.float .f32 f2), .c (.int .i64 a3)] s (bv true) := by
  refine F_start code3 ?_
  repeat' (first
 | refine A_go rfl ?_ | refine A_ifT rfl rfl ?_ | refine A_ifF rfl rfl ?_
 | refine A_offP rfl rfl ?_ | refine A_offH rfl rfl ?_ | refine A_off0 rfl rfl ?_
 | ((first | refine A_lt rfl rfl rfl ?_ ?_ | refine A_ne rfl rfl rfl ?_ ?_ | refine A_beq rfl rfl rfl ?_ ?_) <;> intro hc <;> try first | contradiction | (exfalso; omega) | exact absurd rfl hc)
 | (refine A_callM rfl rfl (fun s H => c_specDrawField) ?_; rintro _ _ ⟨pz, rfl, rfl, hlen⟩) | (refine A_callM0 rfl rfl (fun s H => c_specDrawField) ?_; rintro _ _ ⟨pz, rfl, rfl, hlen⟩)
 | (refine A_callM rfl rfl (fun s H => c_implDrawField) ?_; rintro _ _ ⟨pz, rfl, rfl, hlen⟩) | (refine A_callM0 rfl rfl (fun s H => c_implDrawField) ?_; rintro _ _ ⟨pz, rfl, rfl, hlen⟩)
 | (refine A_callB rfl rfl (fun s H => c_eqField) ?_ ?_ <;> intro hc <;> try first | contradiction | (exfalso; omega) | exact absurd rfl hc | exact absurd (And.intro rfl rfl) hc | exact absurd (And.intro rfl (And.intro rfl rfl)) hc | exact absurd (Eq.trans (by assumption) (Eq.symm (by assumption))) hc)
 | (refine A_callM rfl rfl (fun s H => c_markField) ?_; rintro _ _ ⟨rfl, rfl⟩) | (refine A_callM0 rfl rfl (fun s H => c_markField) ?_; rintro _ _ ⟨rfl, rfl⟩)
 | refine A_callV rfl rfl (fun s H => c_heldField) ?_
 | refine A_p (by rfl) rfl ?_
 | refine A_ldW rfl (by simp) rfl ?_
 | refine A_stW rfl rfl (by simp) rfl ?_
 | ((first | refine A_alloc rfl ?_) <;> intro pz hpz)
 | refine A_ret1 rfl (by exact (RP.t rfl RP.nil)) ?_)
  all_goals exact R_v rfl

end Go.Proofs.Ytckobcjjbpnkcaa
