/- The law FnExactCountThrough runs to true. -/
import Derived.Test.YtckobcjjbpnkcaaXcountT
import Derived.Test.YtckobcjjbpnkcaaXtoInts
import Derived.Test.YtckobcjjbpnkcaaXeqInts
import Derived.Test.YtckobcjjbpnkcaaXmark
import Derived.Test.YtckobcjjbpnkcaaFB
namespace Go.Proofs.Ytckobcjjbpnkcaa
open Go Go.RowKit
set_option linter.unusedVariables false
set_option linter.unusedSimpArgs false
set_option maxRecDepth 100000
set_option maxHeartbeats 8000000
-- laws.FnExactCountThrough
def L4 : AFun := ⟨68, [.t 4],
 (.seq (.ops false [⟨(some 4), .mv (.k (bv false)), none, []⟩])
 (.seq (.ops false [⟨(some 14), .mv (.t 0), none, []⟩,
   ⟨(some 15), .mv (.t 1), none, []⟩,
   ⟨(some 16), .call (.f 13) [(.t 14), (.t 15)], none, []⟩,
   ⟨(some 13), .mv (.t 16), none, []⟩,
   ⟨(some 17), .ext (.t 13) 0, none, []⟩,
   ⟨(some 18), .ext (.t 13) 1, none, []⟩,
   ⟨(some 5), .mv (.t 17), none, []⟩,
   ⟨(some 6), .mv (.t 18), none, []⟩])
 (.seq (.ops false [⟨(some 20), .mv (.t 0), none, []⟩,
   ⟨(some 21), .mv (.t 1), none, []⟩,
   ⟨(some 22), .call (.f 14) [(.t 20), (.t 21)], none, []⟩,
   ⟨(some 19), .mv (.t 22), none, []⟩,
   ⟨(some 23), .ext (.t 19) 0, none, []⟩,
   ⟨(some 24), .ext (.t 19) 1, none, []⟩,
   ⟨(some 7), .mv (.t 23), none, []⟩,
   ⟨(some 8), .mv (.t 24), none, []⟩])
 (.seq (.seq (.ops false [⟨(some 25), .mv (.t 7), none, []⟩,
    ⟨(some 26), .mv (.t 5), none, []⟩,
    ⟨(some 27), .call (.f 15) [(.t 25), (.t 26)], none, []⟩,
    ⟨(some 28), .un .not (.t 27), none, []⟩,
    ⟨(some 29), .mv (.t 28), none, []⟩,
    ⟨(some 30), .mv (.t 8), (some (29, false)), []⟩,
    ⟨(some 31), .mv (.t 6), (some (29, false)), []⟩,
    ⟨(some 32), .beq true (.t 30) (.t 31), (some (29, false)), []⟩,
    ⟨(some 33), .pick (.t 29) (.k (bv true)) (.t 32), none, []⟩])
  (.cond (.t 33) (.seq (.ops false [⟨(some 4), .mv (.k (bv false)), none, []⟩])
   .ret)
   .skip))
 (.seq (.ops false [⟨(some 9), .mv (.k (iv 1)), none, []⟩])
 (.seq (.ops false [⟨(some 34), .mv (.t 7), none, []⟩,
   ⟨(some 35), .mv (.t 9), none, []⟩,
   ⟨(some 36), .call (.f 16) [(.t 34), (.t 35)], none, []⟩,
   ⟨(some 9), .mv (.t 36), none, []⟩])
 (.seq (.ops false [⟨(some 10), .mv (.k (iv 1)), none, []⟩])
 (.seq (.ops false [⟨(some 37), .mv (.t 7), none, []⟩,
   ⟨(some 38), .mv (.t 10), none, []⟩,
   ⟨(some 39), .call (.f 17) [(.t 37), (.t 38)], none, []⟩,
   ⟨(some 10), .mv (.t 39), none, []⟩])
 (.seq (.seq (.ops false [⟨(some 40), .mv (.t 10), none, []⟩,
    ⟨(some 41), .bin .lss (.t 40) (.k (iv 0)), none, []⟩])
  (.cond (.t 41) (.seq (.ops false [⟨(some 4), .mv (.k (bv false)), none, []⟩])
   .ret)
   .skip))
 (.seq (.seq (.ops false [⟨(some 42), .mv (.t 10), none, []⟩,
    ⟨(some 43), .mv (.t 9), none, []⟩,
    ⟨(some 44), .bin .neq (.t 42) (.t 43), none, []⟩])
  (.cond (.t 44) (.seq (.ops false [⟨(some 4), .mv (.k (bv false)), none, []⟩])
   .ret)
   .skip))
 (.seq (.ops false [⟨(some 46), .mv (.t 0), none, []⟩,
   ⟨(some 47), .mv (.t 1), none, []⟩,
   ⟨(some 48), .call (.f 14) [(.t 46), (.t 47)], none, []⟩,
   ⟨(some 45), .mv (.t 48), none, []⟩,
   ⟨(some 49), .ext (.t 45) 0, none, []⟩,
   ⟨(some 50), .ext (.t 45) 1, none, []⟩,
   ⟨(some 11), .mv (.t 49), none, []⟩,
   ⟨(some 12), .mv (.t 50), none, []⟩])
 (.seq (.seq (.ops false [⟨(some 51), .mv (.t 11), none, []⟩,
    ⟨(some 52), .mv (.t 5), none, []⟩,
    ⟨(some 53), .call (.f 15) [(.t 51), (.t 52)], none, []⟩,
    ⟨(some 54), .un .not (.t 53), none, []⟩,
    ⟨(some 55), .mv (.t 54), none, []⟩,
    ⟨(some 56), .mv (.t 12), (some (55, false)), []⟩,
    ⟨(some 57), .mv (.t 6), (some (55, false)), []⟩,
    ⟨(some 58), .beq true (.t 56) (.t 57), (some (55, false)), []⟩,
    ⟨(some 59), .pick (.t 55) (.k (bv true)) (.t 58), none, []⟩])
  (.cond (.t 59) (.seq (.ops false [⟨(some 4), .mv (.k (bv false)), none, []⟩])
   .ret)
   .skip))
 (.seq (.ops false [⟨(some 10), .mv (.k (iv 1)), none, []⟩])
 (.seq (.ops false [⟨(some 60), .mv (.t 7), none, []⟩,
   ⟨(some 61), .mv (.t 10), none, []⟩,
   ⟨(some 62), .call (.f 17) [(.t 60), (.t 61)], none, []⟩,
   ⟨(some 10), .mv (.t 62), none, []⟩])
 (.seq (.seq (.ops false [⟨(some 63), .mv (.t 10), none, []⟩,
    ⟨(some 64), .bin .lss (.t 63) (.k (iv 0)), none, []⟩])
  (.cond (.t 64) (.seq (.ops false [⟨(some 4), .mv (.k (bv false)), none, []⟩])
   .ret)
   .skip))
 (.seq (.seq (.ops false [⟨(some 65), .mv (.t 10), none, []⟩,
    ⟨(some 66), .mv (.t 9), none, []⟩,
    ⟨(some 67), .bin .neq (.t 65) (.t 66), none, []⟩])
  (.cond (.t 67) (.seq (.ops false [⟨(some 4), .mv (.k (bv false)), none, []⟩])
   .ret)
   .skip))
 (.seq (.ops false [⟨(some 4), .mv (.k (bv true)), none, []⟩])
 .ret)))))))))))))))))⟩
theorem code4 : acode Try.prog hints 4 = some L4 := by kernel_rfl

theorem c_FnExactCountThrough {s : St} [Wf s] {a0 : Int} (w0 : -9223372036854775808 ≤ a0 ∧ a0 ≤ 9223372036854775807) {a1 : Int} (w1 : -9223372036854775808 ≤ a1 ∧ a1 ≤ 9223372036854775807) :
    FnV 4 [.c (.int .i64 a0), .c (.int .i64 a1)] s (bv true) := by
  refine F_start code4 ?_
  repeat' (first
 | refine A_go rfl ?_ | refine A_ifT rfl rfl ?_ | refine A_ifF rfl rfl ?_
 | refine A_offP rfl rfl ?_ | refine A_offH rfl rfl ?_ | refine A_off0 rfl rfl ?_
 | ((first | refine A_lt rfl rfl rfl ?_ ?_ | refine A_ne rfl rfl rfl ?_ ?_ | refine A_beq rfl rfl rfl ?_ ?_) <;> intro hc <;> try first | contradiction | (exfalso; omega) | exact absurd rfl hc)
 | (refine A_callM rfl rfl (fun s H => c_specCountThrough) ?_; rintro _ _ ⟨pz, rfl, rfl, hlen⟩) | (refine A_callM0 rfl rfl (fun s H => c_specCountThrough) ?_; rintro _ _ ⟨pz, rfl, rfl, hlen⟩)
 | (refine A_callM rfl rfl (fun s H => c_implCountThrough) ?_; rintro _ _ ⟨pz, rfl, rfl, hlen⟩) | (refine A_callM0 rfl rfl (fun s H => c_implCountThrough) ?_; rintro _ _ ⟨pz, rfl, rfl, hlen⟩)
 | (refine A_callB rfl rfl (fun s H => c_eqInt64S) ?_ ?_ <;> intro hc <;> try first | contradiction | (exfalso; omega) | exact absurd rfl hc | exact absurd (And.intro rfl rfl) hc | exact absurd (And.intro rfl (And.intro rfl rfl)) hc | exact absurd (Eq.trans (by assumption) (Eq.symm (by assumption))) hc)
 | (refine A_callM rfl rfl (fun s H => c_markInt64S) ?_; rintro _ _ ⟨rfl, rfl⟩) | (refine A_callM0 rfl rfl (fun s H => c_markInt64S) ?_; rintro _ _ ⟨rfl, rfl⟩)
 | refine A_callV rfl rfl (fun s H => c_heldInt64S) ?_
 | refine A_p (by rfl) rfl ?_
 | refine A_ret1 rfl (by exact (RP.t rfl RP.nil)) ?_)
  all_goals exact R_v rfl

end Go.Proofs.Ytckobcjjbpnkcaa
