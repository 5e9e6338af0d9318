/- The law FnExactWordEntropy runs to true. -/
import Derived.Test.YtlmbgaoeplffkaaXentE
import Derived.Test.YtlmbgaoeplffkaaXtoInts
import Derived.Test.YtlmbgaoeplffkaaXeqInts
import Derived.Test.YtlmbgaoeplffkaaFB
namespace Go.Proofs.Ytlmbgaoeplffkaa
open Go Go.RowKit
set_option linter.unusedVariables false
set_option linter.unusedSimpArgs false
set_option maxRecDepth 100000
set_option maxHeartbeats 8000000
-- laws.FnExactWordEntropy
def L5 : AFun := ⟨48, [.t 6],
 (.seq (.ops false [⟨(some 6), .mv (.k (bv false)), none, []⟩])
 (.seq (.seq (.ops false [⟨(some 12), .mv (.t 0), none, []⟩,
    ⟨(some 13), .len false (.t 12), none, []⟩,
    ⟨(some 14), .bin .gtr (.t 13) (.k (iv 1048576)), none, []⟩])
  (.cond (.t 14) (.seq (.ops false [⟨(some 6), .mv (.k (bv true)), none, []⟩])
   .ret)
   .skip))
 (.seq (.ops false [⟨(some 16), .mv (.t 0), none, []⟩,
   ⟨(some 17), .call (.f 27) [(.t 16)], none, []⟩,
   ⟨(some 18), .mv (.t 1), none, []⟩,
   ⟨(some 19), .mv (.t 2), none, []⟩,
   ⟨(some 20), .call (.f 26) [(.t 17), (.t 18), (.t 19)], none, []⟩,
   ⟨(some 15), .mv (.t 20), none, []⟩,
   ⟨(some 21), .ext (.t 15) 0, none, []⟩,
   ⟨(some 22), .ext (.t 15) 1, none, []⟩,
   ⟨(some 7), .mv (.t 21), none, []⟩,
   ⟨(some 8), .mv (.t 22), none, []⟩])
 (.seq (.ops false [⟨(some 23), .mv (.t 0), none, []⟩,
   ⟨(some 24), .call (.f 27) [(.t 23)], none, []⟩,
   ⟨(some 9), .mv (.t 24), none, []⟩])
 (.seq (.ops false [⟨(some 26), .mv (.t 9), none, []⟩,
   ⟨(some 27), .mv (.t 1), none, []⟩,
   ⟨(some 28), .mv (.t 2), none, []⟩,
   ⟨(some 29), .call (.f 28) [(.t 26), (.t 27), (.t 28)], none, []⟩,
   ⟨(some 25), .mv (.t 29), none, []⟩,
   ⟨(some 30), .ext (.t 25) 0, none, []⟩,
   ⟨(some 31), .ext (.t 25) 1, none, []⟩,
   ⟨(some 10), .mv (.t 30), none, []⟩,
   ⟨(some 11), .mv (.t 31), none, []⟩])
 (.seq (.seq (.ops false [⟨(some 32), .mv (.t 10), none, []⟩,
    ⟨(some 33), .convF .f64 (.t 32), none, []⟩,
    ⟨(some 34), .mv (.t 7), none, []⟩,
    ⟨(some 35), .convF .f64 (.t 34), none, []⟩,
    ⟨(some 36), .call (.f 29) [(.t 33), (.t 35)], none, []⟩,
    ⟨(some 37), .un .not (.t 36), none, []⟩,
    ⟨(some 38), .mv (.t 37), none, []⟩,
    ⟨(some 39), .mv (.t 11), (some (38, false)), []⟩,
    ⟨(some 40), .mv (.t 8), (some (38, false)), []⟩,
    ⟨(some 41), .beq true (.t 39) (.t 40), (some (38, false)), []⟩,
    ⟨(some 42), .pick (.t 38) (.k (bv true)) (.t 41), none, []⟩])
  (.cond (.t 42) (.seq (.ops false [⟨(some 6), .mv (.k (bv false)), none, []⟩])
   .ret)
   .skip))
 (.seq (.seq (.ops false [⟨(some 43), .mv (.t 9), none, []⟩,
    ⟨(some 44), .mv (.t 0), none, []⟩,
    ⟨(some 45), .call (.f 27) [(.t 44)], none, []⟩,
    ⟨(some 46), .call (.f 21) [(.t 43), (.t 45)], none, []⟩,
    ⟨(some 47), .un .not (.t 46), none, []⟩])
  (.cond (.t 47) (.seq (.ops false [⟨(some 6), .mv (.k (bv false)), none, []⟩])
   .ret)
   .skip))
 (.seq (.ops false [⟨(some 6), .mv (.k (bv true)), none, []⟩])
 .ret))))))))⟩
theorem code5 : acode Try.prog hints 5 = some L5 := by kernel_rfl


theorem c_FnExactWordEntropy {s : St} [Wf s] {i0 o0 n0 : Nat} {x0 : List Int} (h0 : ArgE ic s i0 o0 x0) (l0 : x0.length = n0) (b0 : ∀ n ∈ x0, -9223372036854775808 ≤ n ∧ n ≤ 9223372036854775807) (u0 : n0 ≤ 9223372036854775807) {a1 : Int} (w1 : -9223372036854775808 ≤ a1 ∧ a1 ≤ 9223372036854775807) {a2 : Int} (w2 : -9223372036854775808 ≤ a2 ∧ a2 ≤ 9223372036854775807) :
    FnV 5 [.c (.sl i0 o0 n0), .c (.int .i64 a1), .c (.int .i64 a2)] s (bv true) := by
  refine F_start code5 ?_
  obtain ⟨v, j, hv, hb⟩ := et_cv (st := a1) (lo := a2) (xs := x0)
  repeat' (first
 | refine A_go rfl ?_ | refine A_ifT rfl rfl ?_ | refine A_ifF rfl rfl ?_
 | refine A_offP rfl rfl ?_ | refine A_offH rfl rfl ?_ | refine A_off0 rfl rfl ?_
 | ((first | refine A_gt rfl rfl rfl ?_ ?_ | refine A_beq rfl rfl rfl ?_ ?_) <;> intro hc <;> try first | contradiction | (exfalso; omega) | exact absurd rfl hc)
 | (refine A_callM rfl rfl (fun s H => c_toInt64S) ?_; rintro _ _ ⟨pz, rfl, rfl⟩) | (refine A_callM0 rfl rfl (fun s H => c_toInt64S) ?_; rintro _ _ ⟨pz, rfl, rfl⟩)
 | refine A_callV rfl rfl (fun s H => c_specWordEntropy (xs := x0)) ?_
 | refine A_callV rfl rfl (fun s H => c_implWordEntropy (xs := x0)) ?_
 | refine A_cvF rfl hv rfl ?_
 | refine A_callV rfl rfl (fun s H => c_sameFl hb) ?_
 | (refine A_callB rfl rfl (fun s H => c_eqInt64S) ?_ ?_ <;> intro hc <;> try first | contradiction | (exfalso; omega) | exact absurd rfl hc | exact absurd (And.intro rfl rfl) hc | exact absurd (And.intro rfl (And.intro rfl rfl)) hc | exact absurd (Eq.trans (by assumption) (Eq.symm (by assumption))) hc)
 | refine A_p (by rfl) rfl ?_
 | refine A_ret1 rfl (by exact (RP.t rfl RP.nil)) ?_)
  all_goals exact R_v rfl

end Go.Proofs.Ytlmbgaoeplffkaa
