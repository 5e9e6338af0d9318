/- Lives step. -/
import Derived.Test.YtlhidckolillaaaXplain
import Derived.Test.YtlhidckolillaaaXvalidLife
import Derived.Test.YtlhidckolillaaaXsearch
import Derived.Test.YtlhidckolillaaaXsameField
import Derived.Test.YtlhidckolillaaaXturn
import Derived.Test.YtlhidckolillaaaXsums
import Derived.Test.YtlhidckolillaaaFB
namespace Go.Proofs.Ytlhidckolillaaa
open Go Go.RowKit
set_option linter.unusedVariables false
set_option linter.unusedSimpArgs false
set_option maxRecDepth 100000
set_option maxHeartbeats 8000000
-- impl.lives
def L52 : AFun := ⟨12, [.t 4],
 (.seq (.ops false [⟨(some 2), .box 39 (.t 0), none, []⟩,
   ⟨(some 4), .mv (.k (bv false)), none, []⟩])
 (.seq (.ops false [⟨(some 5), .load true 2 (.t 2), none, []⟩,
   ⟨(some 6), .call (.f 23) [(.t 5)], none, []⟩,
   ⟨(some 7), .mv (.t 6), none, []⟩,
   ⟨(some 8), .mv (.t 1), (some (7, true)), []⟩,
   ⟨(some 9), .call (.f 77) [(.t 8), (.f 78)], (some (7, true)), []⟩,
   ⟨(some 10), .un .not (.t 9), (some (7, true)), []⟩,
   ⟨(some 11), .pick (.t 7) (.t 10) (.k (bv false)), none, []⟩,
   ⟨(some 4), .mv (.t 11), none, []⟩])
 .ret))⟩
theorem code52 : acode Try.prog hints 52 = some L52 := by kernel_rfl

-- impl.lives$1
def L78 : AFun := ⟨6, [.t 2],
 (.seq (.ops false [⟨(some 1), .box 26 (.t 0), none, []⟩,
   ⟨(some 2), .mv (.k (bv false)), none, []⟩])
 (.seq (.ops false [⟨(some 3), .load true 3 (.t 1), none, []⟩,
   ⟨(some 4), .call (.f 42) [(.t 3)], none, []⟩,
   ⟨(some 5), .un .not (.t 4), none, []⟩,
   ⟨(some 2), .mv (.t 5), none, []⟩])
 .ret))⟩
theorem code78 : acode Try.prog hints 78 = some L78 := by kernel_rfl

-- slices.ContainsFunc[[]impl.Field,impl.Field]
def L77 : AFun := ⟨9, [.t 4],
 (.seq (.ops false [⟨(some 4), .mv (.k (bv false)), none, []⟩])
 (.seq (.ops false [⟨(some 5), .mv (.t 0), none, []⟩,
   ⟨(some 6), .mv (.t 1), none, []⟩,
   ⟨(some 7), .call (.f 88) [(.t 5), (.t 6)], none, []⟩,
   ⟨(some 8), .bin .geq (.t 7) (.k (iv 0)), none, []⟩,
   ⟨(some 4), .mv (.t 8), none, []⟩])
 .ret))⟩
theorem code77 : acode Try.prog hints 77 = some L77 := by kernel_rfl

-- slices.IndexFunc[[]impl.Field,impl.Field]
def L88 : AFun := ⟨19, [.t 4],
 (.seq (.ops false [⟨(some 4), .mv (.k (iv 0)), none, []⟩])
 (.seq (.seq (.ops false [⟨(some 6), .mv (.t 0), none, []⟩,
    ⟨(some 7), .len false (.t 6), none, []⟩,
    ⟨(some 8), .mv (.k (iv 0)), none, []⟩])
  (.block 0 (.loop [0, 1, 7, 8] (.seq (.ops false [⟨(some 9), .bin .lss (.t 8) (.t 7), none, []⟩])
    (.seq (.cond (.t 9) .skip
      (.exit 0))
    (.seq (.block 1 (.seq (.ops false [⟨(some 10), .mv (.t 8), none, []⟩,
        ⟨(some 5), .mv (.t 10), none, []⟩])
      (.seq (.ops false [⟨(some 11), .mv (.t 1), none, []⟩,
        ⟨(some 12), .mv (.t 0), none, []⟩,
        ⟨(some 13), .mv (.t 5), none, []⟩,
        ⟨(some 14), .idxA 3 (.t 12) (.t 13), none, []⟩,
        ⟨(some 15), .load true 3 (.t 14), none, []⟩,
        ⟨(some 16), .call (.t 11) [(.t 15)], none, []⟩])
      (.cond (.t 16) (.seq (.ops false [⟨(some 17), .mv (.t 5), none, []⟩,
         ⟨(some 4), .mv (.t 17), none, []⟩])
       .ret)
       .skip))))
    (.ops false [⟨(some 18), .bin .add (.t 8) (.k (iv 1)), none, []⟩,
     ⟨(some 8), .mv (.t 18), none, []⟩])))))))
 (.seq (.ops false [⟨(some 4), .mv (.k (iv (-1))), none, []⟩])
 .ret)))⟩
theorem code88 : acode Try.prog hints 88 = some L88 := by kernel_rfl

-- impl.bit
def L43 : AFun := ⟨4, [.t 2],
 (.seq (.ops false [⟨(some 2), .mv (.k (iv 0)), none, []⟩])
 (.seq (.seq (.ops false [⟨(some 3), .mv (.t 0), none, []⟩])
  (.cond (.t 3) (.seq (.ops false [⟨(some 2), .mv (.k (iv 1)), none, []⟩])
   .ret)
   .skip))
 (.seq (.ops false [⟨(some 2), .mv (.k (iv 0)), none, []⟩])
 .ret)))⟩
theorem code43 : acode Try.prog hints 43 = some L43 := by kernel_rfl

-- (impl.Life).becomes
def L84 : AFun := ⟨19, [.t 6],
 (.seq (.ops false [⟨(some 3), .box 39 (.t 0), none, []⟩,
   ⟨(some 6), .mv (.k (iv 0)), none, []⟩])
 (.seq (.seq (.ops false [⟨(some 7), .mv (.t 1), none, []⟩,
    ⟨(some 8), .bin .eql (.t 7) (.k (iv 0)), none, []⟩])
  (.cond (.t 8) (.seq (.ops false [⟨(some 9), .fieldA 0 (.t 3), none, []⟩,
     ⟨(some 10), .load false 1 (.t 9), none, []⟩,
     ⟨(some 11), .mv (.t 2), none, []⟩,
     ⟨(some 12), .call (.f 89) [(.t 10), (.t 11)], none, []⟩,
     ⟨(some 13), .call (.f 43) [(.t 12)], none, []⟩,
     ⟨(some 6), .mv (.t 13), none, []⟩])
   .ret)
   .skip))
 (.seq (.ops false [⟨(some 14), .fieldA 1 (.t 3), none, []⟩,
   ⟨(some 15), .load false 1 (.t 14), none, []⟩,
   ⟨(some 16), .mv (.t 2), none, []⟩,
   ⟨(some 17), .call (.f 89) [(.t 15), (.t 16)], none, []⟩,
   ⟨(some 18), .call (.f 43) [(.t 17)], none, []⟩,
   ⟨(some 6), .mv (.t 18), none, []⟩])
 .ret)))⟩
theorem code84 : acode Try.prog hints 84 = some L84 := by kernel_rfl

-- (impl.Field).around
def L85 : AFun := ⟨41, [.t 8],
 (.seq (.ops false [⟨(some 4), .box 26 (.t 0), none, []⟩,
   ⟨(some 8), .mv (.k (iv 0)), none, []⟩])
 (.seq (.ops false [⟨(some 12), .load true 3 (.t 4), none, []⟩,
   ⟨(some 13), .mv (.t 1), none, []⟩,
   ⟨(some 14), .mv (.t 2), none, []⟩,
   ⟨(some 15), .call (.f 75) [(.t 12), (.t 13), (.t 14)], none, []⟩,
   ⟨(some 16), .un .neg (.t 15), none, []⟩,
   ⟨(some 9), .mv (.t 16), none, []⟩])
 (.seq (.seq (.ops false [⟨(some 17), .mv (.t 1), none, []⟩,
    ⟨(some 18), .bin .sub (.t 17) (.k (iv 1)), none, []⟩,
    ⟨(some 10), .mv (.t 18), none, []⟩])
  (.block 0 (.loop [1, 2, 3, 4, 9, 10] (.seq (.seq (.ops false [⟨(some 19), .mv (.t 10), none, []⟩,
       ⟨(some 20), .mv (.t 1), none, []⟩,
       ⟨(some 21), .bin .add (.t 20) (.k (iv 1)), none, []⟩,
       ⟨(some 22), .bin .leq (.t 19) (.t 21), none, []⟩])
     (.cond (.t 22) .skip
      (.exit 0)))
    (.seq (.block 1 (.seq (.ops false [⟨(some 25), .mv (.t 2), none, []⟩,
        ⟨(some 26), .bin .sub (.t 25) (.k (iv 1)), none, []⟩,
        ⟨(some 11), .mv (.t 26), none, []⟩])
      (.block 2 (.loop [1, 2, 3, 4, 9, 10, 11] (.seq (.seq (.ops false [⟨(some 27), .mv (.t 11), none, []⟩,
           ⟨(some 28), .mv (.t 2), none, []⟩,
           ⟨(some 29), .bin .add (.t 28) (.k (iv 1)), none, []⟩,
           ⟨(some 30), .bin .leq (.t 27) (.t 29), none, []⟩])
         (.cond (.t 30) .skip
          (.exit 2)))
        (.seq (.block 3 (.ops false [⟨(some 33), .mv (.t 9), none, []⟩,
           ⟨(some 34), .load true 3 (.t 4), none, []⟩,
           ⟨(some 35), .mv (.t 10), none, []⟩,
           ⟨(some 36), .mv (.t 11), none, []⟩,
           ⟨(some 37), .mv (.t 3), none, []⟩,
           ⟨(some 38), .call (.f 47) [(.t 34), (.t 35), (.t 36), (.t 37)], none, []⟩,
           ⟨(some 39), .bin .add (.t 33) (.t 38), none, []⟩,
           ⟨(some 9), .mv (.t 39), none, []⟩]))
        (.ops false [⟨(some 31), .mv (.t 11), none, []⟩,
         ⟨(some 32), .bin .add (.t 31) (.k (iv 1)), none, []⟩,
         ⟨(some 11), .mv (.t 32), none, []⟩])))))))
    (.ops false [⟨(some 23), .mv (.t 10), none, []⟩,
     ⟨(some 24), .bin .add (.t 23) (.k (iv 1)), none, []⟩,
     ⟨(some 10), .mv (.t 24), none, []⟩]))))))
 (.seq (.ops false [⟨(some 40), .mv (.t 9), none, []⟩,
   ⟨(some 8), .mv (.t 40), none, []⟩])
 .ret))))⟩
theorem code85 : acode Try.prog hints 85 = some L85 := by kernel_rfl

-- (impl.Life).step$1
def L83 : AFun := ⟨19, [.t 7],
 (.seq (.ops false [⟨(some 7), .mv (.k (iv 0)), none, []⟩])
 (.seq (.ops true [⟨(some 9), .load true 3 (.t 3), none, []⟩,
   ⟨(some 10), .mv (.t 0), none, []⟩,
   ⟨(some 11), .mv (.t 1), none, []⟩,
   ⟨(some 12), .call (.f 75) [(.t 9), (.t 10), (.t 11)], none, []⟩,
   ⟨(some 13), .load true 3 (.t 3), none, [0]⟩,
   ⟨(some 14), .mv (.t 0), none, []⟩,
   ⟨(some 15), .mv (.t 1), none, []⟩,
   ⟨(some 16), .load false 1 (.t 4), none, [0]⟩,
   ⟨(some 17), .call (.f 85) [(.t 13), (.t 14), (.t 15), (.t 16)], none, []⟩,
   ⟨(some 8), .load true 2 (.t 2), none, [0, 1]⟩,
   ⟨(some 18), .call (.f 84) [(.t 8), (.t 12), (.t 17)], none, []⟩,
   ⟨(some 7), .mv (.t 18), none, []⟩])
 .ret))⟩
theorem code83 : acode Try.prog hints 83 = some L83 := by kernel_rfl

-- (impl.Life).step
def L62 : AFun := ⟨13, [.cell true 3 6],
 (.seq (.ops false [⟨(some 3), .box 39 (.t 0), none, []⟩,
   ⟨(some 4), .box 26 (.t 1), none, []⟩,
   ⟨(some 5), .box 4 (.t 2), none, []⟩,
   ⟨(some 6), .alloc 26 [.int .i64 0, .int .i64 0, .sl 0 0 0], none, []⟩])
 (.seq (.ops false [⟨(some 7), .fieldA 0 (.t 4), none, []⟩,
   ⟨(some 8), .load false 1 (.t 7), none, []⟩,
   ⟨(some 9), .fieldA 1 (.t 4), none, []⟩,
   ⟨(some 10), .load false 1 (.t 9), none, []⟩,
   ⟨(some 11), .mkFn 83 [(.t 3), (.t 4), (.t 5)], none, []⟩,
   ⟨(some 12), .call (.f 44) [(.t 8), (.t 10), (.t 11)], none, []⟩,
   ⟨none, .store 3 (.t 6) (.t 12), none, []⟩])
 .ret))⟩
theorem code62 : acode Try.prog hints 62 = some L62 := by kernel_rfl

-- (impl.Life).run
def L54 : AFun := ⟨20, [.cell true 3 8],
 (.seq (.ops false [⟨(some 4), .box 39 (.t 0), none, []⟩,
   ⟨(some 5), .box 26 (.t 1), none, []⟩,
   ⟨(some 8), .alloc 26 [.int .i64 0, .int .i64 0, .sl 0 0 0], none, []⟩])
 (.seq (.ops false [⟨(some 9), .load true 3 (.t 5), none, []⟩,
   ⟨(some 10), .call (.f 69) [(.t 9)], none, []⟩,
   ⟨none, .store 3 (.t 5) (.t 10), none, []⟩])
 (.seq (.seq (.ops false [⟨(some 11), .mv (.t 3), none, []⟩,
    ⟨(some 12), .mv (.k (iv 0)), none, []⟩])
  (.block 0 (.loop [2, 4, 5, 8, 11, 12] (.seq (.ops false [⟨(some 13), .bin .lss (.t 12) (.t 11), none, []⟩])
    (.seq (.cond (.t 13) .skip
      (.exit 0))
    (.seq (.block 1 (.ops false [⟨(some 14), .load true 2 (.t 4), none, []⟩,
       ⟨(some 15), .load true 3 (.t 5), none, []⟩,
       ⟨(some 16), .mv (.t 2), none, []⟩,
       ⟨(some 17), .call (.f 62) [(.t 14), (.t 15), (.t 16)], none, []⟩,
       ⟨none, .store 3 (.t 5) (.t 17), none, []⟩]))
    (.ops false [⟨(some 18), .bin .add (.t 12) (.k (iv 1)), none, []⟩,
     ⟨(some 12), .mv (.t 18), none, []⟩])))))))
 (.seq (.ops false [⟨(some 19), .load true 3 (.t 5), none, []⟩,
   ⟨none, .store 3 (.t 8) (.t 19), none, []⟩])
 .ret))))⟩
theorem code54 : acode Try.prog hints 54 = some L54 := by kernel_rfl

-- impl.RunLife
def L20 : AFun := ⟨26, [.cell true 3 8, .t 9],
 (.seq (.ops false [⟨(some 4), .box 39 (.t 0), none, []⟩,
   ⟨(some 5), .box 26 (.t 1), none, []⟩,
   ⟨(some 8), .alloc 26 [.int .i64 0, .int .i64 0, .sl 0 0 0], none, []⟩,
   ⟨(some 9), .mv (.k (bv false)), none, []⟩])
 (.seq (.seq (.ops false [⟨(some 10), .load true 2 (.t 4), none, []⟩,
    ⟨(some 11), .load true 3 (.t 5), none, []⟩,
    ⟨(some 12), .buildS 26 3 1 [.int .i64 0, .int .i64 0, .sl 0 0 0] [(0, 3, (.t 11))], none, []⟩,
    ⟨(some 13), .call (.f 52) [(.t 10), (.t 12)], none, []⟩,
    ⟨(some 14), .un .not (.t 13), none, []⟩,
    ⟨(some 15), .mv (.t 14), none, []⟩,
    ⟨(some 16), .mv (.t 3), (some (15, false)), []⟩,
    ⟨(some 17), .call (.f 53) [(.t 16), (.k (iv 0)), (.k (iv 512))], (some (15, false)), []⟩,
    ⟨(some 18), .un .not (.t 17), (some (15, false)), []⟩,
    ⟨(some 19), .pick (.t 15) (.k (bv true)) (.t 18), none, []⟩])
  (.cond (.t 19) (.seq (.ops false [⟨(some 20), .build [.int .i64 0, .int .i64 0, .sl 0 0 0] [], none, []⟩,
     ⟨none, .store 3 (.t 8) (.t 20), none, []⟩,
     ⟨(some 9), .mv (.k (bv false)), none, []⟩])
   .ret)
   .skip))
 (.seq (.ops false [⟨(some 21), .load true 2 (.t 4), none, []⟩,
   ⟨(some 22), .load true 3 (.t 5), none, []⟩,
   ⟨(some 23), .mv (.t 2), none, []⟩,
   ⟨(some 24), .mv (.t 3), none, []⟩,
   ⟨(some 25), .call (.f 54) [(.t 21), (.t 22), (.t 23), (.t 24)], none, []⟩,
   ⟨none, .store 3 (.t 8) (.t 25), none, []⟩,
   ⟨(some 9), .mv (.k (bv true)), none, []⟩])
 .ret)))⟩
theorem code20 : acode Try.prog hints 20 = some L20 := by kernel_rfl

-- impl.StepLife
def L26 : AFun := ⟨14, [.cell true 3 6, .t 7],
 (.seq (.ops false [⟨(some 3), .box 39 (.t 0), none, []⟩,
   ⟨(some 4), .box 26 (.t 1), none, []⟩,
   ⟨(some 6), .alloc 26 [.int .i64 0, .int .i64 0, .sl 0 0 0], none, []⟩,
   ⟨(some 7), .mv (.k (bv false)), none, []⟩])
 (.seq (.ops false [⟨(some 8), .load true 2 (.t 3), none, []⟩,
   ⟨(some 9), .load true 3 (.t 4), none, []⟩,
   ⟨(some 10), .mv (.t 2), none, []⟩,
   ⟨(some 11), .call (.f 20) [(.t 8), (.t 9), (.t 10), (.k (iv 1))], none, []⟩,
   ⟨(some 12), .ext (.t 11) 0, none, []⟩,
   ⟨(some 13), .ext (.t 11) 1, none, []⟩,
   ⟨none, .store 3 (.t 6) (.t 12), none, []⟩,
   ⟨(some 7), .mv (.t 13), none, []⟩])
 .ret))⟩
theorem code26 : acode Try.prog hints 26 = some L26 := by kernel_rfl

-- impl.IsStill
def L27 : AFun := ⟨19, [.t 6, .t 7],
 (.seq (.ops false [⟨(some 3), .box 39 (.t 0), none, []⟩,
   ⟨(some 4), .box 26 (.t 1), none, []⟩,
   ⟨(some 6), .mv (.k (bv false)), none, []⟩,
   ⟨(some 7), .mv (.k (bv false)), none, []⟩])
 (.seq (.seq (.ops false [⟨(some 8), .load true 2 (.t 3), none, []⟩,
    ⟨(some 9), .load true 3 (.t 4), none, []⟩,
    ⟨(some 10), .buildS 26 3 1 [.int .i64 0, .int .i64 0, .sl 0 0 0] [(0, 3, (.t 9))], none, []⟩,
    ⟨(some 11), .call (.f 52) [(.t 8), (.t 10)], none, []⟩,
    ⟨(some 12), .un .not (.t 11), none, []⟩])
  (.cond (.t 12) (.seq (.ops false [⟨(some 6), .mv (.k (bv false)), none, []⟩,
     ⟨(some 7), .mv (.k (bv false)), none, []⟩])
   .ret)
   .skip))
 (.seq (.ops true [⟨(some 14), .load true 2 (.t 3), none, []⟩,
   ⟨(some 15), .load true 3 (.t 4), none, []⟩,
   ⟨(some 16), .mv (.t 2), none, []⟩,
   ⟨(some 17), .call (.f 62) [(.t 14), (.t 15), (.t 16)], none, []⟩,
   ⟨(some 13), .load true 3 (.t 4), none, [0]⟩,
   ⟨(some 18), .call (.f 24) [(.t 13), (.t 17)], none, []⟩,
   ⟨(some 6), .mv (.t 18), none, []⟩,
   ⟨(some 7), .mv (.k (bv true)), none, []⟩])
 .ret)))⟩
theorem code27 : acode Try.prog hints 27 = some L27 := by kernel_rfl


theorem c_indexFld {s : St} [Wf s] {p fn : Nat} {r c : Int} {v : AC} [hp : Ref s p [ic r, ic c, v]] (P : Prop) (hf : ∀ s1 L1, Own [] s s1 L1 → FnB fn [.agg [ic r, ic c, v]] s1 P) :
    Fn [] 88 [.c (.sl p 0 1), .c (.fn fn [])] s fun r N => (∃ i : Int, r = iv i ∧ (0 ≤ i ↔ P)) ∧ N = [] := by
  refine F_start code88 ?_
  repeat' (first
 | refine A_go rfl ?_ | refine A_ifT rfl rfl ?_ | refine A_ifF rfl rfl ?_
 | refine A_add rfl rfl rfl (by omega) ?_
 | ((first | refine A_lt rfl rfl rfl ?_ ?_) <;> intro hc <;> try first | contradiction | (exfalso; omega) | exact absurd rfl hc)
 | refine A_idxN1 rfl rfl rfl (by omega) ?_ | refine A_idx1 rfl rfl rfl (by omega) ?_
 | refine A_p (by rfl) rfl ?_
 | refine A_ldW rfl (by simp) rfl ?_
 | refine A_ret1 rfl (by exact (RP.t rfl RP.nil)) ?_)
  refine A_unroll rfl ?_
  repeat' (first
 | refine A_go rfl ?_ | refine A_ifT rfl rfl ?_ | refine A_ifF rfl rfl ?_
 | refine A_add rfl rfl rfl (by omega) ?_
 | ((first | refine A_lt rfl rfl rfl ?_ ?_) <;> intro hc <;> try first | contradiction | (exfalso; omega) | exact absurd rfl hc)
 | refine A_idxN1 rfl rfl rfl (by omega) ?_ | refine A_idx1 rfl rfl rfl (by omega) ?_
 | refine A_idxN (i := 0) rfl rfl rfl (by omega) ?_
 | refine A_ldA (cs := [ic r, ic c, v]) rfl (by simp) rfl rfl ?_
 | (refine A_callB rfl rfl (fun s H => hf s _ H) ?_ ?_ <;> intro hc)
 | refine A_p (by rfl) rfl ?_
 | refine A_ldW rfl (by simp) rfl ?_
 | refine A_ret1 rfl (by exact (RP.t rfl RP.nil)) ?_)
  · exact R_n [] ⟨⟨0, rfl, ⟨fun _ => hc, fun _ => by omega⟩⟩, rfl⟩
  · have hcP := hc
    refine A_unroll rfl ?_
    repeat' (first
 | refine A_go rfl ?_ | refine A_ifT rfl rfl ?_ | refine A_ifF rfl rfl ?_
 | refine A_add rfl rfl rfl (by omega) ?_
 | ((first | refine A_lt rfl rfl rfl ?_ ?_) <;> intro hc <;> try first | contradiction | (exfalso; omega) | exact absurd rfl hc)
 | refine A_idxN1 rfl rfl rfl (by omega) ?_ | refine A_idx1 rfl rfl rfl (by omega) ?_
 | refine A_p (by rfl) rfl ?_
 | refine A_ldW rfl (by simp) rfl ?_
 | refine A_ret1 rfl (by exact (RP.t rfl RP.nil)) ?_)
    exact R_n [] ⟨⟨-1, rfl, ⟨fun h => by omega, fun h => absurd h hcP⟩⟩, rfl⟩
theorem c_containsFld {s : St} [Wf s] {p fn : Nat} {r c : Int} {v : AC} [hp : Ref s p [ic r, ic c, v]] (P : Prop) (hf : ∀ s1 L1, Own [] s s1 L1 → FnB fn [.agg [ic r, ic c, v]] s1 P) :
    FnB 77 [.c (.sl p 0 1), .c (.fn fn [])] s P := by
  refine F_start code77 ?_
  repeat' (first
 | refine A_go rfl ?_ | refine A_ifT rfl rfl ?_ | refine A_ifF rfl rfl ?_
 | ((first | refine A_ge rfl rfl rfl ?_ ?_) <;> intro hc <;> try first | contradiction | (exfalso; omega) | exact absurd rfl hc)
 | (refine A_callM rfl rfl (fun s H => c_indexFld P (fun s1 L1 K => hf s1 _ (H.call K))) ?_; rintro _ _ ⟨⟨ix, rfl, hix⟩, rfl⟩) | (refine A_callM0 rfl rfl (fun s H => c_indexFld P (fun s1 L1 K => hf s1 _ (H.call K))) ?_; rintro _ _ ⟨⟨ix, rfl, hix⟩, rfl⟩)
 | refine A_p (by rfl) rfl ?_
 | refine A_ret1 rfl (by exact (RP.t rfl RP.nil)) ?_)
  · exact R_t (hix.1 hc)
  · exact R_f fun h => by have := hix.2 h; omega
theorem c_lives1 {s : St} [Wf s] {r c : Int} {id_xs off_xs len_xs : Nat} {xs : List Int} [h_xs : ArgE ic s id_xs off_xs xs] (hl_xs : xs.length = len_xs := by first | rfl | simp | omega | (simp; omega)) (hb : len_xs ≤ 2000000 := by omega) : FnB 78 [.agg [ic r, ic c, .sl id_xs off_xs len_xs]] s (¬ PL r c xs) := by
  refine F_start code78 ?_
  repeat' (first
 | refine A_go rfl ?_ | refine A_ifT rfl rfl ?_ | refine A_ifF rfl rfl ?_
 | (refine A_callB rfl rfl (fun s H => c_isPlain) ?_ ?_ <;> intro hc <;> try first | contradiction | (exfalso; omega) | exact absurd rfl hc | exact absurd (And.intro rfl rfl) hc | exact absurd (And.intro rfl (And.intro rfl rfl)) hc | exact absurd (Eq.trans (by assumption) (Eq.symm (by assumption))) hc)
 | refine A_p (by rfl) rfl ?_
 | refine A_ldW rfl (by simp) rfl ?_
 | ((first | refine A_box rfl rfl ?_ | refine A_boxC rfl rfl ?_) <;> intro pz hpz)
 | refine A_ret1 rfl (by exact (RP.t rfl RP.nil)) ?_)
  · exact R_f fun h => h hc
  · exact R_t hc
/-- Lives that can step. -/
abbrev LifeP (bo sy : List Int) (r c : Int) (xs : List Int) : Prop := (Cnts bo ∧ Cnts sy) ∧ PL r c xs
theorem c_lives {s : St} [Wf s] {p : Nat} {r c : Int} {id_bo off_bo len_bo : Nat} {bo : List Int} [h_bo : ArgE ic s id_bo off_bo bo] (hl_bo : bo.length = len_bo := by first | rfl | simp | omega | (simp; omega)) {id_sy off_sy len_sy : Nat} {sy : List Int} [h_sy : ArgE ic s id_sy off_sy sy] (hl_sy : sy.length = len_sy := by first | rfl | simp | omega | (simp; omega)) {id_xs off_xs len_xs : Nat} {xs : List Int} [hp : Ref s p [ic r, ic c, .sl id_xs off_xs len_xs]] [h_xs : ArgE ic s id_xs off_xs xs] (hl_xs : xs.length = len_xs := by first | rfl | simp | omega) (hb : len_bo ≤ 2000000 ∧ len_sy ≤ 2000000 ∧ len_xs ≤ 2000000 := by omega) :
    FnB 52 [.agg [.sl id_bo off_bo len_bo, .sl id_sy off_sy len_sy], .c (.sl p 0 1)] s (LifeP bo sy r c xs) := by
  refine F_start code52 ?_
  by_cases hv : Cnts bo ∧ Cnts sy
  case neg =>
    repeat' (first
 | refine A_go rfl ?_ | refine A_ifT rfl rfl ?_ | refine A_ifF rfl rfl ?_
 | refine A_offP rfl rfl ?_ | refine A_offH rfl rfl ?_ | refine A_off0 rfl rfl ?_
 | (refine A_callB rfl rfl (fun s H => c_implValidLife (xs := bo) (ys := sy)) ?_ ?_ <;> intro hc <;> try first | contradiction | (exfalso; omega) | exact absurd rfl hc | exact absurd (And.intro rfl rfl) hc | exact absurd (And.intro rfl (And.intro rfl rfl)) hc | exact absurd (Eq.trans (by assumption) (Eq.symm (by assumption))) hc)
 | refine A_p (by rfl) rfl ?_
 | refine A_ldW rfl (by simp) rfl ?_
 | ((first | refine A_box rfl rfl ?_ | refine A_boxC rfl rfl ?_) <;> intro pz hpz)
 | refine A_ret1 rfl (by exact (RP.t rfl RP.nil)) ?_)
    exact R_f fun h => hv h.1
  repeat' (first
 | refine A_go rfl ?_ | refine A_ifT rfl rfl ?_ | refine A_ifF rfl rfl ?_
 | refine A_offP rfl rfl ?_ | refine A_offH rfl rfl ?_ | refine A_off0 rfl rfl ?_
 | (refine A_callB rfl rfl (fun s H => c_implValidLife (xs := bo) (ys := sy)) ?_ ?_ <;> intro hc <;> try first | contradiction | (exfalso; omega) | exact absurd rfl hc | exact absurd (And.intro rfl rfl) hc | exact absurd (And.intro rfl (And.intro rfl rfl)) hc | exact absurd (Eq.trans (by assumption) (Eq.symm (by assumption))) hc)
 | (refine A_callB rfl rfl (fun s H => c_containsFld (r := r) (c := c) (v := .sl id_xs off_xs len_xs) (¬ PL r c xs) (fun s1 L1 K => c_lives1)) ?_ ?_ <;> intro hc <;> try first | contradiction | (exfalso; omega) | exact absurd rfl hc | exact absurd (And.intro rfl rfl) hc | exact absurd (And.intro rfl (And.intro rfl rfl)) hc | exact absurd (Eq.trans (by assumption) (Eq.symm (by assumption))) hc)
 | refine A_p (by rfl) rfl ?_
 | refine A_ldW rfl (by simp) rfl ?_
 | ((first | refine A_box rfl rfl ?_ | refine A_boxC rfl rfl ?_) <;> intro pz hpz)
 | refine A_ret1 rfl (by exact (RP.t rfl RP.nil)) ?_)
  · exact R_f fun h => hc h.2
  · exact R_t ⟨hv, Classical.not_not.1 hc⟩
theorem c_bit {s : St} [Wf s] {t : Bool} : FnV 43 [bv t] s (iv (if t = true then 1 else 0)) := by
  refine F_start code43 ?_
  cases t with
  | true =>
    repeat' (first
 | refine A_go rfl ?_ | refine A_ifT rfl rfl ?_ | refine A_ifF rfl rfl ?_
 | refine A_p (by rfl) rfl ?_
 | refine A_ret1 rfl (by exact (RP.t rfl RP.nil)) ?_)
    exact R_v rfl
  | false =>
    repeat' (first
 | refine A_go rfl ?_ | refine A_ifT rfl rfl ?_ | refine A_ifF rfl rfl ?_
 | refine A_p (by rfl) rfl ?_
 | refine A_ret1 rfl (by exact (RP.t rfl RP.nil)) ?_)
    exact R_v rfl
noncomputable def becV (bo sy : List Int) (cell n : Int) : Int := if cell = 0 then (if n ∈ bo then 1 else 0) else if n ∈ sy then 1 else 0
theorem c_becomes {s : St} [Wf s] {cell n : Int} {id_bo off_bo len_bo : Nat} {bo : List Int} [h_bo : ArgE ic s id_bo off_bo bo] (hl_bo : bo.length = len_bo := by first | rfl | simp | omega | (simp; omega)) {id_sy off_sy len_sy : Nat} {sy : List Int} [h_sy : ArgE ic s id_sy off_sy sy] (hl_sy : sy.length = len_sy := by first | rfl | simp | omega | (simp; omega)) (hb : len_bo ≤ 2000000 ∧ len_sy ≤ 2000000 := by omega) : FnV 84 [.agg [.sl id_bo off_bo len_bo, .sl id_sy off_sy len_sy], iv cell, iv n] s (iv (becV bo sy cell n)) := by
  refine F_start code84 ?_
  by_cases h0 : cell = 0
  · by_cases h1 : n ∈ bo
    · repeat' (first
 | refine A_go rfl ?_ | refine A_ifT rfl rfl ?_ | refine A_ifF rfl rfl ?_
 | ((first | refine A_eq rfl rfl rfl ?_ ?_) <;> intro hc <;> try first | contradiction | (exfalso; omega) | exact absurd rfl hc)
 | (refine A_callB rfl rfl (fun s H => c_containsInt (zs := bo)) ?_ ?_ <;> intro hc <;> try first | contradiction | (exfalso; omega) | exact absurd rfl hc | exact absurd (And.intro rfl rfl) hc | exact absurd (And.intro rfl (And.intro rfl rfl)) hc | exact absurd (Eq.trans (by assumption) (Eq.symm (by assumption))) hc)
 | refine A_callV rfl rfl (fun s H => c_bit) ?_
 | refine A_fld rfl rfl ?_ | refine A_p (by rfl) rfl ?_
 | refine A_ldI rfl (by first | omega | (simp; done) | (simp; omega)) rfl ?_ | refine A_ldB rfl (by first | omega | (simp; done) | (simp; omega)) rfl ?_ | refine A_ld rfl (by rfl) rfl ?_
 | ((first | refine A_box rfl rfl ?_ | refine A_boxC rfl rfl ?_) <;> intro pz hpz)
 | refine A_ret1 rfl (by exact (RP.t rfl RP.nil)) ?_)
      exact R_v (by rw [becV, if_pos h0, if_pos h1]; rfl)
    · repeat' (first
 | refine A_go rfl ?_ | refine A_ifT rfl rfl ?_ | refine A_ifF rfl rfl ?_
 | ((first | refine A_eq rfl rfl rfl ?_ ?_) <;> intro hc <;> try first | contradiction | (exfalso; omega) | exact absurd rfl hc)
 | (refine A_callB rfl rfl (fun s H => c_containsInt (zs := bo)) ?_ ?_ <;> intro hc <;> try first | contradiction | (exfalso; omega) | exact absurd rfl hc | exact absurd (And.intro rfl rfl) hc | exact absurd (And.intro rfl (And.intro rfl rfl)) hc | exact absurd (Eq.trans (by assumption) (Eq.symm (by assumption))) hc)
 | refine A_callV rfl rfl (fun s H => c_bit) ?_
 | refine A_fld rfl rfl ?_ | refine A_p (by rfl) rfl ?_
 | refine A_ldI rfl (by first | omega | (simp; done) | (simp; omega)) rfl ?_ | refine A_ldB rfl (by first | omega | (simp; done) | (simp; omega)) rfl ?_ | refine A_ld rfl (by rfl) rfl ?_
 | ((first | refine A_box rfl rfl ?_ | refine A_boxC rfl rfl ?_) <;> intro pz hpz)
 | refine A_ret1 rfl (by exact (RP.t rfl RP.nil)) ?_)
      exact R_v (by rw [becV, if_pos h0, if_neg h1]; rfl)
  · by_cases h1 : n ∈ sy
    · repeat' (first
 | refine A_go rfl ?_ | refine A_ifT rfl rfl ?_ | refine A_ifF rfl rfl ?_
 | ((first | refine A_eq rfl rfl rfl ?_ ?_) <;> intro hc <;> try first | contradiction | (exfalso; omega) | exact absurd rfl hc)
 | (refine A_callB rfl rfl (fun s H => c_containsInt (zs := sy)) ?_ ?_ <;> intro hc <;> try first | contradiction | (exfalso; omega) | exact absurd rfl hc | exact absurd (And.intro rfl rfl) hc | exact absurd (And.intro rfl (And.intro rfl rfl)) hc | exact absurd (Eq.trans (by assumption) (Eq.symm (by assumption))) hc)
 | refine A_callV rfl rfl (fun s H => c_bit) ?_
 | refine A_fld rfl rfl ?_ | refine A_p (by rfl) rfl ?_
 | refine A_ldI rfl (by first | omega | (simp; done) | (simp; omega)) rfl ?_ | refine A_ldB rfl (by first | omega | (simp; done) | (simp; omega)) rfl ?_ | refine A_ld rfl (by rfl) rfl ?_
 | ((first | refine A_box rfl rfl ?_ | refine A_boxC rfl rfl ?_) <;> intro pz hpz)
 | refine A_ret1 rfl (by exact (RP.t rfl RP.nil)) ?_)
      exact R_v (by rw [becV, if_neg h0, if_pos h1]; rfl)
    · repeat' (first
 | refine A_go rfl ?_ | refine A_ifT rfl rfl ?_ | refine A_ifF rfl rfl ?_
 | ((first | refine A_eq rfl rfl rfl ?_ ?_) <;> intro hc <;> try first | contradiction | (exfalso; omega) | exact absurd rfl hc)
 | (refine A_callB rfl rfl (fun s H => c_containsInt (zs := sy)) ?_ ?_ <;> intro hc <;> try first | contradiction | (exfalso; omega) | exact absurd rfl hc | exact absurd (And.intro rfl rfl) hc | exact absurd (And.intro rfl (And.intro rfl rfl)) hc | exact absurd (Eq.trans (by assumption) (Eq.symm (by assumption))) hc)
 | refine A_callV rfl rfl (fun s H => c_bit) ?_
 | refine A_fld rfl rfl ?_ | refine A_p (by rfl) rfl ?_
 | refine A_ldI rfl (by first | omega | (simp; done) | (simp; omega)) rfl ?_ | refine A_ldB rfl (by first | omega | (simp; done) | (simp; omega)) rfl ?_ | refine A_ld rfl (by rfl) rfl ?_
 | ((first | refine A_box rfl rfl ?_ | refine A_boxC rfl rfl ?_) <;> intro pz hpz)
 | refine A_ret1 rfl (by exact (RP.t rfl RP.nil)) ?_)
      exact R_v (by rw [becV, if_neg h0, if_neg h1]; rfl)
/-- The 'm'th of the nine cells around one. -/
def lk (R C : Int) (xs : List Int) (i k : Int) (t : Bool) (m : Nat) : Int := lookV R C xs (i - 1 + (m / 3 : Nat)) (k - 1 + (m % 3 : Nat)) t
theorem lk_in {R C : Int} {xs : List Int} {i k : Int} {t : Bool} (h : PL R C xs) (m : Nat) : 0 ≤ lk R C xs i k t m ∧ lk R C xs i k t m ≤ 1 := by
  have hz : ∀ n : Nat, 0 ≤ xs.getD n 0 ∧ xs.getD n 0 ≤ 1 := fun n => by
    by_cases hn : n < xs.length
    · exact h.2 _ (getD_mem hn)
    · rw [List.getD_eq_getElem?_getD, List.getElem?_eq_none (by omega)]; exact ⟨Int.le_refl 0, by decide⟩
  unfold lk lookV
  split
  · exact hz _
  · split
    · exact hz _
    · omega
theorem lk_sum {R C : Int} {xs : List Int} {i k : Int} {t : Bool} (h : PL R C xs) : ∀ m : Nat, 0 ≤ sg (lk R C xs i k t) m ∧ sg (lk R C xs i k t) m ≤ m
  | 0 => by simp [sg]
  | m + 1 => by have := lk_sum (i := i) (k := k) (t := t) h m; have := lk_in (i := i) (k := k) (t := t) h m; rw [sg]; push_cast; omega
theorem lk_at {R C : Int} {xs : List Int} {i k : Int} {t : Bool} {a b : Nat} (hb : b < 3) {r c : Int} (hr : r = i - 1 + a) (hc : c = k - 1 + b) : lk R C xs i k t (a * 3 + b) = lookV R C xs r c t := by
  unfold lk
  rw [show (a * 3 + b) / 3 = a by omega, show (a * 3 + b) % 3 = b by omega, hr, hc]
theorem lk_own {R C : Int} {xs : List Int} {i k : Int} {t : Bool} (hi : 0 ≤ i ∧ i < R) (hk : 0 ≤ k ∧ k < C) : lookV R C xs i k t = cel xs C i k := by
  unfold lookV
  split
  · rw [Int.emod_eq_of_lt hi.1 hi.2, Int.emod_eq_of_lt hk.1 hk.2]
  · rw [if_pos ⟨hi, hk⟩]
/-- How many neighbours of a cell are 1. -/
def aroV (R C : Int) (xs : List Int) (i k : Int) (t : Bool) : Int := sg (lk R C xs i k t) 9 - cel xs C i k
theorem cel_in {R C : Int} {xs : List Int} {i k : Int} (h : PL R C xs) (hi : 0 ≤ i ∧ i < R) (hk : 0 ≤ k ∧ k < C) : (0 ≤ cel xs C i k ∧ cel xs C i k ≤ 1) ∧ (0 ≤ i * C + k ∧ i * C + k < xs.length) ∧ -1000000 ≤ i * C ∧ i * C ≤ 1000000 := by
  have h1 := cell_in hi hk
  have h2 := h.1.2.2.1
  have h3 := side_mul (r := R) (c := C) (by have := h.1.1; omega) (by have := h.1.2.1; omega)
  have := h.2 _ (getD_mem (d := 0) (show (i * C + k).toNat < xs.length by omega))
  exact ⟨this, by omega, by omega⟩
theorem c_around {s : St} [Wf s] {R C i k : Int} {t : Bool} {id_xs off_xs len_xs : Nat} {xs : List Int} [h_xs : ArgE ic s id_xs off_xs xs] (hl_xs : xs.length = len_xs := by first | rfl | simp | omega | (simp; omega)) (hp : PL R C xs) (hi : 0 ≤ i ∧ i < R) (hk : 0 ≤ k ∧ k < C) : FnV 85 [.agg [ic R, ic C, .sl id_xs off_xs len_xs], iv i, iv k, bv t] s (iv (aroV R C xs i k t)) := by
  obtain ⟨c1, c2, c3⟩ := cel_in hp hi hk
  have g1 := hp.1.1
  have g2 := hp.1.2.1
  have hw : IntKind.wrap .i64 (0 - cel xs C i k) = 0 - cel xs C i k := wrap_id (by omega)
  refine F_start code85 ?_
  repeat' (first
 | refine A_go rfl ?_ | refine A_ifT rfl rfl ?_ | refine A_ifF rfl rfl ?_
 | refine A_add rfl rfl rfl (by omega) ?_ | refine A_sub rfl rfl rfl (by omega) ?_
 | ((first | refine A_le rfl rfl rfl ?_ ?_) <;> intro hc <;> try first | contradiction | (exfalso; omega) | exact absurd rfl hc)
 | refine A_callV rfl rfl (fun s H => c_at) ?_
 | refine A_p (by rfl) rfl ?_
 | refine A_ldW rfl (by simp) rfl ?_
 | ((first | refine A_box rfl rfl ?_ | refine A_boxC rfl rfl ?_) <;> intro pz hpz)
 | refine A_ret1 rfl (by exact (RP.t rfl RP.nil)) ?_)
  simp only [hw]
  obtain ⟨q, hEq⟩ : ∃ p, p = pz := ⟨_, rfl⟩; subst hEq
  refine A_loop rfl [q] (fun m fr L => ∃ (a : Nat) (r v : Int), m = 3 - a ∧ fr = [(1, iv i), (2, iv k), (3, bv t), (4, .c (.ptr q 0)), (9, iv v), (10, iv r)] ∧ L = [(q, .rw 26 3 [ic R, ic C, .sl id_xs off_xs len_xs])] ∧ a ≤ 3 ∧ r = i - 1 + a ∧ v = sg (lk R C xs i k t) (a * 3) - cel xs C i k) 3 ⟨0, _, _, rfl, rfl, rfl, by omega, by omega, by rw [Nat.zero_mul, sg]⟩ ?_
  rintro m fr L ⟨a, r, v, rfl, rfl, rfl, ha, hr, hv⟩
  have hs := lk_sum (i := i) (k := k) (t := t) hp (a * 3)
  by_cases ha' : a < 3
  case neg =>
    obtain rfl : a = 3 := by omega
    repeat' (first
 | refine A_go rfl ?_ | refine A_ifT rfl rfl ?_ | refine A_ifF rfl rfl ?_
 | refine A_add rfl rfl rfl (by omega) ?_ | refine A_sub rfl rfl rfl (by omega) ?_
 | ((first | refine A_le rfl rfl rfl ?_ ?_) <;> intro hc <;> try first | contradiction | (exfalso; omega) | exact absurd rfl hc)
 | refine A_p (by rfl) rfl ?_
 | refine A_ldW rfl (by simp) rfl ?_
 | ((first | refine A_box rfl rfl ?_ | refine A_boxC rfl rfl ?_) <;> intro pz hpz)
 | refine A_ret1 rfl (by exact (RP.t rfl RP.nil)) ?_)
    exact R_v (by rw [hv]; rfl)
  repeat' (first
 | refine A_go rfl ?_ | refine A_ifT rfl rfl ?_ | refine A_ifF rfl rfl ?_
 | refine A_add rfl rfl rfl (by omega) ?_ | refine A_sub rfl rfl rfl (by omega) ?_
 | ((first | refine A_le rfl rfl rfl ?_ ?_) <;> intro hc <;> try first | contradiction | (exfalso; omega) | exact absurd rfl hc)
 | refine A_p (by rfl) rfl ?_
 | refine A_ldW rfl (by simp) rfl ?_
 | ((first | refine A_box rfl rfl ?_ | refine A_boxC rfl rfl ?_) <;> intro pz hpz)
 | refine A_ret1 rfl (by exact (RP.t rfl RP.nil)) ?_)
  refine A_loop rfl [q] (fun m fr L => ∃ (b : Nat) (c v : Int), m = 3 - b ∧ fr = [(1, iv i), (2, iv k), (3, bv t), (4, .c (.ptr q 0)), (9, iv v), (10, iv r), (11, iv c)] ∧ L = [(q, .rw 26 3 [ic R, ic C, .sl id_xs off_xs len_xs])] ∧ b ≤ 3 ∧ c = k - 1 + b ∧ v = sg (lk R C xs i k t) (a * 3 + b) - cel xs C i k) 3 ⟨0, _, _, rfl, rfl, rfl, by omega, by omega, hv⟩ ?_
  clear hv hs
  rintro m fr L ⟨b, c, v, rfl, rfl, rfl, hb, hc0, hv⟩
  have hs := lk_sum (i := i) (k := k) (t := t) hp (a * 3 + b)
  by_cases hb' : b < 3
  · have hl := lk_at (R := R) (C := C) (xs := xs) (t := t) hb' hr hc0
    have hi2 := lk_in (i := i) (k := k) (t := t) hp (a * 3 + b)
    rw [hl] at hi2
    repeat' (first
 | refine A_go rfl ?_ | refine A_ifT rfl rfl ?_ | refine A_ifF rfl rfl ?_
 | refine A_add rfl rfl rfl (by omega) ?_ | refine A_sub rfl rfl rfl (by omega) ?_
 | ((first | refine A_le rfl rfl rfl ?_ ?_) <;> intro hc <;> try first | contradiction | (exfalso; omega) | exact absurd rfl hc)
 | refine A_callV rfl rfl (fun s H => c_look (t := t) (hv := hp.1)) ?_
 | refine A_p (by rfl) rfl ?_
 | refine A_ldW rfl (by simp) rfl ?_
 | ((first | refine A_box rfl rfl ?_ | refine A_boxC rfl rfl ?_) <;> intro pz hpz)
 | refine A_ret1 rfl (by exact (RP.t rfl RP.nil)) ?_)
    refine A_round rfl [q] (3 - (b + 1)) (by omega) ?_
    exact ⟨b + 1, _, _, rfl, rfl, rfl, by omega, by push_cast; omega, by rw [← Nat.add_assoc, sg, hl, hv]; omega⟩
  · obtain rfl : b = 3 := by omega
    repeat' (first
 | refine A_go rfl ?_ | refine A_ifT rfl rfl ?_ | refine A_ifF rfl rfl ?_
 | refine A_add rfl rfl rfl (by omega) ?_ | refine A_sub rfl rfl rfl (by omega) ?_
 | ((first | refine A_le rfl rfl rfl ?_ ?_) <;> intro hc <;> try first | contradiction | (exfalso; omega) | exact absurd rfl hc)
 | refine A_p (by rfl) rfl ?_
 | refine A_ldW rfl (by simp) rfl ?_
 | ((first | refine A_box rfl rfl ?_ | refine A_boxC rfl rfl ?_) <;> intro pz hpz)
 | refine A_ret1 rfl (by exact (RP.t rfl RP.nil)) ?_)
    refine A_round rfl [q] (3 - (a + 1)) (by omega) ?_
    exact ⟨a + 1, _, _, rfl, rfl, rfl, by omega, by push_cast; omega, by rw [hv, show (a + 1) * 3 = a * 3 + 3 by omega]⟩
/-- A cell of the next field. -/
noncomputable def lifeV (bo sy xs : List Int) (R C : Int) (t : Bool) (i k : Int) : Int := becV bo sy (cel xs C i k) (aroV R C xs i k t)
theorem c_lstep1 {s : St} [Wf s] {qw qf qt : Nat} {R C : Nat} {t : Bool} {id_bo off_bo len_bo id_sy off_sy len_sy id_xs off_xs len_xs : Nat} {bo sy xs : List Int} [h1 : Ref s qw [.sl id_bo off_bo len_bo, .sl id_sy off_sy len_sy]] [h2 : Ref s qf [ic R, ic C, .sl id_xs off_xs len_xs]] [h3 : Ref s qt [.bool t]] [hbo : ArgE ic s id_bo off_bo bo] [hsy : ArgE ic s id_sy off_sy sy] [hxs : ArgE ic s id_xs off_xs xs]
    (l1 : bo.length = len_bo) (l2 : sy.length = len_sy) (l3 : xs.length = len_xs) (hb : len_bo ≤ 2000000 ∧ len_sy ≤ 2000000) (hp : PL R C xs) {i k : Nat} (hi : i < R) (hk : k < C) :
    FnV 83 [iv i, iv k, .c (.ptr qw 0), .c (.ptr qf 0), .c (.ptr qt 0)] s (iv (lifeV bo sy xs R C t i k)) := by
  obtain ⟨c1, c2, c3⟩ := cel_in hp (show (0 : Int) ≤ i ∧ (i : Int) < R by omega) (show (0 : Int) ≤ k ∧ (k : Int) < C by omega)
  have g1 := hp.1.1
  have g2 := hp.1.2.1
  refine F_start code83 ?_
  repeat' (first
 | refine A_go rfl ?_ | refine A_ifT rfl rfl ?_ | refine A_ifF rfl rfl ?_
 | refine A_callV rfl rfl (fun s H => c_at (xs := xs)) ?_
 | refine A_callV rfl rfl (fun s H => c_around (t := t) (hp := hp) (hi := by omega) (hk := by omega)) ?_
 | refine A_callV rfl rfl (fun s H => c_becomes (bo := bo) (sy := sy)) ?_
 | refine A_p (by rfl) rfl ?_
 | refine A_ldI rfl (by first | omega | (simp; done) | (simp; omega)) rfl ?_ | refine A_ldB rfl (by first | omega | (simp; done) | (simp; omega)) rfl ?_ | refine A_ld rfl (by rfl) rfl ?_
 | refine A_ldW rfl (by simp) rfl ?_
 | refine A_chk1 rfl rfl rfl ?_ | refine A_chk2 rfl rfl rfl rfl ?_ | refine A_chk3 rfl rfl rfl rfl rfl ?_ | refine A_chk4 rfl rfl rfl rfl rfl rfl ?_ | refine A_chkI rfl (by assumption) rfl (by simp) ?_
 | refine A_ret1 rfl (by exact (RP.t rfl RP.nil)) ?_)
  exact R_v rfl
theorem c_lstep {s : St} [Wf s] {R C : Nat} {t : Bool} {id_bo off_bo len_bo : Nat} {bo : List Int} [h_bo : ArgE ic s id_bo off_bo bo] (hl_bo : bo.length = len_bo := by first | rfl | simp | omega | (simp; omega)) {id_sy off_sy len_sy : Nat} {sy : List Int} [h_sy : ArgE ic s id_sy off_sy sy] (hl_sy : sy.length = len_sy := by first | rfl | simp | omega | (simp; omega)) {id_xs off_xs len_xs : Nat} {xs : List Int} [h_xs : ArgE ic s id_xs off_xs xs] (hl_xs : xs.length = len_xs := by first | rfl | simp | omega | (simp; omega)) (hp : PL R C xs) (hb : len_bo ≤ 2000000 ∧ len_sy ≤ 2000000 := by omega) :
    Fn [] 62 [.agg [.sl id_bo off_bo len_bo, .sl id_sy off_sy len_sy], .agg [ic R, ic C, .sl id_xs off_xs len_xs], bv t] s fun V N => ∃ p, V = .agg (fld R C p (R * C)) ∧ N = [(p, ints (mk R C (lifeV bo sy xs R C t)))] := by
  have g1 := hp.1.1
  have g2 := hp.1.2.1
  refine F_start code62 ?_
  repeat' (first
 | refine A_go rfl ?_ | refine A_ifT rfl rfl ?_ | refine A_ifF rfl rfl ?_
 | (refine A_callM rfl rfl (fun s H => c_madeField (lifeV bo sy xs R C t) (by omega) (fun s L H i k hi hk => c_lstep1 hl_bo hl_sy hl_xs hb hp hi hk)) ?_; rintro _ _ ⟨pz, rfl, rfl⟩) | (refine A_callM0 rfl rfl (fun s H => c_madeField (lifeV bo sy xs R C t) (by omega) (fun s L H i k hi hk => c_lstep1 hl_bo hl_sy hl_xs hb hp hi hk)) ?_; rintro _ _ ⟨pz, rfl, rfl⟩)
 | refine A_fld rfl rfl ?_ | refine A_p (by rfl) rfl ?_
 | refine A_ldI rfl (by first | omega | (simp; done) | (simp; omega)) rfl ?_ | refine A_ldB rfl (by first | omega | (simp; done) | (simp; omega)) rfl ?_ | refine A_ld rfl (by rfl) rfl ?_
 | refine A_stW rfl rfl (by simp) rfl ?_
 | ((first | refine A_alloc rfl ?_ | refine A_box rfl rfl ?_ | refine A_boxC rfl rfl ?_) <;> intro pz hpz)
 | refine A_ret1 rfl (by exact (RP.c rfl inferInstance rfl (by simp) RP.nil)) ?_)
  exact R_s ⟨pz, rfl, rfl⟩
theorem life_pl {R C : Nat} {bo sy xs : List Int} {t : Bool} (h : PL R C xs) : PL R C (mk R C (lifeV bo sy xs R C t)) := by
  have hc : ∀ i k : Nat, i < R → k < C → 0 ≤ lifeV bo sy xs R C t i k ∧ lifeV bo sy xs R C t i k ≤ 1 := fun i k _ _ => by
    unfold lifeV becV; (repeat' split) <;> omega
  refine ⟨⟨h.1.1, h.1.2.1, by simp, fun x hx => ?_⟩, mk_cell (i := 0) (k := 0) (P := fun x => 0 ≤ x ∧ x ≤ 1) hc⟩
  have := mk_cell (i := 0) (k := 0) (P := fun x => 0 ≤ x ∧ x ≤ 1) hc x hx
  omega
abbrev InR (R C r c : Int) : Prop := (0 ≤ r ∧ r < R) ∧ 0 ≤ c ∧ c < C
/-- The field behind steps. -/
noncomputable def lifeN (bo sy : List Int) (R C : Nat) (t : Bool) (xs : List Int) : Nat → List Int
  | 0 => xs
  | n + 1 => mk R C (lifeV bo sy (lifeN bo sy R C t xs n) R C t)
theorem lifeN_pl {R C : Nat} {bo sy xs : List Int} {t : Bool} (h : PL R C xs) : ∀ n, PL R C (lifeN bo sy R C t xs n)
  | 0 => h
  | n + 1 => life_pl (lifeN_pl h n)
theorem PL.len {R C : Nat} {xs : List Int} (h : PL R C xs) : xs.length = R * C := by
  have := h.1.2.2.1
  have e : ((R * C : Nat) : Int) = (R : Int) * C := by push_cast; rfl
  omega
theorem c_lrun {s : St} [Wf s] {R C n : Nat} {t : Bool} {id_bo off_bo len_bo : Nat} {bo : List Int} [h_bo : ArgE ic s id_bo off_bo bo] (hl_bo : bo.length = len_bo := by first | rfl | simp | omega | (simp; omega)) {id_sy off_sy len_sy : Nat} {sy : List Int} [h_sy : ArgE ic s id_sy off_sy sy] (hl_sy : sy.length = len_sy := by first | rfl | simp | omega | (simp; omega)) {id_xs off_xs len_xs : Nat} {xs : List Int} [h_xs : ArgE ic s id_xs off_xs xs] (hl_xs : xs.length = len_xs := by first | rfl | simp | omega | (simp; omega)) (hp : PL R C xs) (hn : n ≤ 1000) (hb : len_bo ≤ 2000000 ∧ len_sy ≤ 2000000 := by omega) :
    Fn [] 54 [.agg [.sl id_bo off_bo len_bo, .sl id_sy off_sy len_sy], .agg [ic R, ic C, .sl id_xs off_xs len_xs], bv t, iv n] s fun V N => ∃ p, V = .agg (fld R C p (R * C)) ∧ N = [(p, ints (lifeN bo sy R C t xs n))] := by
  have g1 := hp.1.1
  have g2 := hp.1.2.1
  have g3 := hp.len
  have hcc : R * C ≤ 576 := Nat.mul_le_mul (show R ≤ 24 by omega) (show C ≤ 24 by omega)
  obtain rfl : len_xs = R * C := by omega
  refine F_start code54 ?_
  repeat' (first
 | refine A_go rfl ?_ | refine A_ifT rfl rfl ?_ | refine A_ifF rfl rfl ?_
 | refine A_add rfl rfl rfl (by omega) ?_
 | ((first | refine A_lt rfl rfl rfl ?_ ?_) <;> intro hc <;> try first | contradiction | (exfalso; omega) | exact absurd rfl hc)
 | (refine A_callM rfl rfl (fun s H => c_copyField (xs := xs)) ?_; rintro _ _ ⟨pz, rfl, rfl⟩) | (refine A_callM0 rfl rfl (fun s H => c_copyField (xs := xs)) ?_; rintro _ _ ⟨pz, rfl, rfl⟩)
 | refine A_p (by rfl) rfl ?_
 | refine A_ldW rfl (by simp) rfl ?_
 | refine A_stW rfl rfl (by simp) rfl ?_
 | ((first | refine A_alloc rfl ?_ | refine A_box rfl rfl ?_ | refine A_boxC rfl rfl ?_) <;> intro pz hpz)
 | refine A_ret1 rfl (by exact (RP.c rfl inferInstance rfl (by simp) RP.nil)) ?_)
  rename_i q4 _ q5 _ q8
  refine A_loop rfl [q4, q5, q8, pz] (fun m fr L => ∃ (i p : Nat), m = n - i ∧ fr = [(2, bv t), (4, .c (.ptr q4 0)), (5, .c (.ptr q5 0)), (8, .c (.ptr q8 0)), (11, iv n), (12, iv i)] ∧ L = [(q4, .rw 39 2 [.sl id_bo off_bo len_bo, .sl id_sy off_sy len_sy]), (q5, .rw 26 3 (fld R C p (R * C))), (q8, .rw 26 3 (fld 0 0 0 0)), (p, ints (lifeN bo sy R C t xs i))] ∧ i ≤ n) n ⟨0, pz, rfl, rfl, rfl, by omega⟩ ?_
  rintro m fr L ⟨i, p, rfl, rfl, rfl, hi⟩
  have hpi := lifeN_pl (bo := bo) (sy := sy) (t := t) hp i
  have hli := hpi.len
  repeat' (first
 | refine A_go rfl ?_ | refine A_ifT rfl rfl ?_ | refine A_ifF rfl rfl ?_
 | refine A_add rfl rfl rfl (by omega) ?_
 | ((first | refine A_lt rfl rfl rfl ?_ ?_) <;> intro hc <;> try first | contradiction | (exfalso; omega) | exact absurd rfl hc)
 | (refine A_callM rfl rfl (fun s H => c_lstep (t := t) (bo := bo) (sy := sy) (xs := lifeN bo sy R C t xs i) (hp := hpi)) ?_; rintro _ _ ⟨pz, rfl, rfl⟩) | (refine A_callM0 rfl rfl (fun s H => c_lstep (t := t) (bo := bo) (sy := sy) (xs := lifeN bo sy R C t xs i) (hp := hpi)) ?_; rintro _ _ ⟨pz, rfl, rfl⟩)
 | refine A_p (by rfl) rfl ?_
 | refine A_ldW rfl (by simp) rfl ?_
 | refine A_stW rfl rfl (by simp) rfl ?_
 | ((first | refine A_alloc rfl ?_ | refine A_box rfl rfl ?_ | refine A_boxC rfl rfl ?_) <;> intro pz hpz)
 | refine A_ret1 rfl (by exact (RP.c rfl inferInstance rfl (by simp) RP.nil)) ?_)
  · refine A_round rfl [q4, q5, q8, pz] (n - (i + 1)) (by omega) ?_
    exact ⟨i + 1, pz, rfl, rfl, rfl, by omega⟩
  · obtain rfl : n = i := by omega
    exact R_s ⟨p, rfl, rfl⟩
theorem c_implRunLife {s : St} [Wf s] {r c steps : Int} {t : Bool} {id_bo off_bo len_bo : Nat} {bo : List Int} [h_bo : ArgE ic s id_bo off_bo bo] (hl_bo : bo.length = len_bo := by first | rfl | simp | omega | (simp; omega)) {id_sy off_sy len_sy : Nat} {sy : List Int} [h_sy : ArgE ic s id_sy off_sy sy] (hl_sy : sy.length = len_sy := by first | rfl | simp | omega | (simp; omega)) {id_xs off_xs len_xs : Nat} {xs : List Int} [h_xs : ArgE ic s id_xs off_xs xs] (hl_xs : xs.length = len_xs := by first | rfl | simp | omega | (simp; omega)) (hb : len_bo ≤ 2000000 ∧ len_sy ≤ 2000000 ∧ len_xs ≤ 2000000 := by omega) :
    Fn [] 20 [.agg [.sl id_bo off_bo len_bo, .sl id_sy off_sy len_sy], .agg [ic r, ic c, .sl id_xs off_xs len_xs], bv t, iv steps] s (FldRes (LifeP bo sy r c xs ∧ 0 ≤ steps ∧ steps ≤ 512) r c (lifeN bo sy r.toNat c.toNat t xs steps.toNat)) := by
  refine F_start code20 ?_
  by_cases hv : LifeP bo sy r c xs
  case neg =>
    repeat' (first
 | refine A_go rfl ?_ | refine A_ifT rfl rfl ?_ | refine A_ifF rfl rfl ?_
 | refine A_offP rfl rfl ?_ | refine A_offH rfl rfl ?_ | refine A_off0 rfl rfl ?_
 | (refine A_bldC (by decide) rfl rfl ?_ <;> intro pz hpz)
 | (refine A_callB rfl rfl (fun s H => c_lives (bo := bo) (sy := sy) (xs := xs)) ?_ ?_ <;> intro hc <;> try first | contradiction | (exfalso; omega) | exact absurd rfl hc | exact absurd (And.intro rfl rfl) hc | exact absurd (And.intro rfl (And.intro rfl rfl)) hc | exact absurd (Eq.trans (by assumption) (Eq.symm (by assumption))) hc)
 | refine A_mk3 rfl rfl rfl rfl ?_ | refine A_mk23 rfl rfl rfl ?_ | refine A_mk2 rfl rfl rfl ?_ | refine A_mk13 rfl rfl ?_ | refine A_p (by rfl) rfl ?_
 | refine A_ldW rfl (by simp) rfl ?_
 | refine A_stW rfl rfl (by simp) rfl ?_
 | ((first | refine A_alloc rfl ?_ | refine A_box rfl rfl ?_ | refine A_boxC rfl rfl ?_ | refine A_bld1 rfl rfl ?_ | refine A_bld2 rfl rfl rfl ?_ | refine A_bld4 rfl rfl rfl rfl rfl ?_) <;> intro pz hpz)
 | refine A_bld0 rfl ?_
 | refine A_ret rfl (by exact (RP.c rfl inferInstance rfl (by simp) (RP.t rfl RP.nil))) ?_)
    exact R_fldN fun h => hv h.1
  by_cases hs : 0 ≤ steps ∧ steps ≤ 512
  case neg =>
    repeat' (first
 | refine A_go rfl ?_ | refine A_ifT rfl rfl ?_ | refine A_ifF rfl rfl ?_
 | refine A_offP rfl rfl ?_ | refine A_offH rfl rfl ?_ | refine A_off0 rfl rfl ?_
 | (refine A_bldC (by decide) rfl rfl ?_ <;> intro pz hpz)
 | (refine A_callB rfl rfl (fun s H => c_lives (bo := bo) (sy := sy) (xs := xs)) ?_ ?_ <;> intro hc <;> try first | contradiction | (exfalso; omega) | exact absurd rfl hc | exact absurd (And.intro rfl rfl) hc | exact absurd (And.intro rfl (And.intro rfl rfl)) hc | exact absurd (Eq.trans (by assumption) (Eq.symm (by assumption))) hc)
 | (refine A_callB rfl rfl (fun s H => c_within) ?_ ?_ <;> intro hc <;> try first | contradiction | (exfalso; omega) | exact absurd rfl hc | exact absurd (And.intro rfl rfl) hc | exact absurd (And.intro rfl (And.intro rfl rfl)) hc | exact absurd (Eq.trans (by assumption) (Eq.symm (by assumption))) hc)
 | refine A_mk3 rfl rfl rfl rfl ?_ | refine A_mk23 rfl rfl rfl ?_ | refine A_mk2 rfl rfl rfl ?_ | refine A_mk13 rfl rfl ?_ | refine A_p (by rfl) rfl ?_
 | refine A_ldW rfl (by simp) rfl ?_
 | refine A_stW rfl rfl (by simp) rfl ?_
 | ((first | refine A_alloc rfl ?_ | refine A_box rfl rfl ?_ | refine A_boxC rfl rfl ?_ | refine A_bld1 rfl rfl ?_ | refine A_bld2 rfl rfl rfl ?_ | refine A_bld4 rfl rfl rfl rfl rfl ?_) <;> intro pz hpz)
 | refine A_bld0 rfl ?_
 | refine A_ret rfl (by exact (RP.c rfl inferInstance rfl (by simp) (RP.t rfl RP.nil))) ?_)
    exact R_fldN fun h => hs h.2
  obtain ⟨R, C, rfl, rfl, h1, h2, h3, h4⟩ := hv.2.1.nat
  obtain ⟨n, rfl⟩ : ∃ n : Nat, steps = n := ⟨steps.toNat, by omega⟩
  have hl := (lifeN_pl (bo := bo) (sy := sy) (t := t) hv.2 n).len
  repeat' (first
 | refine A_go rfl ?_ | refine A_ifT rfl rfl ?_ | refine A_ifF rfl rfl ?_
 | refine A_offP rfl rfl ?_ | refine A_offH rfl rfl ?_ | refine A_off0 rfl rfl ?_
 | (refine A_bldC (by decide) rfl rfl ?_ <;> intro pz hpz)
 | (refine A_callB rfl rfl (fun s H => c_lives (bo := bo) (sy := sy) (xs := xs)) ?_ ?_ <;> intro hc <;> try first | contradiction | (exfalso; omega) | exact absurd rfl hc | exact absurd (And.intro rfl rfl) hc | exact absurd (And.intro rfl (And.intro rfl rfl)) hc | exact absurd (Eq.trans (by assumption) (Eq.symm (by assumption))) hc)
 | (refine A_callB rfl rfl (fun s H => c_within) ?_ ?_ <;> intro hc <;> try first | contradiction | (exfalso; omega) | exact absurd rfl hc | exact absurd (And.intro rfl rfl) hc | exact absurd (And.intro rfl (And.intro rfl rfl)) hc | exact absurd (Eq.trans (by assumption) (Eq.symm (by assumption))) hc)
 | (refine A_callM rfl rfl (fun s H => c_lrun (bo := bo) (sy := sy) (xs := xs) (t := t) (hp := hv.2) (hn := by omega)) ?_; rintro _ _ ⟨pz, rfl, rfl⟩) | (refine A_callM0 rfl rfl (fun s H => c_lrun (bo := bo) (sy := sy) (xs := xs) (t := t) (hp := hv.2) (hn := by omega)) ?_; rintro _ _ ⟨pz, rfl, rfl⟩)
 | refine A_mk3 rfl rfl rfl rfl ?_ | refine A_mk23 rfl rfl rfl ?_ | refine A_mk2 rfl rfl rfl ?_ | refine A_mk13 rfl rfl ?_ | refine A_p (by rfl) rfl ?_
 | refine A_ldW rfl (by simp) rfl ?_
 | refine A_stW rfl rfl (by simp) rfl ?_
 | ((first | refine A_alloc rfl ?_ | refine A_box rfl rfl ?_ | refine A_boxC rfl rfl ?_ | refine A_bld1 rfl rfl ?_ | refine A_bld2 rfl rfl rfl ?_ | refine A_bld4 rfl rfl rfl rfl rfl ?_) <;> intro pz hpz)
 | refine A_bld0 rfl ?_
 | refine A_ret rfl (by exact (RP.c rfl inferInstance rfl (by simp) (RP.t rfl RP.nil))) ?_)
  simp only [Int.toNat_natCast]
  exact R_fld ⟨hv, hs⟩ (by omega) (by omega)
theorem c_implStepLife {s : St} [Wf s] {r c : Int} {t : Bool} {id_bo off_bo len_bo : Nat} {bo : List Int} [h_bo : ArgE ic s id_bo off_bo bo] (hl_bo : bo.length = len_bo := by first | rfl | simp | omega | (simp; omega)) {id_sy off_sy len_sy : Nat} {sy : List Int} [h_sy : ArgE ic s id_sy off_sy sy] (hl_sy : sy.length = len_sy := by first | rfl | simp | omega | (simp; omega)) {id_xs off_xs len_xs : Nat} {xs : List Int} [h_xs : ArgE ic s id_xs off_xs xs] (hl_xs : xs.length = len_xs := by first | rfl | simp | omega | (simp; omega)) (hb : len_bo ≤ 2000000 ∧ len_sy ≤ 2000000 ∧ len_xs ≤ 2000000 := by omega) :
    Fn [] 26 [.agg [.sl id_bo off_bo len_bo, .sl id_sy off_sy len_sy], .agg [ic r, ic c, .sl id_xs off_xs len_xs], bv t] s (FldRes (LifeP bo sy r c xs) r c (mk r.toNat c.toNat (lifeV bo sy xs r.toNat c.toNat t))) := by
  refine F_start code26 ?_
  repeat' (first
 | refine A_go rfl ?_ | refine A_ifT rfl rfl ?_ | refine A_ifF rfl rfl ?_
 | (refine A_callM rfl rfl (fun s H => c_implRunLife (bo := bo) (sy := sy) (xs := xs) (t := t)) ?_; rintro _ _ ⟨pz, rfl, rfl, hlen⟩) | (refine A_callM0 rfl rfl (fun s H => c_implRunLife (bo := bo) (sy := sy) (xs := xs) (t := t)) ?_; rintro _ _ ⟨pz, rfl, rfl, hlen⟩)
 | refine A_p (by rfl) rfl ?_
 | refine A_ldW rfl (by simp) rfl ?_
 | refine A_stW rfl rfl (by simp) rfl ?_
 | ((first | refine A_alloc rfl ?_ | refine A_box rfl rfl ?_ | refine A_boxC rfl rfl ?_) <;> intro pz hpz)
 | refine A_ret rfl (by exact (RP.c rfl inferInstance rfl (by simp) (RP.t rfl RP.nil))) ?_)
  have e : (LifeP bo sy r c xs ∧ (0 : Int) ≤ 1 ∧ (1 : Int) ≤ 512) = LifeP bo sy r c xs := propext ⟨fun h => h.1, fun h => ⟨h, by omega⟩⟩
  have e2 : lifeN bo sy r.toNat c.toNat t xs (1 : Int).toNat = mk r.toNat c.toNat (lifeV bo sy xs r.toNat c.toNat t) := rfl
  simp only [e, e2] at hlen ⊢
  exact R_s ⟨_, rfl, rfl, hlen⟩
theorem c_implIsStill {s : St} [Wf s] {r c : Int} {t : Bool} {id_bo off_bo len_bo : Nat} {bo : List Int} [h_bo : ArgE ic s id_bo off_bo bo] (hl_bo : bo.length = len_bo := by first | rfl | simp | omega | (simp; omega)) {id_sy off_sy len_sy : Nat} {sy : List Int} [h_sy : ArgE ic s id_sy off_sy sy] (hl_sy : sy.length = len_sy := by first | rfl | simp | omega | (simp; omega)) {id_xs off_xs len_xs : Nat} {xs : List Int} [h_xs : ArgE ic s id_xs off_xs xs] (hl_xs : xs.length = len_xs := by first | rfl | simp | omega | (simp; omega)) (hb : len_bo ≤ 2000000 ∧ len_sy ≤ 2000000 ∧ len_xs ≤ 2000000 := by omega) :
    FnV 27 [.agg [.sl id_bo off_bo len_bo, .sl id_sy off_sy len_sy], .agg [ic r, ic c, .sl id_xs off_xs len_xs], bv t] s (boolV (LifeP bo sy r c xs) (mk r.toNat c.toNat (lifeV bo sy xs r.toNat c.toNat t) = xs)) := by
  refine F_start code27 ?_
  by_cases hv : LifeP bo sy r c xs
  case neg =>
    repeat' (first
 | refine A_go rfl ?_ | refine A_ifT rfl rfl ?_ | refine A_ifF rfl rfl ?_
 | (refine A_bldC (by decide) rfl rfl ?_ <;> intro pz hpz)
 | (refine A_callB rfl rfl (fun s H => c_lives (bo := bo) (sy := sy) (xs := xs)) ?_ ?_ <;> intro hc <;> try first | contradiction | (exfalso; omega) | exact absurd rfl hc | exact absurd (And.intro rfl rfl) hc | exact absurd (And.intro rfl (And.intro rfl rfl)) hc | exact absurd (Eq.trans (by assumption) (Eq.symm (by assumption))) hc)
 | refine A_p (by rfl) rfl ?_
 | refine A_ldW rfl (by simp) rfl ?_
 | ((first | refine A_box rfl rfl ?_ | refine A_boxC rfl rfl ?_ | refine A_bld1 rfl rfl ?_ | refine A_bld2 rfl rfl rfl ?_ | refine A_bld4 rfl rfl rfl rfl rfl ?_) <;> intro pz hpz)
 | refine A_bld0 rfl ?_
 | refine A_chk1 rfl rfl rfl ?_ | refine A_chk2 rfl rfl rfl rfl ?_ | refine A_chk3 rfl rfl rfl rfl rfl ?_ | refine A_chk4 rfl rfl rfl rfl rfl rfl ?_ | refine A_chkI rfl (by assumption) rfl (by simp) ?_
 | refine A_ret rfl (by exact (RP.t rfl (RP.t rfl RP.nil))) ?_)
    exact R_bn hv
  obtain ⟨R, C, rfl, rfl, h1, h2, h3, h4⟩ := hv.2.1.nat
  simp only [Int.toNat_natCast]
  repeat' (first
 | refine A_go rfl ?_ | refine A_ifT rfl rfl ?_ | refine A_ifF rfl rfl ?_
 | (refine A_bldC (by decide) rfl rfl ?_ <;> intro pz hpz)
 | (refine A_callB rfl rfl (fun s H => c_lives (bo := bo) (sy := sy) (xs := xs)) ?_ ?_ <;> intro hc <;> try first | contradiction | (exfalso; omega) | exact absurd rfl hc | exact absurd (And.intro rfl rfl) hc | exact absurd (And.intro rfl (And.intro rfl rfl)) hc | exact absurd (Eq.trans (by assumption) (Eq.symm (by assumption))) hc)
 | (refine A_callM rfl rfl (fun s H => c_lstep (bo := bo) (sy := sy) (xs := xs) (t := t) (hp := hv.2)) ?_; rintro _ _ ⟨pz, rfl, rfl⟩) | (refine A_callM0 rfl rfl (fun s H => c_lstep (bo := bo) (sy := sy) (xs := xs) (t := t) (hp := hv.2)) ?_; rintro _ _ ⟨pz, rfl, rfl⟩)
 | (refine A_callB rfl rfl (fun s H => c_implSameField (xs := xs) (ys := mk R C (lifeV bo sy xs R C t))) ?_ ?_ <;> intro hc <;> try first | contradiction | (exfalso; omega) | exact absurd rfl hc | exact absurd (And.intro rfl rfl) hc | exact absurd (And.intro rfl (And.intro rfl rfl)) hc | exact absurd (Eq.trans (by assumption) (Eq.symm (by assumption))) hc)
 | refine A_p (by rfl) rfl ?_
 | refine A_ldW rfl (by simp) rfl ?_
 | ((first | refine A_box rfl rfl ?_ | refine A_boxC rfl rfl ?_ | refine A_bld1 rfl rfl ?_ | refine A_bld2 rfl rfl rfl ?_ | refine A_bld4 rfl rfl rfl rfl rfl ?_) <;> intro pz hpz)
 | refine A_bld0 rfl ?_
 | refine A_chk1 rfl rfl rfl ?_ | refine A_chk2 rfl rfl rfl rfl ?_ | refine A_chk3 rfl rfl rfl rfl rfl ?_ | refine A_chk4 rfl rfl rfl rfl rfl rfl ?_ | refine A_chkI rfl (by assumption) rfl (by simp) ?_
 | refine A_ret rfl (by exact (RP.t rfl (RP.t rfl RP.nil))) ?_)
  · exact R_bt hv hc.2.2.symm
  · exact R_bf hv fun h => hc ⟨rfl, rfl, h.symm⟩

end Go.Proofs.Ytlhidckolillaaa
