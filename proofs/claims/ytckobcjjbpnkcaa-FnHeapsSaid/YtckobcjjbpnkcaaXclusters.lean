/- Clusters. -/
import Derived.Test.YtckobcjjbpnkcaaXbeside
import Derived.Test.YtckobcjjbpnkcaaFB
namespace Go.Proofs.Ytckobcjjbpnkcaa
open Go Go.RowKit
set_option linter.unusedVariables false
set_option linter.unusedSimpArgs false
set_option maxRecDepth 100000
set_option maxHeartbeats 8000000
-- (impl.Field).clusters
def L71 : AFun := ⟨69, [.t 4, .t 5],
 (.seq (.ops false [⟨(some 2), .box 25 (.t 0), none, []⟩,
   ⟨(some 4), .mv (.k (.c (.sl 0 0 0))), none, []⟩,
   ⟨(some 5), .mv (.k (iv 0)), none, []⟩])
 (.seq (.ops false [⟨(some 12), .fieldA 2 (.t 2), none, []⟩,
   ⟨(some 13), .load false 1 (.t 12), none, []⟩,
   ⟨(some 14), .len false (.t 13), none, []⟩,
   ⟨(some 15), .makeS 2 1 8 [.int .i64 0] (.t 14) (.t 14), none, []⟩,
   ⟨(some 6), .alloc 23 [.sl 0 0 0], none, []⟩,
   ⟨none, .store 1 (.t 6) (.t 15), none, []⟩])
 (.seq (.ops false [⟨(some 7), .alloc 2 [.int .i64 0], none, []⟩,
   ⟨none, .store 1 (.t 7) (.k (iv 0)), none, []⟩])
 (.seq (.seq (.ops false [⟨(some 16), .fieldA 2 (.t 2), none, []⟩,
    ⟨(some 17), .load false 1 (.t 16), none, []⟩,
    ⟨(some 18), .len false (.t 17), none, []⟩,
    ⟨(some 19), .mv (.k (iv 0)), none, []⟩])
  (.block 0 (.loop [1, 2, 6, 7, 17, 18, 19] (.seq (.ops false [⟨(some 20), .bin .lss (.t 19) (.t 18), none, []⟩])
    (.seq (.cond (.t 20) .skip
      (.exit 0))
    (.seq (.block 1 (.seq (.ops false [⟨(some 21), .mv (.t 19), none, []⟩,
        ⟨(some 22), .idxA 1 (.t 17) (.t 19), none, []⟩,
        ⟨(some 23), .load false 1 (.t 22), none, []⟩,
        ⟨(some 8), .mv (.t 21), none, []⟩,
        ⟨(some 9), .mv (.t 23), none, []⟩])
      (.seq (.seq (.ops false [⟨(some 24), .mv (.t 9), none, []⟩,
         ⟨(some 25), .bin .neq (.t 24) (.k (iv 1)), none, []⟩,
         ⟨(some 26), .mv (.t 25), none, []⟩,
         ⟨(some 27), .load false 1 (.t 6), (some (26, false)), []⟩,
         ⟨(some 28), .mv (.t 8), (some (26, false)), []⟩,
         ⟨(some 29), .idxA 1 (.t 27) (.t 28), (some (26, false)), []⟩,
         ⟨(some 30), .load false 1 (.t 29), (some (26, false)), []⟩,
         ⟨(some 31), .bin .neq (.t 30) (.k (iv 0)), (some (26, false)), []⟩,
         ⟨(some 32), .pick (.t 26) (.k (bv true)) (.t 31), none, []⟩])
       (.cond (.t 32) (.exit 1)
        .skip))
      (.seq (.ops false [⟨(some 33), .load false 1 (.t 7), none, []⟩,
        ⟨(some 34), .bin .add (.t 33) (.k (iv 1)), none, []⟩,
        ⟨none, .store 1 (.t 7) (.t 34), none, []⟩])
      (.seq (.ops false [⟨(some 35), .load false 1 (.t 6), none, []⟩,
        ⟨(some 36), .mv (.t 8), none, []⟩,
        ⟨(some 37), .load false 1 (.t 7), none, []⟩,
        ⟨(some 38), .idxA 1 (.t 35) (.t 36), none, []⟩,
        ⟨none, .store 1 (.t 38) (.t 37), none, []⟩])
      (.seq (.ops false [⟨(some 39), .mv (.t 8), none, []⟩,
        ⟨(some 40), .buildS 2 1 1 [.int .i64 0] [(0, 1, (.t 39))], none, []⟩,
        ⟨(some 10), .alloc 23 [.sl 0 0 0], none, []⟩,
        ⟨none, .store 1 (.t 10) (.t 40), none, []⟩])
      (.block 2 (.loop [1, 2, 6, 7, 10, 17, 18, 19] (.seq (.seq (.ops false [⟨(some 41), .load false 1 (.t 10), none, []⟩,
           ⟨(some 42), .len false (.t 41), none, []⟩,
           ⟨(some 43), .bin .gtr (.t 42) (.k (iv 0)), none, []⟩])
         (.cond (.t 43) .skip
          (.exit 2)))
        (.block 3 (.seq (.ops false [⟨(some 44), .load false 1 (.t 10), none, []⟩,
           ⟨(some 45), .load false 1 (.t 10), none, []⟩,
           ⟨(some 46), .len false (.t 45), none, []⟩,
           ⟨(some 47), .bin .sub (.t 46) (.k (iv 1)), none, []⟩,
           ⟨(some 48), .idxA 1 (.t 44) (.t 47), none, []⟩,
           ⟨(some 49), .load false 1 (.t 48), none, []⟩,
           ⟨(some 11), .mv (.t 49), none, []⟩])
         (.seq (.ops false [⟨(some 50), .load false 1 (.t 10), none, []⟩,
           ⟨(some 51), .load false 1 (.t 10), none, []⟩,
           ⟨(some 52), .len false (.t 51), none, []⟩,
           ⟨(some 53), .bin .sub (.t 52) (.k (iv 1)), none, []⟩,
           ⟨(some 54), .slice 1 (.t 50) none (some (.t 53)), none, []⟩,
           ⟨none, .store 1 (.t 10) (.t 54), none, []⟩])
         (.ops true [⟨(some 55), .mv (.t 1), none, []⟩,
          ⟨(some 56), .mv (.t 11), none, []⟩,
          ⟨(some 57), .fieldA 1 (.t 2), none, []⟩,
          ⟨(some 58), .load false 1 (.t 57), none, []⟩,
          ⟨(some 59), .bin .quo (.t 56) (.t 58), none, []⟩,
          ⟨(some 60), .mv (.t 11), none, []⟩,
          ⟨(some 61), .fieldA 1 (.t 2), none, []⟩,
          ⟨(some 62), .load false 1 (.t 61), none, []⟩,
          ⟨(some 63), .bin .rem (.t 60) (.t 62), none, []⟩,
          ⟨(some 64), .mkFn 89 [(.t 2), (.t 6), (.t 7), (.t 10)], none, []⟩,
          ⟨(some 65), .call (.t 55) [(.t 59), (.t 63), (.t 64)], none, []⟩])))))))))))))
    (.ops false [⟨(some 66), .bin .add (.t 19) (.k (iv 1)), none, []⟩,
     ⟨(some 19), .mv (.t 66), none, []⟩])))))))
 (.seq (.ops true [⟨(some 67), .load false 1 (.t 6), none, []⟩,
   ⟨(some 68), .load false 1 (.t 7), none, []⟩,
   ⟨(some 4), .mv (.t 67), none, []⟩,
   ⟨(some 5), .mv (.t 68), none, []⟩])
 .ret)))))⟩
theorem code71 : acode Try.prog hints 71 = some L71 := by kernel_rfl

-- (impl.Field).clusters$1
def L89 : AFun := ⟨36, [],
 (.seq (.ops false [⟨(some 9), .mv (.t 0), none, []⟩,
   ⟨(some 10), .fieldA 1 (.t 2), none, []⟩,
   ⟨(some 11), .load false 1 (.t 10), none, []⟩,
   ⟨(some 12), .bin .mul (.t 9) (.t 11), none, []⟩,
   ⟨(some 13), .mv (.t 1), none, []⟩,
   ⟨(some 14), .bin .add (.t 12) (.t 13), none, []⟩,
   ⟨(some 8), .mv (.t 14), none, []⟩])
 (.seq (.ops false [⟨(some 15), .fieldA 2 (.t 2), none, []⟩,
   ⟨(some 16), .load false 1 (.t 15), none, []⟩,
   ⟨(some 17), .mv (.t 8), none, []⟩,
   ⟨(some 18), .idxA 1 (.t 16) (.t 17), none, []⟩,
   ⟨(some 19), .load false 1 (.t 18), none, []⟩,
   ⟨(some 20), .bin .eql (.t 19) (.k (iv 1)), none, []⟩,
   ⟨(some 21), .mv (.t 20), none, []⟩,
   ⟨(some 22), .load false 1 (.t 3), (some (21, true)), []⟩,
   ⟨(some 23), .mv (.t 8), (some (21, true)), []⟩,
   ⟨(some 24), .idxA 1 (.t 22) (.t 23), (some (21, true)), []⟩,
   ⟨(some 25), .load false 1 (.t 24), (some (21, true)), []⟩,
   ⟨(some 26), .bin .eql (.t 25) (.k (iv 0)), (some (21, true)), []⟩,
   ⟨(some 27), .pick (.t 21) (.t 26) (.k (bv false)), none, []⟩])
 (.cond (.t 27) (.seq (.ops false [⟨(some 28), .load false 1 (.t 3), none, []⟩,
    ⟨(some 29), .mv (.t 8), none, []⟩,
    ⟨(some 30), .load false 1 (.t 4), none, []⟩,
    ⟨(some 31), .idxA 1 (.t 28) (.t 29), none, []⟩,
    ⟨none, .store 1 (.t 31) (.t 30), none, []⟩])
  (.ops false [⟨(some 32), .load false 1 (.t 5), none, []⟩,
   ⟨(some 33), .mv (.t 8), none, []⟩,
   ⟨(some 34), .buildS 2 1 1 [.int .i64 0] [(0, 1, (.t 33))], none, []⟩,
   ⟨(some 35), .append 2 1 8 (.t 32) (.t 34), none, []⟩,
   ⟨none, .store 1 (.t 5) (.t 35), none, []⟩]))
  .skip)))⟩
theorem code89 : acode Try.prog hints 89 = some L89 := by kernel_rfl

-- spec.l04Spread
def L95 : AFun := ⟨76, [],
 (.seq (.ops false [⟨(some 12), .mv (.t 2), none, []⟩,
   ⟨(some 13), .buildS 2 1 1 [.int .i64 0] [(0, 1, (.t 12))], none, []⟩,
   ⟨(some 8), .mv (.t 13), none, []⟩])
 (.seq (.ops false [⟨(some 14), .mv (.t 1), none, []⟩,
   ⟨(some 15), .mv (.t 2), none, []⟩,
   ⟨(some 16), .mv (.t 3), none, []⟩,
   ⟨(some 17), .idxA 1 (.t 14) (.t 15), none, []⟩,
   ⟨none, .store 1 (.t 17) (.t 16), none, []⟩])
 (.block 0 (.loop [0, 1, 3, 8] (.seq (.seq (.ops false [⟨(some 18), .mv (.t 8), none, []⟩,
      ⟨(some 19), .len false (.t 18), none, []⟩,
      ⟨(some 20), .bin .gtr (.t 19) (.k (iv 0)), none, []⟩])
    (.cond (.t 20) .skip
     (.exit 0)))
   (.block 1 (.seq (.ops false [⟨(some 21), .mv (.t 8), none, []⟩,
      ⟨(some 22), .mv (.t 8), none, []⟩,
      ⟨(some 23), .len false (.t 22), none, []⟩,
      ⟨(some 24), .bin .sub (.t 23) (.k (iv 1)), none, []⟩,
      ⟨(some 25), .idxA 1 (.t 21) (.t 24), none, []⟩,
      ⟨(some 26), .load false 1 (.t 25), none, []⟩,
      ⟨(some 9), .mv (.t 26), none, []⟩])
    (.seq (.ops false [⟨(some 27), .mv (.t 8), none, []⟩,
      ⟨(some 28), .mv (.t 8), none, []⟩,
      ⟨(some 29), .len false (.t 28), none, []⟩,
      ⟨(some 30), .bin .sub (.t 29) (.k (iv 1)), none, []⟩,
      ⟨(some 31), .slice 1 (.t 27) none (some (.t 30)), none, []⟩,
      ⟨(some 8), .mv (.t 31), none, []⟩])
    (.seq (.ops false [⟨(some 32), .mv (.t 0), none, []⟩,
      ⟨(some 33), .mv (.t 9), none, []⟩,
      ⟨(some 34), .call (.f 100) [(.t 32), (.t 33)], none, []⟩,
      ⟨(some 10), .mv (.t 34), none, []⟩])
    (.seq (.ops false [⟨(some 11), .mv (.k (iv 0)), none, []⟩])
    (.block 2 (.loop [0, 1, 3, 8, 10, 11] (.seq (.seq (.ops false [⟨(some 35), .mv (.t 11), none, []⟩,
         ⟨(some 36), .mv (.t 10), none, []⟩,
         ⟨(some 37), .len false (.t 36), none, []⟩,
         ⟨(some 38), .bin .lss (.t 35) (.t 37), none, []⟩])
       (.cond (.t 38) .skip
        (.exit 2)))
      (.seq (.block 3 (.seq (.ops true [⟨(some 41), .mv (.t 0), none, []⟩,
          ⟨(some 42), .nilChk (.t 41), none, []⟩,
          ⟨(some 43), .fieldA 2 (.t 42), none, []⟩,
          ⟨(some 44), .load false 1 (.t 43), none, []⟩,
          ⟨(some 45), .mv (.t 10), none, []⟩,
          ⟨(some 46), .mv (.t 11), none, []⟩,
          ⟨(some 47), .idxA 1 (.t 45) (.t 46), none, []⟩,
          ⟨(some 48), .load false 1 (.t 47), none, []⟩,
          ⟨(some 49), .idxA 1 (.t 44) (.t 48), none, []⟩,
          ⟨(some 50), .load false 1 (.t 49), none, []⟩,
          ⟨(some 51), .bin .eql (.t 50) (.k (iv 1)), none, []⟩,
          ⟨(some 52), .mv (.t 51), none, []⟩,
          ⟨(some 53), .mv (.t 1), (some (52, true)), []⟩,
          ⟨(some 54), .mv (.t 10), (some (52, true)), []⟩,
          ⟨(some 55), .mv (.t 11), (some (52, true)), []⟩,
          ⟨(some 56), .idxA 1 (.t 54) (.t 55), (some (52, true)), []⟩,
          ⟨(some 57), .load false 1 (.t 56), (some (52, true)), []⟩,
          ⟨(some 58), .idxA 1 (.t 53) (.t 57), (some (52, true)), []⟩,
          ⟨(some 59), .load false 1 (.t 58), (some (52, true)), []⟩,
          ⟨(some 60), .bin .eql (.t 59) (.k (iv 0)), (some (52, true)), []⟩,
          ⟨(some 61), .pick (.t 52) (.t 60) (.k (bv false)), none, []⟩])
        (.cond (.t 61) (.seq (.ops false [⟨(some 62), .mv (.t 1), none, []⟩,
           ⟨(some 63), .mv (.t 10), none, []⟩,
           ⟨(some 64), .mv (.t 11), none, []⟩,
           ⟨(some 65), .idxA 1 (.t 63) (.t 64), none, []⟩,
           ⟨(some 66), .load false 1 (.t 65), none, []⟩,
           ⟨(some 67), .mv (.t 3), none, []⟩,
           ⟨(some 68), .idxA 1 (.t 62) (.t 66), none, []⟩,
           ⟨none, .store 1 (.t 68) (.t 67), none, []⟩])
         (.ops false [⟨(some 69), .mv (.t 8), none, []⟩,
          ⟨(some 70), .mv (.t 10), none, []⟩,
          ⟨(some 71), .mv (.t 11), none, []⟩,
          ⟨(some 72), .idxA 1 (.t 70) (.t 71), none, []⟩,
          ⟨(some 73), .load false 1 (.t 72), none, []⟩,
          ⟨(some 74), .buildS 2 1 1 [.int .i64 0] [(0, 1, (.t 73))], none, []⟩,
          ⟨(some 75), .append 2 1 8 (.t 69) (.t 74), none, []⟩,
          ⟨(some 8), .mv (.t 75), none, []⟩]))
         .skip)))
      (.ops false [⟨(some 39), .mv (.t 11), none, []⟩,
       ⟨(some 40), .bin .add (.t 39) (.k (iv 1)), none, []⟩,
       ⟨(some 11), .mv (.t 40), none, []⟩])))))))))))))))⟩
theorem code95 : acode Try.prog hints 95 = some L95 := by kernel_rfl

-- spec.l04Clusters
def L78 : AFun := ⟨46, [.t 2, .t 3],
 (.seq (.ops false [⟨(some 2), .mv (.k (.c (.sl 0 0 0))), none, []⟩,
   ⟨(some 3), .mv (.k (iv 0)), none, []⟩])
 (.seq (.ops false [⟨(some 7), .mv (.t 0), none, []⟩,
   ⟨(some 8), .nilChk (.t 7), none, []⟩,
   ⟨(some 9), .fieldA 2 (.t 8), none, []⟩,
   ⟨(some 10), .load false 1 (.t 9), none, []⟩,
   ⟨(some 11), .len false (.t 10), none, []⟩,
   ⟨(some 12), .makeS 2 1 8 [.int .i64 0] (.t 11) (.t 11), none, []⟩,
   ⟨(some 4), .mv (.t 12), none, []⟩])
 (.seq (.ops false [⟨(some 5), .mv (.k (iv 0)), none, []⟩])
 (.seq (.seq (.ops false [⟨(some 6), .mv (.k (iv 0)), none, []⟩])
  (.block 0 (.loop [0, 4, 5, 6] (.seq (.seq (.ops false [⟨(some 13), .mv (.t 6), none, []⟩,
       ⟨(some 14), .mv (.t 0), none, []⟩,
       ⟨(some 15), .nilChk (.t 14), none, []⟩,
       ⟨(some 16), .fieldA 2 (.t 15), none, []⟩,
       ⟨(some 17), .load false 1 (.t 16), none, []⟩,
       ⟨(some 18), .len false (.t 17), none, []⟩,
       ⟨(some 19), .bin .lss (.t 13) (.t 18), none, []⟩])
     (.cond (.t 19) .skip
      (.exit 0)))
    (.seq (.block 1 (.seq (.ops false [⟨(some 22), .mv (.t 0), none, []⟩,
        ⟨(some 23), .nilChk (.t 22), none, []⟩,
        ⟨(some 24), .fieldA 2 (.t 23), none, []⟩,
        ⟨(some 25), .load false 1 (.t 24), none, []⟩,
        ⟨(some 26), .mv (.t 6), none, []⟩,
        ⟨(some 27), .idxA 1 (.t 25) (.t 26), none, []⟩,
        ⟨(some 28), .load false 1 (.t 27), none, []⟩,
        ⟨(some 29), .bin .eql (.t 28) (.k (iv 1)), none, []⟩,
        ⟨(some 30), .mv (.t 29), none, []⟩,
        ⟨(some 31), .mv (.t 4), (some (30, true)), []⟩,
        ⟨(some 32), .mv (.t 6), (some (30, true)), []⟩,
        ⟨(some 33), .idxA 1 (.t 31) (.t 32), (some (30, true)), []⟩,
        ⟨(some 34), .load false 1 (.t 33), (some (30, true)), []⟩,
        ⟨(some 35), .bin .eql (.t 34) (.k (iv 0)), (some (30, true)), []⟩,
        ⟨(some 36), .pick (.t 30) (.t 35) (.k (bv false)), none, []⟩])
      (.cond (.t 36) (.seq (.ops false [⟨(some 37), .mv (.t 5), none, []⟩,
         ⟨(some 38), .bin .add (.t 37) (.k (iv 1)), none, []⟩,
         ⟨(some 5), .mv (.t 38), none, []⟩])
       (.ops false [⟨(some 39), .mv (.t 0), none, []⟩,
        ⟨(some 40), .mv (.t 4), none, []⟩,
        ⟨(some 41), .mv (.t 6), none, []⟩,
        ⟨(some 42), .mv (.t 5), none, []⟩,
        ⟨(some 43), .call (.f 95) [(.t 39), (.t 40), (.t 41), (.t 42)], none, []⟩]))
       .skip)))
    (.ops false [⟨(some 20), .mv (.t 6), none, []⟩,
     ⟨(some 21), .bin .add (.t 20) (.k (iv 1)), none, []⟩,
     ⟨(some 6), .mv (.t 21), none, []⟩]))))))
 (.seq (.ops false [⟨(some 44), .mv (.t 4), none, []⟩,
   ⟨(some 45), .mv (.t 5), none, []⟩,
   ⟨(some 2), .mv (.t 44), none, []⟩,
   ⟨(some 3), .mv (.t 45), none, []⟩])
 .ret)))))⟩
theorem code78 : acode Try.prog hints 78 = some L78 := by kernel_rfl

-- impl.ClustersOf
def L32 : AFun := ⟨19, [.t 2, .t 3, .t 4],
 (.seq (.ops false [⟨(some 1), .box 25 (.t 0), none, []⟩,
   ⟨(some 2), .mv (.k (.c (.sl 0 0 0))), none, []⟩,
   ⟨(some 3), .mv (.k (iv 0)), none, []⟩,
   ⟨(some 4), .mv (.k (bv false)), none, []⟩])
 (.seq (.seq (.ops false [⟨(some 7), .load true 3 (.t 1), none, []⟩,
    ⟨(some 8), .call (.f 25) [(.t 7)], none, []⟩,
    ⟨(some 9), .un .not (.t 8), none, []⟩])
  (.cond (.t 9) (.seq (.ops false [⟨(some 2), .mv (.k (.c (.sl 0 0 0))), none, []⟩,
     ⟨(some 3), .mv (.k (iv 0)), none, []⟩,
     ⟨(some 4), .mv (.k (bv false)), none, []⟩])
   .ret)
   .skip))
 (.seq (.ops false [⟨(some 11), .load true 3 (.t 1), none, []⟩,
   ⟨(some 12), .load true 3 (.t 1), none, []⟩,
   ⟨(some 13), .mkBound 72 [(.t 12)], none, []⟩,
   ⟨(some 14), .call (.f 71) [(.t 11), (.t 13)], none, []⟩,
   ⟨(some 10), .mv (.t 14), none, []⟩,
   ⟨(some 15), .ext (.t 10) 0, none, []⟩,
   ⟨(some 16), .ext (.t 10) 1, none, []⟩,
   ⟨(some 5), .mv (.t 15), none, []⟩,
   ⟨(some 6), .mv (.t 16), none, []⟩])
 (.seq (.ops false [⟨(some 17), .mv (.t 5), none, []⟩,
   ⟨(some 18), .mv (.t 6), none, []⟩,
   ⟨(some 2), .mv (.t 17), none, []⟩,
   ⟨(some 3), .mv (.t 18), none, []⟩,
   ⟨(some 4), .mv (.k (bv true)), none, []⟩])
 .ret))))⟩
theorem code32 : acode Try.prog hints 32 = some L32 := by kernel_rfl


/-- One neighbour: (the numbers, what is still to do). -/
def cluS (xs : List Int) (num : Int) (st : List Int × List Int) (x : Int) : List Int × List Int :=
  if xs.getD x.toNat 0 = 1 ∧ st.1.getD x.toNat 0 = 0 then (st.1.set x.toNat num, st.2 ++ [x]) else st
/-- The neighbours of the cell 'x'. -/
def nbs (R C : Int) (x : Int) : List Int := nbl R C (x / C) (x % C) 4
/-- A cluster gets its number. -/
def spr (R C : Int) (xs : List Int) (num : Int) : Nat → List Int × List Int → List Int
  | 0, st => st.1
  | n + 1, st => if st.2 = [] then st.1 else spr R C xs num n ((nbs R C (st.2.getLastD 0)).foldl (cluS xs num) (st.1, st.2.dropLast))
/-- How many cells have no number yet. -/
def unm (xs out : List Int) : Nat → Nat
  | 0 => 0
  | n + 1 => unm xs out n + if xs.getD n 0 = 1 ∧ out.getD n 0 = 0 then 1 else 0
theorem unm_le {xs out : List Int} : ∀ n, unm xs out n ≤ n
  | 0 => Nat.le_refl 0
  | n + 1 => by have := unm_le (xs := xs) (out := out) n; rw [unm]; split <;> omega
theorem unm_set {xs out : List Int} {i : Nat} {v : Int} (hv : v ≠ 0) (hi : i < out.length) (h : xs.getD i 0 = 1 ∧ out.getD i 0 = 0) : ∀ n, unm xs (out.set i v) n + (if i < n then 1 else 0) = unm xs out n
  | 0 => by simp [unm]
  | n + 1 => by
    have ih := unm_set hv hi h n
    rw [unm, unm, getD_set hi]
    by_cases e : i = n
    · subst e
      rw [if_neg (Nat.lt_irrefl i)] at ih
      rw [if_pos rfl, if_neg (fun g => hv g.2), if_pos h, if_pos (by omega)]; omega
    · rw [if_neg e]
      by_cases h2 : i < n
      · rw [if_pos h2] at ih; rw [if_pos (show i < n + 1 by omega)]; omega
      · rw [if_neg h2] at ih; rw [if_neg (show ¬ i < n + 1 by omega)]; omega
/-- What holds on the way. -/
structure CluOk (R C : Nat) (xs : List Int) (st : List Int × List Int) (m : Nat) : Prop where
  len : st.1.length = R * C
  todo : ∀ x ∈ st.2, 0 ≤ x ∧ x < (R : Int) * C
  meas : unm xs st.1 (R * C) + st.2.length ≤ m
theorem CluOk.step {R C : Nat} {xs : List Int} {st : List Int × List Int} {m : Nat} {num x : Int} (h : CluOk R C xs st m) (hn : num ≠ 0) (hx : 0 ≤ x ∧ x < (R : Int) * C) : CluOk R C xs (cluS xs num st x) m := by
  have e : ((R * C : Nat) : Int) = (R : Int) * C := by push_cast; rfl
  have hl := h.len
  unfold cluS
  split
  · rename_i hc
    refine ⟨by simp [h.len], fun y hy => ?_, ?_⟩
    · rcases List.mem_append.1 hy with hy | hy
      · exact h.todo y hy
      · obtain rfl := List.mem_singleton.1 hy; exact hx
    · have := unm_set hn (by omega) hc (R * C)
      rw [if_pos (by omega)] at this
      have := h.meas
      simp; omega
  · exact h
theorem CluOk.fold {R C : Nat} {xs : List Int} {m : Nat} {num : Int} (hn : num ≠ 0) : ∀ (l : List Int) (st : List Int × List Int), CluOk R C xs st m → (∀ x ∈ l, 0 ≤ x ∧ x < (R : Int) * C) → CluOk R C xs (l.foldl (cluS xs num) st) m
  | [], st, h, _ => h
  | x :: l, st, h, hl => CluOk.fold hn l _ (h.step hn (hl x (by simp))) (fun y hy => hl y (by simp [hy]))
theorem spr_nil {R C : Int} {xs out : List Int} {num : Int} : ∀ n, spr R C xs num n (out, []) = out
  | 0 => rfl
  | n + 1 => by rw [spr, if_pos rfl]
theorem nbs_in {R C x : Int} : ∀ y ∈ nbs R C x, 0 ≤ y ∧ y < R * C := nbl_in 4
theorem last_take {α : Type} {cs st : List α} {n : Nat} {d : α} (h : cs.take n = st) (hn : 0 < n) (hl : n ≤ cs.length) : st.getLastD d = cs.getD (n - 1) d ∧ st.dropLast = cs.take (n - 1) ∧ st ≠ [] := by
  have hs : st.length = n := by rw [← h]; simp; omega
  have hne : st ≠ [] := by intro e; rw [e] at hs; simp at hs; omega
  refine ⟨?_, ?_, hne⟩
  · rw [List.getLastD_eq_getLast?, List.getLast?_eq_getElem?, hs, ← h, List.getElem?_take, if_pos (by omega), List.getD_eq_getElem?_getD]
  · rw [List.dropLast_eq_take, hs, ← h, List.take_take, Nat.min_eq_left (by omega)]
/-- What is in memory: the stack's variable, the stack, the numbers; and what is only read. -/
abbrev CluN (tb po q ob cb : Nat) (fc : List AC) (len : Nat) (num : Int) (st : List Int × List Int) (N : Objs) : Prop :=
  ∃ (p n : Nat) (cs : List Int), N = [(tb, .rw 23 1 [.sl p 0 n]), (p, ints cs), (po, ints st.1), (q, .rw 25 3 fc), (ob, .rw 23 1 [.sl po 0 len]), (cb, .rw 2 1 [ic num])] ∧ cs.take n = st.2 ∧ n ≤ cs.length ∧ st.1.length = len ∧ n ≤ 1000000
theorem c_clu1 {s : St} {tb po q ob cb p n R C : Nat} {num : Int} {id_xs off_xs len_xs : Nat} {xs cs : List Int} {st : List Int × List Int} [h_xs : ArgE ic s id_xs off_xs xs] (H : Own [tb, p, po, q, ob, cb] s s [(tb, .rw 23 1 [.sl p 0 n]), (p, ints cs), (po, ints st.1), (q, .rw 25 3 [ic R, ic C, .sl id_xs off_xs len_xs]), (ob, .rw 23 1 [.sl po 0 len_xs]), (cb, .rw 2 1 [ic num])])
    [k2 : NotIn id_xs [tb, p, po, q, ob, cb]] (hl_xs : xs.length = len_xs) (hl : len_xs = R * C) (hb : R ≤ 24 ∧ C ≤ 24) (h1 : cs.take n = st.2) (h2 : n ≤ cs.length) (h3 : st.1.length = len_xs) (hn : n ≤ 999999) {r c : Int} (hin : InF R C r c) :
    Fn [tb, p, po, q, ob, cb] 89 [iv r, iv c, .c (.ptr q 0), .c (.ptr ob 0), .c (.ptr cb 0), .c (.ptr tb 0)] s fun _ N => CluN tb po q ob cb [ic R, ic C, .sl id_xs off_xs len_xs] len_xs num (cluS xs num st (r * C + c)) N := by
  have hcc : R * C ≤ 576 := Nat.mul_le_mul hb.1 hb.2
  have hm := cell_in hin.1 hin.2
  have e : ((R * C : Nat) : Int) = (R : Int) * C := by push_cast; rfl
  refine F_startB code89 H ?_
  repeat' (first
 | refine A_go rfl ?_ | refine A_ifT rfl rfl ?_ | refine A_ifF rfl rfl ?_
 | refine A_offP rfl rfl ?_ | refine A_offH rfl rfl ?_ | refine A_off0 rfl rfl ?_
 | refine A_add rfl rfl rfl (by omega) ?_ | refine A_mul rfl rfl rfl (by omega) ?_
 | ((first | refine A_eq rfl rfl rfl ?_ ?_) <;> intro hc <;> try first | contradiction | (exfalso; omega) | exact absurd rfl hc)
 | refine A_idxN1 rfl rfl rfl (by omega) ?_ | refine A_idx1 rfl rfl rfl (by omega) ?_
 | (refine A_appT rfl rfl rfl (by omega) (by simp) (by omega) ?_ <;> intro pz)
 | refine A_fld rfl rfl ?_ | refine A_p (by rfl) rfl ?_
 | refine A_ldI rfl (by first | omega | (simp; done) | (simp; omega)) rfl ?_ | refine A_ldB rfl (by first | omega | (simp; done) | (simp; omega)) rfl ?_ | refine A_ld rfl (by rfl) rfl ?_
 | refine A_st rfl rfl rfl ?_ | refine A_stE rfl rfl (by first | omega | (simp; done) | (simp; omega)) rfl ?_
 | ((first | refine A_bld1 rfl rfl ?_ | refine A_bld2 rfl rfl rfl ?_ | refine A_bld4 rfl rfl rfl rfl rfl ?_) <;> intro pz hpz)
 | refine A_bld0 rfl ?_
 | (refine A_app rfl rfl rfl (by first | omega | (simp; done) | (simp; omega)) (by first | omega | (simp; done) | (simp; omega)) (by omega) ?_; intro pz) | (refine A_appN (enc := ic) rfl (by decide) rfl rfl (by first | omega | (simp; done) | (simp; omega)) (by omega) ?_; intro pz)
 | refine A_ret0 rfl ?_)
  · rename_i hx _
    refine ⟨_, ⟨pz, n + 1, cs.take n ++ [r * C + c], rfl, ?_, by simp; omega, by rw [cluS, if_pos ⟨by assumption, by assumption⟩]; simp [h3], by omega⟩, ?_⟩
    · rw [List.take_of_length_le (by simp; omega), h1, cluS, if_pos ⟨by assumption, by assumption⟩]
    · rw [cluS, if_pos ⟨by assumption, by assumption⟩]; exact inferInstance
  · rename_i hx
    rw [cluS, if_neg (fun g => hc g.2)]
    exact ⟨_, ⟨p, n, cs, rfl, h1, h2, h3, by omega⟩, inferInstance⟩
  · rw [cluS, if_neg (fun g => hc g.1)]
    exact ⟨_, ⟨p, n, cs, rfl, h1, h2, h3, by omega⟩, inferInstance⟩
/-- All clusters that begin in the first 'n' cells. -/
def cluAll (R C : Nat) (xs : List Int) : Nat → List Int × Int
  | 0 => (List.replicate (R * C) 0, 0)
  | n + 1 => if xs.getD n 0 = 1 ∧ (cluAll R C xs n).1.getD n 0 = 0 then (spr R C xs ((cluAll R C xs n).2 + 1) (R * C + 1) ((cluAll R C xs n).1.set n ((cluAll R C xs n).2 + 1), [(n : Int)]), (cluAll R C xs n).2 + 1) else cluAll R C xs n
theorem CluOk.pop {R C m : Nat} {xs : List Int} {st : List Int × List Int} (h : CluOk R C xs st (m + 1)) (hne : st.2 ≠ []) : CluOk R C xs (st.1, st.2.dropLast) m := by
  have h0 : 0 < st.2.length := List.length_pos_iff.2 hne
  refine ⟨h.len, fun x hx => h.todo x (List.dropLast_subset _ hx), ?_⟩
  have := h.meas
  simp only [List.length_dropLast]; omega
theorem spr_len {R C : Nat} {xs : List Int} {num : Int} (hn : num ≠ 0) : ∀ (m : Nat) (st : List Int × List Int), CluOk R C xs st m → (spr R C xs num m st).length = R * C
  | 0, st, h => h.len
  | m + 1, st, h => by
    rw [spr]
    split
    · exact h.len
    · rename_i hne
      exact spr_len hn m _ (CluOk.fold hn _ _ (h.pop hne) nbs_in)
theorem cluAll_ok {R C : Nat} {xs : List Int} : ∀ n, n ≤ R * C → (cluAll R C xs n).1.length = R * C ∧ 0 ≤ (cluAll R C xs n).2 ∧ (cluAll R C xs n).2 ≤ n
  | 0, _ => by simp [cluAll]
  | n + 1, hn => by
    obtain ⟨h1, h2, h3⟩ := cluAll_ok (R := R) (C := C) (xs := xs) n (by omega)
    rw [cluAll]
    split
    · rename_i hc
      refine ⟨?_, by show 0 ≤ (cluAll R C xs n).2 + 1; omega, by show (cluAll R C xs n).2 + 1 ≤ _; push_cast; omega⟩
      have e : ((R * C : Nat) : Int) = (R : Int) * C := by push_cast; rfl
      refine spr_len (by omega) _ _ ⟨by simp [h1], fun x hx => ?_, ?_⟩
      · obtain rfl := List.mem_singleton.1 hx; omega
      · have := unm_set (xs := xs) (v := (cluAll R C xs n).2 + 1) (by omega) (by omega) hc (R * C)
        have := unm_le (xs := xs) (out := (cluAll R C xs n).1) (R * C)
        simp; omega
    · exact ⟨h1, h2, by omega⟩
/-- How a cluster begins. -/
theorem CluOk.start {R C n : Nat} {xs out : List Int} {num : Int} (hn : num ≠ 0) (hl : out.length = R * C) (h : n < R * C) (hc : xs.getD n 0 = 1 ∧ out.getD n 0 = 0) : CluOk R C xs (out.set n num, [(n : Int)]) (R * C + 1) := by
  have e : ((R * C : Nat) : Int) = (R : Int) * C := by push_cast; rfl
  refine ⟨by simp [hl], fun x hx => ?_, ?_⟩
  · obtain rfl := List.mem_singleton.1 hx; omega
  · have := unm_set (xs := xs) hn (by omega) hc (R * C)
    have := unm_le (xs := xs) (out := out) (R * C)
    simp; omega
theorem c_clusters {s : St} [Wf s] {R C : Nat} {id_xs off_xs len_xs : Nat} {xs : List Int} [h_xs : ArgE ic s id_xs off_xs xs] (hl_xs : xs.length = len_xs := by first | rfl | simp | omega | (simp; omega)) (hl : len_xs = R * C := by omega) (hb : R ≤ 24 ∧ C ≤ 24 := by omega) :
    Fn [] 71 [.agg [ic R, ic C, .sl id_xs off_xs len_xs], .bfn 72 [.agg [ic R, ic C, .sl id_xs off_xs len_xs]]] s fun V N => ∃ p, V = .tup [.c (.sl p 0 len_xs), .c (ic (cluAll R C xs len_xs).2)] ∧ N = [(p, ints (cluAll R C xs len_xs).1)] := by
  have hcc : R * C ≤ 576 := Nat.mul_le_mul hb.1 hb.2
  have e : ((R * C : Nat) : Int) = (R : Int) * C := by push_cast; rfl
  refine F_start code71 ?_
  repeat' (first
 | refine A_go rfl ?_ | refine A_ifT rfl rfl ?_ | refine A_ifF rfl rfl ?_
 | refine A_offP rfl rfl ?_ | refine A_offH rfl rfl ?_ | refine A_off0 rfl rfl ?_
 | refine A_add rfl rfl rfl (by omega) ?_ | refine A_sub rfl rfl rfl (by omega) ?_ | refine A_rem rfl rfl rfl (by omega) ?_ | refine A_remT rfl rfl rfl (by omega) ?_ | refine A_quo rfl rfl rfl (by omega) ?_
 | ((first | refine A_lt rfl rfl rfl ?_ ?_ | refine A_gt rfl rfl rfl ?_ ?_ | refine A_ne rfl rfl rfl ?_ ?_) <;> intro hc <;> try first | contradiction | (exfalso; omega) | exact absurd rfl hc)
 | refine A_idxN1 rfl rfl rfl (by omega) ?_ | refine A_idx1 rfl rfl rfl (by omega) ?_
 | refine A_fld rfl rfl ?_ | refine A_p (by rfl) rfl ?_
 | refine A_ldI rfl (by first | omega | (simp; done) | (simp; omega)) rfl ?_ | refine A_ldB rfl (by first | omega | (simp; done) | (simp; omega)) rfl ?_ | refine A_ld rfl (by rfl) rfl ?_
 | refine A_st rfl rfl rfl ?_ | refine A_stE rfl rfl (by first | omega | (simp; done) | (simp; omega)) rfl ?_
 | ((first | refine A_alloc rfl ?_ | refine A_box rfl rfl ?_ | refine A_boxC rfl rfl ?_ | refine A_makeN rfl rfl rfl (by omega) ?_ | refine A_make rfl rfl rfl (by omega) ?_ | refine A_bld1 rfl rfl ?_ | refine A_bld2 rfl rfl rfl ?_ | refine A_bld4 rfl rfl rfl rfl rfl ?_) <;> intro pz hpz)
 | refine A_bld0 rfl ?_
 | refine A_ret rfl (by exact (RP.t rfl (RP.t rfl RP.nil))) ?_)
  rename_i q _ po _ ob _
  obtain ⟨cb, hEq⟩ : ∃ p, p = pz := ⟨_, rfl⟩; subst hEq
  refine A_loop rfl [q, ob, cb, po] (fun m fr L => ∃ (i : Nat), m = len_xs - i ∧ fr = [(1, .bfn 72 [.agg [ic R, ic C, .sl id_xs off_xs len_xs]]), (2, .c (.ptr q 0)), (6, .c (.ptr ob 0)), (7, .c (.ptr cb 0)), (17, .c (.sl id_xs off_xs len_xs)), (18, iv len_xs), (19, iv i)] ∧ L = [(q, .rw 25 3 [ic R, ic C, .sl id_xs off_xs len_xs]), (ob, .rw 23 1 [.sl po 0 len_xs]), (cb, .rw 2 1 [ic (cluAll R C xs i).2]), (po, ints (cluAll R C xs i).1)] ∧ i ≤ len_xs) len_xs ⟨0, rfl, rfl, by subst hl; rfl, by omega⟩ ?_
  rintro m fr L ⟨i, rfl, rfl, rfl, hi⟩
  obtain ⟨o1, o2, o3⟩ := cluAll_ok (R := R) (C := C) (xs := xs) i (by omega)
  by_cases hi' : i < len_xs
  case neg =>
    obtain rfl : len_xs = i := by omega
    repeat' (first
 | refine A_go rfl ?_ | refine A_ifT rfl rfl ?_ | refine A_ifF rfl rfl ?_
 | refine A_offP rfl rfl ?_ | refine A_offH rfl rfl ?_ | refine A_off0 rfl rfl ?_
 | refine A_add rfl rfl rfl (by omega) ?_ | refine A_sub rfl rfl rfl (by omega) ?_ | refine A_rem rfl rfl rfl (by omega) ?_ | refine A_remT rfl rfl rfl (by omega) ?_ | refine A_quo rfl rfl rfl (by omega) ?_
 | ((first | refine A_lt rfl rfl rfl ?_ ?_ | refine A_gt rfl rfl rfl ?_ ?_ | refine A_ne rfl rfl rfl ?_ ?_) <;> intro hc <;> try first | contradiction | (exfalso; omega) | exact absurd rfl hc)
 | refine A_idxN1 rfl rfl rfl (by omega) ?_ | refine A_idx1 rfl rfl rfl (by omega) ?_
 | refine A_fld rfl rfl ?_ | refine A_p (by rfl) rfl ?_
 | refine A_ldI rfl (by first | omega | (simp; done) | (simp; omega)) rfl ?_ | refine A_ldB rfl (by first | omega | (simp; done) | (simp; omega)) rfl ?_ | refine A_ld rfl (by rfl) rfl ?_
 | refine A_st rfl rfl rfl ?_ | refine A_stE rfl rfl (by first | omega | (simp; done) | (simp; omega)) rfl ?_
 | ((first | refine A_alloc rfl ?_ | refine A_box rfl rfl ?_ | refine A_boxC rfl rfl ?_ | refine A_makeN rfl rfl rfl (by omega) ?_ | refine A_make rfl rfl rfl (by omega) ?_ | refine A_bld1 rfl rfl ?_ | refine A_bld2 rfl rfl rfl ?_ | refine A_bld4 rfl rfl rfl rfl rfl ?_) <;> intro pz hpz)
 | refine A_bld0 rfl ?_
 | refine A_ret rfl (by exact (RP.t rfl (RP.t rfl RP.nil))) ?_)
    exact R_s ⟨po, rfl, rfl⟩
  by_cases hc0 : xs.getD i 0 = 1 ∧ (cluAll R C xs i).1.getD i 0 = 0
  case neg =>
    have es : cluAll R C xs (i + 1) = cluAll R C xs i := by rw [cluAll, if_neg hc0]
    repeat' (first
 | refine A_go rfl ?_ | refine A_ifT rfl rfl ?_ | refine A_ifF rfl rfl ?_
 | refine A_offP rfl rfl ?_ | refine A_offH rfl rfl ?_ | refine A_off0 rfl rfl ?_
 | refine A_add rfl rfl rfl (by omega) ?_ | refine A_sub rfl rfl rfl (by omega) ?_ | refine A_rem rfl rfl rfl (by omega) ?_ | refine A_remT rfl rfl rfl (by omega) ?_ | refine A_quo rfl rfl rfl (by omega) ?_
 | ((first | refine A_lt rfl rfl rfl ?_ ?_ | refine A_gt rfl rfl rfl ?_ ?_ | refine A_ne rfl rfl rfl ?_ ?_) <;> intro hc <;> try first | contradiction | (exfalso; omega) | exact absurd rfl hc)
 | refine A_idxN1 rfl rfl rfl (by omega) ?_ | refine A_idx1 rfl rfl rfl (by omega) ?_
 | refine A_fld rfl rfl ?_ | refine A_p (by rfl) rfl ?_
 | refine A_ldI rfl (by first | omega | (simp; done) | (simp; omega)) rfl ?_ | refine A_ldB rfl (by first | omega | (simp; done) | (simp; omega)) rfl ?_ | refine A_ld rfl (by rfl) rfl ?_
 | refine A_st rfl rfl rfl ?_ | refine A_stE rfl rfl (by first | omega | (simp; done) | (simp; omega)) rfl ?_
 | ((first | refine A_alloc rfl ?_ | refine A_box rfl rfl ?_ | refine A_boxC rfl rfl ?_ | refine A_makeN rfl rfl rfl (by omega) ?_ | refine A_make rfl rfl rfl (by omega) ?_ | refine A_bld1 rfl rfl ?_ | refine A_bld2 rfl rfl rfl ?_ | refine A_bld4 rfl rfl rfl rfl rfl ?_) <;> intro pz hpz)
 | refine A_bld0 rfl ?_
 | refine A_ret rfl (by exact (RP.t rfl (RP.t rfl RP.nil))) ?_)
    all_goals first | exact absurd ⟨by assumption, by assumption⟩ hc0 | (refine A_round rfl [q, ob, cb, po] (len_xs - (i + 1)) (by omega) ?_; exact ⟨i + 1, rfl, rfl, by rw [es], by omega⟩)
  have es : cluAll R C xs (i + 1) = (spr R C xs ((cluAll R C xs i).2 + 1) (R * C + 1) ((cluAll R C xs i).1.set i ((cluAll R C xs i).2 + 1), [(i : Int)]), (cluAll R C xs i).2 + 1) := by rw [cluAll, if_pos hc0]
  have hst := CluOk.start (num := (cluAll R C xs i).2 + 1) (by omega) o1 (by omega) hc0
  have hc1 := hc0.1
  have hc2 := hc0.2
  generalize hnum : (cluAll R C xs i).2 + 1 = num at *
  have hnum0 : num ≠ 0 := by omega
  repeat' (first
 | refine A_go rfl ?_ | refine A_ifT rfl rfl ?_ | refine A_ifF rfl rfl ?_
 | refine A_offP rfl rfl ?_ | refine A_offH rfl rfl ?_ | refine A_off0 rfl rfl ?_
 | refine A_add rfl rfl rfl (by omega) ?_ | refine A_sub rfl rfl rfl (by omega) ?_ | refine A_rem rfl rfl rfl (by omega) ?_ | refine A_remT rfl rfl rfl (by omega) ?_ | refine A_quo rfl rfl rfl (by omega) ?_
 | ((first | refine A_lt rfl rfl rfl ?_ ?_ | refine A_gt rfl rfl rfl ?_ ?_ | refine A_ne rfl rfl rfl ?_ ?_) <;> intro hc <;> try first | contradiction | (exfalso; omega) | exact absurd rfl hc)
 | refine A_idxN1 rfl rfl rfl (by omega) ?_ | refine A_idx1 rfl rfl rfl (by omega) ?_
 | refine A_fld rfl rfl ?_ | refine A_p (by rfl) rfl ?_
 | refine A_ldI rfl (by first | omega | (simp; done) | (simp; omega)) rfl ?_ | refine A_ldB rfl (by first | omega | (simp; done) | (simp; omega)) rfl ?_ | refine A_ld rfl (by rfl) rfl ?_
 | refine A_st rfl rfl rfl ?_ | refine A_stE rfl rfl (by first | omega | (simp; done) | (simp; omega)) rfl ?_
 | ((first | refine A_alloc rfl ?_ | refine A_box rfl rfl ?_ | refine A_boxC rfl rfl ?_ | refine A_makeN rfl rfl rfl (by omega) ?_ | refine A_make rfl rfl rfl (by omega) ?_ | refine A_bld1 rfl rfl ?_ | refine A_bld2 rfl rfl rfl ?_ | refine A_bld4 rfl rfl rfl rfl rfl ?_) <;> intro pz hpz)
 | refine A_bld0 rfl ?_
 | refine A_ret rfl (by exact (RP.t rfl (RP.t rfl RP.nil))) ?_)
  rw [hnum]
  rename_i p0 _
  obtain ⟨tb, hEq⟩ : ∃ p, p = pz := ⟨_, rfl⟩; subst hEq
  refine A_loop rfl [tb, p0, po, q, ob, cb] (fun m fr L => ∃ (p n : Nat) (cs : List Int) (st : List Int × List Int), fr = [(1, .bfn 72 [.agg [ic R, ic C, .sl id_xs off_xs len_xs]]), (2, .c (.ptr q 0)), (6, .c (.ptr ob 0)), (7, .c (.ptr cb 0)), (10, .c (.ptr tb 0)), (17, .c (.sl id_xs off_xs len_xs)), (18, iv len_xs), (19, iv i)] ∧ L = [(tb, .rw 23 1 [.sl p 0 n]), (p, ints cs), (po, ints st.1), (q, .rw 25 3 [ic R, ic C, .sl id_xs off_xs len_xs]), (ob, .rw 23 1 [.sl po 0 len_xs]), (cb, .rw 2 1 [ic num])] ∧ cs.take n = st.2 ∧ n ≤ cs.length ∧ CluOk R C xs st m ∧ spr R C xs num m st = (cluAll R C xs (i + 1)).1 ∧ m ≤ 1000) (R * C + 1) ⟨p0, 1, [(i : Int)], ((cluAll R C xs i).1.set i num, [(i : Int)]), rfl, rfl, rfl, by simp, hst, by rw [es], by omega⟩ ?_
  rintro m fr L ⟨p, n, cs, st, rfl, rfl, h1, h2, hok, hsp, hm⟩
  have hmeas := hok.meas
  have hlen := hok.len
  have hn : st.2.length = n := by rw [← h1]; simp; omega
  by_cases hn0 : n = 0
  · subst hn0
    have : st.2 = [] := by rw [← h1]; rfl
    have hf : st.1 = (cluAll R C xs (i + 1)).1 := by
      rw [← hsp]; cases m with
      | zero => rfl
      | succ m => rw [spr, if_pos this]
    repeat' (first
 | refine A_go rfl ?_ | refine A_ifT rfl rfl ?_ | refine A_ifF rfl rfl ?_
 | refine A_offP rfl rfl ?_ | refine A_offH rfl rfl ?_ | refine A_off0 rfl rfl ?_
 | refine A_add rfl rfl rfl (by omega) ?_ | refine A_sub rfl rfl rfl (by omega) ?_ | refine A_rem rfl rfl rfl (by omega) ?_ | refine A_remT rfl rfl rfl (by omega) ?_ | refine A_quo rfl rfl rfl (by omega) ?_
 | ((first | refine A_lt rfl rfl rfl ?_ ?_ | refine A_gt rfl rfl rfl ?_ ?_ | refine A_ne rfl rfl rfl ?_ ?_) <;> intro hc <;> try first | contradiction | (exfalso; omega) | exact absurd rfl hc)
 | refine A_idxN1 rfl rfl rfl (by omega) ?_ | refine A_idx1 rfl rfl rfl (by omega) ?_
 | refine A_fld rfl rfl ?_ | refine A_p (by rfl) rfl ?_
 | refine A_ldI rfl (by first | omega | (simp; done) | (simp; omega)) rfl ?_ | refine A_ldB rfl (by first | omega | (simp; done) | (simp; omega)) rfl ?_ | refine A_ld rfl (by rfl) rfl ?_
 | refine A_st rfl rfl rfl ?_ | refine A_stE rfl rfl (by first | omega | (simp; done) | (simp; omega)) rfl ?_
 | ((first | refine A_alloc rfl ?_ | refine A_box rfl rfl ?_ | refine A_boxC rfl rfl ?_ | refine A_makeN rfl rfl rfl (by omega) ?_ | refine A_make rfl rfl rfl (by omega) ?_ | refine A_bld1 rfl rfl ?_ | refine A_bld2 rfl rfl rfl ?_ | refine A_bld4 rfl rfl rfl rfl rfl ?_) <;> intro pz hpz)
 | refine A_bld0 rfl ?_
 | refine A_ret rfl (by exact (RP.t rfl (RP.t rfl RP.nil))) ?_)
    refine A_round rfl [q, ob, cb, po] (len_xs - (i + 1)) (by omega) ?_
    exact ⟨i + 1, rfl, rfl, by rw [← hf, es], by omega⟩
  obtain ⟨m', rfl⟩ : ∃ m', m = m' + 1 := ⟨m - 1, by omega⟩
  obtain ⟨l1, l2, l3⟩ := last_take (d := (0 : Int)) h1 (by omega) h2
  have hx := hok.todo _ (by rw [← h1]; exact mem_take (d := 0) (show n - 1 < n by omega) (by omega))
  have hi1 : ((n : Int) - 1).toNat = n - 1 := by omega
  rw [← hi1] at l1 l2 hx
  generalize hj : ((n : Int) - 1).toNat = j at l1 l2 hx
  have hok' := CluOk.fold hnum0 (nbs R C (cs.getD j 0)) _ (hok.pop l3) nbs_in
  rw [l2] at hok'
  have hsp' : spr R C xs num m' ((nbs R C (cs.getD j 0)).foldl (cluS xs num) (st.1, cs.take j)) = (cluAll R C xs (i + 1)).1 := by
    rw [← hsp, spr, if_neg l3, l1, l2]
  have hC : 0 < C := by rcases Nat.eq_zero_or_pos C with e0 | e0; subst e0; simp at hx; omega; exact e0
  have hq := emod_in (a := cs.getD j 0) (b := C) (by omega)
  have hq2 : 0 ≤ cs.getD j 0 / (C : Int) ∧ cs.getD j 0 / (C : Int) < R := ⟨Int.ediv_nonneg hx.1 (by omega), Int.ediv_lt_of_lt_mul (by omega) hx.2⟩
  repeat' (first
 | refine A_go rfl ?_ | refine A_ifT rfl rfl ?_ | refine A_ifF rfl rfl ?_
 | refine A_offP rfl rfl ?_ | refine A_offH rfl rfl ?_ | refine A_off0 rfl rfl ?_
 | refine A_add rfl rfl rfl (by omega) ?_ | refine A_sub rfl rfl rfl (by omega) ?_ | refine A_rem rfl rfl rfl (by omega) ?_ | refine A_remT rfl rfl rfl (by omega) ?_ | refine A_quo rfl rfl rfl (by omega) ?_
 | ((first | refine A_lt rfl rfl rfl ?_ ?_ | refine A_gt rfl rfl rfl ?_ ?_ | refine A_ne rfl rfl rfl ?_ ?_) <;> intro hc <;> try first | contradiction | (exfalso; omega) | exact absurd rfl hc)
 | refine A_idxN1 rfl rfl rfl (by omega) ?_ | refine A_idx1 rfl rfl rfl (by omega) ?_
 | refine A_slTo rfl rfl rfl (by omega) ?_
 | simp only [hj]
 | refine A_fld rfl rfl ?_ | refine A_p (by rfl) rfl ?_
 | refine A_ldI rfl (by first | omega | (simp; done) | (simp; omega)) rfl ?_ | refine A_ldB rfl (by first | omega | (simp; done) | (simp; omega)) rfl ?_ | refine A_ld rfl (by rfl) rfl ?_
 | refine A_st rfl rfl rfl ?_ | refine A_stE rfl rfl (by first | omega | (simp; done) | (simp; omega)) rfl ?_
 | ((first | refine A_alloc rfl ?_ | refine A_box rfl rfl ?_ | refine A_boxC rfl rfl ?_ | refine A_makeN rfl rfl rfl (by omega) ?_ | refine A_make rfl rfl rfl (by omega) ?_ | refine A_bld1 rfl rfl ?_ | refine A_bld2 rfl rfl rfl ?_ | refine A_bld4 rfl rfl rfl rfl rfl ?_) <;> intro pz hpz)
 | refine A_bld0 rfl ?_
 | refine A_ret rfl (by exact (RP.t rfl (RP.t rfl RP.nil))) ?_)
  refine A_callM (C := [tb, p, po, q, ob, cb]) (P := fun _ N => CluN tb po q ob cb [ic R, ic C, .sl id_xs off_xs len_xs] len_xs num ((nbs R C (cs.getD j 0)).foldl (cluS xs num) (st.1, cs.take j)) N ∧ CluOk R C xs ((nbs R C (cs.getD j 0)).foldl (cluS xs num) (st.1, cs.take j)) m') rfl rfl (fun s' H => ?_) ?_
  · have n1 : NotIn id_xs [tb, p, po, q, ob, cb] := ⟨NotIn.cons (H.neB h_xs.lt) (NotIn.cons (H.neB h_xs.lt) (NotIn.cons (H.neB h_xs.lt) (NotIn.cons (H.neB h_xs.lt) (NotIn.cons (H.neB h_xs.lt) (NotIn.cons (H.neB h_xs.lt) NotIn.nil)))))⟩
    have H2 := ((inferInstance : Sub [(tb, .rw 23 1 [.sl p 0 j]), (p, ints cs), (po, ints st.1), (q, .rw 25 3 [ic R, ic C, .sl id_xs off_xs len_xs]), (ob, .rw 23 1 [.sl po 0 len_xs]), (cb, .rw 2 1 [ic num])] _).own _ _ _ H).self
    refine c_beside (ids := [tb, p, po, q, ob, cb]) H2 (cluS xs num) (fun st N => CluN tb po q ob cb [ic R, ic C, .sl id_xs off_xs len_xs] len_xs num st N ∧ CluOk R C xs st m') (st.1, cs.take j) ⟨⟨p, j, cs, rfl, rfl, by omega, show st.1.length = len_xs by omega, by omega⟩, by rw [← l2]; exact hok.pop l3⟩ (by omega) ?_
    rintro r c hin s1 M N st H1 ⟨⟨p, n, cs, rfl, h1, h2, h3, h4⟩, hok⟩ K
    have hxs : ArgE ic s' id_xs off_xs xs := inferInstance
    have n2 : NotIn id_xs [tb, p, po, q, ob, cb] := notInLent H1 hxs.lt n1.h
    have hm := cell_in hin.1 hin.2
    have hok2 := hok.meas
    have hok3 : st.2.length = n := by rw [← h1]; simp; omega
    exact (c_clu1 K hl_xs hl hb h1 h2 h3 (by omega) hin).mono fun r N' h => ⟨h, hok.step hnum0 (by omega)⟩
  · rintro r N ⟨⟨p', n', cs', rfl, g1, g2, g3, g4⟩, gok⟩
    repeat' (first
 | refine A_go rfl ?_ | refine A_ifT rfl rfl ?_ | refine A_ifF rfl rfl ?_
 | refine A_offP rfl rfl ?_ | refine A_offH rfl rfl ?_ | refine A_off0 rfl rfl ?_
 | refine A_add rfl rfl rfl (by omega) ?_ | refine A_sub rfl rfl rfl (by omega) ?_ | refine A_rem rfl rfl rfl (by omega) ?_ | refine A_remT rfl rfl rfl (by omega) ?_ | refine A_quo rfl rfl rfl (by omega) ?_
 | ((first | refine A_lt rfl rfl rfl ?_ ?_ | refine A_gt rfl rfl rfl ?_ ?_ | refine A_ne rfl rfl rfl ?_ ?_) <;> intro hc <;> try first | contradiction | (exfalso; omega) | exact absurd rfl hc)
 | refine A_idxN1 rfl rfl rfl (by omega) ?_ | refine A_idx1 rfl rfl rfl (by omega) ?_
 | refine A_fld rfl rfl ?_ | refine A_p (by rfl) rfl ?_
 | refine A_ldI rfl (by first | omega | (simp; done) | (simp; omega)) rfl ?_ | refine A_ldB rfl (by first | omega | (simp; done) | (simp; omega)) rfl ?_ | refine A_ld rfl (by rfl) rfl ?_
 | refine A_st rfl rfl rfl ?_ | refine A_stE rfl rfl (by first | omega | (simp; done) | (simp; omega)) rfl ?_
 | ((first | refine A_alloc rfl ?_ | refine A_box rfl rfl ?_ | refine A_boxC rfl rfl ?_ | refine A_makeN rfl rfl rfl (by omega) ?_ | refine A_make rfl rfl rfl (by omega) ?_ | refine A_bld1 rfl rfl ?_ | refine A_bld2 rfl rfl rfl ?_ | refine A_bld4 rfl rfl rfl rfl rfl ?_) <;> intro pz hpz)
 | refine A_bld0 rfl ?_
 | refine A_ret rfl (by exact (RP.t rfl (RP.t rfl RP.nil))) ?_)
    refine A_round rfl [tb, p', po, q, ob, cb] m' (by omega) ?_
    exact ⟨p', n', cs', _, rfl, rfl, g1, g2, gok, hsp', by omega⟩
theorem c_implClustersOf {s : St} [Wf s] {r c : Int} {id_xs off_xs len_xs : Nat} {xs : List Int} [h_xs : ArgE ic s id_xs off_xs xs] (hl_xs : xs.length = len_xs := by first | rfl | simp | omega | (simp; omega)) (hb : len_xs ≤ 2000000 := by omega) :
    Fn [] 32 [.agg [ic r, ic c, .sl id_xs off_xs len_xs]] s (IntsNum (VF r c xs) (cluAll r.toNat c.toNat xs xs.length).1 (cluAll r.toNat c.toNat xs xs.length).2) := by
  refine F_start code32 ?_
  by_cases hv : VF r c xs
  case neg =>
    repeat' (first
 | refine A_go rfl ?_ | refine A_ifT rfl rfl ?_ | refine A_ifF rfl rfl ?_
 | (refine A_callB rfl rfl (fun s H => c_implValidField) ?_ ?_ <;> intro hc <;> try first | contradiction | (exfalso; omega) | exact absurd rfl hc | exact absurd (And.intro rfl rfl) hc | exact absurd (And.intro rfl (And.intro rfl rfl)) hc | exact absurd (Eq.trans (by assumption) (Eq.symm (by assumption))) hc)
 | refine A_p (by rfl) rfl ?_
 | refine A_ldW rfl (by simp) rfl ?_
 | ((first | refine A_box rfl rfl ?_ | refine A_boxC rfl rfl ?_) <;> intro pz hpz)
 | refine A_ret rfl (by exact (RP.t rfl (RP.t rfl (RP.t rfl RP.nil)))) ?_)
    exact R_intsNumN hv
  obtain ⟨R, C, rfl, rfl, h1, h2, h3, h4⟩ := hv.nat
  have ho := (cluAll_ok (R := R) (C := C) (xs := xs) len_xs (by omega)).1
  repeat' (first
 | refine A_go rfl ?_ | refine A_ifT rfl rfl ?_ | refine A_ifF rfl rfl ?_
 | (refine A_callB rfl rfl (fun s H => c_implValidField) ?_ ?_ <;> intro hc <;> try first | contradiction | (exfalso; omega) | exact absurd rfl hc | exact absurd (And.intro rfl rfl) hc | exact absurd (And.intro rfl (And.intro rfl rfl)) hc | exact absurd (Eq.trans (by assumption) (Eq.symm (by assumption))) hc)
 | (refine A_callM rfl rfl (fun s H => c_clusters) ?_; rintro _ _ ⟨pz, rfl, rfl⟩) | (refine A_callM0 rfl rfl (fun s H => c_clusters) ?_; rintro _ _ ⟨pz, rfl, rfl⟩)
 | refine A_p (by rfl) rfl ?_
 | refine A_ldW rfl (by simp) rfl ?_
 | ((first | refine A_box rfl rfl ?_ | refine A_boxC rfl rfl ?_) <;> intro pz hpz)
 | refine A_ret rfl (by exact (RP.t rfl (RP.t rfl (RP.t rfl RP.nil)))) ?_)
  simp only [Int.toNat_natCast, hl_xs]
  exact R_intsNum hv rfl (by omega) (by omega)
theorem c_l04Spread {s : St} [Wf s] {q po R C n0 : Nat} {num : Int} {id_xs off_xs len_xs : Nat} {xs out : List Int} [hq : Ref s q [ic R, ic C, .sl id_xs off_xs len_xs]] [h_xs : ArgE ic s id_xs off_xs xs] [ho : Bor s po (ints out)] [k1 : NotIn q [po]] [k2 : NotIn id_xs [po]] (hl_xs : xs.length = len_xs) (hl : len_xs = R * C) (hb : R ≤ 24 ∧ C ≤ 24) (hlo : out.length = len_xs) (hn0 : n0 < len_xs) (hc : xs.getD n0 0 = 1 ∧ out.getD n0 0 = 0) (hnum : num ≠ 0) :
    Fn [po] 95 [.c (.ptr q 0), .c (.sl po 0 len_xs), iv n0, iv num] s fun _ N => N = [(po, ints (spr R C xs num (R * C + 1) (out.set n0 num, [(n0 : Int)])))] := by
  have hcc : R * C ≤ 576 := Nat.mul_le_mul hb.1 hb.2
  have e : ((R * C : Nat) : Int) = (R : Int) * C := by push_cast; rfl
  have hst := CluOk.start (C := C) (R := R) (num := num) hnum (by omega) (by omega) hc
  refine F_start1 code95 ?_
  repeat' (first
 | refine A_go rfl ?_ | refine A_ifT rfl rfl ?_ | refine A_ifF rfl rfl ?_
 | refine A_offP rfl rfl ?_ | refine A_offH rfl rfl ?_ | refine A_off0 rfl rfl ?_
 | refine A_add rfl rfl rfl (by omega) ?_ | refine A_sub rfl rfl rfl (by omega) ?_
 | ((first | refine A_lt rfl rfl rfl ?_ ?_ | refine A_gt rfl rfl rfl ?_ ?_ | refine A_eq rfl rfl rfl ?_ ?_) <;> intro hc <;> try first | contradiction | (exfalso; omega) | exact absurd rfl hc)
 | refine A_idxN1 rfl rfl rfl (by omega) ?_ | refine A_idx1 rfl rfl rfl (by omega) ?_
 | refine A_fld rfl rfl ?_ | refine A_p (by rfl) rfl ?_
 | refine A_ldI rfl (by first | omega | (simp; done) | (simp; omega)) rfl ?_ | refine A_ldB rfl (by first | omega | (simp; done) | (simp; omega)) rfl ?_ | refine A_ld rfl (by rfl) rfl ?_
 | refine A_st rfl rfl rfl ?_ | refine A_stE rfl rfl (by first | omega | (simp; done) | (simp; omega)) rfl ?_
 | ((first | refine A_bld1 rfl rfl ?_ | refine A_bld2 rfl rfl rfl ?_ | refine A_bld4 rfl rfl rfl rfl rfl ?_) <;> intro pz hpz)
 | refine A_bld0 rfl ?_
 | (refine A_app rfl rfl rfl (by first | omega | (simp; done) | (simp; omega)) (by first | omega | (simp; done) | (simp; omega)) (by omega) ?_; intro pz) | (refine A_appN (enc := ic) rfl (by decide) rfl rfl (by first | omega | (simp; done) | (simp; omega)) (by omega) ?_; intro pz)
 | refine A_ret0 rfl ?_)
  refine A_loop rfl [po, pz] (fun m fr L => ∃ (p n : Nat) (cs : List Int) (st : List Int × List Int), fr = [(0, .c (.ptr q 0)), (1, .c (.sl po 0 len_xs)), (3, iv num), (8, .c (.sl p 0 n))] ∧ L = [(po, ints st.1), (p, ints cs)] ∧ cs.take n = st.2 ∧ n ≤ cs.length ∧ CluOk R C xs st m ∧ spr R C xs num m st = spr R C xs num (R * C + 1) (out.set n0 num, [(n0 : Int)]) ∧ m ≤ 1000) (R * C + 1) ⟨pz, 1, [(n0 : Int)], (out.set n0 num, [(n0 : Int)]), rfl, rfl, rfl, by simp, hst, rfl, by omega⟩ ?_
  rintro m fr L ⟨p, n, cs, st, rfl, rfl, h1, h2, hok, hsp, hm⟩
  have hmeas := hok.meas
  have hlen := hok.len
  have hn : st.2.length = n := by rw [← h1]; simp; omega
  by_cases hn0 : n = 0
  · subst hn0
    have : st.2 = [] := by rw [← h1]; rfl
    have hf : st.1 = spr R C xs num (R * C + 1) (out.set n0 num, [(n0 : Int)]) := by
      rw [← hsp]; cases m with
      | zero => rfl
      | succ m => rw [spr, if_pos this]
    repeat' (first
 | refine A_go rfl ?_ | refine A_ifT rfl rfl ?_ | refine A_ifF rfl rfl ?_
 | refine A_offP rfl rfl ?_ | refine A_offH rfl rfl ?_ | refine A_off0 rfl rfl ?_
 | refine A_add rfl rfl rfl (by omega) ?_ | refine A_sub rfl rfl rfl (by omega) ?_
 | ((first | refine A_lt rfl rfl rfl ?_ ?_ | refine A_gt rfl rfl rfl ?_ ?_ | refine A_eq rfl rfl rfl ?_ ?_) <;> intro hc <;> try first | contradiction | (exfalso; omega) | exact absurd rfl hc)
 | refine A_idxN1 rfl rfl rfl (by omega) ?_ | refine A_idx1 rfl rfl rfl (by omega) ?_
 | refine A_fld rfl rfl ?_ | refine A_p (by rfl) rfl ?_
 | refine A_ldI rfl (by first | omega | (simp; done) | (simp; omega)) rfl ?_ | refine A_ldB rfl (by first | omega | (simp; done) | (simp; omega)) rfl ?_ | refine A_ld rfl (by rfl) rfl ?_
 | refine A_st rfl rfl rfl ?_ | refine A_stE rfl rfl (by first | omega | (simp; done) | (simp; omega)) rfl ?_
 | ((first | refine A_bld1 rfl rfl ?_ | refine A_bld2 rfl rfl rfl ?_ | refine A_bld4 rfl rfl rfl rfl rfl ?_) <;> intro pz hpz)
 | refine A_bld0 rfl ?_
 | (refine A_app rfl rfl rfl (by first | omega | (simp; done) | (simp; omega)) (by first | omega | (simp; done) | (simp; omega)) (by omega) ?_; intro pz) | (refine A_appN (enc := ic) rfl (by decide) rfl rfl (by first | omega | (simp; done) | (simp; omega)) (by omega) ?_; intro pz)
 | refine A_ret0 rfl ?_)
    rw [← hf]
    exact R_s rfl
  obtain ⟨m', rfl⟩ : ∃ m', m = m' + 1 := ⟨m - 1, by omega⟩
  obtain ⟨l1, l2, l3⟩ := last_take (d := (0 : Int)) h1 (by omega) h2
  have hx := hok.todo _ (by rw [← h1]; exact mem_take (d := 0) (show n - 1 < n by omega) (by omega))
  have hi1 : ((n : Int) - 1).toNat = n - 1 := by omega
  rw [← hi1] at l1 l2 hx
  generalize hj : ((n : Int) - 1).toNat = j at l1 l2 hx
  have hok0 := hok.pop l3
  rw [l2] at hok0
  have hsp' : spr R C xs num m' ((nbs R C (cs.getD j 0)).foldl (cluS xs num) (st.1, cs.take j)) = spr R C xs num (R * C + 1) (out.set n0 num, [(n0 : Int)]) := by
    rw [← hsp, spr, if_neg l3, l1, l2]
  have hC : 0 < C := by rcases Nat.eq_zero_or_pos C with e0 | e0; subst e0; simp at hx; omega; exact e0
  have hq := emod_in (a := cs.getD j 0) (b := C) (by omega)
  have hq2 : 0 ≤ cs.getD j 0 / (C : Int) ∧ cs.getD j 0 / (C : Int) < R := ⟨Int.ediv_nonneg hx.1 (by omega), Int.ediv_lt_of_lt_mul (by omega) hx.2⟩
  have hq3 : cs.getD j 0 = cs.getD j 0 / (C : Int) * C + cs.getD j 0 % (C : Int) := by rw [Int.mul_comm]; exact (Int.mul_ediv_add_emod _ _).symm
  obtain ⟨vd, hvd⟩ : ∃ v, cs.getD j 0 / (C : Int) = v := ⟨_, rfl⟩
  obtain ⟨vm, hvm⟩ : ∃ v, cs.getD j 0 % (C : Int) = v := ⟨_, rfl⟩
  rw [hvd] at hq2 hq3
  rw [hvm] at hq hq3
  have hnbs : nbs R C (cs.getD j 0) = nbl R C vd vm 4 := by rw [nbs, hvd, hvm]
  rw [hnbs] at hsp'
  have hnb := nbl_in (R := R) (C := C) (i := vd) (k := vm) 4
  have hnl := nbl_len (R := R) (C := C) (i := vd) (k := vm) 4
  repeat' (first
 | refine A_go rfl ?_ | refine A_ifT rfl rfl ?_ | refine A_ifF rfl rfl ?_
 | refine A_offP rfl rfl ?_ | refine A_offH rfl rfl ?_ | refine A_off0 rfl rfl ?_
 | refine A_add rfl rfl rfl (by omega) ?_ | refine A_sub rfl rfl rfl (by omega) ?_
 | ((first | refine A_lt rfl rfl rfl ?_ ?_ | refine A_gt rfl rfl rfl ?_ ?_ | refine A_eq rfl rfl rfl ?_ ?_) <;> intro hc <;> try first | contradiction | (exfalso; omega) | exact absurd rfl hc)
 | refine A_idxN1 rfl rfl rfl (by omega) ?_ | refine A_idx1 rfl rfl rfl (by omega) ?_
 | refine A_slTo rfl rfl rfl (by omega) ?_
 | simp only [hj]
 | (refine A_callM rfl rfl (fun s H => c_l04Beside (i := vd) (k := vm) hq2 hq hq3 (by omega)) ?_; rintro _ _ ⟨pz, rfl, rfl⟩) | (refine A_callM0 rfl rfl (fun s H => c_l04Beside (i := vd) (k := vm) hq2 hq hq3 (by omega)) ?_; rintro _ _ ⟨pz, rfl, rfl⟩)
 | refine A_fld rfl rfl ?_ | refine A_p (by rfl) rfl ?_
 | refine A_ldI rfl (by first | omega | (simp; done) | (simp; omega)) rfl ?_ | refine A_ldB rfl (by first | omega | (simp; done) | (simp; omega)) rfl ?_ | refine A_ld rfl (by rfl) rfl ?_
 | refine A_st rfl rfl rfl ?_ | refine A_stE rfl rfl (by first | omega | (simp; done) | (simp; omega)) rfl ?_
 | ((first | refine A_bld1 rfl rfl ?_ | refine A_bld2 rfl rfl rfl ?_ | refine A_bld4 rfl rfl rfl rfl rfl ?_) <;> intro pz hpz)
 | refine A_bld0 rfl ?_
 | (refine A_app rfl rfl rfl (by first | omega | (simp; done) | (simp; omega)) (by first | omega | (simp; done) | (simp; omega)) (by omega) ?_; intro pz) | (refine A_appN (enc := ic) rfl (by decide) rfl rfl (by first | omega | (simp; done) | (simp; omega)) (by omega) ?_; intro pz)
 | refine A_ret0 rfl ?_)
  generalize hnbe : nbl R C vd vm 4 = nb at *
  obtain ⟨pb, hEq⟩ : ∃ p, p = pz := ⟨_, rfl⟩; subst hEq
  obtain ⟨cs0, hcs0⟩ : ∃ c, c = cs := ⟨_, rfl⟩
  refine A_loop rfl [po, p, pb] (fun m fr L => ∃ (e p n : Nat) (cs : List Int) (st2 : List Int × List Int), m = nb.length - e ∧ fr = [(0, .c (.ptr q 0)), (1, .c (.sl po 0 len_xs)), (3, iv num), (8, .c (.sl p 0 n)), (10, .c (.sl pb 0 nb.length)), (11, iv e)] ∧ L = [(po, ints st2.1), (p, ints cs), (pb, ints nb)] ∧ e ≤ nb.length ∧ cs.take n = st2.2 ∧ n ≤ cs.length ∧ CluOk R C xs st2 m' ∧ st2 = (nb.take e).foldl (cluS xs num) (st.1, cs0.take j)) nb.length ⟨0, p, j, cs, (st.1, cs.take j), rfl, rfl, rfl, by omega, rfl, by omega, hok0, by rw [hcs0]; rfl⟩ ?_
  rw [← hcs0] at hsp'
  rintro m fr L ⟨e, p, n, cs, st2, rfl, rfl, rfl, he, g1, g2, gok, gst⟩
  have hmeas2 := gok.meas
  have hlen2 := gok.len
  have hn2 : st2.2.length = n := by rw [← g1]; simp; omega
  by_cases he' : e < nb.length
  · have hx2 := hnb _ (getD_mem (d := 0) he')
    have hf : (nb.take (e + 1)).foldl (cluS xs num) (st.1, cs0.take j) = cluS xs num st2 (nb.getD e 0) := by
      rw [List.take_add_one, getD_some 0 he', List.foldl_append, gst]; rfl
    have gok' := gok.step hnum hx2
    repeat' (first
 | refine A_go rfl ?_ | refine A_ifT rfl rfl ?_ | refine A_ifF rfl rfl ?_
 | refine A_offP rfl rfl ?_ | refine A_offH rfl rfl ?_ | refine A_off0 rfl rfl ?_
 | refine A_add rfl rfl rfl (by omega) ?_ | refine A_sub rfl rfl rfl (by omega) ?_
 | ((first | refine A_lt rfl rfl rfl ?_ ?_ | refine A_gt rfl rfl rfl ?_ ?_ | refine A_eq rfl rfl rfl ?_ ?_) <;> intro hc <;> try first | contradiction | (exfalso; omega) | exact absurd rfl hc)
 | refine A_idxN1 rfl rfl rfl (by omega) ?_ | refine A_idx1 rfl rfl rfl (by omega) ?_
 | (refine A_appT rfl rfl rfl (by omega) (by simp) (by omega) ?_ <;> intro pz)
 | refine A_fld rfl rfl ?_ | refine A_p (by rfl) rfl ?_
 | refine A_ldI rfl (by first | omega | (simp; done) | (simp; omega)) rfl ?_ | refine A_ldB rfl (by first | omega | (simp; done) | (simp; omega)) rfl ?_ | refine A_ld rfl (by rfl) rfl ?_
 | refine A_st rfl rfl rfl ?_ | refine A_stE rfl rfl (by first | omega | (simp; done) | (simp; omega)) rfl ?_
 | ((first | refine A_bld1 rfl rfl ?_ | refine A_bld2 rfl rfl rfl ?_ | refine A_bld4 rfl rfl rfl rfl rfl ?_) <;> intro pz hpz)
 | refine A_bld0 rfl ?_
 | (refine A_app rfl rfl rfl (by first | omega | (simp; done) | (simp; omega)) (by first | omega | (simp; done) | (simp; omega)) (by omega) ?_; intro pz) | (refine A_appN (enc := ic) rfl (by decide) rfl rfl (by first | omega | (simp; done) | (simp; omega)) (by omega) ?_; intro pz)
 | refine A_ret0 rfl ?_)
    · rw [cluS, if_pos ⟨by assumption, by assumption⟩] at gok' hf
      refine A_round rfl [po, pz, pb] (nb.length - (e + 1)) (by omega) ?_
      exact ⟨e + 1, pz, n + 1, _, _, rfl, rfl, rfl, by omega, by rw [List.take_of_length_le (by simp; omega), g1], by simp; omega, gok', hf.symm⟩
    · rw [cluS, if_neg (fun g => hc g.2)] at gok' hf
      refine A_round rfl [po, p, pb] (nb.length - (e + 1)) (by omega) ?_
      exact ⟨e + 1, p, n, cs, st2, rfl, rfl, rfl, by omega, g1, g2, gok, hf.symm⟩
    · rw [cluS, if_neg (fun g => hc g.1)] at gok' hf
      refine A_round rfl [po, p, pb] (nb.length - (e + 1)) (by omega) ?_
      exact ⟨e + 1, p, n, cs, st2, rfl, rfl, rfl, by omega, g1, g2, gok, hf.symm⟩
  · have htk : nb.take e = nb := List.take_of_length_le (by omega)
    rw [htk] at gst
    repeat' (first
 | refine A_go rfl ?_ | refine A_ifT rfl rfl ?_ | refine A_ifF rfl rfl ?_
 | refine A_offP rfl rfl ?_ | refine A_offH rfl rfl ?_ | refine A_off0 rfl rfl ?_
 | refine A_add rfl rfl rfl (by omega) ?_ | refine A_sub rfl rfl rfl (by omega) ?_
 | ((first | refine A_lt rfl rfl rfl ?_ ?_ | refine A_gt rfl rfl rfl ?_ ?_ | refine A_eq rfl rfl rfl ?_ ?_) <;> intro hc <;> try first | contradiction | (exfalso; omega) | exact absurd rfl hc)
 | refine A_idxN1 rfl rfl rfl (by omega) ?_ | refine A_idx1 rfl rfl rfl (by omega) ?_
 | refine A_fld rfl rfl ?_ | refine A_p (by rfl) rfl ?_
 | refine A_ldI rfl (by first | omega | (simp; done) | (simp; omega)) rfl ?_ | refine A_ldB rfl (by first | omega | (simp; done) | (simp; omega)) rfl ?_ | refine A_ld rfl (by rfl) rfl ?_
 | refine A_st rfl rfl rfl ?_ | refine A_stE rfl rfl (by first | omega | (simp; done) | (simp; omega)) rfl ?_
 | ((first | refine A_bld1 rfl rfl ?_ | refine A_bld2 rfl rfl rfl ?_ | refine A_bld4 rfl rfl rfl rfl rfl ?_) <;> intro pz hpz)
 | refine A_bld0 rfl ?_
 | (refine A_app rfl rfl rfl (by first | omega | (simp; done) | (simp; omega)) (by first | omega | (simp; done) | (simp; omega)) (by omega) ?_; intro pz) | (refine A_appN (enc := ic) rfl (by decide) rfl rfl (by first | omega | (simp; done) | (simp; omega)) (by omega) ?_; intro pz)
 | refine A_ret0 rfl ?_)
    refine A_round rfl [po, p] m' (by omega) ?_
    exact ⟨p, n, cs, st2, rfl, rfl, g1, g2, gok, by rw [gst]; exact hsp', by omega⟩
theorem c_l04Clusters {s : St} [Wf s] {q R C : Nat} {id_xs off_xs len_xs : Nat} {xs : List Int} [hq : Ref s q [ic R, ic C, .sl id_xs off_xs len_xs]] [h_xs : ArgE ic s id_xs off_xs xs] (hl_xs : xs.length = len_xs := by first | rfl | simp | omega) (hl : len_xs = R * C := by omega) (hb : R ≤ 24 ∧ C ≤ 24 := by omega) :
    Fn [] 78 [.c (.ptr q 0)] s fun V N => ∃ p, V = .tup [.c (.sl p 0 len_xs), .c (ic (cluAll R C xs len_xs).2)] ∧ N = [(p, ints (cluAll R C xs len_xs).1)] := by
  have hcc : R * C ≤ 576 := Nat.mul_le_mul hb.1 hb.2
  refine F_start code78 ?_
  repeat' (first
 | refine A_go rfl ?_ | refine A_ifT rfl rfl ?_ | refine A_ifF rfl rfl ?_
 | refine A_offP rfl rfl ?_ | refine A_offH rfl rfl ?_ | refine A_off0 rfl rfl ?_
 | refine A_add rfl rfl rfl (by omega) ?_
 | ((first | refine A_lt rfl rfl rfl ?_ ?_ | refine A_eq rfl rfl rfl ?_ ?_) <;> intro hc <;> try first | contradiction | (exfalso; omega) | exact absurd rfl hc)
 | refine A_idxN1 rfl rfl rfl (by omega) ?_ | refine A_idx1 rfl rfl rfl (by omega) ?_
 | refine A_fld rfl rfl ?_ | refine A_p (by rfl) rfl ?_
 | refine A_ldI rfl (by first | omega | (simp; done) | (simp; omega)) rfl ?_ | refine A_ldB rfl (by first | omega | (simp; done) | (simp; omega)) rfl ?_ | refine A_ld rfl (by rfl) rfl ?_
 | ((first | refine A_makeN rfl rfl rfl (by omega) ?_ | refine A_make rfl rfl rfl (by omega) ?_) <;> intro pz hpz)
 | refine A_ret rfl (by exact (RP.t rfl (RP.t rfl RP.nil))) ?_)
  refine A_loop rfl [pz] (fun m fr L => ∃ (i : Nat), m = len_xs - i ∧ fr = [(0, .c (.ptr q 0)), (4, .c (.sl pz 0 len_xs)), (5, iv (cluAll R C xs i).2), (6, iv i)] ∧ L = [(pz, ints (cluAll R C xs i).1)] ∧ i ≤ len_xs) len_xs ⟨0, rfl, rfl, by subst hl; rfl, by omega⟩ ?_
  rintro m fr L ⟨i, rfl, rfl, rfl, hi⟩
  obtain ⟨o1, o2, o3⟩ := cluAll_ok (R := R) (C := C) (xs := xs) i (by omega)
  by_cases hi' : i < len_xs
  case neg =>
    obtain rfl : len_xs = i := by omega
    repeat' (first
 | refine A_go rfl ?_ | refine A_ifT rfl rfl ?_ | refine A_ifF rfl rfl ?_
 | refine A_offP rfl rfl ?_ | refine A_offH rfl rfl ?_ | refine A_off0 rfl rfl ?_
 | refine A_add rfl rfl rfl (by omega) ?_
 | ((first | refine A_lt rfl rfl rfl ?_ ?_ | refine A_eq rfl rfl rfl ?_ ?_) <;> intro hc <;> try first | contradiction | (exfalso; omega) | exact absurd rfl hc)
 | refine A_idxN1 rfl rfl rfl (by omega) ?_ | refine A_idx1 rfl rfl rfl (by omega) ?_
 | refine A_fld rfl rfl ?_ | refine A_p (by rfl) rfl ?_
 | refine A_ldI rfl (by first | omega | (simp; done) | (simp; omega)) rfl ?_ | refine A_ldB rfl (by first | omega | (simp; done) | (simp; omega)) rfl ?_ | refine A_ld rfl (by rfl) rfl ?_
 | ((first | refine A_makeN rfl rfl rfl (by omega) ?_ | refine A_make rfl rfl rfl (by omega) ?_) <;> intro pz hpz)
 | refine A_ret rfl (by exact (RP.t rfl (RP.t rfl RP.nil))) ?_)
    exact R_s ⟨pz, rfl, rfl⟩
  by_cases hc0 : xs.getD i 0 = 1 ∧ (cluAll R C xs i).1.getD i 0 = 0
  case neg =>
    have es : cluAll R C xs (i + 1) = cluAll R C xs i := by rw [cluAll, if_neg hc0]
    repeat' (first
 | refine A_go rfl ?_ | refine A_ifT rfl rfl ?_ | refine A_ifF rfl rfl ?_
 | refine A_offP rfl rfl ?_ | refine A_offH rfl rfl ?_ | refine A_off0 rfl rfl ?_
 | refine A_add rfl rfl rfl (by omega) ?_
 | ((first | refine A_lt rfl rfl rfl ?_ ?_ | refine A_eq rfl rfl rfl ?_ ?_) <;> intro hc <;> try first | contradiction | (exfalso; omega) | exact absurd rfl hc)
 | refine A_idxN1 rfl rfl rfl (by omega) ?_ | refine A_idx1 rfl rfl rfl (by omega) ?_
 | refine A_fld rfl rfl ?_ | refine A_p (by rfl) rfl ?_
 | refine A_ldI rfl (by first | omega | (simp; done) | (simp; omega)) rfl ?_ | refine A_ldB rfl (by first | omega | (simp; done) | (simp; omega)) rfl ?_ | refine A_ld rfl (by rfl) rfl ?_
 | ((first | refine A_makeN rfl rfl rfl (by omega) ?_ | refine A_make rfl rfl rfl (by omega) ?_) <;> intro pz hpz)
 | refine A_ret rfl (by exact (RP.t rfl (RP.t rfl RP.nil))) ?_)
    all_goals first | exact absurd ⟨by assumption, by assumption⟩ hc0 | (refine A_round rfl [pz] (len_xs - (i + 1)) (by omega) ?_; exact ⟨i + 1, rfl, by rw [es]; rfl, by rw [es], by omega⟩)
  have es : cluAll R C xs (i + 1) = (spr R C xs ((cluAll R C xs i).2 + 1) (R * C + 1) ((cluAll R C xs i).1.set i ((cluAll R C xs i).2 + 1), [(i : Int)]), (cluAll R C xs i).2 + 1) := by rw [cluAll, if_pos hc0]
  have hc1 := hc0.1
  have hc2 := hc0.2
  repeat' (first
 | refine A_go rfl ?_ | refine A_ifT rfl rfl ?_ | refine A_ifF rfl rfl ?_
 | refine A_offP rfl rfl ?_ | refine A_offH rfl rfl ?_ | refine A_off0 rfl rfl ?_
 | refine A_add rfl rfl rfl (by omega) ?_
 | ((first | refine A_lt rfl rfl rfl ?_ ?_ | refine A_eq rfl rfl rfl ?_ ?_) <;> intro hc <;> try first | contradiction | (exfalso; omega) | exact absurd rfl hc)
 | refine A_idxN1 rfl rfl rfl (by omega) ?_ | refine A_idx1 rfl rfl rfl (by omega) ?_
 | refine A_fld rfl rfl ?_ | refine A_p (by rfl) rfl ?_
 | refine A_ldI rfl (by first | omega | (simp; done) | (simp; omega)) rfl ?_ | refine A_ldB rfl (by first | omega | (simp; done) | (simp; omega)) rfl ?_ | refine A_ld rfl (by rfl) rfl ?_
 | ((first | refine A_makeN rfl rfl rfl (by omega) ?_ | refine A_make rfl rfl rfl (by omega) ?_) <;> intro pz hpz)
 | refine A_ret rfl (by exact (RP.t rfl (RP.t rfl RP.nil))) ?_)
  refine A_callM (C := [pz]) (P := fun _ N => N = [(pz, ints (cluAll R C xs (i + 1)).1)]) rfl rfl (fun s' H => ?_) ?_
  · have n1 : NotIn q [pz] := ⟨NotIn.cons (H.neB hq.lt) NotIn.nil⟩
    have n2 : NotIn id_xs [pz] := ⟨NotIn.cons (H.neB h_xs.lt) NotIn.nil⟩
    rw [es]
    exact c_l04Spread hl_xs hl hb (by omega) hi' hc0 (by omega)
  · rintro r N rfl
    repeat' (first
 | refine A_go rfl ?_ | refine A_ifT rfl rfl ?_ | refine A_ifF rfl rfl ?_
 | refine A_offP rfl rfl ?_ | refine A_offH rfl rfl ?_ | refine A_off0 rfl rfl ?_
 | refine A_add rfl rfl rfl (by omega) ?_
 | ((first | refine A_lt rfl rfl rfl ?_ ?_ | refine A_eq rfl rfl rfl ?_ ?_) <;> intro hc <;> try first | contradiction | (exfalso; omega) | exact absurd rfl hc)
 | refine A_idxN1 rfl rfl rfl (by omega) ?_ | refine A_idx1 rfl rfl rfl (by omega) ?_
 | refine A_fld rfl rfl ?_ | refine A_p (by rfl) rfl ?_
 | refine A_ldI rfl (by first | omega | (simp; done) | (simp; omega)) rfl ?_ | refine A_ldB rfl (by first | omega | (simp; done) | (simp; omega)) rfl ?_ | refine A_ld rfl (by rfl) rfl ?_
 | ((first | refine A_makeN rfl rfl rfl (by omega) ?_ | refine A_make rfl rfl rfl (by omega) ?_) <;> intro pz hpz)
 | refine A_ret rfl (by exact (RP.t rfl (RP.t rfl RP.nil))) ?_)
    refine A_round rfl [pz] (len_xs - (i + 1)) (by omega) ?_
    exact ⟨i + 1, rfl, by rw [es]; rfl, rfl, by omega⟩
end Go.Proofs.Ytckobcjjbpnkcaa
