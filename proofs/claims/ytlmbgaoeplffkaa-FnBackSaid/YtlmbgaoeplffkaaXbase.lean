/- What the later texts use: What toInt64S does. What within and l00In do. Facts on lists. Which fields and lives are valid. Rules: powers, and which are valid. Fields by their rows and columns. Digits and numbers. What eqInt64S does. What szInt64S does. What markInt64S and heldInt64S do. -/
import Derived.Test.YtlmbgaoeplffkaaFB
namespace Go.Proofs.Ytlmbgaoeplffkaa
open Go Go.RowKit
set_option linter.unusedVariables false
set_option linter.unusedSimpArgs false
set_option maxRecDepth 100000
set_option maxHeartbeats 8000000
-- laws.toInt64S
def L27 : AFun := ⟨22, [.t 2],
 (.seq (.ops false [⟨(some 2), .mv (.k (.c (.sl 0 0 0))), none, []⟩])
 (.seq (.ops false [⟨(some 5), .mv (.t 0), none, []⟩,
   ⟨(some 6), .len false (.t 5), none, []⟩,
   ⟨(some 7), .makeS 2 1 8 [.int .i64 0] (.t 6) (.t 6), none, []⟩,
   ⟨(some 3), .mv (.t 7), none, []⟩])
 (.seq (.seq (.ops false [⟨(some 4), .mv (.k (iv 0)), none, []⟩])
  (.block 0 (.loop [0, 3, 4] (.seq (.seq (.ops false [⟨(some 8), .mv (.t 4), none, []⟩,
       ⟨(some 9), .mv (.t 0), none, []⟩,
       ⟨(some 10), .len false (.t 9), none, []⟩,
       ⟨(some 11), .bin .lss (.t 8) (.t 10), none, []⟩])
     (.cond (.t 11) .skip
      (.exit 0)))
    (.seq (.block 1 (.ops false [⟨(some 14), .mv (.t 3), none, []⟩,
       ⟨(some 15), .mv (.t 4), none, []⟩,
       ⟨(some 16), .mv (.t 0), none, []⟩,
       ⟨(some 17), .mv (.t 4), none, []⟩,
       ⟨(some 18), .idxA 1 (.t 16) (.t 17), none, []⟩,
       ⟨(some 19), .load false 1 (.t 18), none, []⟩,
       ⟨(some 20), .idxA 1 (.t 14) (.t 15), none, []⟩,
       ⟨none, .store 1 (.t 20) (.t 19), none, []⟩]))
    (.ops false [⟨(some 12), .mv (.t 4), none, []⟩,
     ⟨(some 13), .bin .add (.t 12) (.k (iv 1)), none, []⟩,
     ⟨(some 4), .mv (.t 13), none, []⟩]))))))
 (.seq (.ops false [⟨(some 21), .mv (.t 3), none, []⟩,
   ⟨(some 2), .mv (.t 21), none, []⟩])
 .ret))))⟩
theorem code27 : acode Try.prog hints 27 = some L27 := by kernel_rfl

-- impl.within
def L43 : AFun := ⟨15, [.t 6],
 (.seq (.ops false [⟨(some 6), .mv (.k (bv false)), none, []⟩])
 (.seq (.ops false [⟨(some 7), .mv (.t 0), none, []⟩,
   ⟨(some 8), .mv (.t 1), none, []⟩,
   ⟨(some 9), .bin .geq (.t 7) (.t 8), none, []⟩,
   ⟨(some 10), .mv (.t 9), none, []⟩,
   ⟨(some 11), .mv (.t 0), (some (10, true)), []⟩,
   ⟨(some 12), .mv (.t 2), (some (10, true)), []⟩,
   ⟨(some 13), .bin .leq (.t 11) (.t 12), (some (10, true)), []⟩,
   ⟨(some 14), .pick (.t 10) (.t 13) (.k (bv false)), none, []⟩,
   ⟨(some 6), .mv (.t 14), none, []⟩])
 .ret))⟩
theorem code43 : acode Try.prog hints 43 = some L43 := by kernel_rfl

-- spec.l00In
def L48 : AFun := ⟨15, [.t 6],
 (.seq (.ops false [⟨(some 6), .mv (.k (bv false)), none, []⟩])
 (.seq (.ops false [⟨(some 7), .mv (.t 0), none, []⟩,
   ⟨(some 8), .mv (.t 1), none, []⟩,
   ⟨(some 9), .bin .geq (.t 7) (.t 8), none, []⟩,
   ⟨(some 10), .mv (.t 9), none, []⟩,
   ⟨(some 11), .mv (.t 0), (some (10, true)), []⟩,
   ⟨(some 12), .mv (.t 2), (some (10, true)), []⟩,
   ⟨(some 13), .bin .leq (.t 11) (.t 12), (some (10, true)), []⟩,
   ⟨(some 14), .pick (.t 10) (.t 13) (.k (bv false)), none, []⟩,
   ⟨(some 6), .mv (.t 14), none, []⟩])
 .ret))⟩
theorem code48 : acode Try.prog hints 48 = some L48 := by kernel_rfl

-- impl.areWithin
def L88 : AFun := ⟨21, [.t 6],
 (.seq (.ops false [⟨(some 6), .mv (.k (bv false)), none, []⟩])
 (.seq (.seq (.ops false [⟨(some 9), .mv (.t 0), none, []⟩,
    ⟨(some 10), .len false (.t 9), none, []⟩,
    ⟨(some 11), .mv (.k (iv 0)), none, []⟩])
  (.block 0 (.loop [1, 2, 9, 10, 11] (.seq (.ops false [⟨(some 12), .bin .lss (.t 11) (.t 10), none, []⟩])
    (.seq (.cond (.t 12) .skip
      (.exit 0))
    (.seq (.block 1 (.seq (.ops false [⟨(some 13), .idxA 1 (.t 9) (.t 11), none, []⟩,
        ⟨(some 14), .load false 1 (.t 13), none, []⟩,
        ⟨(some 8), .mv (.t 14), none, []⟩])
      (.seq (.ops false [⟨(some 15), .mv (.t 8), none, []⟩,
        ⟨(some 16), .mv (.t 1), none, []⟩,
        ⟨(some 17), .mv (.t 2), none, []⟩,
        ⟨(some 18), .call (.f 43) [(.t 15), (.t 16), (.t 17)], none, []⟩,
        ⟨(some 19), .un .not (.t 18), none, []⟩])
      (.cond (.t 19) (.seq (.ops false [⟨(some 6), .mv (.k (bv false)), none, []⟩])
       .ret)
       .skip))))
    (.ops false [⟨(some 20), .bin .add (.t 11) (.k (iv 1)), none, []⟩,
     ⟨(some 11), .mv (.t 20), none, []⟩])))))))
 (.seq (.ops false [⟨(some 6), .mv (.k (bv true)), none, []⟩])
 .ret)))⟩
theorem code88 : acode Try.prog hints 88 = some L88 := by kernel_rfl

-- impl.areMany
def L68 : AFun := ⟨22, [.t 10],
 (.seq (.ops false [⟨(some 10), .mv (.k (bv false)), none, []⟩])
 (.seq (.ops false [⟨(some 11), .mv (.t 0), none, []⟩,
   ⟨(some 12), .len false (.t 11), none, []⟩,
   ⟨(some 13), .mv (.t 1), none, []⟩,
   ⟨(some 14), .mv (.t 2), none, []⟩,
   ⟨(some 15), .call (.f 43) [(.t 12), (.t 13), (.t 14)], none, []⟩,
   ⟨(some 16), .mv (.t 15), none, []⟩,
   ⟨(some 17), .mv (.t 0), (some (16, true)), []⟩,
   ⟨(some 18), .mv (.t 3), (some (16, true)), []⟩,
   ⟨(some 19), .mv (.t 4), (some (16, true)), []⟩,
   ⟨(some 20), .call (.f 88) [(.t 17), (.t 18), (.t 19)], (some (16, true)), []⟩,
   ⟨(some 21), .pick (.t 16) (.t 20) (.k (bv false)), none, []⟩,
   ⟨(some 10), .mv (.t 21), none, []⟩])
 .ret))⟩
theorem code68 : acode Try.prog hints 68 = some L68 := by kernel_rfl

-- impl.raised
def L67 : AFun := ⟨14, [.t 4],
 (.seq (.ops false [⟨(some 4), .mv (.k (iv 0)), none, []⟩])
 (.seq (.ops false [⟨(some 5), .mv (.k (iv 1)), none, []⟩])
 (.seq (.seq (.ops false [⟨(some 6), .mv (.t 1), none, []⟩,
    ⟨(some 7), .mv (.k (iv 0)), none, []⟩])
  (.block 0 (.loop [0, 5, 6, 7] (.seq (.ops false [⟨(some 8), .bin .lss (.t 7) (.t 6), none, []⟩])
    (.seq (.cond (.t 8) .skip
      (.exit 0))
    (.seq (.block 1 (.ops false [⟨(some 9), .mv (.t 5), none, []⟩,
       ⟨(some 10), .mv (.t 0), none, []⟩,
       ⟨(some 11), .bin .mul (.t 9) (.t 10), none, []⟩,
       ⟨(some 5), .mv (.t 11), none, []⟩]))
    (.ops false [⟨(some 12), .bin .add (.t 7) (.k (iv 1)), none, []⟩,
     ⟨(some 7), .mv (.t 12), none, []⟩])))))))
 (.seq (.ops false [⟨(some 13), .mv (.t 5), none, []⟩,
   ⟨(some 4), .mv (.t 13), none, []⟩])
 .ret))))⟩
theorem code67 : acode Try.prog hints 67 = some L67 := by kernel_rfl

-- spec.l02Powers
def L71 : AFun := ⟨14, [.t 4],
 (.seq (.ops false [⟨(some 4), .mv (.k (iv 0)), none, []⟩])
 (.seq (.ops false [⟨(some 5), .mv (.k (iv 1)), none, []⟩])
 (.seq (.block 0 (.loop [0, 1, 5] (.seq (.seq (.ops false [⟨(some 6), .mv (.t 1), none, []⟩,
       ⟨(some 7), .bin .gtr (.t 6) (.k (iv 0)), none, []⟩])
     (.cond (.t 7) .skip
      (.exit 0)))
    (.seq (.block 1 (.ops false [⟨(some 10), .mv (.t 5), none, []⟩,
       ⟨(some 11), .mv (.t 0), none, []⟩,
       ⟨(some 12), .bin .mul (.t 10) (.t 11), none, []⟩,
       ⟨(some 5), .mv (.t 12), none, []⟩]))
    (.ops false [⟨(some 8), .mv (.t 1), none, []⟩,
     ⟨(some 9), .bin .sub (.t 8) (.k (iv 1)), none, []⟩,
     ⟨(some 1), .mv (.t 9), none, []⟩])))))
 (.seq (.ops false [⟨(some 13), .mv (.t 5), none, []⟩,
   ⟨(some 4), .mv (.t 13), none, []⟩])
 .ret))))⟩
theorem code71 : acode Try.prog hints 71 = some L71 := by kernel_rfl

-- spec.l03Power
def L58 : AFun := ⟨14, [.t 4],
 (.seq (.ops false [⟨(some 4), .mv (.k (iv 0)), none, []⟩])
 (.seq (.ops false [⟨(some 5), .mv (.k (iv 1)), none, []⟩])
 (.seq (.block 0 (.loop [0, 1, 5] (.seq (.seq (.ops false [⟨(some 6), .mv (.t 1), none, []⟩,
       ⟨(some 7), .bin .gtr (.t 6) (.k (iv 0)), none, []⟩])
     (.cond (.t 7) .skip
      (.exit 0)))
    (.seq (.block 1 (.ops false [⟨(some 10), .mv (.t 5), none, []⟩,
       ⟨(some 11), .mv (.t 0), none, []⟩,
       ⟨(some 12), .bin .mul (.t 10) (.t 11), none, []⟩,
       ⟨(some 5), .mv (.t 12), none, []⟩]))
    (.ops false [⟨(some 8), .mv (.t 1), none, []⟩,
     ⟨(some 9), .bin .sub (.t 8) (.k (iv 1)), none, []⟩,
     ⟨(some 1), .mv (.t 9), none, []⟩])))))
 (.seq (.ops false [⟨(some 13), .mv (.t 5), none, []⟩,
   ⟨(some 4), .mv (.t 13), none, []⟩])
 .ret))))⟩
theorem code58 : acode Try.prog hints 58 = some L58 := by kernel_rfl

-- impl.areStates
def L65 : AFun := ⟨9, [.t 2],
 (.seq (.ops false [⟨(some 2), .mv (.k (bv false)), none, []⟩])
 (.seq (.ops false [⟨(some 3), .mv (.t 0), none, []⟩,
   ⟨(some 4), .bin .eql (.t 3) (.k (iv 2)), none, []⟩,
   ⟨(some 5), .mv (.t 4), none, []⟩,
   ⟨(some 6), .mv (.t 0), (some (5, false)), []⟩,
   ⟨(some 7), .bin .eql (.t 6) (.k (iv 3)), (some (5, false)), []⟩,
   ⟨(some 8), .pick (.t 5) (.k (bv true)) (.t 7), none, []⟩,
   ⟨(some 2), .mv (.t 8), none, []⟩])
 .ret))⟩
theorem code65 : acode Try.prog hints 65 = some L65 := by kernel_rfl

-- impl.isReach
def L66 : AFun := ⟨5, [.t 2],
 (.seq (.ops false [⟨(some 2), .mv (.k (bv false)), none, []⟩])
 (.seq (.ops false [⟨(some 3), .mv (.t 0), none, []⟩,
   ⟨(some 4), .call (.f 43) [(.t 3), (.k (iv 0)), (.k (iv 2))], none, []⟩,
   ⟨(some 2), .mv (.t 4), none, []⟩])
 .ret))⟩
theorem code66 : acode Try.prog hints 66 = some L66 := by kernel_rfl

-- (impl.Rule).cells
def L61 : AFun := ⟨7, [.t 2],
 (.seq (.ops false [⟨(some 1), .box 27 (.t 0), none, []⟩,
   ⟨(some 2), .mv (.k (iv 0)), none, []⟩])
 (.seq (.ops false [⟨(some 3), .fieldA 1 (.t 1), none, []⟩,
   ⟨(some 4), .load false 1 (.t 3), none, []⟩,
   ⟨(some 5), .bin .mul (.k (iv 2)) (.t 4), none, []⟩,
   ⟨(some 6), .bin .add (.t 5) (.k (iv 1)), none, []⟩,
   ⟨(some 2), .mv (.t 6), none, []⟩])
 .ret))⟩
theorem code61 : acode Try.prog hints 61 = some L61 := by kernel_rfl

-- impl.ValidRule
def L39 : AFun := ⟨27, [.t 2],
 (.seq (.ops false [⟨(some 1), .box 27 (.t 0), none, []⟩,
   ⟨(some 2), .mv (.k (bv false)), none, []⟩])
 (.seq (.seq (.ops false [⟨(some 4), .fieldA 0 (.t 1), none, []⟩,
    ⟨(some 5), .load false 1 (.t 4), none, []⟩,
    ⟨(some 6), .call (.f 65) [(.t 5)], none, []⟩,
    ⟨(some 7), .un .not (.t 6), none, []⟩,
    ⟨(some 8), .mv (.t 7), none, []⟩,
    ⟨(some 9), .fieldA 1 (.t 1), (some (8, false)), []⟩,
    ⟨(some 10), .load false 1 (.t 9), (some (8, false)), []⟩,
    ⟨(some 11), .call (.f 66) [(.t 10)], (some (8, false)), []⟩,
    ⟨(some 12), .un .not (.t 11), (some (8, false)), []⟩,
    ⟨(some 13), .pick (.t 8) (.k (bv true)) (.t 12), none, []⟩])
  (.cond (.t 13) (.seq (.ops false [⟨(some 2), .mv (.k (bv false)), none, []⟩])
   .ret)
   .skip))
 (.seq (.ops true [⟨(some 16), .load true 3 (.t 1), none, []⟩,
   ⟨(some 17), .call (.f 61) [(.t 16)], none, []⟩,
   ⟨(some 14), .fieldA 0 (.t 1), none, []⟩,
   ⟨(some 15), .load false 1 (.t 14), none, [0]⟩,
   ⟨(some 18), .call (.f 67) [(.t 15), (.t 17)], none, []⟩,
   ⟨(some 3), .mv (.t 18), none, []⟩])
 (.seq (.ops false [⟨(some 19), .fieldA 2 (.t 1), none, []⟩,
   ⟨(some 20), .load false 1 (.t 19), none, []⟩,
   ⟨(some 21), .mv (.t 3), none, []⟩,
   ⟨(some 22), .mv (.t 3), none, []⟩,
   ⟨(some 23), .fieldA 0 (.t 1), none, []⟩,
   ⟨(some 24), .load false 1 (.t 23), none, []⟩,
   ⟨(some 25), .bin .sub (.t 24) (.k (iv 1)), none, []⟩,
   ⟨(some 26), .call (.f 68) [(.t 20), (.t 21), (.t 22), (.k (iv 0)), (.t 25)], none, []⟩,
   ⟨(some 2), .mv (.t 26), none, []⟩])
 .ret))))⟩
theorem code39 : acode Try.prog hints 39 = some L39 := by kernel_rfl

-- spec.l02Is
def L47 : AFun := ⟨60, [.t 2],
 (.seq (.ops false [⟨(some 2), .mv (.k (bv false)), none, []⟩])
 (.seq (.seq (.ops true [⟨(some 4), .mv (.t 0), none, []⟩,
    ⟨(some 5), .nilChk (.t 4), none, []⟩,
    ⟨(some 6), .fieldA 0 (.t 5), none, []⟩,
    ⟨(some 7), .load false 1 (.t 6), none, []⟩,
    ⟨(some 8), .call (.f 48) [(.t 7), (.k (iv 2)), (.k (iv 3))], none, []⟩,
    ⟨(some 9), .un .not (.t 8), none, []⟩,
    ⟨(some 10), .mv (.t 9), none, []⟩,
    ⟨(some 11), .mv (.t 0), (some (10, false)), []⟩,
    ⟨(some 12), .nilChk (.t 11), (some (10, false)), []⟩,
    ⟨(some 13), .fieldA 1 (.t 12), (some (10, false)), []⟩,
    ⟨(some 14), .load false 1 (.t 13), (some (10, false)), []⟩,
    ⟨(some 15), .call (.f 48) [(.t 14), (.k (iv 0)), (.k (iv 2))], (some (10, false)), []⟩,
    ⟨(some 16), .un .not (.t 15), (some (10, false)), []⟩,
    ⟨(some 17), .pick (.t 10) (.k (bv true)) (.t 16), none, []⟩,
    ⟨(some 18), .mv (.t 17), none, []⟩,
    ⟨(some 24), .mv (.t 0), (some (18, false)), []⟩,
    ⟨(some 25), .nilChk (.t 24), (some (18, false)), []⟩,
    ⟨(some 26), .fieldA 0 (.t 25), (some (18, false)), []⟩,
    ⟨(some 27), .load false 1 (.t 26), (some (18, false)), []⟩,
    ⟨(some 28), .mv (.t 0), (some (18, false)), []⟩,
    ⟨(some 29), .nilChk (.t 28), (some (18, false)), []⟩,
    ⟨(some 30), .fieldA 1 (.t 29), (some (18, false)), []⟩,
    ⟨(some 31), .load false 1 (.t 30), (some (18, false)), []⟩,
    ⟨(some 32), .bin .mul (.k (iv 2)) (.t 31), (some (18, false)), []⟩,
    ⟨(some 33), .bin .add (.t 32) (.k (iv 1)), (some (18, false)), []⟩,
    ⟨(some 34), .call (.f 71) [(.t 27), (.t 33)], (some (18, false)), []⟩,
    ⟨(some 19), .mv (.t 0), (some (18, false)), []⟩,
    ⟨(some 20), .nilChk (.t 19), (some (18, false)), []⟩,
    ⟨(some 21), .fieldA 2 (.t 20), (some (18, false)), []⟩,
    ⟨(some 22), .load false 1 (.t 21), (some (18, false)), [2]⟩,
    ⟨(some 23), .len false (.t 22), (some (18, false)), []⟩,
    ⟨(some 35), .bin .neq (.t 23) (.t 34), (some (18, false)), []⟩,
    ⟨(some 36), .pick (.t 18) (.k (bv true)) (.t 35), none, []⟩])
  (.cond (.t 36) (.seq (.ops false [⟨(some 2), .mv (.k (bv false)), none, []⟩])
   .ret)
   .skip))
 (.seq (.seq (.ops false [⟨(some 3), .mv (.k (iv 0)), none, []⟩])
  (.block 0 (.loop [0, 3] (.seq (.seq (.ops false [⟨(some 37), .mv (.t 3), none, []⟩,
       ⟨(some 38), .mv (.t 0), none, []⟩,
       ⟨(some 39), .nilChk (.t 38), none, []⟩,
       ⟨(some 40), .fieldA 2 (.t 39), none, []⟩,
       ⟨(some 41), .load false 1 (.t 40), none, []⟩,
       ⟨(some 42), .len false (.t 41), none, []⟩,
       ⟨(some 43), .bin .lss (.t 37) (.t 42), none, []⟩])
     (.cond (.t 43) .skip
      (.exit 0)))
    (.seq (.block 1 (.seq (.ops true [⟨(some 46), .mv (.t 0), none, []⟩,
        ⟨(some 47), .nilChk (.t 46), none, []⟩,
        ⟨(some 48), .fieldA 2 (.t 47), none, []⟩,
        ⟨(some 49), .load false 1 (.t 48), none, []⟩,
        ⟨(some 50), .mv (.t 3), none, []⟩,
        ⟨(some 51), .idxA 1 (.t 49) (.t 50), none, []⟩,
        ⟨(some 52), .load false 1 (.t 51), none, []⟩,
        ⟨(some 53), .mv (.t 0), none, []⟩,
        ⟨(some 54), .nilChk (.t 53), none, []⟩,
        ⟨(some 55), .fieldA 0 (.t 54), none, []⟩,
        ⟨(some 56), .load false 1 (.t 55), none, []⟩,
        ⟨(some 57), .bin .sub (.t 56) (.k (iv 1)), none, []⟩,
        ⟨(some 58), .call (.f 48) [(.t 52), (.k (iv 0)), (.t 57)], none, []⟩,
        ⟨(some 59), .un .not (.t 58), none, []⟩])
      (.cond (.t 59) (.seq (.ops false [⟨(some 2), .mv (.k (bv false)), none, []⟩])
       .ret)
       .skip)))
    (.ops false [⟨(some 44), .mv (.t 3), none, []⟩,
     ⟨(some 45), .bin .add (.t 44) (.k (iv 1)), none, []⟩,
     ⟨(some 3), .mv (.t 45), none, []⟩]))))))
 (.seq (.ops false [⟨(some 2), .mv (.k (bv true)), none, []⟩])
 .ret))))⟩
theorem code47 : acode Try.prog hints 47 = some L47 := by kernel_rfl

-- impl.digitsOf
def L63 : AFun := ⟨27, [.t 6],
 (.seq (.ops false [⟨(some 6), .mv (.k (.c (.sl 0 0 0))), none, []⟩])
 (.seq (.ops false [⟨(some 9), .mv (.t 2), none, []⟩,
   ⟨(some 10), .makeS 2 1 8 [.int .i64 0] (.t 9) (.t 9), none, []⟩,
   ⟨(some 7), .mv (.t 10), none, []⟩])
 (.seq (.seq (.ops false [⟨(some 11), .mv (.t 2), none, []⟩,
    ⟨(some 12), .bin .sub (.t 11) (.k (iv 1)), none, []⟩,
    ⟨(some 8), .mv (.t 12), none, []⟩])
  (.block 0 (.loop [0, 1, 7, 8] (.seq (.seq (.ops false [⟨(some 13), .mv (.t 8), none, []⟩,
       ⟨(some 14), .bin .geq (.t 13) (.k (iv 0)), none, []⟩])
     (.cond (.t 14) .skip
      (.exit 0)))
    (.seq (.block 1 (.seq (.ops false [⟨(some 17), .mv (.t 7), none, []⟩,
        ⟨(some 18), .mv (.t 8), none, []⟩,
        ⟨(some 19), .mv (.t 0), none, []⟩,
        ⟨(some 20), .mv (.t 1), none, []⟩,
        ⟨(some 21), .bin .rem (.t 19) (.t 20), none, []⟩,
        ⟨(some 22), .idxA 1 (.t 17) (.t 18), none, []⟩,
        ⟨none, .store 1 (.t 22) (.t 21), none, []⟩])
      (.ops false [⟨(some 23), .mv (.t 0), none, []⟩,
       ⟨(some 24), .mv (.t 1), none, []⟩,
       ⟨(some 25), .bin .quo (.t 23) (.t 24), none, []⟩,
       ⟨(some 0), .mv (.t 25), none, []⟩])))
    (.ops false [⟨(some 15), .mv (.t 8), none, []⟩,
     ⟨(some 16), .bin .sub (.t 15) (.k (iv 1)), none, []⟩,
     ⟨(some 8), .mv (.t 16), none, []⟩]))))))
 (.seq (.ops false [⟨(some 26), .mv (.t 7), none, []⟩,
   ⟨(some 6), .mv (.t 26), none, []⟩])
 .ret))))⟩
theorem code63 : acode Try.prog hints 63 = some L63 := by kernel_rfl

-- laws.eqInt64S
def L21 : AFun := ⟨26, [.t 4],
 (.seq (.ops false [⟨(some 4), .mv (.k (bv false)), none, []⟩])
 (.seq (.seq (.ops false [⟨(some 6), .mv (.t 0), none, []⟩,
    ⟨(some 7), .len false (.t 6), none, []⟩,
    ⟨(some 8), .mv (.t 1), none, []⟩,
    ⟨(some 9), .len false (.t 8), none, []⟩,
    ⟨(some 10), .bin .neq (.t 7) (.t 9), none, []⟩])
  (.cond (.t 10) (.seq (.ops false [⟨(some 4), .mv (.k (bv false)), none, []⟩])
   .ret)
   .skip))
 (.seq (.seq (.ops false [⟨(some 5), .mv (.k (iv 0)), none, []⟩])
  (.block 0 (.loop [0, 1, 5] (.seq (.seq (.ops false [⟨(some 11), .mv (.t 5), none, []⟩,
       ⟨(some 12), .mv (.t 0), none, []⟩,
       ⟨(some 13), .len false (.t 12), none, []⟩,
       ⟨(some 14), .bin .lss (.t 11) (.t 13), none, []⟩])
     (.cond (.t 14) .skip
      (.exit 0)))
    (.seq (.block 1 (.seq (.ops true [⟨(some 17), .mv (.t 0), none, []⟩,
        ⟨(some 18), .mv (.t 5), none, []⟩,
        ⟨(some 19), .idxA 1 (.t 17) (.t 18), none, []⟩,
        ⟨(some 20), .load false 1 (.t 19), none, []⟩,
        ⟨(some 21), .mv (.t 1), none, []⟩,
        ⟨(some 22), .mv (.t 5), none, []⟩,
        ⟨(some 23), .idxA 1 (.t 21) (.t 22), none, []⟩,
        ⟨(some 24), .load false 1 (.t 23), none, []⟩,
        ⟨(some 25), .bin .neq (.t 20) (.t 24), none, []⟩])
      (.cond (.t 25) (.seq (.ops false [⟨(some 4), .mv (.k (bv false)), none, []⟩])
       .ret)
       .skip)))
    (.ops false [⟨(some 15), .mv (.t 5), none, []⟩,
     ⟨(some 16), .bin .add (.t 15) (.k (iv 1)), none, []⟩,
     ⟨(some 5), .mv (.t 16), none, []⟩]))))))
 (.seq (.ops false [⟨(some 4), .mv (.k (bv true)), none, []⟩])
 .ret))))⟩
theorem code21 : acode Try.prog hints 21 = some L21 := by kernel_rfl

-- laws.szInt64S
def L46 : AFun := ⟨12, [.t 4],
 (.seq (.ops false [⟨(some 4), .mv (.k (iv 0)), none, []⟩])
 (.seq (.ops false [⟨(some 5), .mv (.t 1), none, []⟩,
   ⟨(some 6), .mv (.t 0), none, []⟩,
   ⟨(some 7), .len false (.t 6), none, []⟩,
   ⟨(some 8), .bin .sub (.t 5) (.t 7), none, []⟩,
   ⟨(some 1), .mv (.t 8), none, []⟩])
 (.seq (.seq (.ops false [⟨(some 9), .mv (.t 1), none, []⟩,
    ⟨(some 10), .bin .lss (.t 9) (.k (iv 0)), none, []⟩])
  (.cond (.t 10) (.seq (.ops false [⟨(some 4), .mv (.k (iv (-1))), none, []⟩])
   .ret)
   .skip))
 (.seq (.ops false [⟨(some 11), .mv (.t 1), none, []⟩,
   ⟨(some 4), .mv (.t 11), none, []⟩])
 .ret))))⟩
theorem code46 : acode Try.prog hints 46 = some L46 := by kernel_rfl

-- laws.markInt64S
def L24 : AFun := ⟨19, [.t 4],
 (.seq (.ops false [⟨(some 4), .mv (.k (iv 0)), none, []⟩])
 (.seq (.seq (.ops false [⟨(some 5), .mv (.k (iv 0)), none, []⟩])
  (.block 0 (.loop [0, 1, 5] (.seq (.seq (.ops false [⟨(some 6), .mv (.t 5), none, []⟩,
       ⟨(some 7), .mv (.t 0), none, []⟩,
       ⟨(some 8), .len false (.t 7), none, []⟩,
       ⟨(some 9), .bin .lss (.t 6) (.t 8), none, []⟩])
     (.cond (.t 9) .skip
      (.exit 0)))
    (.seq (.block 1 (.seq (.ops false [⟨(some 12), .mv (.t 0), none, []⟩,
        ⟨(some 13), .mv (.t 5), none, []⟩,
        ⟨(some 14), .mv (.t 1), none, []⟩,
        ⟨(some 15), .idxA 1 (.t 12) (.t 13), none, []⟩,
        ⟨none, .store 1 (.t 15) (.t 14), none, []⟩])
      (.ops false [⟨(some 16), .mv (.t 1), none, []⟩,
       ⟨(some 17), .bin .add (.t 16) (.k (iv 1)), none, []⟩,
       ⟨(some 1), .mv (.t 17), none, []⟩])))
    (.ops false [⟨(some 10), .mv (.t 5), none, []⟩,
     ⟨(some 11), .bin .add (.t 10) (.k (iv 1)), none, []⟩,
     ⟨(some 5), .mv (.t 11), none, []⟩]))))))
 (.seq (.ops false [⟨(some 18), .mv (.t 1), none, []⟩,
   ⟨(some 4), .mv (.t 18), none, []⟩])
 .ret)))⟩
theorem code24 : acode Try.prog hints 24 = some L24 := by kernel_rfl

-- laws.heldInt64S
def L25 : AFun := ⟨21, [.t 4],
 (.seq (.ops false [⟨(some 4), .mv (.k (iv 0)), none, []⟩])
 (.seq (.seq (.ops false [⟨(some 5), .mv (.k (iv 0)), none, []⟩])
  (.block 0 (.loop [0, 1, 5] (.seq (.seq (.ops false [⟨(some 6), .mv (.t 5), none, []⟩,
       ⟨(some 7), .mv (.t 0), none, []⟩,
       ⟨(some 8), .len false (.t 7), none, []⟩,
       ⟨(some 9), .bin .lss (.t 6) (.t 8), none, []⟩])
     (.cond (.t 9) .skip
      (.exit 0)))
    (.seq (.block 1 (.seq (.seq (.ops false [⟨(some 12), .mv (.t 0), none, []⟩,
         ⟨(some 13), .mv (.t 5), none, []⟩,
         ⟨(some 14), .idxA 1 (.t 12) (.t 13), none, []⟩,
         ⟨(some 15), .load false 1 (.t 14), none, []⟩,
         ⟨(some 16), .mv (.t 1), none, []⟩,
         ⟨(some 17), .bin .neq (.t 15) (.t 16), none, []⟩])
       (.cond (.t 17) (.seq (.ops false [⟨(some 4), .mv (.k (iv (-1))), none, []⟩])
        .ret)
        .skip))
      (.ops false [⟨(some 18), .mv (.t 1), none, []⟩,
       ⟨(some 19), .bin .add (.t 18) (.k (iv 1)), none, []⟩,
       ⟨(some 1), .mv (.t 19), none, []⟩])))
    (.ops false [⟨(some 10), .mv (.t 5), none, []⟩,
     ⟨(some 11), .bin .add (.t 10) (.k (iv 1)), none, []⟩,
     ⟨(some 5), .mv (.t 11), none, []⟩]))))))
 (.seq (.ops false [⟨(some 20), .mv (.t 1), none, []⟩,
   ⟨(some 4), .mv (.t 20), none, []⟩])
 .ret)))⟩
theorem code25 : acode Try.prog hints 25 = some L25 := by kernel_rfl


abbrev ints (xs : List Int) : AObj := .rw 2 1 (xs.map ic)
theorem take_set {α : Type} {ys xs : List α} {i : Nat} {d : α} (h : ys.take i = xs.take i) (hy : i < ys.length) (hx : i < xs.length) : (ys.set i (xs.getD i d)).take (i + 1) = xs.take (i + 1) := by
  rw [List.take_add_one, List.take_add_one, List.take_set_of_le (Nat.le_refl i), h]
  simp [hy, hx]
theorem take_end {α : Type} {ys xs : List α} {i : Nat} (h : ys.take i = xs.take i) (h1 : ys.length ≤ i) (h2 : xs.length ≤ i) : ys = xs := by
  rw [List.take_of_length_le h1, List.take_of_length_le h2] at h; exact h
theorem c_toInt64S {s : St} [Wf s] {id off len : Nat} {xs : List Int} [hx : ArgE ic s id off xs] (hl : xs.length = len := by first | rfl | simp | omega | (simp; omega)) (hb : len ≤ 2000000 := by omega) :
    Fn [] 27 [.c (.sl id off len)] s fun r N => ∃ p, r = .c (.sl p 0 len) ∧ N = [(p, ints xs)] := by
  refine F_start code27 ?_
  repeat' (first
 | refine A_go rfl ?_ | refine A_ifT rfl rfl ?_ | refine A_ifF rfl rfl ?_
 | refine A_add rfl rfl rfl (by omega) ?_
 | ((first | refine A_lt rfl rfl rfl ?_ ?_) <;> intro hc <;> try first | contradiction | (exfalso; omega) | exact absurd rfl hc)
 | refine A_idxN1 rfl rfl rfl (by omega) ?_ | refine A_idx1 rfl rfl rfl (by omega) ?_
 | refine A_p (by rfl) rfl ?_
 | refine A_ldI rfl (by first | omega | (simp; done) | (simp; omega)) rfl ?_ | refine A_ldB rfl (by first | omega | (simp; done) | (simp; omega)) rfl ?_ | refine A_ld rfl (by rfl) rfl ?_
 | refine A_st rfl rfl rfl ?_ | refine A_stE rfl rfl (by first | omega | (simp; done) | (simp; omega)) rfl ?_
 | ((first | refine A_makeN rfl rfl rfl (by omega) ?_ | refine A_make rfl rfl rfl (by omega) ?_) <;> intro pz hpz)
 | refine A_ret1 rfl (by exact (RP.t rfl RP.nil)) ?_)
  refine A_loop rfl [pz] (fun m fr L => ∃ i ys, i ≤ len ∧ m = len - i ∧ fr = [(0, .c (.sl id off len)), (3, .c (.sl pz 0 len)), (4, iv i)] ∧ L = [(pz, ints ys)] ∧ ys.length = len ∧ ys.take i = xs.take i) len ⟨0, _, by omega, rfl, rfl, rfl, by simp, by simp⟩ ?_
  rintro m fr L ⟨i, ys, hi, rfl, rfl, rfl, hy, ht⟩
  repeat' (first
 | refine A_go rfl ?_ | refine A_ifT rfl rfl ?_ | refine A_ifF rfl rfl ?_
 | refine A_add rfl rfl rfl (by omega) ?_
 | ((first | refine A_lt rfl rfl rfl ?_ ?_) <;> intro hc <;> try first | contradiction | (exfalso; omega) | exact absurd rfl hc)
 | refine A_idxN1 rfl rfl rfl (by omega) ?_ | refine A_idx1 rfl rfl rfl (by omega) ?_
 | refine A_p (by rfl) rfl ?_
 | refine A_ldI rfl (by first | omega | (simp; done) | (simp; omega)) rfl ?_ | refine A_ldB rfl (by first | omega | (simp; done) | (simp; omega)) rfl ?_ | refine A_ld rfl (by rfl) rfl ?_
 | refine A_st rfl rfl rfl ?_ | refine A_stE rfl rfl (by first | omega | (simp; done) | (simp; omega)) rfl ?_
 | ((first | refine A_makeN rfl rfl rfl (by omega) ?_ | refine A_make rfl rfl rfl (by omega) ?_) <;> intro pz hpz)
 | refine A_ret1 rfl (by exact (RP.t rfl RP.nil)) ?_)
  · refine A_round rfl [pz] (len - (i + 1)) (by omega) ?_
    exact ⟨i + 1, _, by omega, rfl, rfl, rfl, by simp [hy], take_set ht (by omega) (by omega)⟩
  · obtain rfl := take_end ht (by omega) (by omega)
    exact R_s ⟨pz, rfl, rfl⟩

theorem c_within {s : St} [Wf s] {x a b : Int} : FnB 43 [iv x, iv a, iv b] s (a ≤ x ∧ x ≤ b) := by
  refine F_start code43 ?_
  repeat' (first
 | refine A_go rfl ?_ | refine A_ifT rfl rfl ?_ | refine A_ifF rfl rfl ?_
 | refine A_offP rfl rfl ?_ | refine A_offH rfl rfl ?_ | refine A_off0 rfl rfl ?_
 | ((first | refine A_le rfl rfl rfl ?_ ?_ | refine A_ge rfl rfl rfl ?_ ?_) <;> intro hc <;> try first | contradiction | (exfalso; omega) | exact absurd rfl hc)
 | refine A_p (by rfl) rfl ?_
 | refine A_ret1 rfl (by exact (RP.t rfl RP.nil)) ?_)
  all_goals first | exact R_t ⟨by omega, by omega⟩ | exact R_f (by omega)
theorem c_l00In {s : St} [Wf s] {x a b : Int} : FnB 48 [iv x, iv a, iv b] s (a ≤ x ∧ x ≤ b) := by
  refine F_start code48 ?_
  repeat' (first
 | refine A_go rfl ?_ | refine A_ifT rfl rfl ?_ | refine A_ifF rfl rfl ?_
 | refine A_offP rfl rfl ?_ | refine A_offH rfl rfl ?_ | refine A_off0 rfl rfl ?_
 | ((first | refine A_le rfl rfl rfl ?_ ?_ | refine A_ge rfl rfl rfl ?_ ?_) <;> intro hc <;> try first | contradiction | (exfalso; omega) | exact absurd rfl hc)
 | refine A_p (by rfl) rfl ?_
 | refine A_ret1 rfl (by exact (RP.t rfl RP.nil)) ?_)
  all_goals first | exact R_t ⟨by omega, by omega⟩ | exact R_f (by omega)

theorem all_succ {α : Type} {P : α → Prop} {xs : List α} {i : Nat} {d : α} (h : ∀ x ∈ xs.take i, P x) (hi : i < xs.length) (hx : P (xs.getD i d)) : ∀ x ∈ xs.take (i + 1), P x := by
  intro x hm
  rw [List.take_add_one, getD_some d hi] at hm
  rcases List.mem_append.1 hm with h1 | h1
  · exact h x h1
  · simp at h1; subst h1; exact hx
theorem getD_mem {α : Type} {xs : List α} {i : Nat} {d : α} (hi : i < xs.length) : xs.getD i d ∈ xs := by
  have := getD_some d hi
  exact List.mem_of_getElem? this
theorem all_end {α : Type} {P : α → Prop} {xs : List α} {i : Nat} (h : ∀ x ∈ xs.take i, P x) (hi : xs.length ≤ i) : ∀ x ∈ xs, P x := by
  rwa [List.take_of_length_le hi] at h
theorem mem_get {α : Type} {xs : List α} {x d : α} (h : x ∈ xs) : ∃ i, i < xs.length ∧ xs.getD i d = x := by
  obtain ⟨i, hi⟩ := List.mem_iff_getElem?.1 h
  have hlt := (List.getElem?_eq_some_iff.1 hi).1
  exact ⟨i, hlt, by have := getD_some d hlt; rw [hi] at this; exact (Option.some.inj this).symm⟩
theorem getD_take {α : Type} {xs : List α} {i n : Nat} {d : α} (h : i < n) : (xs.take n).getD i d = xs.getD i d := by
  simp only [List.getD_eq_getElem?_getD, List.getElem?_take, h, if_true]
theorem take_mem {α : Type} {xs : List α} {n : Nat} {x d : α} (h : x ∈ xs.take n) : ∃ i, i < n ∧ i < xs.length ∧ xs.getD i d = x := by
  obtain ⟨i, h1, h2⟩ := mem_get (d := d) h
  have h3 : i < n ∧ i < xs.length := by simp at h1; omega
  exact ⟨i, h3.1, h3.2, by rw [← h2, getD_take h3.1]⟩
theorem mem_take {α : Type} {xs : List α} {i n : Nat} {d : α} (h : i < n) (h2 : i < xs.length) : xs.getD i d ∈ xs.take n := by
  rw [← getD_take h]; exact getD_mem (by simp; omega)
theorem getD_set {α : Type} {xs : List α} {i j : Nat} {a d : α} (hi : i < xs.length) : (xs.set i a).getD j d = if i = j then a else xs.getD j d := by
  simp only [List.getD_eq_getElem?_getD, List.getElem?_set, hi, if_true]
  split <;> rfl
theorem ext_getD {α : Type} {xs ys : List α} (d : α) (hl : xs.length = ys.length) (h : ∀ i, i < xs.length → xs.getD i d = ys.getD i d) : xs = ys := by
  apply List.ext_getElem hl
  intro i h1 h2
  have := h i h1
  simpa [List.getD_eq_getElem?_getD, List.getElem?_eq_getElem h1, List.getElem?_eq_getElem h2] using this
theorem getD_map_range {α : Type} {n i : Nat} {f : Nat → α} {d : α} (h : i < n) : ((List.range n).map f).getD i d = f i := by simp [List.getD_eq_getElem?_getD, h]

theorem c_areWithin {s : St} [Wf s] {id_xs off_xs len_xs : Nat} {xs : List Int} [h_xs : ArgE ic s id_xs off_xs xs] (hl_xs : xs.length = len_xs := by first | rfl | simp | omega | (simp; omega)) {a b : Int} (hb : len_xs ≤ 9223372036854775807 := by omega) : FnB 88 [.c (.sl id_xs off_xs len_xs), iv a, iv b] s (∀ x ∈ xs, a ≤ x ∧ x ≤ b) := by
  refine F_start code88 ?_
  repeat' (first
 | refine A_go rfl ?_ | refine A_ifT rfl rfl ?_ | refine A_ifF rfl rfl ?_
 | refine A_add rfl rfl rfl (by omega) ?_
 | ((first | refine A_lt rfl rfl rfl ?_ ?_) <;> intro hc <;> try first | contradiction | (exfalso; omega) | exact absurd rfl hc)
 | refine A_idxN1 rfl rfl rfl (by omega) ?_ | refine A_idx1 rfl rfl rfl (by omega) ?_
 | refine A_p (by rfl) rfl ?_
 | refine A_ldI rfl (by first | omega | (simp; done) | (simp; omega)) rfl ?_ | refine A_ldB rfl (by first | omega | (simp; done) | (simp; omega)) rfl ?_ | refine A_ld rfl (by rfl) rfl ?_
 | refine A_ret1 rfl (by exact (RP.t rfl RP.nil)) ?_)
  refine A_loop rfl [] (fun m fr L => ∃ i, i ≤ len_xs ∧ m = len_xs - i ∧ fr = [(1, iv a), (2, iv b), (9, .c (.sl id_xs off_xs len_xs)), (10, iv len_xs), (11, iv i)] ∧ L = [] ∧ ∀ x ∈ xs.take i, a ≤ x ∧ x ≤ b) len_xs ⟨0, by omega, rfl, rfl, rfl, by simp⟩ ?_
  rintro m fr L ⟨i, hi, rfl, rfl, rfl, ht⟩
  repeat' (first
 | refine A_go rfl ?_ | refine A_ifT rfl rfl ?_ | refine A_ifF rfl rfl ?_
 | refine A_add rfl rfl rfl (by omega) ?_
 | ((first | refine A_lt rfl rfl rfl ?_ ?_) <;> intro hc <;> try first | contradiction | (exfalso; omega) | exact absurd rfl hc)
 | refine A_idxN1 rfl rfl rfl (by omega) ?_ | refine A_idx1 rfl rfl rfl (by omega) ?_
 | (refine A_callB rfl rfl (fun s H => c_within) ?_ ?_ <;> intro hc <;> try first | contradiction | (exfalso; omega) | exact absurd rfl hc | exact absurd (And.intro rfl rfl) hc | exact absurd (And.intro rfl (And.intro rfl rfl)) hc | exact absurd (Eq.trans (by assumption) (Eq.symm (by assumption))) hc)
 | refine A_p (by rfl) rfl ?_
 | refine A_ldI rfl (by first | omega | (simp; done) | (simp; omega)) rfl ?_ | refine A_ldB rfl (by first | omega | (simp; done) | (simp; omega)) rfl ?_ | refine A_ld rfl (by rfl) rfl ?_
 | refine A_ret1 rfl (by exact (RP.t rfl RP.nil)) ?_)
  · refine A_round rfl [] (len_xs - (i + 1)) (by omega) ?_
    exact ⟨i + 1, by omega, rfl, rfl, rfl, all_succ ht (by omega) (by assumption)⟩
  · exact R_f fun h => by have := h _ (getD_mem (d := 0) (by omega : i < xs.length)); contradiction
  · exact R_t (all_end ht (by omega))
theorem c_areMany {s : St} [Wf s] {id_xs off_xs len_xs : Nat} {xs : List Int} [h_xs : ArgE ic s id_xs off_xs xs] (hl_xs : xs.length = len_xs := by first | rfl | simp | omega | (simp; omega)) {few many a b : Int} (hb : len_xs ≤ 9223372036854775807 := by omega) : FnB 68 [.c (.sl id_xs off_xs len_xs), iv few, iv many, iv a, iv b] s ((few ≤ len_xs ∧ len_xs ≤ many) ∧ ∀ x ∈ xs, a ≤ x ∧ x ≤ b) := by
  refine F_start code68 ?_
  repeat' (first
 | refine A_go rfl ?_ | refine A_ifT rfl rfl ?_ | refine A_ifF rfl rfl ?_
 | refine A_offP rfl rfl ?_ | refine A_offH rfl rfl ?_ | refine A_off0 rfl rfl ?_
 | (refine A_callB rfl rfl (fun s H => c_within) ?_ ?_ <;> intro hc <;> try first | contradiction | (exfalso; omega) | exact absurd rfl hc | exact absurd (And.intro rfl rfl) hc | exact absurd (And.intro rfl (And.intro rfl rfl)) hc | exact absurd (Eq.trans (by assumption) (Eq.symm (by assumption))) hc)
 | (refine A_callB rfl rfl (fun s H => c_areWithin) ?_ ?_ <;> intro hc <;> try first | contradiction | (exfalso; omega) | exact absurd rfl hc | exact absurd (And.intro rfl rfl) hc | exact absurd (And.intro rfl (And.intro rfl rfl)) hc | exact absurd (Eq.trans (by assumption) (Eq.symm (by assumption))) hc)
 | refine A_p (by rfl) rfl ?_
 | refine A_ret1 rfl (by exact (RP.t rfl RP.nil)) ?_)
  all_goals first | exact R_t ⟨by assumption, by assumption⟩ | exact R_f (fun h => absurd h.1 (by assumption)) | exact R_f (fun h => absurd h.2 (by assumption))
/-- A field that is valid. -/
def VF (r c : Int) (xs : List Int) : Prop := (1 ≤ r ∧ r ≤ 24) ∧ (1 ≤ c ∧ c ≤ 24) ∧ (xs.length : Int) = r * c ∧ ∀ x ∈ xs, 0 ≤ x ∧ x ≤ 9
theorem side_mul {r c : Int} (hr : 0 ≤ r ∧ r ≤ 24) (hc : 0 ≤ c ∧ c ≤ 24) : 0 ≤ r * c ∧ r * c ≤ 576 := by
  have h1 := Int.mul_nonneg hr.1 hc.1
  have h2 := Int.mul_le_mul hr.2 hc.2 hc.1 (by omega : (0 : Int) ≤ 24)
  omega
theorem wrap_id {n : Int} (h : -9223372036854775808 ≤ n ∧ n ≤ 9223372036854775807) : IntKind.wrap .i64 n = n := wrap_in h
theorem pow_le {b n : Nat} (hb : b ≤ 3) (hn : n ≤ 30) : b ^ n ≤ 205891132094649 :=
  Nat.le_trans (Nat.pow_le_pow_left hb n) (Nat.le_trans (Nat.pow_le_pow_right (by omega) hn) (by decide))
theorem pow_cast {b i : Nat} : ((b ^ i : Nat) : Int) * (b : Int) = ((b ^ (i + 1) : Nat) : Int) := by rw [Nat.pow_succ]; push_cast; rfl
theorem c_raised {s : St} [Wf s] {b0 n0 : Int} (hb : 0 ≤ b0 ∧ b0 ≤ 3 := by omega) (hn : 0 ≤ n0 ∧ n0 ≤ 30 := by omega) : FnV 67 [iv b0, iv n0] s (iv ((b0.toNat ^ n0.toNat : Nat) : Int)) := by
  obtain ⟨b, rfl⟩ : ∃ n : Nat, b0 = n := ⟨b0.toNat, by omega⟩
  obtain ⟨n, rfl⟩ : ∃ n : Nat, n0 = n := ⟨n0.toNat, by omega⟩
  simp only [Int.toNat_natCast]
  refine F_start code67 ?_
  repeat' (first
 | refine A_go rfl ?_ | refine A_ifT rfl rfl ?_ | refine A_ifF rfl rfl ?_
 | refine A_add rfl rfl rfl (by omega) ?_ | refine A_mul rfl rfl rfl (by omega) ?_
 | ((first | refine A_lt rfl rfl rfl ?_ ?_) <;> intro hc <;> try first | contradiction | (exfalso; omega) | exact absurd rfl hc)
 | refine A_p (by rfl) rfl ?_
 | refine A_ret1 rfl (by exact (RP.t rfl RP.nil)) ?_)
  refine A_loop rfl [] (fun m fr L => ∃ (i : Nat) (j : Int), m = n - i ∧ fr = [(0, iv b), (5, iv j), (6, iv n), (7, iv i)] ∧ L = [] ∧ i ≤ n ∧ j = ((b ^ i : Nat) : Int)) n ⟨0, 1, rfl, rfl, rfl, by omega, by simp⟩ ?_
  rintro m fr L ⟨i, j, rfl, rfl, rfl, hi, hj⟩
  by_cases hin : i < n
  · have h1 := pow_le (b := b) (n := i + 1) (by omega) (by omega)
    have h2 := pow_cast (b := b) (i := i)
    rw [← hj] at h2
    repeat' (first
 | refine A_go rfl ?_ | refine A_ifT rfl rfl ?_ | refine A_ifF rfl rfl ?_
 | refine A_add rfl rfl rfl (by omega) ?_ | refine A_mul rfl rfl rfl (by omega) ?_
 | ((first | refine A_lt rfl rfl rfl ?_ ?_) <;> intro hc <;> try first | contradiction | (exfalso; omega) | exact absurd rfl hc)
 | refine A_p (by rfl) rfl ?_
 | refine A_ret1 rfl (by exact (RP.t rfl RP.nil)) ?_)
    refine A_round rfl [] (n - (i + 1)) (by omega) ?_
    exact ⟨i + 1, _, rfl, rfl, rfl, by omega, h2⟩
  · obtain rfl : n = i := by omega
    repeat' (first
 | refine A_go rfl ?_ | refine A_ifT rfl rfl ?_ | refine A_ifF rfl rfl ?_
 | refine A_add rfl rfl rfl (by omega) ?_ | refine A_mul rfl rfl rfl (by omega) ?_
 | ((first | refine A_lt rfl rfl rfl ?_ ?_) <;> intro hc <;> try first | contradiction | (exfalso; omega) | exact absurd rfl hc)
 | refine A_p (by rfl) rfl ?_
 | refine A_ret1 rfl (by exact (RP.t rfl RP.nil)) ?_)
    exact R_v (by rw [hj])
theorem c_l02Powers {s : St} [Wf s] {b0 n0 : Int} (hb : 0 ≤ b0 ∧ b0 ≤ 3 := by omega) (hn : 0 ≤ n0 ∧ n0 ≤ 30 := by omega) : FnV 71 [iv b0, iv n0] s (iv ((b0.toNat ^ n0.toNat : Nat) : Int)) := by
  obtain ⟨b, rfl⟩ : ∃ n : Nat, b0 = n := ⟨b0.toNat, by omega⟩
  obtain ⟨n, rfl⟩ : ∃ n : Nat, n0 = n := ⟨n0.toNat, by omega⟩
  simp only [Int.toNat_natCast]
  refine F_start code71 ?_
  repeat' (first
 | refine A_go rfl ?_ | refine A_ifT rfl rfl ?_ | refine A_ifF rfl rfl ?_
 | refine A_sub rfl rfl rfl (by omega) ?_ | refine A_mul rfl rfl rfl (by omega) ?_
 | ((first | refine A_gt rfl rfl rfl ?_ ?_) <;> intro hc <;> try first | contradiction | (exfalso; omega) | exact absurd rfl hc)
 | refine A_p (by rfl) rfl ?_
 | refine A_ret1 rfl (by exact (RP.t rfl RP.nil)) ?_)
  refine A_loop rfl [] (fun m fr L => ∃ (i : Nat) (j t : Int), m = n - i ∧ fr = [(0, iv b), (1, iv t), (5, iv j)] ∧ L = [] ∧ i ≤ n ∧ j = ((b ^ i : Nat) : Int) ∧ t = (n : Int) - i) n ⟨0, 1, n, rfl, rfl, rfl, by omega, by simp, by omega⟩ ?_
  rintro m fr L ⟨i, j, t, rfl, rfl, rfl, hi, hj, ht⟩
  by_cases hin : i < n
  · have h1 := pow_le (b := b) (n := i + 1) (by omega) (by omega)
    have h2 := pow_cast (b := b) (i := i)
    rw [← hj] at h2
    repeat' (first
 | refine A_go rfl ?_ | refine A_ifT rfl rfl ?_ | refine A_ifF rfl rfl ?_
 | refine A_sub rfl rfl rfl (by omega) ?_ | refine A_mul rfl rfl rfl (by omega) ?_
 | ((first | refine A_gt rfl rfl rfl ?_ ?_) <;> intro hc <;> try first | contradiction | (exfalso; omega) | exact absurd rfl hc)
 | refine A_p (by rfl) rfl ?_
 | refine A_ret1 rfl (by exact (RP.t rfl RP.nil)) ?_)
    refine A_round rfl [] (n - (i + 1)) (by omega) ?_
    exact ⟨i + 1, _, _, rfl, rfl, rfl, by omega, h2, by omega⟩
  · obtain rfl : n = i := by omega
    repeat' (first
 | refine A_go rfl ?_ | refine A_ifT rfl rfl ?_ | refine A_ifF rfl rfl ?_
 | refine A_sub rfl rfl rfl (by omega) ?_ | refine A_mul rfl rfl rfl (by omega) ?_
 | ((first | refine A_gt rfl rfl rfl ?_ ?_) <;> intro hc <;> try first | contradiction | (exfalso; omega) | exact absurd rfl hc)
 | refine A_p (by rfl) rfl ?_
 | refine A_ret1 rfl (by exact (RP.t rfl RP.nil)) ?_)
    exact R_v (by rw [hj])
theorem c_l03Power {s : St} [Wf s] {b0 n0 : Int} (hb : 0 ≤ b0 ∧ b0 ≤ 3 := by omega) (hn : 0 ≤ n0 ∧ n0 ≤ 30 := by omega) : FnV 58 [iv b0, iv n0] s (iv ((b0.toNat ^ n0.toNat : Nat) : Int)) := by
  obtain ⟨b, rfl⟩ : ∃ n : Nat, b0 = n := ⟨b0.toNat, by omega⟩
  obtain ⟨n, rfl⟩ : ∃ n : Nat, n0 = n := ⟨n0.toNat, by omega⟩
  simp only [Int.toNat_natCast]
  refine F_start code58 ?_
  repeat' (first
 | refine A_go rfl ?_ | refine A_ifT rfl rfl ?_ | refine A_ifF rfl rfl ?_
 | refine A_sub rfl rfl rfl (by omega) ?_ | refine A_mul rfl rfl rfl (by omega) ?_
 | ((first | refine A_gt rfl rfl rfl ?_ ?_) <;> intro hc <;> try first | contradiction | (exfalso; omega) | exact absurd rfl hc)
 | refine A_p (by rfl) rfl ?_
 | refine A_ret1 rfl (by exact (RP.t rfl RP.nil)) ?_)
  refine A_loop rfl [] (fun m fr L => ∃ (i : Nat) (j t : Int), m = n - i ∧ fr = [(0, iv b), (1, iv t), (5, iv j)] ∧ L = [] ∧ i ≤ n ∧ j = ((b ^ i : Nat) : Int) ∧ t = (n : Int) - i) n ⟨0, 1, n, rfl, rfl, rfl, by omega, by simp, by omega⟩ ?_
  rintro m fr L ⟨i, j, t, rfl, rfl, rfl, hi, hj, ht⟩
  by_cases hin : i < n
  · have h1 := pow_le (b := b) (n := i + 1) (by omega) (by omega)
    have h2 := pow_cast (b := b) (i := i)
    rw [← hj] at h2
    repeat' (first
 | refine A_go rfl ?_ | refine A_ifT rfl rfl ?_ | refine A_ifF rfl rfl ?_
 | refine A_sub rfl rfl rfl (by omega) ?_ | refine A_mul rfl rfl rfl (by omega) ?_
 | ((first | refine A_gt rfl rfl rfl ?_ ?_) <;> intro hc <;> try first | contradiction | (exfalso; omega) | exact absurd rfl hc)
 | refine A_p (by rfl) rfl ?_
 | refine A_ret1 rfl (by exact (RP.t rfl RP.nil)) ?_)
    refine A_round rfl [] (n - (i + 1)) (by omega) ?_
    exact ⟨i + 1, _, _, rfl, rfl, rfl, by omega, h2, by omega⟩
  · obtain rfl : n = i := by omega
    repeat' (first
 | refine A_go rfl ?_ | refine A_ifT rfl rfl ?_ | refine A_ifF rfl rfl ?_
 | refine A_sub rfl rfl rfl (by omega) ?_ | refine A_mul rfl rfl rfl (by omega) ?_
 | ((first | refine A_gt rfl rfl rfl ?_ ?_) <;> intro hc <;> try first | contradiction | (exfalso; omega) | exact absurd rfl hc)
 | refine A_p (by rfl) rfl ?_
 | refine A_ret1 rfl (by exact (RP.t rfl RP.nil)) ?_)
    exact R_v (by rw [hj])
theorem c_areStates {s : St} [Wf s] {n : Int} : FnB 65 [iv n] s (2 ≤ n ∧ n ≤ 3) := by
  refine F_start code65 ?_
  repeat' (first
 | refine A_go rfl ?_ | refine A_ifT rfl rfl ?_ | refine A_ifF rfl rfl ?_
 | refine A_offP rfl rfl ?_ | refine A_offH rfl rfl ?_ | refine A_off0 rfl rfl ?_
 | ((first | refine A_eq rfl rfl rfl ?_ ?_) <;> intro hc <;> try first | contradiction | (exfalso; omega) | exact absurd rfl hc)
 | refine A_p (by rfl) rfl ?_
 | refine A_ret1 rfl (by exact (RP.t rfl RP.nil)) ?_)
  all_goals first | exact R_t ⟨by omega, by omega⟩ | exact R_f (by omega)
theorem c_isReach {s : St} [Wf s] {n : Int} : FnB 66 [iv n] s (0 ≤ n ∧ n ≤ 2) := by
  refine F_start code66 ?_
  repeat' (first
 | refine A_go rfl ?_ | refine A_ifT rfl rfl ?_ | refine A_ifF rfl rfl ?_
 | (refine A_callB rfl rfl (fun s H => c_within) ?_ ?_ <;> intro hc <;> try first | contradiction | (exfalso; omega) | exact absurd rfl hc | exact absurd (And.intro rfl rfl) hc | exact absurd (And.intro rfl (And.intro rfl rfl)) hc | exact absurd (Eq.trans (by assumption) (Eq.symm (by assumption))) hc)
 | refine A_p (by rfl) rfl ?_
 | refine A_ret1 rfl (by exact (RP.t rfl RP.nil)) ?_)
  all_goals first | exact R_t (by assumption) | exact R_f (by assumption)
theorem c_cells {s : St} [Wf s] {st re : Int} {v : AC} (h : 0 ≤ re ∧ re ≤ 2 := by omega) : FnV 61 [.agg [ic st, ic re, v]] s (iv (2 * re + 1)) := by
  refine F_start code61 ?_
  repeat' (first
 | refine A_go rfl ?_ | refine A_ifT rfl rfl ?_ | refine A_ifF rfl rfl ?_
 | refine A_add rfl rfl rfl (by omega) ?_ | refine A_mul rfl rfl rfl (by omega) ?_
 | refine A_fld rfl rfl ?_ | refine A_p (by rfl) rfl ?_
 | refine A_ldI rfl (by first | omega | (simp; done) | (simp; omega)) rfl ?_ | refine A_ldB rfl (by first | omega | (simp; done) | (simp; omega)) rfl ?_ | refine A_ld rfl (by rfl) rfl ?_
 | ((first | refine A_box rfl rfl ?_ | refine A_boxC rfl rfl ?_) <;> intro pz hpz)
 | refine A_ret1 rfl (by exact (RP.t rfl RP.nil)) ?_)
  exact R_v rfl
/-- A rule that is valid: states, reach, table. -/
def VR (st re : Int) (xs : List Int) : Prop := (2 ≤ st ∧ st ≤ 3) ∧ (0 ≤ re ∧ re ≤ 2) ∧ xs.length = st.toNat ^ (2 * re + 1).toNat ∧ ∀ x ∈ xs, 0 ≤ x ∧ x ≤ st - 1
theorem c_ValidRule {s : St} [Wf s] {st re : Int} {id_xs off_xs len_xs : Nat} {xs : List Int} [h_xs : ArgE ic s id_xs off_xs xs] (hl_xs : xs.length = len_xs := by first | rfl | simp | omega | (simp; omega)) (hb : len_xs ≤ 9223372036854775807 := by omega) : FnB 39 [.agg [ic st, ic re, .sl id_xs off_xs len_xs]] s (VR st re xs) := by
  refine F_start code39 ?_
  by_cases h1 : 2 ≤ st ∧ st ≤ 3
  case neg =>
    repeat' (first
 | refine A_go rfl ?_ | refine A_ifT rfl rfl ?_ | refine A_ifF rfl rfl ?_
 | refine A_offP rfl rfl ?_ | refine A_offH rfl rfl ?_ | refine A_off0 rfl rfl ?_
 | refine A_sub rfl rfl rfl (by omega) ?_
 | (refine A_callB rfl rfl (fun s H => c_areStates) ?_ ?_ <;> intro hc <;> try first | contradiction | (exfalso; omega) | exact absurd rfl hc | exact absurd (And.intro rfl rfl) hc | exact absurd (And.intro rfl (And.intro rfl rfl)) hc | exact absurd (Eq.trans (by assumption) (Eq.symm (by assumption))) hc)
 | refine A_fld rfl rfl ?_ | refine A_p (by rfl) rfl ?_
 | refine A_ldI rfl (by first | omega | (simp; done) | (simp; omega)) rfl ?_ | refine A_ldB rfl (by first | omega | (simp; done) | (simp; omega)) rfl ?_ | refine A_ld rfl (by rfl) rfl ?_
 | refine A_ldW rfl (by simp) rfl ?_
 | ((first | refine A_box rfl rfl ?_ | refine A_boxC rfl rfl ?_) <;> intro pz hpz)
 | refine A_chk1 rfl rfl rfl ?_ | refine A_chk2 rfl rfl rfl rfl ?_ | refine A_chk3 rfl rfl rfl rfl rfl ?_ | refine A_chk4 rfl rfl rfl rfl rfl rfl ?_ | refine A_chkI rfl (by assumption) rfl (by simp) ?_
 | refine A_ret1 rfl (by exact (RP.t rfl RP.nil)) ?_)
    exact R_f fun h => h1 h.1
  by_cases h2 : 0 ≤ re ∧ re ≤ 2
  case neg =>
    repeat' (first
 | refine A_go rfl ?_ | refine A_ifT rfl rfl ?_ | refine A_ifF rfl rfl ?_
 | refine A_offP rfl rfl ?_ | refine A_offH rfl rfl ?_ | refine A_off0 rfl rfl ?_
 | refine A_sub rfl rfl rfl (by omega) ?_
 | (refine A_callB rfl rfl (fun s H => c_areStates) ?_ ?_ <;> intro hc <;> try first | contradiction | (exfalso; omega) | exact absurd rfl hc | exact absurd (And.intro rfl rfl) hc | exact absurd (And.intro rfl (And.intro rfl rfl)) hc | exact absurd (Eq.trans (by assumption) (Eq.symm (by assumption))) hc)
 | (refine A_callB rfl rfl (fun s H => c_isReach) ?_ ?_ <;> intro hc <;> try first | contradiction | (exfalso; omega) | exact absurd rfl hc | exact absurd (And.intro rfl rfl) hc | exact absurd (And.intro rfl (And.intro rfl rfl)) hc | exact absurd (Eq.trans (by assumption) (Eq.symm (by assumption))) hc)
 | refine A_fld rfl rfl ?_ | refine A_p (by rfl) rfl ?_
 | refine A_ldI rfl (by first | omega | (simp; done) | (simp; omega)) rfl ?_ | refine A_ldB rfl (by first | omega | (simp; done) | (simp; omega)) rfl ?_ | refine A_ld rfl (by rfl) rfl ?_
 | refine A_ldW rfl (by simp) rfl ?_
 | ((first | refine A_box rfl rfl ?_ | refine A_boxC rfl rfl ?_) <;> intro pz hpz)
 | refine A_chk1 rfl rfl rfl ?_ | refine A_chk2 rfl rfl rfl rfl ?_ | refine A_chk3 rfl rfl rfl rfl rfl ?_ | refine A_chk4 rfl rfl rfl rfl rfl rfl ?_ | refine A_chkI rfl (by assumption) rfl (by simp) ?_
 | refine A_ret1 rfl (by exact (RP.t rfl RP.nil)) ?_)
    exact R_f fun h => h2 h.2.1
  repeat' (first
 | refine A_go rfl ?_ | refine A_ifT rfl rfl ?_ | refine A_ifF rfl rfl ?_
 | refine A_offP rfl rfl ?_ | refine A_offH rfl rfl ?_ | refine A_off0 rfl rfl ?_
 | refine A_sub rfl rfl rfl (by omega) ?_
 | (refine A_callB rfl rfl (fun s H => c_areStates) ?_ ?_ <;> intro hc <;> try first | contradiction | (exfalso; omega) | exact absurd rfl hc | exact absurd (And.intro rfl rfl) hc | exact absurd (And.intro rfl (And.intro rfl rfl)) hc | exact absurd (Eq.trans (by assumption) (Eq.symm (by assumption))) hc)
 | (refine A_callB rfl rfl (fun s H => c_isReach) ?_ ?_ <;> intro hc <;> try first | contradiction | (exfalso; omega) | exact absurd rfl hc | exact absurd (And.intro rfl rfl) hc | exact absurd (And.intro rfl (And.intro rfl rfl)) hc | exact absurd (Eq.trans (by assumption) (Eq.symm (by assumption))) hc)
 | refine A_callV rfl rfl (fun s H => c_cells) ?_
 | refine A_callV rfl rfl (fun s H => c_raised) ?_
 | (refine A_callB rfl rfl (fun s H => c_areMany) ?_ ?_ <;> intro hc <;> try first | contradiction | (exfalso; omega) | exact absurd rfl hc | exact absurd (And.intro rfl rfl) hc | exact absurd (And.intro rfl (And.intro rfl rfl)) hc | exact absurd (Eq.trans (by assumption) (Eq.symm (by assumption))) hc)
 | refine A_fld rfl rfl ?_ | refine A_p (by rfl) rfl ?_
 | refine A_ldI rfl (by first | omega | (simp; done) | (simp; omega)) rfl ?_ | refine A_ldB rfl (by first | omega | (simp; done) | (simp; omega)) rfl ?_ | refine A_ld rfl (by rfl) rfl ?_
 | refine A_ldW rfl (by simp) rfl ?_
 | ((first | refine A_box rfl rfl ?_ | refine A_boxC rfl rfl ?_) <;> intro pz hpz)
 | refine A_chk1 rfl rfl rfl ?_ | refine A_chk2 rfl rfl rfl rfl ?_ | refine A_chk3 rfl rfl rfl rfl rfl ?_ | refine A_chk4 rfl rfl rfl rfl rfl rfl ?_ | refine A_chkI rfl (by assumption) rfl (by simp) ?_
 | refine A_ret1 rfl (by exact (RP.t rfl RP.nil)) ?_)
  · exact R_t ⟨h1, h2, by omega, hc.2⟩
  · exact R_f fun h => hc ⟨by have := h.2.2.1; omega, h.2.2.2⟩
theorem c_l02Is {s : St} [Wf s] {p : Nat} {st re : Int} {id_xs off_xs len_xs : Nat} {xs : List Int} [hp : Ref s p [ic st, ic re, .sl id_xs off_xs len_xs]] [h_xs : ArgE ic s id_xs off_xs xs] (hl_xs : xs.length = len_xs := by first | rfl | simp | omega | (simp; omega)) (hb : len_xs ≤ 9223372036854775807 := by omega) : FnB 47 [.c (.ptr p 0)] s (VR st re xs) := by
  refine F_start code47 ?_
  by_cases h1 : 2 ≤ st ∧ st ≤ 3
  case neg =>
    repeat' (first
 | refine A_go rfl ?_ | refine A_ifT rfl rfl ?_ | refine A_ifF rfl rfl ?_
 | refine A_offP rfl rfl ?_ | refine A_offH rfl rfl ?_ | refine A_off0 rfl rfl ?_
 | refine A_add rfl rfl rfl (by omega) ?_ | refine A_sub rfl rfl rfl (by omega) ?_ | refine A_mul rfl rfl rfl (by omega) ?_
 | ((first | refine A_lt rfl rfl rfl ?_ ?_ | refine A_ne rfl rfl rfl ?_ ?_) <;> intro hc <;> try first | contradiction | (exfalso; omega) | exact absurd rfl hc)
 | refine A_idxN1 rfl rfl rfl (by omega) ?_ | refine A_idx1 rfl rfl rfl (by omega) ?_
 | (refine A_callB rfl rfl (fun s H => c_l00In) ?_ ?_ <;> intro hc <;> try first | contradiction | (exfalso; omega) | exact absurd rfl hc | exact absurd (And.intro rfl rfl) hc | exact absurd (And.intro rfl (And.intro rfl rfl)) hc | exact absurd (Eq.trans (by assumption) (Eq.symm (by assumption))) hc)
 | refine A_fld rfl rfl ?_ | refine A_p (by rfl) rfl ?_
 | refine A_ldI rfl (by first | omega | (simp; done) | (simp; omega)) rfl ?_ | refine A_ldB rfl (by first | omega | (simp; done) | (simp; omega)) rfl ?_ | refine A_ld rfl (by rfl) rfl ?_
 | refine A_chk1 rfl rfl rfl ?_ | refine A_chk2 rfl rfl rfl rfl ?_ | refine A_chk3 rfl rfl rfl rfl rfl ?_ | refine A_chk4 rfl rfl rfl rfl rfl rfl ?_ | refine A_chkI rfl (by assumption) rfl (by simp) ?_
 | refine A_ret1 rfl (by exact (RP.t rfl RP.nil)) ?_)
    exact R_f fun h => h1 h.1
  by_cases h2 : 0 ≤ re ∧ re ≤ 2
  case neg =>
    repeat' (first
 | refine A_go rfl ?_ | refine A_ifT rfl rfl ?_ | refine A_ifF rfl rfl ?_
 | refine A_offP rfl rfl ?_ | refine A_offH rfl rfl ?_ | refine A_off0 rfl rfl ?_
 | refine A_add rfl rfl rfl (by omega) ?_ | refine A_sub rfl rfl rfl (by omega) ?_ | refine A_mul rfl rfl rfl (by omega) ?_
 | ((first | refine A_lt rfl rfl rfl ?_ ?_ | refine A_ne rfl rfl rfl ?_ ?_) <;> intro hc <;> try first | contradiction | (exfalso; omega) | exact absurd rfl hc)
 | refine A_idxN1 rfl rfl rfl (by omega) ?_ | refine A_idx1 rfl rfl rfl (by omega) ?_
 | (refine A_callB rfl rfl (fun s H => c_l00In) ?_ ?_ <;> intro hc <;> try first | contradiction | (exfalso; omega) | exact absurd rfl hc | exact absurd (And.intro rfl rfl) hc | exact absurd (And.intro rfl (And.intro rfl rfl)) hc | exact absurd (Eq.trans (by assumption) (Eq.symm (by assumption))) hc)
 | refine A_fld rfl rfl ?_ | refine A_p (by rfl) rfl ?_
 | refine A_ldI rfl (by first | omega | (simp; done) | (simp; omega)) rfl ?_ | refine A_ldB rfl (by first | omega | (simp; done) | (simp; omega)) rfl ?_ | refine A_ld rfl (by rfl) rfl ?_
 | refine A_chk1 rfl rfl rfl ?_ | refine A_chk2 rfl rfl rfl rfl ?_ | refine A_chk3 rfl rfl rfl rfl rfl ?_ | refine A_chk4 rfl rfl rfl rfl rfl rfl ?_ | refine A_chkI rfl (by assumption) rfl (by simp) ?_
 | refine A_ret1 rfl (by exact (RP.t rfl RP.nil)) ?_)
    exact R_f fun h => h2 h.2.1
  repeat' (first
 | refine A_go rfl ?_ | refine A_ifT rfl rfl ?_ | refine A_ifF rfl rfl ?_
 | refine A_offP rfl rfl ?_ | refine A_offH rfl rfl ?_ | refine A_off0 rfl rfl ?_
 | refine A_add rfl rfl rfl (by omega) ?_ | refine A_sub rfl rfl rfl (by omega) ?_ | refine A_mul rfl rfl rfl (by omega) ?_
 | ((first | refine A_lt rfl rfl rfl ?_ ?_ | refine A_ne rfl rfl rfl ?_ ?_) <;> intro hc <;> try first | contradiction | (exfalso; omega) | exact absurd rfl hc)
 | refine A_idxN1 rfl rfl rfl (by omega) ?_ | refine A_idx1 rfl rfl rfl (by omega) ?_
 | (refine A_callB rfl rfl (fun s H => c_l00In) ?_ ?_ <;> intro hc <;> try first | contradiction | (exfalso; omega) | exact absurd rfl hc | exact absurd (And.intro rfl rfl) hc | exact absurd (And.intro rfl (And.intro rfl rfl)) hc | exact absurd (Eq.trans (by assumption) (Eq.symm (by assumption))) hc)
 | refine A_callV rfl rfl (fun s H => c_l02Powers) ?_
 | refine A_fld rfl rfl ?_ | refine A_p (by rfl) rfl ?_
 | refine A_ldI rfl (by first | omega | (simp; done) | (simp; omega)) rfl ?_ | refine A_ldB rfl (by first | omega | (simp; done) | (simp; omega)) rfl ?_ | refine A_ld rfl (by rfl) rfl ?_
 | refine A_chk1 rfl rfl rfl ?_ | refine A_chk2 rfl rfl rfl rfl ?_ | refine A_chk3 rfl rfl rfl rfl rfl ?_ | refine A_chk4 rfl rfl rfl rfl rfl rfl ?_ | refine A_chkI rfl (by assumption) rfl (by simp) ?_
 | refine A_ret1 rfl (by exact (RP.t rfl RP.nil)) ?_)
  · exact R_f fun h => by have := h.2.2.1; omega
  refine A_loop rfl [] (fun m fr L => ∃ i : Nat, m = len_xs - i ∧ fr = [(0, .c (.ptr p 0)), (3, iv i)] ∧ L = [] ∧ i ≤ len_xs ∧ ∀ x ∈ xs.take i, 0 ≤ x ∧ x ≤ st - 1) len_xs ⟨0, rfl, rfl, rfl, by omega, by simp⟩ ?_
  rintro m fr L ⟨i, rfl, rfl, rfl, hi, ht⟩
  repeat' (first
 | refine A_go rfl ?_ | refine A_ifT rfl rfl ?_ | refine A_ifF rfl rfl ?_
 | refine A_offP rfl rfl ?_ | refine A_offH rfl rfl ?_ | refine A_off0 rfl rfl ?_
 | refine A_add rfl rfl rfl (by omega) ?_ | refine A_sub rfl rfl rfl (by omega) ?_ | refine A_mul rfl rfl rfl (by omega) ?_
 | ((first | refine A_lt rfl rfl rfl ?_ ?_ | refine A_ne rfl rfl rfl ?_ ?_) <;> intro hc <;> try first | contradiction | (exfalso; omega) | exact absurd rfl hc)
 | refine A_idxN1 rfl rfl rfl (by omega) ?_ | refine A_idx1 rfl rfl rfl (by omega) ?_
 | (refine A_callB rfl rfl (fun s H => c_l00In) ?_ ?_ <;> intro hc <;> try first | contradiction | (exfalso; omega) | exact absurd rfl hc | exact absurd (And.intro rfl rfl) hc | exact absurd (And.intro rfl (And.intro rfl rfl)) hc | exact absurd (Eq.trans (by assumption) (Eq.symm (by assumption))) hc)
 | refine A_fld rfl rfl ?_ | refine A_p (by rfl) rfl ?_
 | refine A_ldI rfl (by first | omega | (simp; done) | (simp; omega)) rfl ?_ | refine A_ldB rfl (by first | omega | (simp; done) | (simp; omega)) rfl ?_ | refine A_ld rfl (by rfl) rfl ?_
 | refine A_chk1 rfl rfl rfl ?_ | refine A_chk2 rfl rfl rfl rfl ?_ | refine A_chk3 rfl rfl rfl rfl rfl ?_ | refine A_chk4 rfl rfl rfl rfl rfl rfl ?_ | refine A_chkI rfl (by assumption) rfl (by simp) ?_
 | refine A_ret1 rfl (by exact (RP.t rfl RP.nil)) ?_)
  · refine A_round rfl [] (len_xs - (i + 1)) (by omega) ?_
    exact ⟨i + 1, rfl, rfl, rfl, by omega, all_succ ht (by omega) (by assumption)⟩
  · exact R_f fun h => by have := h.2.2.2 _ (getD_mem (d := 0) (by omega : i < xs.length)); contradiction
  · exact R_t ⟨h1, h2, by omega, all_end ht (by omega)⟩

/-- The cells of a field by a function of rows and columns. -/
def mk (r c : Nat) (g : Int → Int → Int) : List Int := (List.range (r * c)).map fun n => g ((n / c : Nat) : Int) ((n % c : Nat) : Int)
@[simp] theorem mk_len {r c : Nat} {g : Int → Int → Int} : (mk r c g).length = r * c := by simp [mk]
theorem lt_mul {r c i k : Nat} (hi : i < r) (hk : k < c) : i * c + k < r * c := by
  have : (i + 1) * c ≤ r * c := Nat.mul_le_mul_right c hi
  rw [Nat.add_mul] at this; omega
theorem mk_get {r c i k : Nat} {g : Int → Int → Int} (hi : i < r) (hk : k < c) : (mk r c g).getD (i * c + k) 0 = g i k := by
  have h := lt_mul hi hk
  unfold mk
  rw [getD_map_range h]
  have h1 : (i * c + k) / c = i := by rw [Nat.mul_comm, Nat.mul_add_div (by omega), Nat.div_eq_of_lt hk, Nat.add_zero]
  have h2 : (i * c + k) % c = k := by rw [Nat.mul_comm, Nat.mul_add_mod, Nat.mod_eq_of_lt hk]
  rw [h1, h2]
theorem div_mod_lt {r c n : Nat} (h : n < r * c) : n / c < r ∧ n % c < c ∧ n / c * c + n % c = n := by
  have hc : 0 < c := by rcases Nat.eq_zero_or_pos c with e | e; subst e; simp at h; exact e
  refine ⟨Nat.div_lt_of_lt_mul (by rw [Nat.mul_comm]; exact h), Nat.mod_lt _ hc, ?_⟩
  rw [Nat.mul_comm]; exact Nat.div_add_mod n c
theorem mk_eq {r c : Nat} {g : Int → Int → Int} {xs : List Int} (hl : xs.length = r * c) (h : ∀ i k, i < r → k < c → xs.getD (i * c + k) 0 = g i k) : xs = mk r c g := by
  refine ext_getD 0 (by simp [hl]) fun n hn => ?_
  obtain ⟨h1, h2, h3⟩ := div_mod_lt (hl ▸ hn)
  rw [← h3, h _ _ h1 h2, mk_get h1 h2]
theorem mk_ext {r c : Nat} {g g' : Int → Int → Int} (h : ∀ i k : Nat, i < r → k < c → g i k = g' i k) : mk r c g = mk r c g' :=
  mk_eq (by simp) fun i k hi hk => by rw [mk_get hi hk, h i k hi hk]
/-- Ahead of cell 'n'. -/
theorem mk_snoc {r c n : Nat} {g : Int → Int → Int} (h : n < r * c) : (mk r c g).take n ++ [(mk r c g).getD n 0] = (mk r c g).take (n + 1) := by
  rw [List.take_add_one, getD_some 0 (by simpa using h)]; rfl
theorem mk_full {r c : Nat} {g : Int → Int → Int} : (mk r c g).take (r * c) = mk r c g := List.take_of_length_le (by simp)
theorem mk_cell {r c i k : Nat} {g : Int → Int → Int} {P : Int → Prop} (h : ∀ i k : Nat, i < r → k < c → P (g i k)) : ∀ x ∈ mk r c g, P x := by
  intro x hx
  obtain ⟨n, hn, rfl⟩ := mem_get (d := 0) hx
  obtain ⟨h1, h2, h3⟩ := div_mod_lt (by simpa using hn)
  rw [← h3, mk_get h1 h2]; exact h _ _ h1 h2
/-- One of two, by a sentence. -/
noncomputable def sel {α : Type} (P : Prop) (a b : α) : α := bif tt P then a else b
theorem sel_t {α : Type} {P : Prop} (h : P) {a b : α} : sel P a b = a := by simp [sel, tt_t h]
theorem sel_f {α : Type} {P : Prop} (h : ¬ P) {a b : α} : sel P a b = b := by simp [sel, tt_f h]
abbrev fld (r c : Int) (p n : Nat) : List AC := [ic r, ic c, .sl p 0 n]
/-- A field and whether there is one. -/
abbrev FldRes (P : Prop) (r c : Int) (ys : List Int) (R : AV) (N : Objs) : Prop :=
  ∃ p, R = .tup [.agg (fld (sel P r 0) (sel P c 0) p (sel P ys []).length), .c (.bool (tt P))] ∧ N = [(p, ints (sel P ys []))] ∧ (sel P ys []).length ≤ 600
abbrev IntsRes (P : Prop) (ys : List Int) (R : AV) (N : Objs) : Prop :=
  ∃ p, R = .tup [.c (.sl p 0 (sel P ys []).length), .c (.bool (tt P))] ∧ N = [(p, ints (sel P ys []))] ∧ (sel P ys []).length ≤ 100000
theorem R_fld {P : Prop} {r c : Int} {ys : List Int} {p n : Nat} {L : Objs} (h : P) (hn : ys.length = n) (hb : n ≤ 600) [hs : Sub [(p, ints ys)] L] : ∃ N, FldRes P r c ys (.tup [.agg [ic r, ic c, .sl p 0 n], .c (.bool true)]) N ∧ Sub N L :=
  ⟨_, ⟨p, by subst hn; simp only [sel_t h, tt_t h], by rw [sel_t h], by rw [sel_t h]; omega⟩, hs⟩
theorem R_fldN {P : Prop} {r c : Int} {ys : List Int} {L : Objs} (h : ¬ P) : ∃ N, FldRes P r c ys (.tup [.agg [ic 0, ic 0, .sl 0 0 0], .c (.bool false)]) N ∧ Sub N L :=
  ⟨_, ⟨0, by simp only [sel_f h, tt_f h, List.length_nil], rfl, by simp [sel_f h]⟩, by rw [sel_f h]; exact inferInstance⟩
theorem R_ints {P : Prop} {ys : List Int} {p n : Nat} {L : Objs} (h : P) (hn : ys.length = n) (hb : n ≤ 100000) [hs : Sub [(p, ints ys)] L] : ∃ N, IntsRes P ys (.tup [.c (.sl p 0 n), .c (.bool true)]) N ∧ Sub N L :=
  ⟨_, ⟨p, by subst hn; simp only [sel_t h, tt_t h], by rw [sel_t h], by rw [sel_t h]; omega⟩, hs⟩
theorem R_intsN {P : Prop} {ys : List Int} {L : Objs} (h : ¬ P) : ∃ N, IntsRes P ys (.tup [.c (.sl 0 0 0), .c (.bool false)]) N ∧ Sub N L :=
  ⟨_, ⟨0, by simp only [sel_f h, tt_f h, List.length_nil], rfl, by simp [sel_f h]⟩, by rw [sel_f h]; exact inferInstance⟩
/-- A number, and whether there is one. -/
noncomputable abbrev numV (P : Prop) (n : Int) : AV := .tup [.c (ic (sel P n 0)), .c (.bool (tt P))]
theorem R_num {P : Prop} {n n' : Int} {L : Objs} (h : P) (hn : n = n') : ∃ N, ((.tup [.c (ic n), .c (.bool true)] : AV) = numV P n' ∧ N = []) ∧ Sub N L := ⟨[], ⟨by simp only [numV, sel_t h, tt_t h, hn], rfl⟩, subN⟩
theorem R_numN {P : Prop} {n : Int} {L : Objs} (h : ¬ P) : ∃ N, ((.tup [.c (ic 0), .c (.bool false)] : AV) = numV P n ∧ N = []) ∧ Sub N L := ⟨[], ⟨by simp only [numV, sel_f h, tt_f h], rfl⟩, subN⟩
noncomputable abbrev boolV (P Q : Prop) : AV := .tup [.c (.bool (tt (P ∧ Q))), .c (.bool (tt P))]
theorem R_bt {P Q : Prop} {L : Objs} (h : P) (hq : Q) : ∃ N, ((.tup [.c (.bool true), .c (.bool true)] : AV) = boolV P Q ∧ N = []) ∧ Sub N L := ⟨[], ⟨by simp only [boolV, tt_t h, tt_t (show P ∧ Q from ⟨h, hq⟩)], rfl⟩, subN⟩
theorem R_bf {P Q : Prop} {L : Objs} (h : P) (hq : ¬ Q) : ∃ N, ((.tup [.c (.bool false), .c (.bool true)] : AV) = boolV P Q ∧ N = []) ∧ Sub N L := ⟨[], ⟨by simp only [boolV, tt_t h, tt_f (show ¬ (P ∧ Q) from fun h => hq h.2)], rfl⟩, subN⟩
theorem R_bn {P Q : Prop} {L : Objs} (h : ¬ P) : ∃ N, ((.tup [.c (.bool false), .c (.bool false)] : AV) = boolV P Q ∧ N = []) ∧ Sub N L := ⟨[], ⟨by simp only [boolV, tt_f h, tt_f (show ¬ (P ∧ Q) from fun k => h k.1)], rfl⟩, subN⟩
/-- A field, a number, and whether there are such. -/
abbrev FldNum (P : Prop) (r c : Int) (ys : List Int) (n : Int) (R : AV) (N : Objs) : Prop :=
  ∃ p, R = .tup [.agg (fld (sel P r 0) (sel P c 0) p (sel P ys []).length), .c (ic (sel P n 0)), .c (.bool (tt P))] ∧ N = [(p, ints (sel P ys []))] ∧ (sel P ys []).length ≤ 600
theorem R_fldNum {P : Prop} {r c n n' : Int} {ys : List Int} {p m : Nat} {L : Objs} (h : P) (hn' : n' = n) (hn : ys.length = m) (hb : m ≤ 600) [hs : Sub [(p, ints ys)] L] : ∃ N, FldNum P r c ys n (.tup [.agg [ic r, ic c, .sl p 0 m], .c (ic n'), .c (.bool true)]) N ∧ Sub N L :=
  ⟨_, ⟨p, by subst hn; subst hn'; simp only [sel_t h, tt_t h], by rw [sel_t h], by rw [sel_t h]; omega⟩, hs⟩
theorem R_fldNumN {P : Prop} {r c n : Int} {ys : List Int} {L : Objs} (h : ¬ P) : ∃ N, FldNum P r c ys n (.tup [.agg [ic 0, ic 0, .sl 0 0 0], .c (ic 0), .c (.bool false)]) N ∧ Sub N L :=
  ⟨_, ⟨0, by simp only [sel_f h, tt_f h, List.length_nil], rfl, by simp [sel_f h]⟩, by rw [sel_f h]; exact inferInstance⟩
abbrev IntsNum (P : Prop) (ys : List Int) (n : Int) (R : AV) (N : Objs) : Prop :=
  ∃ p, R = .tup [.c (.sl p 0 (sel P ys []).length), .c (ic (sel P n 0)), .c (.bool (tt P))] ∧ N = [(p, ints (sel P ys []))] ∧ (sel P ys []).length ≤ 100000
theorem R_intsNum {P : Prop} {n n' : Int} {ys : List Int} {p m : Nat} {L : Objs} (h : P) (hn' : n' = n) (hn : ys.length = m) (hb : m ≤ 100000) [hs : Sub [(p, ints ys)] L] : ∃ N, IntsNum P ys n (.tup [.c (.sl p 0 m), .c (ic n'), .c (.bool true)]) N ∧ Sub N L :=
  ⟨_, ⟨p, by subst hn; subst hn'; simp only [sel_t h, tt_t h], by rw [sel_t h], by rw [sel_t h]; omega⟩, hs⟩
theorem R_intsNumN {P : Prop} {n : Int} {ys : List Int} {L : Objs} (h : ¬ P) : ∃ N, IntsNum P ys n (.tup [.c (.sl 0 0 0), .c (ic 0), .c (.bool false)]) N ∧ Sub N L :=
  ⟨_, ⟨0, by simp only [sel_f h, tt_f h, List.length_nil], rfl, by simp [sel_f h]⟩, by rw [sel_f h]; exact inferInstance⟩
/-- Two numbers, and whether there are such. -/
noncomputable abbrev num2V (P : Prop) (n m : Int) : AV := .tup [.c (ic (sel P n 0)), .c (ic (sel P m 0)), .c (.bool (tt P))]
theorem R_num2 {P : Prop} {n n' m m' : Int} {L : Objs} (h : P) (hn : n = n') (hm : m = m') : ∃ N, ((.tup [.c (ic n), .c (ic m), .c (.bool true)] : AV) = num2V P n' m' ∧ N = []) ∧ Sub N L := ⟨[], ⟨by simp only [num2V, sel_t h, tt_t h, hn, hm], rfl⟩, subN⟩
theorem R_num2N {P : Prop} {n m : Int} {L : Objs} (h : ¬ P) : ∃ N, ((.tup [.c (ic 0), .c (ic 0), .c (.bool false)] : AV) = num2V P n m ∧ N = []) ∧ Sub N L := ⟨[], ⟨by simp only [num2V, sel_f h, tt_f h], rfl⟩, subN⟩
/-- The first number of which something is true. -/
noncomputable def endOf (Q : Nat → Prop) : Nat := Classical.epsilon fun n => (∀ m, m < n → ¬ Q m) ∧ Q n
theorem endOf_eq {Q : Nat → Prop} {n : Nat} (h1 : ∀ m, m < n → ¬ Q m) (h2 : Q n) : endOf Q = n := by
  have h : (∀ m, m < endOf Q → ¬ Q m) ∧ Q (endOf Q) := Classical.epsilon_spec (p := fun n => (∀ m, m < n → ¬ Q m) ∧ Q n) ⟨n, h1, h2⟩
  rcases Nat.lt_trichotomy (endOf Q) n with g | g | g
  · exact absurd h.2 (h1 _ g)
  · exact g
  · exact absurd h2 (h.1 _ g)

def dgt (S n t : Nat) : Int := ((n / S ^ t % S : Nat) : Int)
/-- The digits of 'n', 'w' of them, the greatest first. -/
def dg (S n w : Nat) : List Int := (List.range w).map fun i => dgt S n (w - 1 - i)
@[simp] theorem dg_len {S n w : Nat} : (dg S n w).length = w := by simp [dg]
theorem dg_get {S n w i : Nat} (h : i < w) : (dg S n w).getD i 0 = dgt S n (w - 1 - i) := getD_map_range h
theorem dgt_in {S n t : Nat} (h : 0 < S) : 0 ≤ dgt S n t ∧ dgt S n t ≤ (S : Int) - 1 := by
  have := Nat.mod_lt (n / S ^ t) h
  unfold dgt; omega
theorem dg_mem {S n w : Nat} (h : 0 < S) : ∀ x ∈ dg S n w, 0 ≤ x ∧ x ≤ (S : Int) - 1 := by
  intro x hx
  obtain ⟨i, hi, rfl⟩ := mem_get (d := 0) hx
  rw [dg_get (by simpa using hi)]; exact dgt_in h
theorem dg_done {S n w : Nat} {ys : List Int} (hl : ys.length = w) (h : ∀ t, t < w → ys.getD (w - 1 - t) 0 = dgt S n t) : ys = dg S n w := by
  refine ext_getD 0 (by simp [hl]) fun i hi => ?_
  have := h (w - 1 - i) (by omega)
  rw [show w - 1 - (w - 1 - i) = i by omega] at this
  rw [this, dg_get (by omega)]
theorem dg_step {S n j : Nat} {a : Int} (ha : a = ((n / S ^ j : Nat) : Int)) : a / (S : Int) = ((n / S ^ (j + 1) : Nat) : Int) ∧ a % (S : Int) = dgt S n j := by
  subst ha
  rw [Nat.pow_succ, ← Nat.div_div_eq_div_mul]
  exact ⟨by push_cast; rfl, by unfold dgt; push_cast; rfl⟩
theorem dg_set {S n w j : Nat} {ys : List Int} {i : Int} {v : Int} (hl : ys.length = w) (hj : j < w) (hi : i = (w : Int) - 1 - j) (hv : v = dgt S n j) (h : ∀ t, t < j → ys.getD (w - 1 - t) 0 = dgt S n t) : ∀ t, t < j + 1 → (ys.set i.toNat v).getD (w - 1 - t) 0 = dgt S n t := by
  intro t ht
  rw [getD_set (by omega)]
  by_cases e : t = j
  · subst e; rw [if_pos (by omega), hv]
  · rw [if_neg (by omega)]; exact h t (by omega)
theorem c_digitsOf {s : St} [Wf s] {n S w : Nat} (hn : n ≤ 4611686018427387904 := by omega) (hS : 2 ≤ S ∧ S ≤ 3 := by omega) (hw : w ≤ 64 := by omega) : Fn [] 63 [iv n, iv S, iv w] s fun R N => ∃ p, R = .c (.sl p 0 w) ∧ N = [(p, ints (dg S n w))] := by
  refine F_start code63 ?_
  repeat' (first
 | refine A_go rfl ?_ | refine A_ifT rfl rfl ?_ | refine A_ifF rfl rfl ?_
 | refine A_sub rfl rfl rfl (by omega) ?_ | refine A_rem rfl rfl rfl (by omega) ?_ | refine A_remT rfl rfl rfl (by omega) ?_ | refine A_quo rfl rfl rfl (by omega) ?_
 | ((first | refine A_ge rfl rfl rfl ?_ ?_) <;> intro hc <;> try first | contradiction | (exfalso; omega) | exact absurd rfl hc)
 | refine A_idxN1 rfl rfl rfl (by omega) ?_ | refine A_idx1 rfl rfl rfl (by omega) ?_
 | refine A_p (by rfl) rfl ?_
 | refine A_st rfl rfl rfl ?_ | refine A_stE rfl rfl (by first | omega | (simp; done) | (simp; omega)) rfl ?_
 | ((first | refine A_makeN rfl rfl rfl (by omega) ?_ | refine A_make rfl rfl rfl (by omega) ?_) <;> intro pz hpz)
 | refine A_ret1 rfl (by exact (RP.t rfl RP.nil)) ?_)
  refine A_loop rfl [pz] (fun m fr L => ∃ (j : Nat) (a i : Int) (ys : List Int), m = w - j ∧ fr = [(0, iv a), (1, iv S), (7, .c (.sl pz 0 w)), (8, iv i)] ∧ L = [(pz, ints ys)] ∧ j ≤ w ∧ ys.length = w ∧ a = ((n / S ^ j : Nat) : Int) ∧ i = (w : Int) - 1 - j ∧ ∀ t, t < j → ys.getD (w - 1 - t) 0 = dgt S n t) w ⟨0, n, _, _, rfl, rfl, rfl, by omega, by simp, by simp, by omega, fun t ht => by omega⟩ ?_
  rintro m fr L ⟨j, a, i, ys, rfl, rfl, rfl, hj, hy, ha, hi, hd⟩
  have hle : a ≤ (n : Int) := by rw [ha]; have := Nat.div_le_self n (S ^ j); omega
  have h0 : 0 ≤ a := by rw [ha]; exact Int.natCast_nonneg _
  obtain ⟨e1, e2⟩ := dg_step ha
  clear ha
  repeat' (first
 | refine A_go rfl ?_ | refine A_ifT rfl rfl ?_ | refine A_ifF rfl rfl ?_
 | refine A_sub rfl rfl rfl (by omega) ?_ | refine A_rem rfl rfl rfl (by omega) ?_ | refine A_remT rfl rfl rfl (by omega) ?_ | refine A_quo rfl rfl rfl (by omega) ?_
 | ((first | refine A_ge rfl rfl rfl ?_ ?_) <;> intro hc <;> try first | contradiction | (exfalso; omega) | exact absurd rfl hc)
 | refine A_idxN1 rfl rfl rfl (by omega) ?_ | refine A_idx1 rfl rfl rfl (by omega) ?_
 | refine A_p (by rfl) rfl ?_
 | refine A_st rfl rfl rfl ?_ | refine A_stE rfl rfl (by first | omega | (simp; done) | (simp; omega)) rfl ?_
 | ((first | refine A_makeN rfl rfl rfl (by omega) ?_ | refine A_make rfl rfl rfl (by omega) ?_) <;> intro pz hpz)
 | refine A_ret1 rfl (by exact (RP.t rfl RP.nil)) ?_)
  · refine A_round rfl [pz] (w - (j + 1)) (by omega) ?_
    exact ⟨j + 1, _, _, _, rfl, rfl, rfl, by omega, by simp [hy], e1, by omega, dg_set hy (by omega) hi e2 hd⟩
  · obtain rfl : w = j := by omega
    obtain rfl := dg_done hy hd
    exact R_s ⟨_, rfl, rfl⟩
/-- The number with these first digits. -/
def nmN (S : Nat) (ys : List Int) : Nat → Nat
  | 0 => 0
  | m + 1 => nmN S ys m * S + (ys.getD m 0).toNat
abbrev nm (S : Nat) (ys : List Int) : Nat := nmN S ys ys.length
def DG (S : Nat) (ys : List Int) : Prop := ∀ x ∈ ys, 0 ≤ x ∧ x ≤ (S : Int) - 1
theorem nm_lt {S : Nat} {ys : List Int} (hS : 0 < S) (h : DG S ys) : ∀ m, m ≤ ys.length → nmN S ys m < S ^ m
  | 0, _ => by simp [nmN]
  | m + 1, hm => by
    have ih := nm_lt hS h m (by omega)
    have hc := h _ (getD_mem (d := 0) (by omega : m < ys.length))
    have h1 : (nmN S ys m + 1) * S ≤ S ^ m * S := Nat.mul_le_mul_right S ih
    rw [Nat.add_mul] at h1
    rw [nmN, Nat.pow_succ]; omega
theorem nm_step {S : Nat} {ys : List Int} (h : DG S ys) {m : Nat} (hm : m < ys.length) : ((nmN S ys m : Nat) : Int) * (S : Int) + ys.getD m 0 = ((nmN S ys (m + 1) : Nat) : Int) := by
  have hc := h _ (getD_mem (d := 0) hm)
  rw [nmN]; push_cast; rw [Int.toNat_of_nonneg hc.1]
theorem nm_small {S : Nat} {ys : List Int} (hS : 2 ≤ S ∧ S ≤ 3) (h : DG S ys) (hl : ys.length ≤ 30) {m : Nat} (hm : m ≤ ys.length) : nmN S ys m ≤ 205891132094649 := by
  have h1 := nm_lt (by omega) h m hm
  have h2 := pow_le (b := S) (n := m) (by omega) (by omega)
  omega
/-- The sum of the first numbers. -/
def smN (ys : List Int) : Nat → Int
  | 0 => 0
  | m + 1 => smN ys m + ys.getD m 0
abbrev sm (ys : List Int) : Int := smN ys ys.length
theorem sm_in {ys : List Int} {b : Int} (hb : 0 ≤ b) (h : ∀ x ∈ ys, -b ≤ x ∧ x ≤ b) : ∀ m : Nat, m ≤ ys.length → -(m * b) ≤ smN ys m ∧ smN ys m ≤ m * b
  | 0, _ => by simp [smN]
  | m + 1, hm => by
    have ih := sm_in hb h m (by omega)
    have hc := h _ (getD_mem (d := 0) (by omega : m < ys.length))
    have e : ((m + 1 : Nat) : Int) * b = m * b + b := by push_cast; rw [Int.add_mul, Int.one_mul]
    rw [smN, e]; omega
theorem ext_take {xs ys : List Int} {i : Nat} (hn : xs.take i = ys.take i) (h1 : i < xs.length) (h2 : i < ys.length) (h : xs.getD i 0 = ys.getD i 0) : xs.take (i + 1) = ys.take (i + 1) := by
  rw [List.take_add_one, List.take_add_one, hn, getD_some 0 h1, getD_some 0 h2, h]
theorem c_eqInt64S {s : St} [Wf s] {id off len id2 off2 len2 : Nat} {xs ys : List Int} [hx : ArgE ic s id off xs] [hy : ArgE ic s id2 off2 ys] (hl : xs.length = len := by first | rfl | simp | omega | (simp; omega)) (hl2 : ys.length = len2 := by first | rfl | simp | omega | (simp; omega)) (hb : len ≤ 2000000 := by omega) :
    FnB 21 [.c (.sl id off len), .c (.sl id2 off2 len2)] s (xs = ys) := by
  refine F_start code21 ?_
  repeat' (first
 | refine A_go rfl ?_ | refine A_ifT rfl rfl ?_ | refine A_ifF rfl rfl ?_
 | refine A_add rfl rfl rfl (by omega) ?_
 | ((first | refine A_lt rfl rfl rfl ?_ ?_ | refine A_ne rfl rfl rfl ?_ ?_) <;> intro hc <;> try first | contradiction | (exfalso; omega) | exact absurd rfl hc)
 | refine A_idxN1 rfl rfl rfl (by omega) ?_ | refine A_idx1 rfl rfl rfl (by omega) ?_
 | refine A_p (by rfl) rfl ?_
 | refine A_ldI rfl (by first | omega | (simp; done) | (simp; omega)) rfl ?_ | refine A_ldB rfl (by first | omega | (simp; done) | (simp; omega)) rfl ?_ | refine A_ld rfl (by rfl) rfl ?_
 | refine A_ret1 rfl (by exact (RP.t rfl RP.nil)) ?_)
  · exact R_f (fun e => by subst e; omega)
  refine A_loop rfl [] (fun m fr L => ∃ i, i ≤ len ∧ m = len - i ∧ fr = [(0, .c (.sl id off len)), (1, .c (.sl id2 off2 len2)), (5, iv i)] ∧ L = [] ∧ xs.take i = ys.take i) len ⟨0, by omega, rfl, rfl, rfl, by simp⟩ ?_
  rintro m fr L ⟨i, hi, rfl, rfl, rfl, ht⟩
  repeat' (first
 | refine A_go rfl ?_ | refine A_ifT rfl rfl ?_ | refine A_ifF rfl rfl ?_
 | refine A_add rfl rfl rfl (by omega) ?_
 | ((first | refine A_lt rfl rfl rfl ?_ ?_ | refine A_ne rfl rfl rfl ?_ ?_) <;> intro hc <;> try first | contradiction | (exfalso; omega) | exact absurd rfl hc)
 | refine A_idxN1 rfl rfl rfl (by omega) ?_ | refine A_idx1 rfl rfl rfl (by omega) ?_
 | refine A_p (by rfl) rfl ?_
 | refine A_ldI rfl (by first | omega | (simp; done) | (simp; omega)) rfl ?_ | refine A_ldB rfl (by first | omega | (simp; done) | (simp; omega)) rfl ?_ | refine A_ld rfl (by rfl) rfl ?_
 | refine A_ret1 rfl (by exact (RP.t rfl RP.nil)) ?_)
  · exact R_f (fun e => by subst e; omega)
  · refine A_round rfl [] (len - (i + 1)) (by omega) ?_
    exact ⟨i + 1, by omega, rfl, rfl, rfl, ext_take ht (by omega) (by omega) (by assumption)⟩
  · exact R_t (take_end ht (by omega) (by omega))

theorem c_szInt64S {s : St} [Wf s] {id off n : Nat} {left : Int} (hl : 0 ≤ left ∧ left ≤ 2000000 := by omega) (hn : n ≤ 9223372036854775807 := by omega) : Fn [] 46 [.c (.sl id off n), iv left] s fun r N => (∃ l', r = iv l' ∧ l' ≤ left ∧ (l' < 0 ∨ l' = left - n)) ∧ N = [] := by
  refine F_start code46 ?_
  repeat' (first
 | refine A_go rfl ?_ | refine A_ifT rfl rfl ?_ | refine A_ifF rfl rfl ?_
 | refine A_sub rfl rfl rfl (by omega) ?_
 | ((first | refine A_lt rfl rfl rfl ?_ ?_) <;> intro hc <;> try first | contradiction | (exfalso; omega) | exact absurd rfl hc)
 | refine A_p (by rfl) rfl ?_
 | refine A_ret1 rfl (by exact (RP.t rfl RP.nil)) ?_)
  · exact R_n [] ⟨⟨_, rfl, by omega, .inl (by omega)⟩, rfl⟩
  · exact R_n [] ⟨⟨_, rfl, by omega, .inr rfl⟩, rfl⟩

/-- Numbers that rise by one. -/
def marks (k : Int) (n : Nat) : List Int := (List.range n).map fun i : Nat => k + (i : Int)
@[simp] theorem marks_len {k : Int} {n : Nat} : (marks k n).length = n := by simp [marks]
theorem marks_get {k : Int} {n i : Nat} (h : i < n) : (marks k n).getD i 0 = k + i := by simp [marks, List.getD_eq_getElem?_getD, h]
theorem c_markInt64S {s : St} [Wf s] {p len : Nat} {xs : List Int} {k : Int} [hx : Bor s p (ints xs)] (hl : xs.length = len := by first | rfl | simp | omega | (simp; omega)) (hb : 0 ≤ k ∧ k + len ≤ 9223372036854775807 := by omega) :
    Fn [p] 24 [.c (.sl p 0 len), iv k] s fun r N => r = iv (k + len) ∧ N = [(p, ints (marks k len))] := by
  refine F_start1 code24 ?_
  repeat' (first
 | refine A_go rfl ?_ | refine A_ifT rfl rfl ?_ | refine A_ifF rfl rfl ?_
 | refine A_add rfl rfl rfl (by omega) ?_
 | ((first | refine A_lt rfl rfl rfl ?_ ?_) <;> intro hc <;> try first | contradiction | (exfalso; omega) | exact absurd rfl hc)
 | refine A_idxN1 rfl rfl rfl (by omega) ?_ | refine A_idx1 rfl rfl rfl (by omega) ?_
 | refine A_p (by rfl) rfl ?_
 | refine A_st rfl rfl rfl ?_ | refine A_stE rfl rfl (by first | omega | (simp; done) | (simp; omega)) rfl ?_
 | refine A_ret1 rfl (by exact (RP.t rfl RP.nil)) ?_)
  refine A_loop rfl [p] (fun m fr L => ∃ i j ys, i ≤ len ∧ m = len - i ∧ fr = [(0, .c (.sl p 0 len)), (1, iv j), (5, iv i)] ∧ j = k + i ∧ L = [(p, ints ys)] ∧ ys.length = len ∧ ys.take i = (marks k len).take i) len ⟨0, _, _, by omega, rfl, rfl, by omega, rfl, by first | assumption | simp, by simp⟩ ?_
  rintro m fr L ⟨i, j, ys, hi, rfl, rfl, rfl, rfl, hy, ht⟩
  repeat' (first
 | refine A_go rfl ?_ | refine A_ifT rfl rfl ?_ | refine A_ifF rfl rfl ?_
 | refine A_add rfl rfl rfl (by omega) ?_
 | ((first | refine A_lt rfl rfl rfl ?_ ?_) <;> intro hc <;> try first | contradiction | (exfalso; omega) | exact absurd rfl hc)
 | refine A_idxN1 rfl rfl rfl (by omega) ?_ | refine A_idx1 rfl rfl rfl (by omega) ?_
 | refine A_p (by rfl) rfl ?_
 | refine A_st rfl rfl rfl ?_ | refine A_stE rfl rfl (by first | omega | (simp; done) | (simp; omega)) rfl ?_
 | refine A_ret1 rfl (by exact (RP.t rfl RP.nil)) ?_)
  · refine A_round rfl [p] (len - (i + 1)) (by omega) ?_
    refine ⟨i + 1, _, _, by omega, rfl, rfl, by omega, rfl, by simp [hy], ?_⟩
    · rw [← marks_get (n := len) (by omega)]; exact take_set ht (by omega) (by simp; omega)
  · have hi' : i = len := by omega
    subst hi'
    obtain rfl := take_end ht (by omega) (by simp)
    exact R_n [p] ⟨rfl, rfl⟩
theorem c_heldInt64S {s : St} [Wf s] {id off len n : Nat} {k k' : Int} [hx : ArgE ic s id off (marks k n)] (hl : n = len := by first | rfl | simp | omega) (hk : k' = k := by first | rfl | omega) (hb : 0 ≤ k ∧ k + n ≤ 9223372036854775807 := by omega) :
    FnV 25 [.c (.sl id off len), iv k'] s (iv (k + len)) := by
  subst hl; subst hk
  refine F_start code25 ?_
  repeat' (first
 | refine A_go rfl ?_ | refine A_ifT rfl rfl ?_ | refine A_ifF rfl rfl ?_
 | refine A_add rfl rfl rfl (by omega) ?_
 | ((first | refine A_lt rfl rfl rfl ?_ ?_ | refine A_ne rfl rfl rfl ?_ ?_) <;> intro hc <;> try first | contradiction | (exfalso; omega) | exact absurd rfl hc)
 | refine A_idxN1 rfl rfl rfl (by omega) ?_ | refine A_idx1 rfl rfl rfl (by omega) ?_
 | refine A_p (by rfl) rfl ?_
 | refine A_ldI rfl (by first | omega | (simp; done) | (simp; omega)) rfl ?_ | refine A_ldB rfl (by first | omega | (simp; done) | (simp; omega)) rfl ?_ | refine A_ld rfl (by rfl) rfl ?_
 | refine A_ret1 rfl (by exact (RP.t rfl RP.nil)) ?_)
  refine A_loop rfl [] (fun m fr L => ∃ i j, i ≤ n ∧ m = n - i ∧ fr = [(0, .c (.sl id off n)), (1, iv j), (5, iv i)] ∧ j = k' + i ∧ L = []) n ⟨0, _, by omega, rfl, rfl, by omega, rfl⟩ ?_
  rintro m fr L ⟨i, j, hi, rfl, rfl, rfl, rfl⟩
  by_cases hin : i < n
  · have hm := marks_get (k := k') hin
    repeat' (first
 | refine A_go rfl ?_ | refine A_ifT rfl rfl ?_ | refine A_ifF rfl rfl ?_
 | refine A_add rfl rfl rfl (by omega) ?_
 | ((first | refine A_lt rfl rfl rfl ?_ ?_ | refine A_ne rfl rfl rfl ?_ ?_) <;> intro hc <;> try first | contradiction | (exfalso; omega) | exact absurd rfl hc)
 | refine A_idxN1 rfl rfl rfl (by omega) ?_ | refine A_idx1 rfl rfl rfl (by omega) ?_
 | refine A_p (by rfl) rfl ?_
 | refine A_ldI rfl (by first | omega | (simp; done) | (simp; omega)) rfl ?_ | refine A_ldB rfl (by first | omega | (simp; done) | (simp; omega)) rfl ?_ | refine A_ld rfl (by rfl) rfl ?_
 | refine A_ret1 rfl (by exact (RP.t rfl RP.nil)) ?_)
    refine A_round rfl [] (n - (i + 1)) (by omega) ?_
    exact ⟨i + 1, _, by omega, rfl, rfl, by omega, rfl⟩
  · have hi' : i = n := by omega
    subst hi'
    repeat' (first
 | refine A_go rfl ?_ | refine A_ifT rfl rfl ?_ | refine A_ifF rfl rfl ?_
 | refine A_add rfl rfl rfl (by omega) ?_
 | ((first | refine A_lt rfl rfl rfl ?_ ?_ | refine A_ne rfl rfl rfl ?_ ?_) <;> intro hc <;> try first | contradiction | (exfalso; omega) | exact absurd rfl hc)
 | refine A_idxN1 rfl rfl rfl (by omega) ?_ | refine A_idx1 rfl rfl rfl (by omega) ?_
 | refine A_p (by rfl) rfl ?_
 | refine A_ldI rfl (by first | omega | (simp; done) | (simp; omega)) rfl ?_ | refine A_ldB rfl (by first | omega | (simp; done) | (simp; omega)) rfl ?_ | refine A_ld rfl (by rfl) rfl ?_
 | refine A_ret1 rfl (by exact (RP.t rfl RP.nil)) ?_)
    exact R_v rfl

end Go.Proofs.Ytlmbgaoeplffkaa
