/- Rules that add. -/
import Derived.Test.YtafdjnhlhepibaaXpairs
import Derived.Test.YtafdjnhlhepibaaXequal
import Derived.Test.YtafdjnhlhepibaaFB
namespace Go.Proofs.Ytafdjnhlhepibaa
open Go Go.RowKit
set_option linter.unusedVariables false
set_option linter.unusedSimpArgs false
set_option maxRecDepth 100000
set_option maxHeartbeats 8000000
-- impl.made
def L145 : AFun := ⟨33, [.cell true 3 6],
 (.seq (.ops false [⟨(some 6), .alloc 30 [.int .i64 0, .int .i64 0, .sl 0 0 0], none, []⟩])
 (.seq (.ops false [⟨(some 9), .mv (.t 0), none, []⟩,
   ⟨(some 10), .mv (.t 1), none, []⟩,
   ⟨(some 11), .build [.int .i64 0, .int .i64 0, .sl 0 0 0] [(0, 1, (.t 9)), (1, 1, (.t 10))], none, []⟩,
   ⟨(some 7), .alloc 30 [.int .i64 0, .int .i64 0, .sl 0 0 0], none, []⟩,
   ⟨none, .store 3 (.t 7) (.t 11), none, []⟩])
 (.seq (.seq (.ops false [⟨(some 12), .mv (.t 0), none, []⟩,
    ⟨(some 13), .load true 3 (.t 7), none, []⟩,
    ⟨(some 14), .call (.f 73) [(.t 13)], none, []⟩,
    ⟨(some 15), .call (.f 115) [(.t 12), (.t 14)], none, []⟩,
    ⟨(some 16), .mv (.k (iv 0)), none, []⟩])
  (.block 0 (.loop [0, 2, 6, 7, 15, 16] (.seq (.ops false [⟨(some 17), .bin .lss (.t 16) (.t 15), none, []⟩])
    (.seq (.cond (.t 17) .skip
      (.exit 0))
    (.seq (.block 1 (.seq (.ops false [⟨(some 18), .mv (.t 16), none, []⟩,
        ⟨(some 8), .mv (.t 18), none, []⟩])
      (.ops true [⟨(some 24), .load true 3 (.t 7), none, []⟩,
       ⟨(some 25), .call (.f 73) [(.t 24)], none, []⟩,
       ⟨(some 22), .mv (.t 8), none, []⟩,
       ⟨(some 23), .mv (.t 0), none, []⟩,
       ⟨(some 26), .call (.f 130) [(.t 22), (.t 23), (.t 25)], none, []⟩,
       ⟨(some 21), .mv (.t 2), none, []⟩,
       ⟨(some 27), .call (.t 21) [(.t 26)], none, []⟩,
       ⟨(some 19), .fieldA 2 (.t 7), none, []⟩,
       ⟨(some 20), .load false 1 (.t 19), none, [0, 1, 2]⟩,
       ⟨(some 28), .buildS 2 1 1 [.int .i64 0] [(0, 1, (.t 27))], none, []⟩,
       ⟨(some 29), .append 2 1 8 (.t 20) (.t 28), none, []⟩,
       ⟨(some 30), .fieldA 2 (.t 7), none, []⟩,
       ⟨none, .store 1 (.t 30) (.t 29), none, []⟩])))
    (.ops false [⟨(some 31), .bin .add (.t 16) (.k (iv 1)), none, []⟩,
     ⟨(some 16), .mv (.t 31), none, []⟩])))))))
 (.seq (.ops false [⟨(some 32), .load true 3 (.t 7), none, []⟩,
   ⟨none, .store 3 (.t 6) (.t 32), none, []⟩])
 .ret))))⟩
theorem code145 : acode Try.prog hints 145 = some L145 := by kernel_rfl

-- impl.weighed
def L120 : AFun := ⟨11, [.cell true 3 4],
 (.seq (.ops false [⟨(some 2), .box 2 (.t 0), none, []⟩,
   ⟨(some 3), .box 22 (.t 1), none, []⟩,
   ⟨(some 4), .alloc 30 [.int .i64 0, .int .i64 0, .sl 0 0 0], none, []⟩])
 (.seq (.ops false [⟨(some 5), .load false 1 (.t 2), none, []⟩,
   ⟨(some 6), .load false 1 (.t 3), none, []⟩,
   ⟨(some 7), .len false (.t 6), none, []⟩,
   ⟨(some 8), .bin .quo (.t 7) (.k (iv 2)), none, []⟩,
   ⟨(some 9), .mkFn 146 [(.t 3), (.t 2)], none, []⟩,
   ⟨(some 10), .call (.f 145) [(.t 5), (.t 8), (.t 9)], none, []⟩,
   ⟨none, .store 3 (.t 4) (.t 10), none, []⟩])
 .ret))⟩
theorem code120 : acode Try.prog hints 120 = some L120 := by kernel_rfl

-- impl.weighed$1
def L146 : AFun := ⟨27, [.t 4],
 (.seq (.ops false [⟨(some 4), .mv (.k (iv 0)), none, []⟩])
 (.seq (.ops false [⟨(some 5), .mv (.k (iv 0)), none, []⟩])
 (.seq (.seq (.ops false [⟨(some 8), .load false 1 (.t 1), none, []⟩,
    ⟨(some 9), .len false (.t 8), none, []⟩,
    ⟨(some 10), .mv (.k (iv 0)), none, []⟩])
  (.block 0 (.loop [0, 2, 5, 8, 9, 10] (.seq (.ops false [⟨(some 11), .bin .lss (.t 10) (.t 9), none, []⟩])
    (.seq (.cond (.t 11) .skip
      (.exit 0))
    (.seq (.block 1 (.seq (.ops false [⟨(some 12), .mv (.t 10), none, []⟩,
        ⟨(some 13), .idxA 1 (.t 8) (.t 10), none, []⟩,
        ⟨(some 14), .load false 1 (.t 13), none, []⟩,
        ⟨(some 6), .mv (.t 12), none, []⟩,
        ⟨(some 7), .mv (.t 14), none, []⟩])
      (.ops false [⟨(some 15), .mv (.t 5), none, []⟩,
       ⟨(some 16), .mv (.t 7), none, []⟩,
       ⟨(some 17), .mv (.t 0), none, []⟩,
       ⟨(some 18), .mv (.t 6), none, []⟩,
       ⟨(some 19), .idxA 1 (.t 17) (.t 18), none, []⟩,
       ⟨(some 20), .load false 1 (.t 19), none, []⟩,
       ⟨(some 21), .bin .mul (.t 16) (.t 20), none, []⟩,
       ⟨(some 22), .bin .add (.t 15) (.t 21), none, []⟩,
       ⟨(some 5), .mv (.t 22), none, []⟩])))
    (.ops false [⟨(some 23), .bin .add (.t 10) (.k (iv 1)), none, []⟩,
     ⟨(some 10), .mv (.t 23), none, []⟩])))))))
 (.seq (.ops false [⟨(some 24), .mv (.t 5), none, []⟩,
   ⟨(some 25), .load false 1 (.t 2), none, []⟩,
   ⟨(some 26), .bin .rem (.t 24) (.t 25), none, []⟩,
   ⟨(some 4), .mv (.t 26), none, []⟩])
 .ret))))⟩
theorem code146 : acode Try.prog hints 146 = some L146 := by kernel_rfl

-- (impl.Rule).terms
def L121 : AFun := ⟨25, [.t 2],
 (.seq (.ops false [⟨(some 1), .box 30 (.t 0), none, []⟩,
   ⟨(some 2), .mv (.k (.c (.sl 0 0 0))), none, []⟩])
 (.seq (.ops false [⟨(some 5), .buildS 2 1 0 [.int .i64 0] [], none, []⟩,
   ⟨(some 3), .mv (.t 5), none, []⟩])
 (.seq (.seq (.ops false [⟨(some 6), .load true 3 (.t 1), none, []⟩,
    ⟨(some 7), .call (.f 73) [(.t 6)], none, []⟩,
    ⟨(some 8), .bin .sub (.t 7) (.k (iv 1)), none, []⟩,
    ⟨(some 4), .mv (.t 8), none, []⟩])
  (.block 0 (.loop [1, 3, 4] (.seq (.seq (.ops false [⟨(some 9), .mv (.t 4), none, []⟩,
       ⟨(some 10), .bin .geq (.t 9) (.k (iv 0)), none, []⟩])
     (.cond (.t 10) .skip
      (.exit 0)))
    (.seq (.block 1 (.ops true [⟨(some 16), .fieldA 0 (.t 1), none, []⟩,
       ⟨(some 17), .load false 1 (.t 16), none, []⟩,
       ⟨(some 18), .mv (.t 4), none, []⟩,
       ⟨(some 19), .call (.f 115) [(.t 17), (.t 18)], none, []⟩,
       ⟨(some 13), .mv (.t 3), none, []⟩,
       ⟨(some 14), .fieldA 2 (.t 1), none, []⟩,
       ⟨(some 15), .load false 1 (.t 14), none, [0]⟩,
       ⟨(some 20), .idxA 1 (.t 15) (.t 19), none, []⟩,
       ⟨(some 21), .load false 1 (.t 20), none, []⟩,
       ⟨(some 22), .buildS 2 1 1 [.int .i64 0] [(0, 1, (.t 21))], none, []⟩,
       ⟨(some 23), .append 2 1 8 (.t 13) (.t 22), none, []⟩,
       ⟨(some 3), .mv (.t 23), none, []⟩]))
    (.ops false [⟨(some 11), .mv (.t 4), none, []⟩,
     ⟨(some 12), .bin .sub (.t 11) (.k (iv 1)), none, []⟩,
     ⟨(some 4), .mv (.t 12), none, []⟩]))))))
 (.seq (.ops false [⟨(some 24), .mv (.t 3), none, []⟩,
   ⟨(some 2), .mv (.t 24), none, []⟩])
 .ret))))⟩
theorem code121 : acode Try.prog hints 121 = some L121 := by kernel_rfl

-- (impl.Rule).adds
def L74 : AFun := ⟨10, [.t 2],
 (.seq (.ops false [⟨(some 1), .box 30 (.t 0), none, []⟩,
   ⟨(some 2), .mv (.k (bv false)), none, []⟩])
 (.seq (.ops true [⟨(some 6), .load true 3 (.t 1), none, []⟩,
   ⟨(some 7), .call (.f 121) [(.t 6)], none, []⟩,
   ⟨(some 4), .fieldA 0 (.t 1), none, []⟩,
   ⟨(some 5), .load false 1 (.t 4), none, [0]⟩,
   ⟨(some 8), .call (.f 120) [(.t 5), (.t 7)], none, []⟩,
   ⟨(some 3), .load true 3 (.t 1), none, [0, 1]⟩,
   ⟨(some 9), .call (.f 119) [(.t 3), (.t 8)], none, []⟩,
   ⟨(some 2), .mv (.t 9), none, []⟩])
 .ret))⟩
theorem code74 : acode Try.prog hints 74 = some L74 := by kernel_rfl

-- impl.SameRule
def L119 : AFun := ⟨24, [.t 4],
 (.seq (.ops false [⟨(some 2), .box 30 (.t 0), none, []⟩,
   ⟨(some 3), .box 30 (.t 1), none, []⟩,
   ⟨(some 4), .mv (.k (bv false)), none, []⟩])
 (.seq (.ops false [⟨(some 5), .fieldA 0 (.t 2), none, []⟩,
   ⟨(some 6), .load false 1 (.t 5), none, []⟩,
   ⟨(some 7), .fieldA 0 (.t 3), none, []⟩,
   ⟨(some 8), .load false 1 (.t 7), none, []⟩,
   ⟨(some 9), .bin .eql (.t 6) (.t 8), none, []⟩,
   ⟨(some 10), .mv (.t 9), none, []⟩,
   ⟨(some 11), .fieldA 1 (.t 2), (some (10, true)), []⟩,
   ⟨(some 12), .load false 1 (.t 11), (some (10, true)), []⟩,
   ⟨(some 13), .fieldA 1 (.t 3), (some (10, true)), []⟩,
   ⟨(some 14), .load false 1 (.t 13), (some (10, true)), []⟩,
   ⟨(some 15), .bin .eql (.t 12) (.t 14), (some (10, true)), []⟩,
   ⟨(some 16), .pick (.t 10) (.t 15) (.k (bv false)), none, []⟩,
   ⟨(some 17), .mv (.t 16), none, []⟩,
   ⟨(some 18), .fieldA 2 (.t 2), (some (17, true)), []⟩,
   ⟨(some 19), .load false 1 (.t 18), (some (17, true)), []⟩,
   ⟨(some 20), .fieldA 2 (.t 3), (some (17, true)), []⟩,
   ⟨(some 21), .load false 1 (.t 20), (some (17, true)), []⟩,
   ⟨(some 22), .call (.f 144) [(.t 19), (.t 21)], (some (17, true)), []⟩,
   ⟨(some 23), .pick (.t 17) (.t 22) (.k (bv false)), none, []⟩,
   ⟨(some 4), .mv (.t 23), none, []⟩])
 .ret))⟩
theorem code119 : acode Try.prog hints 119 = some L119 := by kernel_rfl

-- spec.l03Terms
def L68 : AFun := ⟨85, [.t 2, .t 3],
 (.seq (.ops false [⟨(some 2), .mv (.k (.c (.sl 0 0 0))), none, []⟩,
   ⟨(some 3), .mv (.k (bv false)), none, []⟩])
 (.seq (.ops false [⟨(some 11), .mv (.t 0), none, []⟩,
   ⟨(some 12), .call (.f 67) [(.t 11)], none, []⟩,
   ⟨(some 4), .mv (.t 12), none, []⟩])
 (.seq (.ops false [⟨(some 13), .buildS 2 1 0 [.int .i64 0] [], none, []⟩,
   ⟨(some 5), .mv (.t 13), none, []⟩])
 (.seq (.seq (.ops false [⟨(some 6), .mv (.k (iv 0)), none, []⟩])
  (.block 0 (.loop [0, 4, 5, 6] (.seq (.seq (.ops false [⟨(some 14), .mv (.t 6), none, []⟩,
       ⟨(some 15), .mv (.t 4), none, []⟩,
       ⟨(some 16), .bin .lss (.t 14) (.t 15), none, []⟩])
     (.cond (.t 16) .skip
      (.exit 0)))
    (.seq (.block 1 (.ops true [⟨(some 24), .mv (.t 0), none, []⟩,
       ⟨(some 25), .nilChk (.t 24), none, []⟩,
       ⟨(some 26), .fieldA 0 (.t 25), none, []⟩,
       ⟨(some 27), .load false 1 (.t 26), none, []⟩,
       ⟨(some 28), .mv (.t 4), none, []⟩,
       ⟨(some 29), .bin .sub (.t 28) (.k (iv 1)), none, []⟩,
       ⟨(some 30), .mv (.t 6), none, []⟩,
       ⟨(some 31), .bin .sub (.t 29) (.t 30), none, []⟩,
       ⟨(some 32), .call (.f 116) [(.t 27), (.t 31)], none, []⟩,
       ⟨(some 19), .mv (.t 5), none, []⟩,
       ⟨(some 20), .mv (.t 0), none, []⟩,
       ⟨(some 21), .nilChk (.t 20), none, []⟩,
       ⟨(some 22), .fieldA 2 (.t 21), none, []⟩,
       ⟨(some 23), .load false 1 (.t 22), none, [0]⟩,
       ⟨(some 33), .idxA 1 (.t 23) (.t 32), none, []⟩,
       ⟨(some 34), .load false 1 (.t 33), none, []⟩,
       ⟨(some 35), .buildS 2 1 1 [.int .i64 0] [(0, 1, (.t 34))], none, []⟩,
       ⟨(some 36), .append 2 1 8 (.t 19) (.t 35), none, []⟩,
       ⟨(some 5), .mv (.t 36), none, []⟩]))
    (.ops false [⟨(some 17), .mv (.t 6), none, []⟩,
     ⟨(some 18), .bin .add (.t 17) (.k (iv 1)), none, []⟩,
     ⟨(some 6), .mv (.t 18), none, []⟩]))))))
 (.seq (.seq (.ops false [⟨(some 37), .mv (.t 0), none, []⟩,
    ⟨(some 38), .nilChk (.t 37), none, []⟩,
    ⟨(some 39), .fieldA 2 (.t 38), none, []⟩,
    ⟨(some 40), .load false 1 (.t 39), none, []⟩,
    ⟨(some 41), .len false (.t 40), none, []⟩,
    ⟨(some 42), .mv (.k (iv 0)), none, []⟩])
  (.block 2 (.loop [0, 4, 5, 41, 42] (.seq (.ops false [⟨(some 43), .bin .lss (.t 42) (.t 41), none, []⟩])
    (.seq (.cond (.t 43) .skip
      (.exit 2))
    (.seq (.block 3 (.seq (.ops false [⟨(some 44), .mv (.t 42), none, []⟩,
        ⟨(some 7), .mv (.t 44), none, []⟩])
      (.seq (.ops false [⟨(some 45), .mv (.t 7), none, []⟩,
        ⟨(some 46), .mv (.t 0), none, []⟩,
        ⟨(some 47), .nilChk (.t 46), none, []⟩,
        ⟨(some 48), .fieldA 0 (.t 47), none, []⟩,
        ⟨(some 49), .load false 1 (.t 48), none, []⟩,
        ⟨(some 50), .mv (.t 4), none, []⟩,
        ⟨(some 51), .call (.f 117) [(.t 45), (.t 49), (.t 50)], none, []⟩,
        ⟨(some 8), .mv (.t 51), none, []⟩])
      (.seq (.ops false [⟨(some 9), .mv (.k (iv 0)), none, []⟩])
      (.seq (.seq (.ops false [⟨(some 52), .mv (.t 8), none, []⟩,
         ⟨(some 53), .len false (.t 52), none, []⟩,
         ⟨(some 54), .mv (.k (iv 0)), none, []⟩])
       (.block 4 (.loop [0, 4, 5, 7, 8, 9, 41, 42, 53, 54] (.seq (.ops false [⟨(some 55), .bin .lss (.t 54) (.t 53), none, []⟩])
         (.seq (.cond (.t 55) .skip
           (.exit 4))
         (.seq (.block 5 (.seq (.ops false [⟨(some 56), .mv (.t 54), none, []⟩,
             ⟨(some 10), .mv (.t 56), none, []⟩])
           (.ops true [⟨(some 57), .mv (.t 9), none, []⟩,
            ⟨(some 58), .mv (.t 8), none, []⟩,
            ⟨(some 59), .mv (.t 10), none, []⟩,
            ⟨(some 60), .idxA 1 (.t 58) (.t 59), none, []⟩,
            ⟨(some 61), .load false 1 (.t 60), none, []⟩,
            ⟨(some 62), .mv (.t 5), none, []⟩,
            ⟨(some 63), .mv (.t 10), none, []⟩,
            ⟨(some 64), .idxA 1 (.t 62) (.t 63), none, []⟩,
            ⟨(some 65), .load false 1 (.t 64), none, []⟩,
            ⟨(some 66), .bin .mul (.t 61) (.t 65), none, []⟩,
            ⟨(some 67), .bin .add (.t 57) (.t 66), none, []⟩,
            ⟨(some 9), .mv (.t 67), none, []⟩])))
         (.ops false [⟨(some 68), .bin .add (.t 54) (.k (iv 1)), none, []⟩,
          ⟨(some 54), .mv (.t 68), none, []⟩])))))))
      (.seq (.ops true [⟨(some 69), .mv (.t 9), none, []⟩,
        ⟨(some 70), .mv (.t 0), none, []⟩,
        ⟨(some 71), .nilChk (.t 70), none, []⟩,
        ⟨(some 72), .fieldA 0 (.t 71), none, []⟩,
        ⟨(some 73), .load false 1 (.t 72), none, []⟩,
        ⟨(some 74), .bin .rem (.t 69) (.t 73), none, []⟩,
        ⟨(some 75), .mv (.t 0), none, []⟩,
        ⟨(some 76), .nilChk (.t 75), none, []⟩,
        ⟨(some 77), .fieldA 2 (.t 76), none, []⟩,
        ⟨(some 78), .load false 1 (.t 77), none, []⟩,
        ⟨(some 79), .mv (.t 7), none, []⟩,
        ⟨(some 80), .idxA 1 (.t 78) (.t 79), none, []⟩,
        ⟨(some 81), .load false 1 (.t 80), none, []⟩,
        ⟨(some 82), .bin .neq (.t 74) (.t 81), none, []⟩])
      (.cond (.t 82) (.seq (.ops false [⟨(some 2), .mv (.k (.c (.sl 0 0 0))), none, []⟩,
         ⟨(some 3), .mv (.k (bv false)), none, []⟩])
       .ret)
       .skip)))))))
    (.ops false [⟨(some 83), .bin .add (.t 42) (.k (iv 1)), none, []⟩,
     ⟨(some 42), .mv (.t 83), none, []⟩])))))))
 (.seq (.ops false [⟨(some 84), .mv (.t 5), none, []⟩,
   ⟨(some 2), .mv (.t 84), none, []⟩,
   ⟨(some 3), .mv (.k (bv true)), none, []⟩])
 .ret))))))⟩
theorem code68 : acode Try.prog hints 68 = some L68 := by kernel_rfl


theorem pow_all {S w E : Nat} (hE : E = S ^ (w - 1)) (hw : 1 ≤ w) : (S : Int).toNat ^ (w : Int).toNat = E * S := by
  rw [hE, Int.toNat_natCast, Int.toNat_natCast, ← Nat.pow_succ, Nat.succ_eq_add_one, show w - 1 + 1 = w by omega]
theorem c_made {s : St} [Wf s] {S w E fn : Nat} {re : Int} {caps : List (Nat × Nat)} (g : Nat → Int) (hE : E = S ^ (w - 1)) (hS : 2 ≤ S ∧ S ≤ 3) (hw : 2 * re + 1 = w ∧ 1 ≤ w ∧ w ≤ 5) (hEb : 1 ≤ E ∧ E ≤ 81)
    (hg : ∀ s1 L1, Own [] s s1 L1 → ∀ p n : Nat, n < E * S → ArgE ic s1 p 0 (dg S n w) → FnV fn ([.c (.sl p 0 w)] ++ caps.map fun p => AV.c (.ptr p.1 p.2)) s1 (iv (g n))) :
    Fn [] 145 [iv S, iv re, .c (.fn fn caps)] s fun R N => ∃ p, R = .agg (fld S re p (E * S)) ∧ N = [(p, ints ((List.range (E * S)).map g))] := by
  have hes := es_le hS hEb
  refine F_start code145 ?_
  repeat' (first
 | refine A_go rfl ?_ | refine A_ifT rfl rfl ?_ | refine A_ifF rfl rfl ?_
 | refine A_add rfl rfl rfl (by omega) ?_
 | ((first | refine A_lt rfl rfl rfl ?_ ?_) <;> intro hc <;> try first | contradiction | (exfalso; omega) | exact absurd rfl hc)
 | refine A_callV rfl rfl (fun s H => c_cellsW hw.1) ?_
 | refine A_callV rfl rfl (fun s H => c_raised) ?_
 | refine A_fld rfl rfl ?_ | refine A_mk3 rfl rfl rfl rfl ?_ | refine A_mk23 rfl rfl rfl ?_ | refine A_mk2 rfl rfl rfl ?_ | refine A_mk13 rfl rfl ?_ | refine A_p (by rfl) rfl ?_
 | refine A_ldI rfl (by first | omega | (simp; done) | (simp; omega)) rfl ?_ | refine A_ldB rfl (by first | omega | (simp; done) | (simp; omega)) rfl ?_ | refine A_ld rfl (by rfl) rfl ?_
 | refine A_ldW rfl (by simp) rfl ?_
 | refine A_st rfl rfl rfl ?_ | refine A_stE rfl rfl (by first | omega | (simp; done) | (simp; omega)) rfl ?_
 | refine A_stW rfl rfl (by simp) rfl ?_
 | ((first | refine A_alloc rfl ?_ | refine A_bld1 rfl rfl ?_ | refine A_bld2 rfl rfl rfl ?_ | refine A_bld4 rfl rfl rfl rfl rfl ?_) <;> intro pz hpz)
 | refine A_bld0 rfl ?_
 | (refine A_app rfl rfl rfl (by first | omega | (simp; done) | (simp; omega)) (by first | omega | (simp; done) | (simp; omega)) (by omega) ?_; intro pz) | (refine A_appN (enc := ic) rfl (by decide) rfl rfl (by first | omega | (simp; done) | (simp; omega)) (by omega) ?_; intro pz)
 | refine A_chk1 rfl rfl rfl ?_ | refine A_chk2 rfl rfl rfl rfl ?_ | refine A_chk3 rfl rfl rfl rfl rfl ?_ | refine A_chk4 rfl rfl rfl rfl rfl rfl ?_ | refine A_chkI rfl (by assumption) rfl (by simp) ?_
 | refine A_ret1 rfl (by exact (RP.c rfl inferInstance rfl (by simp) RP.nil)) ?_)
  rw [pow_all hE hw.2.1]
  rename_i q6 h6
  obtain ⟨q7, hEq⟩ : ∃ p, p = pz := ⟨_, rfl⟩; subst hEq
  refine A_loopX rfl (fun m fr L => ∃ (n p : Nat), m = E * S - n ∧ fr = [(0, iv S), (2, .c (.fn fn caps)), (6, .c (.ptr q6 0)), (7, .c (.ptr q7 0)), (15, iv ((E * S : Nat) : Int)), (16, iv n)] ∧
    L = [(q7, .rw 30 3 (fld S re p n)), (q6, .rw 30 3 (fld 0 0 0 0)), (p, ints (((List.range (E * S)).map g).take n))] ∧ n ≤ E * S) (n := E * S)
    ⟨[(q7, .rw 30 3 (fld S re 0 0)), (q6, .rw 30 3 (fld 0 0 0 0)), (0, ints [])], ⟨0, 0, rfl, rfl, rfl, by omega⟩, inferInstance⟩ ?_
  rintro m fr L ⟨n, p, rfl, rfl, rfl, hn⟩
  by_cases hn' : n < E * S
  · repeat' (first
 | refine A_go rfl ?_ | refine A_ifT rfl rfl ?_ | refine A_ifF rfl rfl ?_
 | refine A_add rfl rfl rfl (by omega) ?_
 | ((first | refine A_lt rfl rfl rfl ?_ ?_) <;> intro hc <;> try first | contradiction | (exfalso; omega) | exact absurd rfl hc)
 | refine A_callV rfl rfl (fun s H => c_cellsW hw.1) ?_
 | (refine A_callM rfl rfl (fun s H => c_digitsOf (w := w)) ?_; rintro _ _ ⟨pz, rfl, rfl⟩) | (refine A_callM0 rfl rfl (fun s H => c_digitsOf (w := w)) ?_; rintro _ _ ⟨pz, rfl, rfl⟩)
 | refine A_callV rfl rfl (fun s H => hg s _ H _ n hn' inferInstance) ?_
 | refine A_fld rfl rfl ?_ | refine A_mk3 rfl rfl rfl rfl ?_ | refine A_mk23 rfl rfl rfl ?_ | refine A_mk2 rfl rfl rfl ?_ | refine A_mk13 rfl rfl ?_ | refine A_p (by rfl) rfl ?_
 | refine A_ldI rfl (by first | omega | (simp; done) | (simp; omega)) rfl ?_ | refine A_ldB rfl (by first | omega | (simp; done) | (simp; omega)) rfl ?_ | refine A_ld rfl (by rfl) rfl ?_
 | refine A_ldW rfl (by simp) rfl ?_
 | refine A_st rfl rfl rfl ?_ | refine A_stE rfl rfl (by first | omega | (simp; done) | (simp; omega)) rfl ?_
 | refine A_stW rfl rfl (by simp) rfl ?_
 | ((first | refine A_alloc rfl ?_ | refine A_bld1 rfl rfl ?_ | refine A_bld2 rfl rfl rfl ?_ | refine A_bld4 rfl rfl rfl rfl rfl ?_) <;> intro pz hpz)
 | refine A_bld0 rfl ?_
 | (refine A_app rfl rfl rfl (by first | omega | (simp; done) | (simp; omega)) (by first | omega | (simp; done) | (simp; omega)) (by omega) ?_; intro pz) | (refine A_appN (enc := ic) rfl (by decide) rfl rfl (by first | omega | (simp; done) | (simp; omega)) (by omega) ?_; intro pz)
 | refine A_chk1 rfl rfl rfl ?_ | refine A_chk2 rfl rfl rfl rfl ?_ | refine A_chk3 rfl rfl rfl rfl rfl ?_ | refine A_chk4 rfl rfl rfl rfl rfl rfl ?_ | refine A_chkI rfl (by assumption) rfl (by simp) ?_
 | refine A_ret1 rfl (by exact (RP.c rfl inferInstance rfl (by simp) RP.nil)) ?_)
    refine A_round rfl [q7, q6, pz] (E * S - (n + 1)) (by omega) ?_
    refine ⟨n + 1, pz, rfl, rfl, ?_, by omega⟩
    rw [List.take_add_one, getD_some 0 (by simpa using hn')]
    rw [getD_map_range hn']; rfl
  · obtain rfl : n = E * S := by omega
    repeat' (first
 | refine A_go rfl ?_ | refine A_ifT rfl rfl ?_ | refine A_ifF rfl rfl ?_
 | refine A_add rfl rfl rfl (by omega) ?_
 | ((first | refine A_lt rfl rfl rfl ?_ ?_) <;> intro hc <;> try first | contradiction | (exfalso; omega) | exact absurd rfl hc)
 | refine A_fld rfl rfl ?_ | refine A_mk3 rfl rfl rfl rfl ?_ | refine A_mk23 rfl rfl rfl ?_ | refine A_mk2 rfl rfl rfl ?_ | refine A_mk13 rfl rfl ?_ | refine A_p (by rfl) rfl ?_
 | refine A_ldI rfl (by first | omega | (simp; done) | (simp; omega)) rfl ?_ | refine A_ldB rfl (by first | omega | (simp; done) | (simp; omega)) rfl ?_ | refine A_ld rfl (by rfl) rfl ?_
 | refine A_ldW rfl (by simp) rfl ?_
 | refine A_st rfl rfl rfl ?_ | refine A_stE rfl rfl (by first | omega | (simp; done) | (simp; omega)) rfl ?_
 | refine A_stW rfl rfl (by simp) rfl ?_
 | ((first | refine A_alloc rfl ?_ | refine A_bld1 rfl rfl ?_ | refine A_bld2 rfl rfl rfl ?_ | refine A_bld4 rfl rfl rfl rfl rfl ?_) <;> intro pz hpz)
 | refine A_bld0 rfl ?_
 | (refine A_app rfl rfl rfl (by first | omega | (simp; done) | (simp; omega)) (by first | omega | (simp; done) | (simp; omega)) (by omega) ?_; intro pz) | (refine A_appN (enc := ic) rfl (by decide) rfl rfl (by first | omega | (simp; done) | (simp; omega)) (by omega) ?_; intro pz)
 | refine A_chk1 rfl rfl rfl ?_ | refine A_chk2 rfl rfl rfl rfl ?_ | refine A_chk3 rfl rfl rfl rfl rfl ?_ | refine A_chk4 rfl rfl rfl rfl rfl rfl ?_ | refine A_chkI rfl (by assumption) rfl (by simp) ?_
 | refine A_ret1 rfl (by exact (RP.c rfl inferInstance rfl (by simp) RP.nil)) ?_)
    rw [List.take_of_length_le (by simp)]
    exact R_s ⟨p, rfl, rfl⟩
/-- Sums of products. -/
def dotN (ws cs : List Int) : Nat → Int
  | 0 => 0
  | m + 1 => dotN ws cs m + ws.getD m 0 * cs.getD m 0
theorem prod_in {S : Nat} {a b : Int} (hS : S ≤ 3) (ha : 0 ≤ a ∧ a ≤ (S : Int) - 1) (hb : 0 ≤ b ∧ b ≤ (S : Int) - 1) : 0 ≤ a * b ∧ a * b ≤ 4 := by
  refine ⟨Int.mul_nonneg ha.1 hb.1, ?_⟩
  have := Int.mul_le_mul (show a ≤ 2 by omega) (show b ≤ 2 by omega) hb.1 (by omega)
  omega
theorem dot_in {S : Nat} {ws cs : List Int} (hS : S ≤ 3) (h1 : DG S ws) (h2 : DG S cs) : ∀ m : Nat, m ≤ ws.length → m ≤ cs.length → 0 ≤ dotN ws cs m ∧ dotN ws cs m ≤ 4 * m
  | 0, _, _ => by simp [dotN]
  | m + 1, a, b => by
    have ih := dot_in hS h1 h2 m (by omega) (by omega)
    have := prod_in hS (h1 _ (getD_mem (d := 0) (by omega : m < ws.length))) (h2 _ (getD_mem (d := 0) (by omega : m < cs.length)))
    rw [dotN]; omega
theorem c_weighed1 {s : St} [Wf s] {S w q2 q3 idw offw p : Nat} {ws cs : List Int} [h3 : Ref s q3 [.sl idw offw w]] [h2 : Ref s q2 [ic S]] [hws : ArgE ic s idw offw ws] (hcs : ArgE ic s p 0 cs) (hl1 : ws.length = w) (hl2 : cs.length = w) (hS : 2 ≤ S ∧ S ≤ 3) (hw : w ≤ 5) (d1 : DG S ws) (d2 : DG S cs) :
    FnV 146 [.c (.sl p 0 w), .c (.ptr q3 0), .c (.ptr q2 0)] s (iv (dotN ws cs w % S)) := by
  refine F_start code146 ?_
  repeat' (first
 | refine A_go rfl ?_ | refine A_ifT rfl rfl ?_ | refine A_ifF rfl rfl ?_
 | refine A_add rfl rfl rfl (by omega) ?_ | refine A_mul rfl rfl rfl (by omega) ?_ | refine A_rem rfl rfl rfl (by omega) ?_ | refine A_remT rfl rfl rfl (by omega) ?_
 | ((first | refine A_lt rfl rfl rfl ?_ ?_) <;> intro hc <;> try first | contradiction | (exfalso; omega) | exact absurd rfl hc)
 | refine A_idxN1 rfl rfl rfl (by omega) ?_ | refine A_idx1 rfl rfl rfl (by omega) ?_
 | refine A_p (by rfl) rfl ?_
 | refine A_ldI rfl (by first | omega | (simp; done) | (simp; omega)) rfl ?_ | refine A_ldB rfl (by first | omega | (simp; done) | (simp; omega)) rfl ?_ | refine A_ld rfl (by rfl) rfl ?_
 | refine A_ret1 rfl (by exact (RP.t rfl RP.nil)) ?_)
  refine A_loop rfl [] (fun m fr L => ∃ (j : Nat) (a : Int), m = w - j ∧ fr = [(0, .c (.sl p 0 w)), (2, .c (.ptr q2 0)), (5, iv a), (8, .c (.sl idw offw w)), (9, iv w), (10, iv j)] ∧ L = [] ∧ j ≤ w ∧ a = dotN ws cs j) w ⟨0, 0, rfl, rfl, rfl, by omega, rfl⟩ ?_
  rintro m fr L ⟨j, a, rfl, rfl, rfl, hj, ha⟩
  have h4 := dot_in hS.2 d1 d2 j (by omega) (by omega)
  by_cases hin : j < w
  · have h5 := prod_in hS.2 (d1 _ (getD_mem (d := 0) (by omega : j < ws.length))) (d2 _ (getD_mem (d := 0) (by omega : j < cs.length)))
    repeat' (first
 | refine A_go rfl ?_ | refine A_ifT rfl rfl ?_ | refine A_ifF rfl rfl ?_
 | refine A_add rfl rfl rfl (by omega) ?_ | refine A_mul rfl rfl rfl (by omega) ?_ | refine A_rem rfl rfl rfl (by omega) ?_ | refine A_remT rfl rfl rfl (by omega) ?_
 | ((first | refine A_lt rfl rfl rfl ?_ ?_) <;> intro hc <;> try first | contradiction | (exfalso; omega) | exact absurd rfl hc)
 | refine A_idxN1 rfl rfl rfl (by omega) ?_ | refine A_idx1 rfl rfl rfl (by omega) ?_
 | refine A_p (by rfl) rfl ?_
 | refine A_ldI rfl (by first | omega | (simp; done) | (simp; omega)) rfl ?_ | refine A_ldB rfl (by first | omega | (simp; done) | (simp; omega)) rfl ?_ | refine A_ld rfl (by rfl) rfl ?_
 | refine A_ret1 rfl (by exact (RP.t rfl RP.nil)) ?_)
    refine A_round rfl [] (w - (j + 1)) (by omega) ?_
    exact ⟨j + 1, _, rfl, rfl, rfl, by omega, by rw [ha]; rfl⟩
  · obtain rfl : w = j := by omega
    repeat' (first
 | refine A_go rfl ?_ | refine A_ifT rfl rfl ?_ | refine A_ifF rfl rfl ?_
 | refine A_add rfl rfl rfl (by omega) ?_ | refine A_mul rfl rfl rfl (by omega) ?_ | refine A_rem rfl rfl rfl (by omega) ?_ | refine A_remT rfl rfl rfl (by omega) ?_
 | ((first | refine A_lt rfl rfl rfl ?_ ?_) <;> intro hc <;> try first | contradiction | (exfalso; omega) | exact absurd rfl hc)
 | refine A_idxN1 rfl rfl rfl (by omega) ?_ | refine A_idx1 rfl rfl rfl (by omega) ?_
 | refine A_p (by rfl) rfl ?_
 | refine A_ldI rfl (by first | omega | (simp; done) | (simp; omega)) rfl ?_ | refine A_ldB rfl (by first | omega | (simp; done) | (simp; omega)) rfl ?_ | refine A_ld rfl (by rfl) rfl ?_
 | refine A_ret1 rfl (by exact (RP.t rfl RP.nil)) ?_)
    exact R_v (by rw [ha])
def wv (S w : Nat) (ws : List Int) (n : Nat) : Int := dotN ws (dg S n w) w % S
abbrev wtab (S w N : Nat) (ws : List Int) : List Int := (List.range N).map (wv S w ws)
@[simp] theorem wtab_len {S w N : Nat} {ws : List Int} : (wtab S w N ws).length = N := by simp [wtab]
theorem c_weighed {s : St} [Wf s] {S w E : Nat} {re : Int} {id_ws off_ws len_ws : Nat} {ws : List Int} [h_ws : ArgE ic s id_ws off_ws ws] (hl_ws : ws.length = len_ws := by first | rfl | simp | omega | (simp; omega)) (hlw : len_ws = w) (hE : E = S ^ (w - 1)) (d1 : DG S ws) (hS : 2 ≤ S ∧ S ≤ 3 := by omega) (hw : 2 * re + 1 = w ∧ 1 ≤ w ∧ w ≤ 5 := by omega) (hEb : 1 ≤ E ∧ E ≤ 81 := by omega) :
    Fn [] 120 [iv S, .c (.sl id_ws off_ws len_ws)] s fun R N => ∃ p, R = .agg (fld S re p (E * S)) ∧ N = [(p, ints (wtab S w (E * S) ws))] := by
  subst hlw
  have hq : ((len_ws : Nat) : Int) / 2 = re := by omega
  refine F_start code120 ?_
  repeat' (first
 | refine A_go rfl ?_ | refine A_ifT rfl rfl ?_ | refine A_ifF rfl rfl ?_
 | refine A_quo rfl rfl rfl (by omega) ?_
 | (refine A_callM rfl rfl (fun s H => c_made (re := (len_ws : Int) / 2) (wv S len_ws ws) hE hS (by omega) hEb (fun s L H p n hn hp => c_weighed1 hp hl_ws (by simp) hS (by omega) d1 (dg_mem (by omega)))) ?_; rintro _ _ ⟨pz, rfl, rfl⟩) | (refine A_callM0 rfl rfl (fun s H => c_made (re := (len_ws : Int) / 2) (wv S len_ws ws) hE hS (by omega) hEb (fun s L H p n hn hp => c_weighed1 hp hl_ws (by simp) hS (by omega) d1 (dg_mem (by omega)))) ?_; rintro _ _ ⟨pz, rfl, rfl⟩)
 | refine A_p (by rfl) rfl ?_
 | refine A_ldI rfl (by first | omega | (simp; done) | (simp; omega)) rfl ?_ | refine A_ldB rfl (by first | omega | (simp; done) | (simp; omega)) rfl ?_ | refine A_ld rfl (by rfl) rfl ?_
 | refine A_stW rfl rfl (by simp) rfl ?_
 | ((first | refine A_alloc rfl ?_ | refine A_box rfl rfl ?_ | refine A_boxC rfl rfl ?_) <;> intro pz hpz)
 | refine A_ret1 rfl (by exact (RP.c rfl inferInstance rfl (by simp) RP.nil)) ?_)
  rw [hq]
  exact R_s ⟨pz, rfl, rfl⟩
/-- The next states of the neighbourhoods with a single 1, from the left on. -/
def trm (S w : Nat) (xs : List Int) : List Int := (List.range w).map fun i => xs.getD (S ^ (w - 1 - i)) 0
@[simp] theorem trm_len {S w : Nat} {xs : List Int} : (trm S w xs).length = w := by simp [trm]
theorem trm_get {S w i : Nat} {xs : List Int} (h : i < w) : (trm S w xs).getD i 0 = xs.getD (S ^ (w - 1 - i)) 0 := getD_map_range h
theorem pow_lt {S w E i : Nat} (hE : E = S ^ (w - 1)) (hS : 2 ≤ S) (hi : i < w) : S ^ i < E * S := by
  have h1 : S ^ i ≤ S ^ (w - 1) := Nat.pow_le_pow_right (by omega) (by omega)
  have h2 : 0 < S ^ (w - 1) := Nat.pow_pos (by omega)
  have h3 : S ^ (w - 1) * 2 ≤ S ^ (w - 1) * S := Nat.mul_le_mul_left _ hS
  rw [hE]; omega
theorem trm_dg {S w E : Nat} {xs : List Int} (hE : E = S ^ (w - 1)) (hS : 2 ≤ S) (hl : xs.length = E * S) (hd : DG S xs) : DG S (trm S w xs) := by
  intro x hx
  obtain ⟨i, hi, rfl⟩ := mem_get (d := 0) hx
  rw [trm_len] at hi
  rw [trm_get hi]
  exact hd _ (getD_mem (by rw [hl]; exact pow_lt hE hS (by omega)))
theorem c_terms {s : St} [Wf s] {S w E : Nat} {re : Int} {id_xs off_xs len_xs : Nat} {xs : List Int} [h_xs : ArgE ic s id_xs off_xs xs] (hl_xs : xs.length = len_xs := by first | rfl | simp | omega | (simp; omega)) (hE : E = S ^ (w - 1)) (hl : xs.length = E * S) (hS : 2 ≤ S ∧ S ≤ 3 := by omega) (hw : 2 * re + 1 = w ∧ 1 ≤ w ∧ w ≤ 5 := by omega) (hEb : 1 ≤ E ∧ E ≤ 81 := by omega) :
    Fn [] 121 [.agg [ic S, ic re, .sl id_xs off_xs len_xs]] s fun R N => ∃ p, R = .c (.sl p 0 w) ∧ N = [(p, ints (trm S w xs))] := by
  have hes := es_le hS hEb
  refine F_start code121 ?_
  repeat' (first
 | refine A_go rfl ?_ | refine A_ifT rfl rfl ?_ | refine A_ifF rfl rfl ?_
 | refine A_sub rfl rfl rfl (by omega) ?_
 | ((first | refine A_ge rfl rfl rfl ?_ ?_) <;> intro hc <;> try first | contradiction | (exfalso; omega) | exact absurd rfl hc)
 | refine A_idxN1 rfl rfl rfl (by omega) ?_ | refine A_idx1 rfl rfl rfl (by omega) ?_
 | refine A_callV rfl rfl (fun s H => c_cells) ?_
 | refine A_fld rfl rfl ?_ | refine A_p (by rfl) rfl ?_
 | refine A_ldI rfl (by first | omega | (simp; done) | (simp; omega)) rfl ?_ | refine A_ldB rfl (by first | omega | (simp; done) | (simp; omega)) rfl ?_ | refine A_ld rfl (by rfl) rfl ?_
 | refine A_ldW rfl (by simp) rfl ?_
 | ((first | refine A_box rfl rfl ?_ | refine A_boxC rfl rfl ?_ | refine A_bld1 rfl rfl ?_ | refine A_bld2 rfl rfl rfl ?_ | refine A_bld4 rfl rfl rfl rfl rfl ?_) <;> intro pz hpz)
 | refine A_bld0 rfl ?_
 | (refine A_app rfl rfl rfl (by first | omega | (simp; done) | (simp; omega)) (by first | omega | (simp; done) | (simp; omega)) (by omega) ?_; intro pz) | (refine A_appN (enc := ic) rfl (by decide) rfl rfl (by first | omega | (simp; done) | (simp; omega)) (by omega) ?_; intro pz)
 | refine A_chk1 rfl rfl rfl ?_ | refine A_chk2 rfl rfl rfl rfl ?_ | refine A_chk3 rfl rfl rfl rfl rfl ?_ | refine A_chk4 rfl rfl rfl rfl rfl rfl ?_ | refine A_chkI rfl (by assumption) rfl (by simp) ?_
 | refine A_ret1 rfl (by exact (RP.t rfl RP.nil)) ?_)
  obtain ⟨q, hEq⟩ : ∃ p, p = pz := ⟨_, rfl⟩; subst hEq
  refine A_loopX rfl (fun m fr L => ∃ (j p : Nat) (i : Int), m = w - j ∧ fr = [(1, .c (.ptr q 0)), (3, .c (.sl p 0 j)), (4, iv i)] ∧ L = [(q, .rw 30 3 [ic S, ic re, .sl id_xs off_xs len_xs]), (p, ints ((trm S w xs).take j))] ∧ j ≤ w ∧ i = (w : Int) - 1 - j) (n := w) ⟨[(q, .rw 30 3 [ic S, ic re, .sl id_xs off_xs len_xs]), (1, ints [])], ⟨0, 1, _, rfl, rfl, rfl, by omega, by omega⟩, inferInstance⟩ ?_
  rintro m fr L ⟨j, p, i, rfl, rfl, rfl, hj, hi⟩
  by_cases hj' : j < w
  · have h1 : (S : Int).toNat ^ i.toNat < len_xs := by rw [Int.toNat_natCast, ← hl_xs, hl]; exact pow_lt hE hS.1 (by omega)
    have h2 : ((trm S w xs).take j).length = j := by simp; omega
    repeat' (first
 | refine A_go rfl ?_ | refine A_ifT rfl rfl ?_ | refine A_ifF rfl rfl ?_
 | refine A_sub rfl rfl rfl (by omega) ?_
 | ((first | refine A_ge rfl rfl rfl ?_ ?_) <;> intro hc <;> try first | contradiction | (exfalso; omega) | exact absurd rfl hc)
 | refine A_idxN1 rfl rfl rfl (by omega) ?_ | refine A_idx1 rfl rfl rfl (by omega) ?_
 | refine A_callV rfl rfl (fun s H => c_raised) ?_
 | refine A_fld rfl rfl ?_ | refine A_p (by rfl) rfl ?_
 | refine A_ldI rfl (by first | omega | (simp; done) | (simp; omega)) rfl ?_ | refine A_ldB rfl (by first | omega | (simp; done) | (simp; omega)) rfl ?_ | refine A_ld rfl (by rfl) rfl ?_
 | refine A_ldW rfl (by simp) rfl ?_
 | ((first | refine A_box rfl rfl ?_ | refine A_boxC rfl rfl ?_ | refine A_bld1 rfl rfl ?_ | refine A_bld2 rfl rfl rfl ?_ | refine A_bld4 rfl rfl rfl rfl rfl ?_) <;> intro pz hpz)
 | refine A_bld0 rfl ?_
 | (refine A_app rfl rfl rfl (by first | omega | (simp; done) | (simp; omega)) (by first | omega | (simp; done) | (simp; omega)) (by omega) ?_; intro pz) | (refine A_appN (enc := ic) rfl (by decide) rfl rfl (by first | omega | (simp; done) | (simp; omega)) (by omega) ?_; intro pz)
 | refine A_chk1 rfl rfl rfl ?_ | refine A_chk2 rfl rfl rfl rfl ?_ | refine A_chk3 rfl rfl rfl rfl rfl ?_ | refine A_chk4 rfl rfl rfl rfl rfl rfl ?_ | refine A_chkI rfl (by assumption) rfl (by simp) ?_
 | refine A_ret1 rfl (by exact (RP.t rfl RP.nil)) ?_)
    refine A_round rfl [q, pz] (w - (j + 1)) (by omega) ?_
    refine ⟨j + 1, pz, _, rfl, rfl, ?_, by omega, by omega⟩
    rw [List.take_add_one, getD_some 0 (by simpa using hj'), trm_get hj', Int.toNat_natCast, show i.toNat = w - 1 - j by omega]; rfl
  · obtain rfl : w = j := by omega
    repeat' (first
 | refine A_go rfl ?_ | refine A_ifT rfl rfl ?_ | refine A_ifF rfl rfl ?_
 | refine A_sub rfl rfl rfl (by omega) ?_
 | ((first | refine A_ge rfl rfl rfl ?_ ?_) <;> intro hc <;> try first | contradiction | (exfalso; omega) | exact absurd rfl hc)
 | refine A_idxN1 rfl rfl rfl (by omega) ?_ | refine A_idx1 rfl rfl rfl (by omega) ?_
 | refine A_fld rfl rfl ?_ | refine A_p (by rfl) rfl ?_
 | refine A_ldI rfl (by first | omega | (simp; done) | (simp; omega)) rfl ?_ | refine A_ldB rfl (by first | omega | (simp; done) | (simp; omega)) rfl ?_ | refine A_ld rfl (by rfl) rfl ?_
 | refine A_ldW rfl (by simp) rfl ?_
 | ((first | refine A_box rfl rfl ?_ | refine A_boxC rfl rfl ?_ | refine A_bld1 rfl rfl ?_ | refine A_bld2 rfl rfl rfl ?_ | refine A_bld4 rfl rfl rfl rfl rfl ?_) <;> intro pz hpz)
 | refine A_bld0 rfl ?_
 | (refine A_app rfl rfl rfl (by first | omega | (simp; done) | (simp; omega)) (by first | omega | (simp; done) | (simp; omega)) (by omega) ?_; intro pz) | (refine A_appN (enc := ic) rfl (by decide) rfl rfl (by first | omega | (simp; done) | (simp; omega)) (by omega) ?_; intro pz)
 | refine A_chk1 rfl rfl rfl ?_ | refine A_chk2 rfl rfl rfl rfl ?_ | refine A_chk3 rfl rfl rfl rfl rfl ?_ | refine A_chk4 rfl rfl rfl rfl rfl rfl ?_ | refine A_chkI rfl (by assumption) rfl (by simp) ?_
 | refine A_ret1 rfl (by exact (RP.t rfl RP.nil)) ?_)
    rw [List.take_of_length_le (by simp)]
    exact R_s ⟨p, rfl, rfl⟩
theorem c_SameRule {s : St} [Wf s] {st re st2 re2 : Int} {id_xs off_xs len_xs : Nat} {xs : List Int} [h_xs : ArgE ic s id_xs off_xs xs] (hl_xs : xs.length = len_xs := by first | rfl | simp | omega | (simp; omega)) {id_ys off_ys len_ys : Nat} {ys : List Int} [h_ys : ArgE ic s id_ys off_ys ys] (hl_ys : ys.length = len_ys := by first | rfl | simp | omega | (simp; omega)) (hb : len_xs ≤ 2000000 := by omega) : FnB 119 [.agg [ic st, ic re, .sl id_xs off_xs len_xs], .agg [ic st2, ic re2, .sl id_ys off_ys len_ys]] s (st = st2 ∧ re = re2 ∧ xs = ys) := by
  refine F_start code119 ?_
  repeat' (first
 | refine A_go rfl ?_ | refine A_ifT rfl rfl ?_ | refine A_ifF rfl rfl ?_
 | refine A_offP rfl rfl ?_ | refine A_offH rfl rfl ?_ | refine A_off0 rfl rfl ?_
 | ((first | refine A_eq rfl rfl rfl ?_ ?_) <;> intro hc <;> try first | contradiction | (exfalso; omega) | exact absurd rfl hc)
 | (refine A_callB rfl rfl (fun s H => c_slicesEqual) ?_ ?_ <;> intro hc <;> try first | contradiction | (exfalso; omega) | exact absurd rfl hc | exact absurd (And.intro rfl rfl) hc | exact absurd (And.intro rfl (And.intro rfl rfl)) hc | exact absurd (Eq.trans (by assumption) (Eq.symm (by assumption))) hc)
 | refine A_fld rfl rfl ?_ | refine A_p (by rfl) rfl ?_
 | refine A_ldI rfl (by first | omega | (simp; done) | (simp; omega)) rfl ?_ | refine A_ldB rfl (by first | omega | (simp; done) | (simp; omega)) rfl ?_ | refine A_ld rfl (by rfl) rfl ?_
 | ((first | refine A_box rfl rfl ?_ | refine A_boxC rfl rfl ?_) <;> intro pz hpz)
 | refine A_ret1 rfl (by exact (RP.t rfl RP.nil)) ?_)
  all_goals first | exact R_t ⟨by assumption, by assumption, by assumption⟩ | exact R_f (by simp_all)
def Adds (S w : Nat) (xs : List Int) : Prop := ∀ n, n < xs.length → dotN (trm S w xs) (dg S n w) w % S = xs.getD n 0
theorem adds_iff {S w N : Nat} {xs : List Int} (hl : xs.length = N) : xs = wtab S w N (trm S w xs) ↔ Adds S w xs := by
  subst hl
  constructor
  · intro h n hn
    have : (wtab S w xs.length (trm S w xs)).getD n 0 = dotN (trm S w xs) (dg S n w) w % S := getD_map_range hn
    rw [← this, ← h]
  · intro h
    refine ext_getD 0 (by simp) fun n hn => ?_
    have : (wtab S w xs.length (trm S w xs)).getD n 0 = dotN (trm S w xs) (dg S n w) w % S := getD_map_range hn
    rw [this, h n hn]
theorem c_adds {s : St} [Wf s] {S w E : Nat} {re : Int} {id_xs off_xs len_xs : Nat} {xs : List Int} [h_xs : ArgE ic s id_xs off_xs xs] (hl_xs : xs.length = len_xs := by first | rfl | simp | omega | (simp; omega)) (hE : E = S ^ (w - 1)) (hl : xs.length = E * S) (hd : DG S xs) (hS : 2 ≤ S ∧ S ≤ 3 := by omega) (hw : 2 * re + 1 = w ∧ 1 ≤ w ∧ w ≤ 5 := by omega) (hEb : 1 ≤ E ∧ E ≤ 81 := by omega) :
    FnB 74 [.agg [ic S, ic re, .sl id_xs off_xs len_xs]] s (Adds S w xs) := by
  have hes := es_le hS hEb
  refine F_start code74 ?_
  repeat' (first
 | refine A_go rfl ?_ | refine A_ifT rfl rfl ?_ | refine A_ifF rfl rfl ?_
 | (refine A_callM rfl rfl (fun s H => c_terms (hE := hE) (hl := hl)) ?_; rintro _ _ ⟨pz, rfl, rfl⟩) | (refine A_callM0 rfl rfl (fun s H => c_terms (hE := hE) (hl := hl)) ?_; rintro _ _ ⟨pz, rfl, rfl⟩)
 | (refine A_callM rfl rfl (fun s H => c_weighed (re := re) (hlw := rfl) (hE := hE) (d1 := trm_dg hE hS.1 hl hd)) ?_; rintro _ _ ⟨pz, rfl, rfl⟩) | (refine A_callM0 rfl rfl (fun s H => c_weighed (re := re) (hlw := rfl) (hE := hE) (d1 := trm_dg hE hS.1 hl hd)) ?_; rintro _ _ ⟨pz, rfl, rfl⟩)
 | (refine A_callB rfl rfl (fun s H => c_SameRule) ?_ ?_ <;> intro hc <;> try first | contradiction | (exfalso; omega) | exact absurd rfl hc | exact absurd (And.intro rfl rfl) hc | exact absurd (And.intro rfl (And.intro rfl rfl)) hc | exact absurd (Eq.trans (by assumption) (Eq.symm (by assumption))) hc)
 | refine A_fld rfl rfl ?_ | refine A_p (by rfl) rfl ?_
 | refine A_ldI rfl (by first | omega | (simp; done) | (simp; omega)) rfl ?_ | refine A_ldB rfl (by first | omega | (simp; done) | (simp; omega)) rfl ?_ | refine A_ld rfl (by rfl) rfl ?_
 | refine A_ldW rfl (by simp) rfl ?_
 | ((first | refine A_box rfl rfl ?_ | refine A_boxC rfl rfl ?_) <;> intro pz hpz)
 | refine A_chk1 rfl rfl rfl ?_ | refine A_chk2 rfl rfl rfl rfl ?_ | refine A_chk3 rfl rfl rfl rfl rfl ?_ | refine A_chk4 rfl rfl rfl rfl rfl rfl ?_ | refine A_chkI rfl (by assumption) rfl (by simp) ?_
 | refine A_ret1 rfl (by exact (RP.t rfl RP.nil)) ?_)
  · exact R_t ((adds_iff hl).1 hc.2.2)
  · exact R_f fun h => hc ⟨rfl, rfl, (adds_iff hl).2 h⟩
theorem c_l03Terms {s : St} [Wf s] {q S w E : Nat} {re : Int} {id_xs off_xs len_xs : Nat} {xs : List Int} [hq : Ref s q [ic S, ic re, .sl id_xs off_xs len_xs]] [h_xs : ArgE ic s id_xs off_xs xs] (hl_xs : xs.length = len_xs := by first | rfl | simp | omega) (hE : E = S ^ (w - 1)) (hl : xs.length = E * S) (hd : DG S xs) (hS : 2 ≤ S ∧ S ≤ 3 := by omega) (hw : 2 * re + 1 = w ∧ 1 ≤ w ∧ w ≤ 5 := by omega) (hEb : 1 ≤ E ∧ E ≤ 81 := by omega) :
    Fn [] 68 [.c (.ptr q 0)] s (IntsRes (Adds S w xs) (trm S w xs)) := by
  have hes := es_le hS hEb
  refine F_start code68 ?_
  repeat' (first
 | refine A_go rfl ?_ | refine A_ifT rfl rfl ?_ | refine A_ifF rfl rfl ?_
 | refine A_add rfl rfl rfl (by omega) ?_ | refine A_sub rfl rfl rfl (by omega) ?_ | refine A_mul rfl rfl rfl (by omega) ?_ | refine A_rem rfl rfl rfl (by omega) ?_ | refine A_remT rfl rfl rfl (by omega) ?_
 | ((first | refine A_lt rfl rfl rfl ?_ ?_ | refine A_ne rfl rfl rfl ?_ ?_) <;> intro hc <;> try first | contradiction | (exfalso; omega) | exact absurd rfl hc)
 | refine A_idxN1 rfl rfl rfl (by omega) ?_ | refine A_idx1 rfl rfl rfl (by omega) ?_
 | refine A_callV rfl rfl (fun s H => c_l03Wide (w := w)) ?_
 | refine A_fld rfl rfl ?_ | refine A_p (by rfl) rfl ?_
 | refine A_ldI rfl (by first | omega | (simp; done) | (simp; omega)) rfl ?_ | refine A_ldB rfl (by first | omega | (simp; done) | (simp; omega)) rfl ?_ | refine A_ld rfl (by rfl) rfl ?_
 | ((first | refine A_bld1 rfl rfl ?_ | refine A_bld2 rfl rfl rfl ?_ | refine A_bld4 rfl rfl rfl rfl rfl ?_) <;> intro pz hpz)
 | refine A_bld0 rfl ?_
 | (refine A_app rfl rfl rfl (by first | omega | (simp; done) | (simp; omega)) (by first | omega | (simp; done) | (simp; omega)) (by omega) ?_; intro pz) | (refine A_appN (enc := ic) rfl (by decide) rfl rfl (by first | omega | (simp; done) | (simp; omega)) (by omega) ?_; intro pz)
 | refine A_chk1 rfl rfl rfl ?_ | refine A_chk2 rfl rfl rfl rfl ?_ | refine A_chk3 rfl rfl rfl rfl rfl ?_ | refine A_chk4 rfl rfl rfl rfl rfl rfl ?_ | refine A_chkI rfl (by assumption) rfl (by simp) ?_
 | refine A_ret rfl (by exact (RP.t rfl (RP.t rfl RP.nil))) ?_)
  refine A_loopX rfl (fun m fr L => ∃ (j p : Nat), m = w - j ∧ fr = [(0, .c (.ptr q 0)), (4, iv w), (5, .c (.sl p 0 j)), (6, iv j)] ∧ L = [(p, ints ((trm S w xs).take j))] ∧ j ≤ w) (n := w) ⟨[(1, ints [])], ⟨0, 1, rfl, rfl, rfl, by omega⟩, inferInstance⟩ ?_
  rintro m fr L ⟨j, p, rfl, rfl, rfl, hj⟩
  by_cases hj' : j < w
  · have h1 : (S : Int).toNat ^ ((w : Int) - 1 - j).toNat < len_xs := by rw [Int.toNat_natCast, ← hl_xs, hl]; exact pow_lt hE hS.1 (by omega)
    have h2 : ((trm S w xs).take j).length = j := by simp; omega
    repeat' (first
 | refine A_go rfl ?_ | refine A_ifT rfl rfl ?_ | refine A_ifF rfl rfl ?_
 | refine A_add rfl rfl rfl (by omega) ?_ | refine A_sub rfl rfl rfl (by omega) ?_ | refine A_mul rfl rfl rfl (by omega) ?_ | refine A_rem rfl rfl rfl (by omega) ?_ | refine A_remT rfl rfl rfl (by omega) ?_
 | ((first | refine A_lt rfl rfl rfl ?_ ?_ | refine A_ne rfl rfl rfl ?_ ?_) <;> intro hc <;> try first | contradiction | (exfalso; omega) | exact absurd rfl hc)
 | refine A_idxN1 rfl rfl rfl (by omega) ?_ | refine A_idx1 rfl rfl rfl (by omega) ?_
 | refine A_callV rfl rfl (fun s H => c_l03Power) ?_
 | refine A_fld rfl rfl ?_ | refine A_p (by rfl) rfl ?_
 | refine A_ldI rfl (by first | omega | (simp; done) | (simp; omega)) rfl ?_ | refine A_ldB rfl (by first | omega | (simp; done) | (simp; omega)) rfl ?_ | refine A_ld rfl (by rfl) rfl ?_
 | ((first | refine A_bld1 rfl rfl ?_ | refine A_bld2 rfl rfl rfl ?_ | refine A_bld4 rfl rfl rfl rfl rfl ?_) <;> intro pz hpz)
 | refine A_bld0 rfl ?_
 | (refine A_app rfl rfl rfl (by first | omega | (simp; done) | (simp; omega)) (by first | omega | (simp; done) | (simp; omega)) (by omega) ?_; intro pz) | (refine A_appN (enc := ic) rfl (by decide) rfl rfl (by first | omega | (simp; done) | (simp; omega)) (by omega) ?_; intro pz)
 | refine A_chk1 rfl rfl rfl ?_ | refine A_chk2 rfl rfl rfl rfl ?_ | refine A_chk3 rfl rfl rfl rfl rfl ?_ | refine A_chk4 rfl rfl rfl rfl rfl rfl ?_ | refine A_chkI rfl (by assumption) rfl (by simp) ?_
 | refine A_ret rfl (by exact (RP.t rfl (RP.t rfl RP.nil))) ?_)
    refine A_round rfl [pz] (w - (j + 1)) (by omega) ?_
    refine ⟨j + 1, pz, rfl, rfl, ?_, by omega⟩
    rw [List.take_add_one, getD_some 0 (by simpa using hj'), trm_get hj', Int.toNat_natCast, show ((w : Int) - 1 - j).toNat = w - 1 - j by omega]; rfl
  obtain rfl : w = j := by omega
  rw [List.take_of_length_le (by simp)]
  have hdt := trm_dg hE hS.1 hl hd
  repeat' (first
 | refine A_go rfl ?_ | refine A_ifT rfl rfl ?_ | refine A_ifF rfl rfl ?_
 | refine A_add rfl rfl rfl (by omega) ?_ | refine A_sub rfl rfl rfl (by omega) ?_ | refine A_mul rfl rfl rfl (by omega) ?_ | refine A_rem rfl rfl rfl (by omega) ?_ | refine A_remT rfl rfl rfl (by omega) ?_
 | ((first | refine A_lt rfl rfl rfl ?_ ?_ | refine A_ne rfl rfl rfl ?_ ?_) <;> intro hc <;> try first | contradiction | (exfalso; omega) | exact absurd rfl hc)
 | refine A_idxN1 rfl rfl rfl (by omega) ?_ | refine A_idx1 rfl rfl rfl (by omega) ?_
 | refine A_fld rfl rfl ?_ | refine A_p (by rfl) rfl ?_
 | refine A_ldI rfl (by first | omega | (simp; done) | (simp; omega)) rfl ?_ | refine A_ldB rfl (by first | omega | (simp; done) | (simp; omega)) rfl ?_ | refine A_ld rfl (by rfl) rfl ?_
 | ((first | refine A_bld1 rfl rfl ?_ | refine A_bld2 rfl rfl rfl ?_ | refine A_bld4 rfl rfl rfl rfl rfl ?_) <;> intro pz hpz)
 | refine A_bld0 rfl ?_
 | (refine A_app rfl rfl rfl (by first | omega | (simp; done) | (simp; omega)) (by first | omega | (simp; done) | (simp; omega)) (by omega) ?_; intro pz) | (refine A_appN (enc := ic) rfl (by decide) rfl rfl (by first | omega | (simp; done) | (simp; omega)) (by omega) ?_; intro pz)
 | refine A_chk1 rfl rfl rfl ?_ | refine A_chk2 rfl rfl rfl rfl ?_ | refine A_chk3 rfl rfl rfl rfl rfl ?_ | refine A_chk4 rfl rfl rfl rfl rfl rfl ?_ | refine A_chkI rfl (by assumption) rfl (by simp) ?_
 | refine A_ret rfl (by exact (RP.t rfl (RP.t rfl RP.nil))) ?_)
  refine A_loop rfl [p] (fun m fr L => ∃ (n : Nat), m = len_xs - n ∧ fr = [(0, .c (.ptr q 0)), (4, iv w), (5, .c (.sl p 0 w)), (41, iv len_xs), (42, iv n)] ∧ L = [(p, ints (trm S w xs))] ∧ n ≤ len_xs ∧ ∀ i, i < n → dotN (trm S w xs) (dg S i w) w % S = xs.getD i 0) len_xs ⟨0, rfl, rfl, rfl, by omega, fun i hi => by omega⟩ ?_
  rintro m fr L ⟨n, rfl, rfl, rfl, hn, hA⟩
  by_cases hn' : n < len_xs
  · repeat' (first
 | refine A_go rfl ?_ | refine A_ifT rfl rfl ?_ | refine A_ifF rfl rfl ?_
 | refine A_add rfl rfl rfl (by omega) ?_ | refine A_sub rfl rfl rfl (by omega) ?_ | refine A_mul rfl rfl rfl (by omega) ?_ | refine A_rem rfl rfl rfl (by omega) ?_ | refine A_remT rfl rfl rfl (by omega) ?_
 | ((first | refine A_lt rfl rfl rfl ?_ ?_ | refine A_ne rfl rfl rfl ?_ ?_) <;> intro hc <;> try first | contradiction | (exfalso; omega) | exact absurd rfl hc)
 | refine A_idxN1 rfl rfl rfl (by omega) ?_ | refine A_idx1 rfl rfl rfl (by omega) ?_
 | (refine A_callM rfl rfl (fun s H => c_l03Cells (w := w)) ?_; rintro _ _ ⟨pz, rfl, rfl⟩) | (refine A_callM0 rfl rfl (fun s H => c_l03Cells (w := w)) ?_; rintro _ _ ⟨pz, rfl, rfl⟩)
 | refine A_fld rfl rfl ?_ | refine A_p (by rfl) rfl ?_
 | refine A_ldI rfl (by first | omega | (simp; done) | (simp; omega)) rfl ?_ | refine A_ldB rfl (by first | omega | (simp; done) | (simp; omega)) rfl ?_ | refine A_ld rfl (by rfl) rfl ?_
 | ((first | refine A_bld1 rfl rfl ?_ | refine A_bld2 rfl rfl rfl ?_ | refine A_bld4 rfl rfl rfl rfl rfl ?_) <;> intro pz hpz)
 | refine A_bld0 rfl ?_
 | (refine A_app rfl rfl rfl (by first | omega | (simp; done) | (simp; omega)) (by first | omega | (simp; done) | (simp; omega)) (by omega) ?_; intro pz) | (refine A_appN (enc := ic) rfl (by decide) rfl rfl (by first | omega | (simp; done) | (simp; omega)) (by omega) ?_; intro pz)
 | refine A_chk1 rfl rfl rfl ?_ | refine A_chk2 rfl rfl rfl rfl ?_ | refine A_chk3 rfl rfl rfl rfl rfl ?_ | refine A_chk4 rfl rfl rfl rfl rfl rfl ?_ | refine A_chkI rfl (by assumption) rfl (by simp) ?_
 | refine A_ret rfl (by exact (RP.t rfl (RP.t rfl RP.nil))) ?_)
    refine A_loop rfl [p, pz] (fun m fr L => ∃ (i : Nat) (t : Int), m = w - i ∧ fr = [(0, .c (.ptr q 0)), (4, iv w), (5, .c (.sl p 0 w)), (7, iv n), (8, .c (.sl pz 0 w)), (9, iv t), (41, iv len_xs), (42, iv n), (53, iv w), (54, iv i)] ∧ L = [(p, ints (trm S w xs)), (pz, ints (dg S n w))] ∧ i ≤ w ∧ t = dotN (trm S w xs) (dg S n w) i) w ⟨0, 0, rfl, rfl, rfl, by omega, rfl⟩ ?_
    rintro m fr L ⟨i, t, rfl, rfl, rfl, hi, ht⟩
    have h4 := dot_in hS.2 hdt (dg_mem (S := S) (n := n) (w := w) (by omega)) i (by simp; omega) (by simp; omega)
    by_cases hi' : i < w
    · have h5 := prod_in hS.2 (dg_mem (S := S) (n := n) (w := w) (by omega) _ (getD_mem (d := 0) (by simp; omega : i < (dg S n w).length))) (hdt _ (getD_mem (d := 0) (by simp; omega : i < (trm S w xs).length)))
      repeat' (first
 | refine A_go rfl ?_ | refine A_ifT rfl rfl ?_ | refine A_ifF rfl rfl ?_
 | refine A_add rfl rfl rfl (by omega) ?_ | refine A_sub rfl rfl rfl (by omega) ?_ | refine A_mul rfl rfl rfl (by omega) ?_ | refine A_rem rfl rfl rfl (by omega) ?_ | refine A_remT rfl rfl rfl (by omega) ?_
 | ((first | refine A_lt rfl rfl rfl ?_ ?_ | refine A_ne rfl rfl rfl ?_ ?_) <;> intro hc <;> try first | contradiction | (exfalso; omega) | exact absurd rfl hc)
 | refine A_idxN1 rfl rfl rfl (by omega) ?_ | refine A_idx1 rfl rfl rfl (by omega) ?_
 | refine A_fld rfl rfl ?_ | refine A_p (by rfl) rfl ?_
 | refine A_ldI rfl (by first | omega | (simp; done) | (simp; omega)) rfl ?_ | refine A_ldB rfl (by first | omega | (simp; done) | (simp; omega)) rfl ?_ | refine A_ld rfl (by rfl) rfl ?_
 | ((first | refine A_bld1 rfl rfl ?_ | refine A_bld2 rfl rfl rfl ?_ | refine A_bld4 rfl rfl rfl rfl rfl ?_) <;> intro pz hpz)
 | refine A_bld0 rfl ?_
 | (refine A_app rfl rfl rfl (by first | omega | (simp; done) | (simp; omega)) (by first | omega | (simp; done) | (simp; omega)) (by omega) ?_; intro pz) | (refine A_appN (enc := ic) rfl (by decide) rfl rfl (by first | omega | (simp; done) | (simp; omega)) (by omega) ?_; intro pz)
 | refine A_chk1 rfl rfl rfl ?_ | refine A_chk2 rfl rfl rfl rfl ?_ | refine A_chk3 rfl rfl rfl rfl rfl ?_ | refine A_chk4 rfl rfl rfl rfl rfl rfl ?_ | refine A_chkI rfl (by assumption) rfl (by simp) ?_
 | refine A_ret rfl (by exact (RP.t rfl (RP.t rfl RP.nil))) ?_)
      refine A_round rfl [p, pz] (w - (i + 1)) (by omega) ?_
      exact ⟨i + 1, _, rfl, rfl, rfl, by omega, by rw [ht, dotN, Int.mul_comm]⟩
    · obtain rfl : w = i := by omega
      repeat' (first
 | refine A_go rfl ?_ | refine A_ifT rfl rfl ?_ | refine A_ifF rfl rfl ?_
 | refine A_add rfl rfl rfl (by omega) ?_ | refine A_sub rfl rfl rfl (by omega) ?_ | refine A_mul rfl rfl rfl (by omega) ?_ | refine A_rem rfl rfl rfl (by omega) ?_ | refine A_remT rfl rfl rfl (by omega) ?_
 | ((first | refine A_lt rfl rfl rfl ?_ ?_ | refine A_ne rfl rfl rfl ?_ ?_) <;> intro hc <;> try first | contradiction | (exfalso; omega) | exact absurd rfl hc)
 | refine A_idxN1 rfl rfl rfl (by omega) ?_ | refine A_idx1 rfl rfl rfl (by omega) ?_
 | refine A_fld rfl rfl ?_ | refine A_p (by rfl) rfl ?_
 | refine A_ldI rfl (by first | omega | (simp; done) | (simp; omega)) rfl ?_ | refine A_ldB rfl (by first | omega | (simp; done) | (simp; omega)) rfl ?_ | refine A_ld rfl (by rfl) rfl ?_
 | ((first | refine A_bld1 rfl rfl ?_ | refine A_bld2 rfl rfl rfl ?_ | refine A_bld4 rfl rfl rfl rfl rfl ?_) <;> intro pz hpz)
 | refine A_bld0 rfl ?_
 | (refine A_app rfl rfl rfl (by first | omega | (simp; done) | (simp; omega)) (by first | omega | (simp; done) | (simp; omega)) (by omega) ?_; intro pz) | (refine A_appN (enc := ic) rfl (by decide) rfl rfl (by first | omega | (simp; done) | (simp; omega)) (by omega) ?_; intro pz)
 | refine A_chk1 rfl rfl rfl ?_ | refine A_chk2 rfl rfl rfl rfl ?_ | refine A_chk3 rfl rfl rfl rfl rfl ?_ | refine A_chk4 rfl rfl rfl rfl rfl rfl ?_ | refine A_chkI rfl (by assumption) rfl (by simp) ?_
 | refine A_ret rfl (by exact (RP.t rfl (RP.t rfl RP.nil))) ?_)
      · exact R_intsN fun h => hc (by rw [ht]; exact h n (by omega))
      · refine A_round rfl [p] (len_xs - (n + 1)) (by omega) ?_
        refine ⟨n + 1, rfl, rfl, rfl, by omega, fun k hk => ?_⟩
        by_cases e : k = n
        · subst e; rw [← ht]; exact hc
        · exact hA k (by omega)
  · obtain rfl : len_xs = n := by omega
    repeat' (first
 | refine A_go rfl ?_ | refine A_ifT rfl rfl ?_ | refine A_ifF rfl rfl ?_
 | refine A_add rfl rfl rfl (by omega) ?_ | refine A_sub rfl rfl rfl (by omega) ?_ | refine A_mul rfl rfl rfl (by omega) ?_ | refine A_rem rfl rfl rfl (by omega) ?_ | refine A_remT rfl rfl rfl (by omega) ?_
 | ((first | refine A_lt rfl rfl rfl ?_ ?_ | refine A_ne rfl rfl rfl ?_ ?_) <;> intro hc <;> try first | contradiction | (exfalso; omega) | exact absurd rfl hc)
 | refine A_idxN1 rfl rfl rfl (by omega) ?_ | refine A_idx1 rfl rfl rfl (by omega) ?_
 | refine A_fld rfl rfl ?_ | refine A_p (by rfl) rfl ?_
 | refine A_ldI rfl (by first | omega | (simp; done) | (simp; omega)) rfl ?_ | refine A_ldB rfl (by first | omega | (simp; done) | (simp; omega)) rfl ?_ | refine A_ld rfl (by rfl) rfl ?_
 | ((first | refine A_bld1 rfl rfl ?_ | refine A_bld2 rfl rfl rfl ?_ | refine A_bld4 rfl rfl rfl rfl rfl ?_) <;> intro pz hpz)
 | refine A_bld0 rfl ?_
 | (refine A_app rfl rfl rfl (by first | omega | (simp; done) | (simp; omega)) (by first | omega | (simp; done) | (simp; omega)) (by omega) ?_; intro pz) | (refine A_appN (enc := ic) rfl (by decide) rfl rfl (by first | omega | (simp; done) | (simp; omega)) (by omega) ?_; intro pz)
 | refine A_chk1 rfl rfl rfl ?_ | refine A_chk2 rfl rfl rfl rfl ?_ | refine A_chk3 rfl rfl rfl rfl rfl ?_ | refine A_chk4 rfl rfl rfl rfl rfl rfl ?_ | refine A_chkI rfl (by assumption) rfl (by simp) ?_
 | refine A_ret rfl (by exact (RP.t rfl (RP.t rfl RP.nil))) ?_)
    exact R_ints (fun n hn => hA n (by omega)) (by simp) (by omega)
/-- Whether a rule adds. -/
def AddsP (st re : Int) (xs : List Int) : Prop := Adds st.toNat (2 * re + 1).toNat xs
def trmR (st re : Int) (xs : List Int) : List Int := trm st.toNat (2 * re + 1).toNat xs
end Go.Proofs.Ytafdjnhlhepibaa
