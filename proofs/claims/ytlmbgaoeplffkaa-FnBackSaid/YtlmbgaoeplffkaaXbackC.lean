/- What remains of the law FnBack behind its first loop: the two tables of pairs. -/
import Derived.Test.YtlmbgaoeplffkaaXpairs
import Derived.Test.YtlmbgaoeplffkaaXbackN
import Derived.Test.YtlmbgaoeplffkaaXshifts
import Derived.Test.YtlmbgaoeplffkaaFB
namespace Go.Proofs.Ytlmbgaoeplffkaa
open Go Go.RowKit
set_option linter.unusedVariables false
set_option linter.unusedSimpArgs false
set_option maxRecDepth 100000
set_option maxHeartbeats 8000000
-- laws.FnBack
def L3 : AFun := ⟨245, [.t 4],
 (.seq (.ops false [⟨(some 4), .mv (.k (bv false)), none, []⟩])
 (.seq (.seq (.ops false [⟨(some 29), .mv (.t 0), none, []⟩,
    ⟨(some 30), .mv (.t 1), none, []⟩,
    ⟨(some 31), .call (.f 6) [(.t 29), (.t 30)], none, []⟩])
  (.cond (.t 31) (.seq (.ops false [⟨(some 4), .mv (.k (bv true)), none, []⟩])
   .ret)
   .skip))
 (.seq (.ops false [⟨(some 32), .mv (.t 1), none, []⟩,
   ⟨(some 33), .call (.f 7) [(.t 32), (.k (iv 0)), (.k (iv 3))], none, []⟩,
   ⟨(some 5), .mv (.t 33), none, []⟩])
 (.seq (.ops false [⟨(some 34), .mv (.t 0), none, []⟩,
   ⟨(some 35), .mv (.t 5), none, []⟩,
   ⟨(some 36), .call (.f 8) [(.t 34), (.t 35)], none, []⟩,
   ⟨(some 6), .alloc 27 [.int .i64 0, .int .i64 0, .sl 0 0 0], none, []⟩,
   ⟨none, .store 3 (.t 6) (.t 36), none, []⟩])
 (.seq (.ops false [⟨(some 37), .mv (.t 5), none, []⟩,
   ⟨(some 38), .bin .mul (.k (iv 2)) (.t 37), none, []⟩,
   ⟨(some 39), .bin .add (.t 38) (.k (iv 1)), none, []⟩,
   ⟨(some 40), .mv (.t 1), none, []⟩,
   ⟨(some 41), .call (.f 7) [(.t 40), (.k (iv 1)), (.k (iv 3))], none, []⟩,
   ⟨(some 42), .bin .add (.t 39) (.t 41), none, []⟩,
   ⟨(some 7), .mv (.t 42), none, []⟩])
 (.seq (.ops false [⟨(some 43), .mv (.t 1), none, []⟩,
   ⟨(some 44), .mv (.t 7), none, []⟩,
   ⟨(some 45), .call (.f 9) [(.t 43), (.k (iv 2)), (.t 44)], none, []⟩,
   ⟨(some 8), .mv (.t 45), none, []⟩])
 (.seq (.ops false [⟨(some 47), .load true 3 (.t 6), none, []⟩,
   ⟨(some 48), .mv (.t 8), none, []⟩,
   ⟨(some 49), .call (.f 10) [(.t 47), (.t 48)], none, []⟩,
   ⟨(some 46), .mv (.t 49), none, []⟩,
   ⟨(some 50), .ext (.t 46) 0, none, []⟩,
   ⟨(some 51), .ext (.t 46) 1, none, []⟩,
   ⟨(some 9), .mv (.t 50), none, []⟩,
   ⟨(some 10), .mv (.t 51), none, []⟩])
 (.seq (.ops false [⟨(some 53), .load true 3 (.t 6), none, []⟩,
   ⟨(some 54), .mv (.t 8), none, []⟩,
   ⟨(some 55), .call (.f 11) [(.t 53), (.t 54)], none, []⟩,
   ⟨(some 52), .mv (.t 55), none, []⟩,
   ⟨(some 56), .ext (.t 52) 0, none, []⟩,
   ⟨(some 57), .ext (.t 52) 1, none, []⟩,
   ⟨(some 11), .mv (.t 56), none, []⟩,
   ⟨(some 12), .mv (.t 57), none, []⟩])
 (.seq (.ops false [⟨(some 59), .load true 3 (.t 6), none, []⟩,
   ⟨(some 60), .mv (.t 8), none, []⟩,
   ⟨(some 61), .call (.f 12) [(.t 59), (.t 60)], none, []⟩,
   ⟨(some 58), .mv (.t 61), none, []⟩,
   ⟨(some 62), .ext (.t 58) 0, none, []⟩,
   ⟨(some 63), .ext (.t 58) 1, none, []⟩,
   ⟨(some 13), .mv (.t 62), none, []⟩,
   ⟨(some 14), .mv (.t 63), none, []⟩])
 (.seq (.ops true [⟨(some 69), .mv (.t 1), none, []⟩,
   ⟨(some 70), .call (.f 7) [(.t 69), (.k (iv 2)), (.k (iv 8))], none, []⟩,
   ⟨(some 65), .load true 3 (.t 6), none, [0]⟩,
   ⟨(some 66), .mv (.t 8), none, []⟩,
   ⟨(some 67), .mv (.t 8), none, []⟩,
   ⟨(some 68), .buildS 25 1 2 [.sl 0 0 0] [(0, 1, (.t 66)), (1, 1, (.t 67))], none, []⟩,
   ⟨(some 71), .bin .add (.k (iv 1)) (.t 70), none, []⟩,
   ⟨(some 72), .call (.f 13) [(.t 65), (.t 68), (.t 71)], none, []⟩,
   ⟨(some 64), .mv (.t 72), none, []⟩,
   ⟨(some 73), .ext (.t 64) 0, none, []⟩,
   ⟨(some 74), .ext (.t 64) 1, none, []⟩,
   ⟨(some 15), .mv (.t 73), none, []⟩,
   ⟨(some 16), .mv (.t 74), none, []⟩])
 (.seq (.seq (.ops false [⟨(some 75), .mv (.t 10), none, []⟩,
    ⟨(some 76), .un .not (.t 75), none, []⟩,
    ⟨(some 77), .mv (.t 76), none, []⟩,
    ⟨(some 78), .mv (.t 12), (some (77, false)), []⟩,
    ⟨(some 79), .un .not (.t 78), (some (77, false)), []⟩,
    ⟨(some 80), .pick (.t 77) (.k (bv true)) (.t 79), none, []⟩,
    ⟨(some 81), .mv (.t 80), none, []⟩,
    ⟨(some 82), .mv (.t 16), (some (81, false)), []⟩,
    ⟨(some 83), .un .not (.t 82), (some (81, false)), []⟩,
    ⟨(some 84), .pick (.t 81) (.k (bv true)) (.t 83), none, []⟩,
    ⟨(some 85), .mv (.t 84), none, []⟩,
    ⟨(some 86), .mv (.t 11), (some (85, false)), []⟩,
    ⟨(some 87), .len false (.t 86), (some (85, false)), []⟩,
    ⟨(some 88), .mv (.t 9), (some (85, false)), []⟩,
    ⟨(some 89), .bin .neq (.t 87) (.t 88), (some (85, false)), []⟩,
    ⟨(some 90), .pick (.t 85) (.k (bv true)) (.t 89), none, []⟩,
    ⟨(some 91), .mv (.t 90), none, []⟩,
    ⟨(some 92), .mv (.t 14), (some (91, false)), []⟩,
    ⟨(some 93), .mv (.t 9), (some (91, false)), []⟩,
    ⟨(some 94), .bin .gtr (.t 93) (.k (iv 0)), (some (91, false)), []⟩,
    ⟨(some 95), .beq true (.t 92) (.t 94), (some (91, false)), []⟩,
    ⟨(some 96), .pick (.t 91) (.k (bv true)) (.t 95), none, []⟩,
    ⟨(some 97), .mv (.t 96), none, []⟩,
    ⟨(some 98), .mv (.t 15), (some (97, false)), []⟩,
    ⟨(some 99), .len false (.t 98), (some (97, false)), []⟩,
    ⟨(some 100), .bin .neq (.t 99) (.k (iv 2)), (some (97, false)), []⟩,
    ⟨(some 101), .pick (.t 97) (.k (bv true)) (.t 100), none, []⟩,
    ⟨(some 102), .mv (.t 101), none, []⟩,
    ⟨(some 103), .mv (.t 15), (some (102, false)), []⟩,
    ⟨(some 104), .idxA 1 (.t 103) (.k (iv 0)), (some (102, false)), []⟩,
    ⟨(some 105), .load false 1 (.t 104), (some (102, false)), []⟩,
    ⟨(some 106), .mv (.t 9), (some (102, false)), []⟩,
    ⟨(some 107), .bin .neq (.t 105) (.t 106), (some (102, false)), []⟩,
    ⟨(some 108), .pick (.t 102) (.k (bv true)) (.t 107), none, []⟩,
    ⟨(some 109), .mv (.t 108), none, []⟩,
    ⟨(some 110), .mv (.t 15), (some (109, false)), []⟩,
    ⟨(some 111), .idxA 1 (.t 110) (.k (iv 1)), (some (109, false)), []⟩,
    ⟨(some 112), .load false 1 (.t 111), (some (109, false)), []⟩,
    ⟨(some 113), .mv (.t 9), (some (109, false)), []⟩,
    ⟨(some 114), .bin .neq (.t 112) (.t 113), (some (109, false)), []⟩,
    ⟨(some 115), .pick (.t 109) (.k (bv true)) (.t 114), none, []⟩])
  (.cond (.t 115) (.seq (.ops false [⟨(some 4), .mv (.k (bv false)), none, []⟩])
   .ret)
   .skip))
 (.seq (.ops false [⟨(some 17), .mv (.k (iv 0)), none, []⟩])
 (.seq (.seq (.ops false [⟨(some 18), .mv (.k (iv 0)), none, []⟩])
  (.block 0 (.loop [5, 6, 7, 8, 11, 13, 17, 18] (.seq (.seq (.ops false [⟨(some 116), .mv (.t 18), none, []⟩,
       ⟨(some 117), .mv (.t 7), none, []⟩,
       ⟨(some 118), .bin .shl (.k (iv 1)) (.t 117), none, []⟩,
       ⟨(some 119), .bin .lss (.t 116) (.t 118), none, []⟩])
     (.cond (.t 119) .skip
      (.exit 0)))
    (.seq (.block 1 (.seq (.ops false [⟨(some 122), .buildS 2 1 0 [.int .i64 0] [], none, []⟩,
        ⟨(some 19), .mv (.t 122), none, []⟩])
      (.seq (.seq (.ops false [⟨(some 123), .mv (.t 7), none, []⟩,
         ⟨(some 124), .bin .sub (.t 123) (.k (iv 1)), none, []⟩,
         ⟨(some 20), .mv (.t 124), none, []⟩])
       (.block 2 (.loop [5, 6, 7, 8, 11, 13, 17, 18, 19, 20] (.seq (.seq (.ops false [⟨(some 125), .mv (.t 20), none, []⟩,
            ⟨(some 126), .bin .geq (.t 125) (.k (iv 0)), none, []⟩])
          (.cond (.t 126) .skip
           (.exit 2)))
         (.seq (.block 3 (.ops false [⟨(some 129), .mv (.t 19), none, []⟩,
            ⟨(some 130), .mv (.t 18), none, []⟩,
            ⟨(some 131), .mv (.t 20), none, []⟩,
            ⟨(some 132), .conv .u64 (.t 131), none, []⟩,
            ⟨(some 133), .bin .shr (.t 130) (.t 132), none, []⟩,
            ⟨(some 134), .bin .and (.t 133) (.k (iv 1)), none, []⟩,
            ⟨(some 135), .buildS 2 1 1 [.int .i64 0] [(0, 1, (.t 134))], none, []⟩,
            ⟨(some 136), .append 2 1 8 (.t 129) (.t 135), none, []⟩,
            ⟨(some 19), .mv (.t 136), none, []⟩]))
         (.ops false [⟨(some 127), .mv (.t 20), none, []⟩,
          ⟨(some 128), .bin .sub (.t 127) (.k (iv 1)), none, []⟩,
          ⟨(some 20), .mv (.t 128), none, []⟩]))))))
      (.seq (.ops false [⟨(some 138), .load true 3 (.t 6), none, []⟩,
        ⟨(some 139), .mv (.t 19), none, []⟩,
        ⟨(some 140), .call (.f 14) [(.t 138), (.t 139)], none, []⟩,
        ⟨(some 137), .mv (.t 140), none, []⟩,
        ⟨(some 141), .ext (.t 137) 0, none, []⟩,
        ⟨(some 142), .ext (.t 137) 1, none, []⟩,
        ⟨(some 21), .mv (.t 141), none, []⟩,
        ⟨(some 22), .mv (.t 142), none, []⟩])
      (.seq (.seq (.ops false [⟨(some 143), .mv (.t 22), none, []⟩,
         ⟨(some 144), .un .not (.t 143), none, []⟩])
       (.cond (.t 144) (.seq (.ops false [⟨(some 4), .mv (.k (bv false)), none, []⟩])
        .ret)
        .skip))
      (.seq (.seq (.ops false [⟨(some 145), .mv (.t 21), none, []⟩,
         ⟨(some 146), .mv (.t 8), none, []⟩,
         ⟨(some 147), .call (.f 15) [(.t 145), (.t 146)], none, []⟩,
         ⟨(some 148), .un .not (.t 147), none, []⟩])
       (.cond (.t 148) (.exit 1)
        .skip))
      (.seq (.seq (.ops false [⟨(some 149), .mv (.t 17), none, []⟩,
         ⟨(some 150), .mv (.t 11), none, []⟩,
         ⟨(some 151), .len false (.t 150), none, []⟩,
         ⟨(some 152), .bin .geq (.t 149) (.t 151), none, []⟩,
         ⟨(some 153), .mv (.t 152), none, []⟩,
         ⟨(some 154), .mv (.t 11), (some (153, false)), []⟩,
         ⟨(some 155), .mv (.t 17), (some (153, false)), []⟩,
         ⟨(some 156), .idxA 1 (.t 154) (.t 155), (some (153, false)), []⟩,
         ⟨(some 157), .load false 1 (.t 156), (some (153, false)), []⟩,
         ⟨(some 158), .mv (.t 19), (some (153, false)), []⟩,
         ⟨(some 159), .call (.f 15) [(.t 157), (.t 158)], (some (153, false)), []⟩,
         ⟨(some 160), .un .not (.t 159), (some (153, false)), []⟩,
         ⟨(some 161), .pick (.t 153) (.k (bv true)) (.t 160), none, []⟩,
         ⟨(some 162), .mv (.t 161), none, []⟩,
         ⟨(some 163), .mv (.t 17), (some (162, false)), []⟩,
         ⟨(some 164), .bin .eql (.t 163) (.k (iv 0)), (some (162, false)), []⟩,
         ⟨(some 165), .mv (.t 164), (some (162, false)), []⟩,
         ⟨(some 166), .mv (.t 13), (some (165, true)), []⟩,
         ⟨(some 167), .mv (.t 19), (some (165, true)), []⟩,
         ⟨(some 168), .call (.f 15) [(.t 166), (.t 167)], (some (165, true)), []⟩,
         ⟨(some 169), .un .not (.t 168), (some (165, true)), []⟩,
         ⟨(some 170), .pick (.t 165) (.t 169) (.k (bv false)), (some (162, false)), []⟩,
         ⟨(some 171), .pick (.t 162) (.k (bv true)) (.t 170), none, []⟩])
       (.cond (.t 171) (.seq (.ops false [⟨(some 4), .mv (.k (bv false)), none, []⟩])
        .ret)
        .skip))
      (.ops false [⟨(some 172), .mv (.t 17), none, []⟩,
       ⟨(some 173), .bin .add (.t 172) (.k (iv 1)), none, []⟩,
       ⟨(some 17), .mv (.t 173), none, []⟩]))))))))
    (.ops false [⟨(some 120), .mv (.t 18), none, []⟩,
     ⟨(some 121), .bin .add (.t 120) (.k (iv 1)), none, []⟩,
     ⟨(some 18), .mv (.t 121), none, []⟩]))))))
 (.seq (.ops false [⟨(some 175), .load true 3 (.t 6), none, []⟩,
   ⟨(some 176), .call (.f 16) [(.t 175), (.k (iv 0))], none, []⟩,
   ⟨(some 174), .mv (.t 176), none, []⟩,
   ⟨(some 177), .ext (.t 174) 0, none, []⟩,
   ⟨(some 178), .ext (.t 174) 1, none, []⟩,
   ⟨(some 23), .mv (.t 177), none, []⟩,
   ⟨(some 24), .mv (.t 178), none, []⟩])
 (.seq (.ops false [⟨(some 180), .load true 3 (.t 6), none, []⟩,
   ⟨(some 181), .call (.f 16) [(.t 180), (.k (iv 1))], none, []⟩,
   ⟨(some 179), .mv (.t 181), none, []⟩,
   ⟨(some 182), .ext (.t 179) 0, none, []⟩,
   ⟨(some 183), .ext (.t 179) 1, none, []⟩,
   ⟨(some 25), .mv (.t 182), none, []⟩,
   ⟨(some 26), .mv (.t 183), none, []⟩])
 (.seq (.seq (.ops false [⟨(some 184), .mv (.t 24), none, []⟩,
    ⟨(some 185), .un .not (.t 184), none, []⟩,
    ⟨(some 186), .mv (.t 185), none, []⟩,
    ⟨(some 187), .mv (.t 26), (some (186, false)), []⟩,
    ⟨(some 188), .un .not (.t 187), (some (186, false)), []⟩,
    ⟨(some 189), .pick (.t 186) (.k (bv true)) (.t 188), none, []⟩,
    ⟨(some 190), .mv (.t 189), none, []⟩,
    ⟨(some 191), .mv (.t 23), (some (190, false)), []⟩,
    ⟨(some 192), .len false (.t 191), (some (190, false)), []⟩,
    ⟨(some 193), .mv (.t 25), (some (190, false)), []⟩,
    ⟨(some 194), .len false (.t 193), (some (190, false)), []⟩,
    ⟨(some 195), .bin .neq (.t 192) (.t 194), (some (190, false)), []⟩,
    ⟨(some 196), .pick (.t 190) (.k (bv true)) (.t 195), none, []⟩,
    ⟨(some 197), .mv (.t 196), none, []⟩,
    ⟨(some 198), .mv (.t 23), (some (197, false)), []⟩,
    ⟨(some 199), .len false (.t 198), (some (197, false)), []⟩,
    ⟨(some 200), .mv (.t 5), (some (197, false)), []⟩,
    ⟨(some 201), .bin .mul (.k (iv 4)) (.t 200), (some (197, false)), []⟩,
    ⟨(some 202), .bin .shl (.k (iv 1)) (.t 201), (some (197, false)), []⟩,
    ⟨(some 203), .bin .neq (.t 199) (.t 202), (some (197, false)), []⟩,
    ⟨(some 204), .pick (.t 197) (.k (bv true)) (.t 203), none, []⟩])
  (.cond (.t 204) (.seq (.ops false [⟨(some 4), .mv (.k (bv false)), none, []⟩])
   .ret)
   .skip))
 (.seq (.ops false [⟨(some 27), .mv (.k (iv 0)), none, []⟩])
 (.seq (.seq (.ops false [⟨(some 205), .mv (.t 23), none, []⟩,
    ⟨(some 206), .len false (.t 205), none, []⟩,
    ⟨(some 207), .mv (.k (iv 0)), none, []⟩])
  (.block 4 (.loop [6, 11, 17, 23, 25, 27, 206, 207] (.seq (.ops false [⟨(some 208), .bin .lss (.t 207) (.t 206), none, []⟩])
    (.seq (.cond (.t 208) .skip
      (.exit 4))
    (.seq (.block 5 (.seq (.ops false [⟨(some 209), .mv (.t 207), none, []⟩,
        ⟨(some 28), .mv (.t 209), none, []⟩])
      (.seq (.seq (.ops false [⟨(some 210), .mv (.t 23), none, []⟩,
         ⟨(some 211), .mv (.t 28), none, []⟩,
         ⟨(some 212), .idxA 1 (.t 210) (.t 211), none, []⟩,
         ⟨(some 213), .load false 1 (.t 212), none, []⟩,
         ⟨(some 214), .bin .lss (.t 213) (.k (iv 0)), none, []⟩,
         ⟨(some 215), .mv (.t 214), none, []⟩,
         ⟨(some 216), .mv (.t 25), (some (215, false)), []⟩,
         ⟨(some 217), .mv (.t 28), (some (215, false)), []⟩,
         ⟨(some 218), .idxA 1 (.t 216) (.t 217), (some (215, false)), []⟩,
         ⟨(some 219), .load false 1 (.t 218), (some (215, false)), []⟩,
         ⟨(some 220), .bin .lss (.t 219) (.k (iv 0)), (some (215, false)), []⟩,
         ⟨(some 221), .pick (.t 215) (.k (bv true)) (.t 220), none, []⟩])
       (.cond (.t 221) (.seq (.ops false [⟨(some 4), .mv (.k (bv false)), none, []⟩])
        .ret)
        .skip))
      (.ops true [⟨(some 222), .mv (.t 27), none, []⟩,
       ⟨(some 223), .mv (.t 23), none, []⟩,
       ⟨(some 224), .mv (.t 28), none, []⟩,
       ⟨(some 225), .idxA 1 (.t 223) (.t 224), none, []⟩,
       ⟨(some 226), .load false 1 (.t 225), none, []⟩,
       ⟨(some 227), .mv (.t 25), none, []⟩,
       ⟨(some 228), .mv (.t 28), none, []⟩,
       ⟨(some 229), .idxA 1 (.t 227) (.t 228), none, []⟩,
       ⟨(some 230), .load false 1 (.t 229), none, []⟩,
       ⟨(some 231), .bin .add (.t 226) (.t 230), none, []⟩,
       ⟨(some 232), .bin .add (.t 222) (.t 231), none, []⟩,
       ⟨(some 27), .mv (.t 232), none, []⟩]))))
    (.ops false [⟨(some 233), .bin .add (.t 207) (.k (iv 1)), none, []⟩,
     ⟨(some 207), .mv (.t 233), none, []⟩])))))))
 (.seq (.ops false [⟨(some 234), .mv (.t 17), none, []⟩,
   ⟨(some 235), .mv (.t 11), none, []⟩,
   ⟨(some 236), .len false (.t 235), none, []⟩,
   ⟨(some 237), .bin .eql (.t 234) (.t 236), none, []⟩,
   ⟨(some 238), .mv (.t 237), none, []⟩,
   ⟨(some 239), .mv (.t 27), (some (238, true)), []⟩,
   ⟨(some 240), .fieldA 2 (.t 6), (some (238, true)), []⟩,
   ⟨(some 241), .load false 1 (.t 240), (some (238, true)), []⟩,
   ⟨(some 242), .len false (.t 241), (some (238, true)), []⟩,
   ⟨(some 243), .bin .eql (.t 239) (.t 242), (some (238, true)), []⟩,
   ⟨(some 244), .pick (.t 238) (.t 243) (.k (bv false)), none, []⟩,
   ⟨(some 4), .mv (.t 244), none, []⟩])
 .ret)))))))))))))))))))⟩
theorem code3 : acode Try.prog hints 3 = some L3 := by kernel_rfl


theorem c_ptabYes {s : St} [Wf s] {st re to : Int} {M : Nat} {zs : List Int} {id_xs off_xs len_xs : Nat} {xs : List Int} [h_xs : ArgE ic s id_xs off_xs xs] (hl_xs : xs.length = len_xs := by first | rfl | simp | omega | (simp; omega)) (h : VR st re xs ∧ 0 ≤ to ∧ to ≤ st - 1) (hz : zs = ptabR st re xs to) (hM : zs.length = M) (hb : len_xs ≤ 2000000 := by omega) :
    Fn [] 16 [.agg [ic st, ic re, .sl id_xs off_xs len_xs], iv to] s fun R N => ∃ p, R = .tup [.c (.sl p 0 M), .c (.bool true)] ∧ N = [(p, ints zs)] :=
  (c_implPairTable (xs := xs)).mono fun R N k => by
    obtain ⟨p, rfl, rfl, _⟩ := k
    subst hz
    exact ⟨p, by simp only [sel_t h, tt_t h, hM], by rw [sel_t h]⟩
theorem A_shlM {B : List Nat} {b : St} {L : Objs} {l : List AStep} {hist : List Objs} {fr : Frm} {kk : KK} {d : Nat} {chk : List Nat} {g : Option (Nat × Bool)} {y : Opd} {n M : Nat} {q : IntKind} (hM : 2 ^ n = M) (hy : ev fr y = some (.c (.int q (n : Int)))) (hg : gon fr g = some true) (hn : n ≤ 12)
    (h : At B b L l hist ((d, iv (M : Int)) :: fr) kk) : At B b L (⟨some d, .bin .shl (.k (iv 1)) y, g, chk⟩ :: l) hist fr kk := by
  subst hM; exact A_shlF hy hg hn h
theorem sg_bd {f : Nat → Int} {b : Int} (h : ∀ i, 0 ≤ f i ∧ f i ≤ b) : ∀ n : Nat, 0 ≤ sg f n ∧ sg f n ≤ b * n
  | 0 => by simp [sg]
  | n + 1 => by
    have ih := sg_bd h n
    have h1 := h n
    have e : b * ((n + 1 : Nat) : Int) = b * n + b := by push_cast; rw [Int.mul_add, Int.mul_one]
    rw [sg, e]; omega
abbrev BkK (n : Nat) : KK := .thn (tlc n (L3).body) (.ret [.t 4] fun r N => r = bv true ∧ N = [])
theorem bk_tail {s : St} [Wf s] {r p6 pt pa c : Nat} {xs : List Int} {v1 v2 v3 v4 v5 v6 v7 v8 : AV} (hr : r ≤ 2) (hv : VR 2 r xs) (hc0 : c ≤ 2000000) :
    At [] s [(p6, .rw 27 3 [ic 2, ic r, .sl pt 0 xs.length]), (pt, ints xs)] [] [] [(119, v1), (118, v2), (117, v3), (116, v4), (5, iv r), (6, .c (.ptr p6 0)), (7, v5), (8, v6), (11, .c (.sl pa 0 c)), (13, v7), (17, iv c), (18, v8)] (BkK 13) := by
  obtain ⟨S, w, E, hS2, hS, hw, hw1, hE, hl, hEb, hdg⟩ := hv.nat
  obtain rfl : S = 2 := by omega
  have hwr : w - 1 = 2 * r := by omega
  rw [hwr] at hE
  obtain ⟨M, hM⟩ : ∃ M : Nat, 2 ^ (4 * r) = M := ⟨_, rfl⟩
  have hEE : E * E = M := by rw [hE, ← Nat.pow_add, ← hM]; congr 1; omega
  have hEr : (2 : Int).toNat ^ (2 * (r : Int)).toNat = E := by rw [hE]; show 2 ^ (2 * (r : Int)).toNat = 2 ^ (2 * r); rw [show (2 * (r : Int)).toNat = 2 * r by omega]
  have hE16 : E ≤ 16 := by rw [hE]; exact Nat.le_trans (Nat.pow_le_pow_right (by omega) (show 2 * r ≤ 4 by omega)) (by decide)
  have hM256 : M ≤ 256 := by rw [← hEE]; exact Nat.mul_le_mul hE16 hE16
  obtain ⟨z0, hz0⟩ : ∃ z, z = ptabR 2 r xs 0 := ⟨_, rfl⟩
  obtain ⟨z1, hz1⟩ : ∃ z, z = ptabR 2 r xs 1 := ⟨_, rfl⟩
  have hl0 : z0.length = M := by rw [hz0, ptabR, ptab_len, hEr, hEE]
  have hl1 : z1.length = M := by rw [hz1, ptabR, ptab_len, hEr, hEE]
  have hb0 : ∀ i, 0 ≤ z0.getD i 0 ∧ z0.getD i 0 ≤ 32 := fun i => by
    have := ptab_in (S := (2 : Int).toNat) (E := (2 : Int).toNat ^ (2 * (r : Int)).toNat) (xs := xs) (to := 0) xs.length i
    rw [hz0, ptabR]; omega
  have hb1 : ∀ i, 0 ≤ z1.getD i 0 ∧ z1.getD i 0 ≤ 32 := fun i => by
    have := ptab_in (S := (2 : Int).toNat) (E := (2 : Int).toNat ^ (2 * (r : Int)).toNat) (xs := xs) (to := 1) xs.length i
    rw [hz1, ptabR]; omega
  have hsum : sg (fun i => z0.getD i 0 + z1.getD i 0) M = xs.length := by
    rw [hz0, hz1, ptabR, ptabR, hEr, hl, ← hEE]
    have h := ptab_both (S := 2) (E := E) (xs := xs) (by omega) hl hdg
    rw [hl] at h; exact h
  have hsb : ∀ n, 0 ≤ sg (fun i => z0.getD i 0 + z1.getD i 0) n ∧ sg (fun i => z0.getD i 0 + z1.getD i 0) n ≤ 64 * n := sg_bd fun i => by
    have := hb0 i; have := hb1 i; omega
  have hxb : xs.length ≤ 2000000 := by omega
  repeat' (first
 | refine A_go rfl ?_ | refine A_ifT rfl rfl ?_ | refine A_ifF rfl rfl ?_ | refine A_offP rfl rfl ?_ | refine A_offH rfl rfl ?_ | refine A_off0 rfl rfl ?_
 | refine A_add rfl rfl rfl (by omega) ?_ | refine A_sub rfl rfl rfl (by omega) ?_ | refine A_mul rfl rfl rfl (by omega) ?_ | refine A_rem rfl rfl rfl (by omega) ?_ | refine A_remT rfl rfl rfl (by omega) ?_ | refine A_quo rfl rfl rfl (by omega) ?_
 | ((first | refine A_lt rfl rfl rfl ?_ ?_ | refine A_le rfl rfl rfl ?_ ?_ | refine A_gt rfl rfl rfl ?_ ?_ | refine A_ge rfl rfl rfl ?_ ?_ | refine A_eq rfl rfl rfl ?_ ?_ | refine A_ne rfl rfl rfl ?_ ?_ | refine A_beq rfl rfl rfl ?_ ?_) <;> intro hc <;> try first | contradiction | (exfalso; omega) | exact absurd rfl hc)
 | refine A_idxN1 rfl rfl rfl (by omega) ?_ | refine A_idx1 rfl rfl rfl (by omega) ?_ | refine A_idxArr1 rfl rfl rfl (by omega) ?_
 | (refine A_callM rfl rfl (fun s H => c_ptabYes (to := 0) (zs := z0) (M := M) (h := ⟨hv, by omega, by omega⟩) (hz := hz0) (hM := hl0)) ?_; rintro _ _ ⟨pz, rfl, rfl⟩) | (refine A_callM0 rfl rfl (fun s H => c_ptabYes (to := 0) (zs := z0) (M := M) (h := ⟨hv, by omega, by omega⟩) (hz := hz0) (hM := hl0)) ?_; rintro _ _ ⟨pz, rfl, rfl⟩)
 | (refine A_callM rfl rfl (fun s H => c_ptabYes (to := 1) (zs := z1) (M := M) (h := ⟨hv, by omega, by omega⟩) (hz := hz1) (hM := hl1)) ?_; rintro _ _ ⟨pz, rfl, rfl⟩) | (refine A_callM0 rfl rfl (fun s H => c_ptabYes (to := 1) (zs := z1) (M := M) (h := ⟨hv, by omega, by omega⟩) (hz := hz1) (hM := hl1)) ?_; rintro _ _ ⟨pz, rfl, rfl⟩)
 | refine A_shlM (n := 4 * r) hM rfl rfl (by omega) ?_
 | refine A_fld rfl rfl ?_ | refine A_mk3 rfl rfl rfl rfl ?_ | refine A_mk23 rfl rfl rfl ?_ | refine A_mk2 rfl rfl rfl ?_ | refine A_mk13 rfl rfl ?_ | refine A_p (by rfl) rfl ?_
 | refine A_ldI rfl (by first | omega | (simp; done) | (simp; omega)) rfl ?_ | refine A_ldB rfl (by first | omega | (simp; done) | (simp; omega)) rfl ?_ | refine A_ld rfl (by rfl) rfl ?_ | refine A_ldW rfl (by simp) rfl ?_
 | refine A_st rfl rfl rfl ?_ | refine A_stW rfl rfl (by simp) rfl ?_ | refine A_stE rfl rfl (by first | omega | (simp; done) | (simp; omega)) rfl ?_
 | ((first | refine A_alloc rfl ?_ | refine A_box rfl rfl ?_ | refine A_boxC rfl rfl ?_ | refine A_makeN rfl rfl rfl (by omega) ?_ | refine A_make rfl rfl rfl (by omega) ?_ | refine A_bld1 rfl rfl ?_ | refine A_bld2 rfl rfl rfl ?_ | refine A_bld4 rfl rfl rfl rfl rfl ?_) <;> intro pz hpz)
 | refine A_bld0 rfl ?_ | (refine A_app rfl rfl rfl (by first | omega | (simp; done) | (simp; omega)) (by first | omega | (simp; done) | (simp; omega)) (by omega) ?_; intro pz) | (refine A_appN (enc := ic) rfl (by decide) rfl rfl (by first | omega | (simp; done) | (simp; omega)) (by omega) ?_; intro pz)
 | refine A_chk1 rfl rfl rfl ?_ | refine A_chk2 rfl rfl rfl rfl ?_ | refine A_chk3 rfl rfl rfl rfl rfl ?_ | refine A_chk4 rfl rfl rfl rfl rfl rfl ?_ | refine A_chkI rfl (by assumption) rfl (by simp) ?_
 | refine A_ret1 rfl (by first | exact (RP.t rfl RP.nil) | exact (RP.c rfl inferInstance rfl (by simp) RP.nil)) ?_ | refine A_ret rfl (by first | exact (RP.t rfl (RP.t rfl RP.nil)) | exact (RP.c rfl inferInstance rfl (by simp) (RP.t rfl RP.nil)) | exact (RP.t rfl (RP.t rfl (RP.t rfl RP.nil))) | exact (RP.c rfl inferInstance rfl (by simp) (RP.t rfl (RP.t rfl RP.nil))) | exact (RP.c rfl inferInstance rfl (by simp) (RP.t rfl (RP.t rfl (RP.t rfl (RP.t rfl RP.nil)))))) ?_ | refine A_ret0 rfl ?_)
  obtain ⟨q1, hEq⟩ : ∃ p, p = pz := ⟨_, rfl⟩; subst hEq
  obtain ⟨q0, hEq⟩ : ∃ p, p = pz := ⟨_, rfl⟩; subst hEq
  refine A_loop rfl [p6, pt, q0, q1] (fun m fr L => ∃ i : Nat, m = M - i ∧ fr = [(6, .c (.ptr p6 0)), (11, .c (.sl pa 0 c)), (17, iv c), (23, .c (.sl q0 0 M)), (25, .c (.sl q1 0 M)), (27, iv (sg (fun i => z0.getD i 0 + z1.getD i 0) i)), (206, iv M), (207, iv i)] ∧ L = [(p6, .rw 27 3 [ic 2, ic r, .sl pt 0 xs.length]), (pt, ints xs), (q0, ints z0), (q1, ints z1)] ∧ i ≤ M) M ⟨0, rfl, rfl, rfl, by omega⟩ ?_
  rintro m fr L ⟨i, rfl, rfl, rfl, hi⟩
  by_cases hi' : i < M
  · have e0 := hb0 i
    have e1 := hb1 i
    have e2 := hsb i
    repeat' (first
 | refine A_go rfl ?_ | refine A_ifT rfl rfl ?_ | refine A_ifF rfl rfl ?_ | refine A_offP rfl rfl ?_ | refine A_offH rfl rfl ?_ | refine A_off0 rfl rfl ?_
 | refine A_add rfl rfl rfl (by omega) ?_ | refine A_sub rfl rfl rfl (by omega) ?_ | refine A_mul rfl rfl rfl (by omega) ?_ | refine A_rem rfl rfl rfl (by omega) ?_ | refine A_remT rfl rfl rfl (by omega) ?_ | refine A_quo rfl rfl rfl (by omega) ?_
 | ((first | refine A_lt rfl rfl rfl ?_ ?_ | refine A_le rfl rfl rfl ?_ ?_ | refine A_gt rfl rfl rfl ?_ ?_ | refine A_ge rfl rfl rfl ?_ ?_ | refine A_eq rfl rfl rfl ?_ ?_ | refine A_ne rfl rfl rfl ?_ ?_ | refine A_beq rfl rfl rfl ?_ ?_) <;> intro hc <;> try first | contradiction | (exfalso; omega) | exact absurd rfl hc)
 | refine A_idxN1 rfl rfl rfl (by omega) ?_ | refine A_idx1 rfl rfl rfl (by omega) ?_ | refine A_idxArr1 rfl rfl rfl (by omega) ?_
 | refine A_fld rfl rfl ?_ | refine A_mk3 rfl rfl rfl rfl ?_ | refine A_mk23 rfl rfl rfl ?_ | refine A_mk2 rfl rfl rfl ?_ | refine A_mk13 rfl rfl ?_ | refine A_p (by rfl) rfl ?_
 | refine A_ldI rfl (by first | omega | (simp; done) | (simp; omega)) rfl ?_ | refine A_ldB rfl (by first | omega | (simp; done) | (simp; omega)) rfl ?_ | refine A_ld rfl (by rfl) rfl ?_ | refine A_ldW rfl (by simp) rfl ?_
 | refine A_st rfl rfl rfl ?_ | refine A_stW rfl rfl (by simp) rfl ?_ | refine A_stE rfl rfl (by first | omega | (simp; done) | (simp; omega)) rfl ?_
 | ((first | refine A_alloc rfl ?_ | refine A_box rfl rfl ?_ | refine A_boxC rfl rfl ?_ | refine A_makeN rfl rfl rfl (by omega) ?_ | refine A_make rfl rfl rfl (by omega) ?_ | refine A_bld1 rfl rfl ?_ | refine A_bld2 rfl rfl rfl ?_ | refine A_bld4 rfl rfl rfl rfl rfl ?_) <;> intro pz hpz)
 | refine A_bld0 rfl ?_ | (refine A_app rfl rfl rfl (by first | omega | (simp; done) | (simp; omega)) (by first | omega | (simp; done) | (simp; omega)) (by omega) ?_; intro pz) | (refine A_appN (enc := ic) rfl (by decide) rfl rfl (by first | omega | (simp; done) | (simp; omega)) (by omega) ?_; intro pz)
 | refine A_chk1 rfl rfl rfl ?_ | refine A_chk2 rfl rfl rfl rfl ?_ | refine A_chk3 rfl rfl rfl rfl rfl ?_ | refine A_chk4 rfl rfl rfl rfl rfl rfl ?_ | refine A_chkI rfl (by assumption) rfl (by simp) ?_
 | refine A_ret1 rfl (by first | exact (RP.t rfl RP.nil) | exact (RP.c rfl inferInstance rfl (by simp) RP.nil)) ?_ | refine A_ret rfl (by first | exact (RP.t rfl (RP.t rfl RP.nil)) | exact (RP.c rfl inferInstance rfl (by simp) (RP.t rfl RP.nil)) | exact (RP.t rfl (RP.t rfl (RP.t rfl RP.nil))) | exact (RP.c rfl inferInstance rfl (by simp) (RP.t rfl (RP.t rfl RP.nil))) | exact (RP.c rfl inferInstance rfl (by simp) (RP.t rfl (RP.t rfl (RP.t rfl (RP.t rfl RP.nil)))))) ?_ | refine A_ret0 rfl ?_)
    refine A_round rfl [p6, pt, q0, q1] (M - (i + 1)) (by omega) ?_
    exact ⟨i + 1, rfl, rfl, rfl, by omega⟩
  · obtain rfl : M = i := by omega
    repeat' (first
 | refine A_go rfl ?_ | refine A_ifT rfl rfl ?_ | refine A_ifF rfl rfl ?_ | refine A_offP rfl rfl ?_ | refine A_offH rfl rfl ?_ | refine A_off0 rfl rfl ?_
 | refine A_add rfl rfl rfl (by omega) ?_ | refine A_sub rfl rfl rfl (by omega) ?_ | refine A_mul rfl rfl rfl (by omega) ?_ | refine A_rem rfl rfl rfl (by omega) ?_ | refine A_remT rfl rfl rfl (by omega) ?_ | refine A_quo rfl rfl rfl (by omega) ?_
 | ((first | refine A_lt rfl rfl rfl ?_ ?_ | refine A_le rfl rfl rfl ?_ ?_ | refine A_gt rfl rfl rfl ?_ ?_ | refine A_ge rfl rfl rfl ?_ ?_ | refine A_eq rfl rfl rfl ?_ ?_ | refine A_ne rfl rfl rfl ?_ ?_ | refine A_beq rfl rfl rfl ?_ ?_) <;> intro hc <;> try first | contradiction | (exfalso; omega) | exact absurd rfl hc)
 | refine A_idxN1 rfl rfl rfl (by omega) ?_ | refine A_idx1 rfl rfl rfl (by omega) ?_ | refine A_idxArr1 rfl rfl rfl (by omega) ?_
 | refine A_fld rfl rfl ?_ | refine A_mk3 rfl rfl rfl rfl ?_ | refine A_mk23 rfl rfl rfl ?_ | refine A_mk2 rfl rfl rfl ?_ | refine A_mk13 rfl rfl ?_ | refine A_p (by rfl) rfl ?_
 | refine A_ldI rfl (by first | omega | (simp; done) | (simp; omega)) rfl ?_ | refine A_ldB rfl (by first | omega | (simp; done) | (simp; omega)) rfl ?_ | refine A_ld rfl (by rfl) rfl ?_ | refine A_ldW rfl (by simp) rfl ?_
 | refine A_st rfl rfl rfl ?_ | refine A_stW rfl rfl (by simp) rfl ?_ | refine A_stE rfl rfl (by first | omega | (simp; done) | (simp; omega)) rfl ?_
 | ((first | refine A_alloc rfl ?_ | refine A_box rfl rfl ?_ | refine A_boxC rfl rfl ?_ | refine A_makeN rfl rfl rfl (by omega) ?_ | refine A_make rfl rfl rfl (by omega) ?_ | refine A_bld1 rfl rfl ?_ | refine A_bld2 rfl rfl rfl ?_ | refine A_bld4 rfl rfl rfl rfl rfl ?_) <;> intro pz hpz)
 | refine A_bld0 rfl ?_ | (refine A_app rfl rfl rfl (by first | omega | (simp; done) | (simp; omega)) (by first | omega | (simp; done) | (simp; omega)) (by omega) ?_; intro pz) | (refine A_appN (enc := ic) rfl (by decide) rfl rfl (by first | omega | (simp; done) | (simp; omega)) (by omega) ?_; intro pz)
 | refine A_chk1 rfl rfl rfl ?_ | refine A_chk2 rfl rfl rfl rfl ?_ | refine A_chk3 rfl rfl rfl rfl rfl ?_ | refine A_chk4 rfl rfl rfl rfl rfl rfl ?_ | refine A_chkI rfl (by assumption) rfl (by simp) ?_
 | refine A_ret1 rfl (by first | exact (RP.t rfl RP.nil) | exact (RP.c rfl inferInstance rfl (by simp) RP.nil)) ?_ | refine A_ret rfl (by first | exact (RP.t rfl (RP.t rfl RP.nil)) | exact (RP.c rfl inferInstance rfl (by simp) (RP.t rfl RP.nil)) | exact (RP.t rfl (RP.t rfl (RP.t rfl RP.nil))) | exact (RP.c rfl inferInstance rfl (by simp) (RP.t rfl (RP.t rfl RP.nil))) | exact (RP.c rfl inferInstance rfl (by simp) (RP.t rfl (RP.t rfl (RP.t rfl (RP.t rfl RP.nil)))))) ?_ | refine A_ret0 rfl ?_)
    exact R_v rfl

end Go.Proofs.Ytlmbgaoeplffkaa
