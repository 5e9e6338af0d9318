/- What remains of the law FnBackwards behind its loops. -/
import Derived.Test.YtafdjnhlhepibaaXringDraw
import Derived.Test.YtafdjnhlhepibaaFB
namespace Go.Proofs.Ytafdjnhlhepibaa
open Go Go.RowKit
set_option linter.unusedVariables false
set_option linter.unusedSimpArgs false
set_option maxRecDepth 100000
set_option maxHeartbeats 8000000
-- laws.FnBackwards
def L9 : AFun := ⟨371, [.t 4],
 (.seq (.ops false [⟨(some 4), .mv (.k (bv false)), none, []⟩])
 (.seq (.seq (.ops false [⟨(some 46), .mv (.t 0), none, []⟩,
    ⟨(some 47), .mv (.t 1), none, []⟩,
    ⟨(some 48), .call (.f 43) [(.t 46), (.t 47)], none, []⟩])
  (.cond (.t 48) (.seq (.ops false [⟨(some 4), .mv (.k (bv true)), none, []⟩])
   .ret)
   .skip))
 (.seq (.ops false [⟨(some 49), .mv (.t 1), none, []⟩,
   ⟨(some 50), .call (.f 44) [(.t 49), (.k (iv 40)), (.k (iv 2))], none, []⟩,
   ⟨(some 51), .bin .add (.k (iv 2)) (.t 50), none, []⟩,
   ⟨(some 5), .mv (.t 51), none, []⟩])
 (.seq (.ops false [⟨(some 52), .mv (.t 0), none, []⟩,
   ⟨(some 53), .mv (.t 5), none, []⟩,
   ⟨(some 54), .mv (.t 1), none, []⟩,
   ⟨(some 55), .call (.f 44) [(.t 54), (.k (iv 41)), (.k (iv 2))], none, []⟩,
   ⟨(some 56), .call (.f 45) [(.t 52), (.t 53), (.t 55)], none, []⟩,
   ⟨(some 6), .alloc 30 [.int .i64 0, .int .i64 0, .sl 0 0 0], none, []⟩,
   ⟨none, .store 3 (.t 6) (.t 56), none, []⟩])
 (.seq (.ops false [⟨(some 57), .mv (.t 1), none, []⟩,
   ⟨(some 58), .call (.f 44) [(.t 57), (.k (iv 42)), (.k (iv 12))], none, []⟩,
   ⟨(some 59), .bin .add (.k (iv 1)) (.t 58), none, []⟩,
   ⟨(some 7), .mv (.t 59), none, []⟩])
 (.seq (.ops false [⟨(some 60), .mv (.t 0), none, []⟩,
   ⟨(some 61), .mv (.t 5), none, []⟩,
   ⟨(some 62), .mv (.t 7), none, []⟩,
   ⟨(some 63), .call (.f 46) [(.t 60), (.t 61), (.t 62)], none, []⟩,
   ⟨(some 8), .mv (.t 63), none, []⟩])
 (.seq (.ops false [⟨(some 64), .mv (.t 1), none, []⟩,
   ⟨(some 65), .mv (.t 5), none, []⟩,
   ⟨(some 66), .mv (.t 7), none, []⟩,
   ⟨(some 67), .call (.f 46) [(.t 64), (.t 65), (.t 66)], none, []⟩,
   ⟨(some 9), .mv (.t 67), none, []⟩])
 (.seq (.ops false [⟨(some 69), .load true 3 (.t 6), none, []⟩,
   ⟨(some 70), .mv (.t 8), none, []⟩,
   ⟨(some 71), .mv (.t 9), none, []⟩,
   ⟨(some 72), .call (.f 47) [(.t 69), (.t 70), (.t 71)], none, []⟩,
   ⟨(some 68), .mv (.t 72), none, []⟩,
   ⟨(some 73), .ext (.t 68) 0, none, []⟩,
   ⟨(some 74), .ext (.t 68) 1, none, []⟩,
   ⟨(some 10), .mv (.t 73), none, []⟩,
   ⟨(some 11), .mv (.t 74), none, []⟩])
 (.seq (.ops false [⟨(some 76), .load true 3 (.t 6), none, []⟩,
   ⟨(some 77), .mv (.t 10), none, []⟩,
   ⟨(some 78), .mv (.t 9), none, []⟩,
   ⟨(some 79), .call (.f 47) [(.t 76), (.t 77), (.t 78)], none, []⟩,
   ⟨(some 75), .mv (.t 79), none, []⟩,
   ⟨(some 80), .ext (.t 75) 0, none, []⟩,
   ⟨(some 81), .ext (.t 75) 1, none, []⟩,
   ⟨(some 12), .mv (.t 80), none, []⟩,
   ⟨(some 13), .mv (.t 81), none, []⟩])
 (.seq (.seq (.ops false [⟨(some 82), .mv (.t 11), none, []⟩,
    ⟨(some 83), .un .not (.t 82), none, []⟩,
    ⟨(some 84), .mv (.t 83), none, []⟩,
    ⟨(some 85), .mv (.t 13), (some (84, false)), []⟩,
    ⟨(some 86), .un .not (.t 85), (some (84, false)), []⟩,
    ⟨(some 87), .pick (.t 84) (.k (bv true)) (.t 86), none, []⟩,
    ⟨(some 88), .mv (.t 87), none, []⟩,
    ⟨(some 89), .mv (.t 12), (some (88, false)), []⟩,
    ⟨(some 90), .mv (.t 8), (some (88, false)), []⟩,
    ⟨(some 91), .call (.f 48) [(.t 89), (.t 90)], (some (88, false)), []⟩,
    ⟨(some 92), .un .not (.t 91), (some (88, false)), []⟩,
    ⟨(some 93), .pick (.t 88) (.k (bv true)) (.t 92), none, []⟩])
  (.cond (.t 93) (.seq (.ops false [⟨(some 4), .mv (.k (bv false)), none, []⟩])
   .ret)
   .skip))
 (.seq (.ops false [⟨(some 95), .load true 3 (.t 6), none, []⟩,
   ⟨(some 96), .mv (.t 9), none, []⟩,
   ⟨(some 97), .call (.f 49) [(.t 95), (.t 96)], none, []⟩,
   ⟨(some 94), .mv (.t 97), none, []⟩,
   ⟨(some 98), .ext (.t 94) 0, none, []⟩,
   ⟨(some 99), .ext (.t 94) 1, none, []⟩,
   ⟨(some 14), .mv (.t 98), none, []⟩,
   ⟨(some 15), .mv (.t 99), none, []⟩])
 (.seq (.ops false [⟨(some 100), .mv (.t 1), none, []⟩,
   ⟨(some 101), .mv (.t 7), none, []⟩,
   ⟨(some 102), .call (.f 44) [(.t 100), (.k (iv 43)), (.t 101)], none, []⟩,
   ⟨(some 16), .mv (.t 102), none, []⟩])
 (.seq (.ops false [⟨(some 104), .load true 3 (.t 6), none, []⟩,
   ⟨(some 105), .mv (.t 9), none, []⟩,
   ⟨(some 106), .mv (.t 16), none, []⟩,
   ⟨(some 107), .buildS 2 1 1 [.int .i64 0] [(0, 1, (.t 106))], none, []⟩,
   ⟨(some 108), .call (.f 50) [(.t 104), (.t 105), (.t 107)], none, []⟩,
   ⟨(some 103), .mv (.t 108), none, []⟩,
   ⟨(some 109), .ext (.t 103) 0, none, []⟩,
   ⟨(some 110), .ext (.t 103) 1, none, []⟩,
   ⟨(some 17), .mv (.t 109), none, []⟩,
   ⟨(some 18), .mv (.t 110), none, []⟩])
 (.seq (.ops false [⟨(some 112), .load true 3 (.t 6), none, []⟩,
   ⟨(some 113), .mv (.t 9), none, []⟩,
   ⟨(some 114), .buildS 2 1 0 [.int .i64 0] [], none, []⟩,
   ⟨(some 115), .call (.f 50) [(.t 112), (.t 113), (.t 114)], none, []⟩,
   ⟨(some 111), .mv (.t 115), none, []⟩,
   ⟨(some 116), .ext (.t 111) 0, none, []⟩,
   ⟨(some 117), .ext (.t 111) 1, none, []⟩,
   ⟨(some 19), .mv (.t 116), none, []⟩,
   ⟨(some 20), .mv (.t 117), none, []⟩])
 (.seq (.seq (.ops false [⟨(some 118), .mv (.t 15), none, []⟩,
    ⟨(some 119), .un .not (.t 118), none, []⟩,
    ⟨(some 120), .mv (.t 119), none, []⟩,
    ⟨(some 121), .mv (.t 18), (some (120, false)), []⟩,
    ⟨(some 122), .un .not (.t 121), (some (120, false)), []⟩,
    ⟨(some 123), .pick (.t 120) (.k (bv true)) (.t 122), none, []⟩,
    ⟨(some 124), .mv (.t 123), none, []⟩,
    ⟨(some 125), .mv (.t 20), (some (124, false)), []⟩,
    ⟨(some 126), .un .not (.t 125), (some (124, false)), []⟩,
    ⟨(some 127), .pick (.t 124) (.k (bv true)) (.t 126), none, []⟩,
    ⟨(some 128), .mv (.t 127), none, []⟩,
    ⟨(some 129), .mv (.t 19), (some (128, false)), []⟩,
    ⟨(some 130), .mv (.t 9), (some (128, false)), []⟩,
    ⟨(some 131), .call (.f 48) [(.t 129), (.t 130)], (some (128, false)), []⟩,
    ⟨(some 132), .un .not (.t 131), (some (128, false)), []⟩,
    ⟨(some 133), .pick (.t 128) (.k (bv true)) (.t 132), none, []⟩,
    ⟨(some 134), .mv (.t 133), none, []⟩,
    ⟨(some 135), .mv (.t 17), (some (134, false)), []⟩,
    ⟨(some 136), .len false (.t 135), (some (134, false)), []⟩,
    ⟨(some 137), .mv (.t 7), (some (134, false)), []⟩,
    ⟨(some 138), .bin .neq (.t 136) (.t 137), (some (134, false)), []⟩,
    ⟨(some 139), .pick (.t 134) (.k (bv true)) (.t 138), none, []⟩])
  (.cond (.t 139) (.seq (.ops false [⟨(some 4), .mv (.k (bv false)), none, []⟩])
   .ret)
   .skip))
 (.seq (.seq (.ops false [⟨(some 21), .mv (.k (iv 0)), none, []⟩])
  (.block 0 (.loop [1, 5, 6, 7, 8, 9, 14, 16, 17, 21] (.seq (.seq (.ops false [⟨(some 140), .mv (.t 21), none, []⟩,
       ⟨(some 141), .mv (.t 7), none, []⟩,
       ⟨(some 142), .bin .lss (.t 140) (.t 141), none, []⟩])
     (.cond (.t 142) .skip
      (.exit 0)))
    (.seq (.block 1 (.seq (.ops true [⟨(some 145), .mv (.t 21), none, []⟩,
        ⟨(some 146), .mv (.t 16), none, []⟩,
        ⟨(some 147), .bin .eql (.t 145) (.t 146), none, []⟩,
        ⟨(some 148), .mv (.t 147), none, []⟩,
        ⟨(some 149), .mv (.t 17), (some (148, true)), []⟩,
        ⟨(some 150), .mv (.t 21), (some (148, true)), []⟩,
        ⟨(some 151), .idxA 1 (.t 149) (.t 150), (some (148, true)), []⟩,
        ⟨(some 152), .load false 1 (.t 151), (some (148, true)), []⟩,
        ⟨(some 153), .mv (.t 14), (some (148, true)), []⟩,
        ⟨(some 154), .mv (.t 21), (some (148, true)), []⟩,
        ⟨(some 155), .idxA 1 (.t 153) (.t 154), (some (148, true)), []⟩,
        ⟨(some 156), .load false 1 (.t 155), (some (148, true)), []⟩,
        ⟨(some 157), .bin .neq (.t 152) (.t 156), (some (148, true)), []⟩,
        ⟨(some 158), .pick (.t 148) (.t 157) (.k (bv false)), none, []⟩,
        ⟨(some 159), .mv (.t 158), none, []⟩,
        ⟨(some 160), .mv (.t 21), (some (159, false)), []⟩,
        ⟨(some 161), .mv (.t 16), (some (159, false)), []⟩,
        ⟨(some 162), .bin .neq (.t 160) (.t 161), (some (159, false)), []⟩,
        ⟨(some 163), .mv (.t 162), (some (159, false)), []⟩,
        ⟨(some 164), .mv (.t 17), (some (163, true)), []⟩,
        ⟨(some 165), .mv (.t 21), (some (163, true)), []⟩,
        ⟨(some 166), .idxA 1 (.t 164) (.t 165), (some (163, true)), []⟩,
        ⟨(some 167), .load false 1 (.t 166), (some (163, true)), []⟩,
        ⟨(some 168), .mv (.t 9), (some (163, true)), []⟩,
        ⟨(some 169), .mv (.t 21), (some (163, true)), []⟩,
        ⟨(some 170), .idxA 1 (.t 168) (.t 169), (some (163, true)), []⟩,
        ⟨(some 171), .load false 1 (.t 170), (some (163, true)), []⟩,
        ⟨(some 172), .bin .neq (.t 167) (.t 171), (some (163, true)), []⟩,
        ⟨(some 173), .pick (.t 163) (.t 172) (.k (bv false)), (some (159, false)), []⟩,
        ⟨(some 174), .pick (.t 159) (.k (bv true)) (.t 173), none, []⟩])
      (.cond (.t 174) (.seq (.ops false [⟨(some 4), .mv (.k (bv false)), none, []⟩])
       .ret)
       .skip)))
    (.ops false [⟨(some 143), .mv (.t 21), none, []⟩,
     ⟨(some 144), .bin .add (.t 143) (.k (iv 1)), none, []⟩,
     ⟨(some 21), .mv (.t 144), none, []⟩]))))))
 (.seq (.ops false [⟨(some 175), .mv (.t 1), none, []⟩,
   ⟨(some 176), .call (.f 44) [(.t 175), (.k (iv 44)), (.k (iv 12))], none, []⟩,
   ⟨(some 22), .mv (.t 176), none, []⟩])
 (.seq (.ops false [⟨(some 178), .load true 3 (.t 6), none, []⟩,
   ⟨(some 179), .mv (.t 8), none, []⟩,
   ⟨(some 180), .mv (.t 9), none, []⟩,
   ⟨(some 181), .mv (.t 22), none, []⟩,
   ⟨(some 182), .call (.f 51) [(.t 178), (.t 179), (.t 180), (.t 181)], none, []⟩,
   ⟨(some 177), .mv (.t 182), none, []⟩,
   ⟨(some 183), .ext (.t 177) 0, none, []⟩,
   ⟨(some 184), .ext (.t 177) 1, none, []⟩,
   ⟨(some 23), .mv (.t 183), none, []⟩,
   ⟨(some 24), .mv (.t 184), none, []⟩])
 (.seq (.ops false [⟨(some 186), .load true 3 (.t 6), none, []⟩,
   ⟨(some 187), .mv (.t 9), none, []⟩,
   ⟨(some 188), .mv (.t 9), none, []⟩,
   ⟨(some 189), .mv (.t 22), none, []⟩,
   ⟨(some 190), .call (.f 51) [(.t 186), (.t 187), (.t 188), (.t 189)], none, []⟩,
   ⟨(some 185), .mv (.t 190), none, []⟩,
   ⟨(some 191), .ext (.t 185) 0, none, []⟩,
   ⟨(some 192), .ext (.t 185) 1, none, []⟩,
   ⟨(some 25), .mv (.t 191), none, []⟩,
   ⟨(some 26), .mv (.t 192), none, []⟩])
 (.seq (.seq (.ops false [⟨(some 193), .mv (.t 24), none, []⟩,
    ⟨(some 194), .un .not (.t 193), none, []⟩,
    ⟨(some 195), .mv (.t 194), none, []⟩,
    ⟨(some 196), .mv (.t 26), (some (195, false)), []⟩,
    ⟨(some 197), .un .not (.t 196), (some (195, false)), []⟩,
    ⟨(some 198), .pick (.t 195) (.k (bv true)) (.t 197), none, []⟩,
    ⟨(some 199), .mv (.t 198), none, []⟩,
    ⟨(some 200), .mv (.t 23), (some (199, false)), []⟩,
    ⟨(some 201), .len false (.t 200), (some (199, false)), []⟩,
    ⟨(some 202), .mv (.t 22), (some (199, false)), []⟩,
    ⟨(some 203), .bin .add (.t 202) (.k (iv 1)), (some (199, false)), []⟩,
    ⟨(some 204), .bin .neq (.t 201) (.t 203), (some (199, false)), []⟩,
    ⟨(some 205), .pick (.t 199) (.k (bv true)) (.t 204), none, []⟩,
    ⟨(some 206), .mv (.t 205), none, []⟩,
    ⟨(some 207), .mv (.t 25), (some (206, false)), []⟩,
    ⟨(some 208), .len false (.t 207), (some (206, false)), []⟩,
    ⟨(some 209), .mv (.t 22), (some (206, false)), []⟩,
    ⟨(some 210), .bin .add (.t 209) (.k (iv 1)), (some (206, false)), []⟩,
    ⟨(some 211), .bin .neq (.t 208) (.t 210), (some (206, false)), []⟩,
    ⟨(some 212), .pick (.t 206) (.k (bv true)) (.t 211), none, []⟩])
  (.cond (.t 212) (.seq (.ops false [⟨(some 4), .mv (.k (bv false)), none, []⟩])
   .ret)
   .skip))
 (.seq (.ops false [⟨(some 27), .mv (.k (bv false)), none, []⟩])
 (.seq (.seq (.ops false [⟨(some 28), .mv (.k (iv 0)), none, []⟩])
  (.block 2 (.loop [5, 6, 7, 9, 22, 23, 25, 27, 28] (.seq (.seq (.ops false [⟨(some 213), .mv (.t 28), none, []⟩,
       ⟨(some 214), .mv (.t 22), none, []⟩,
       ⟨(some 215), .bin .leq (.t 213) (.t 214), none, []⟩])
     (.cond (.t 215) .skip
      (.exit 2)))
    (.seq (.block 3 (.seq (.seq (.ops false [⟨(some 218), .mv (.t 25), none, []⟩,
         ⟨(some 219), .mv (.t 28), none, []⟩,
         ⟨(some 220), .idxA 1 (.t 218) (.t 219), none, []⟩,
         ⟨(some 221), .load false 1 (.t 220), none, []⟩,
         ⟨(some 222), .bin .neq (.t 221) (.k (iv 0)), none, []⟩,
         ⟨(some 223), .mv (.t 222), none, []⟩,
         ⟨(some 224), .mv (.t 23), (some (223, false)), []⟩,
         ⟨(some 225), .mv (.t 28), (some (223, false)), []⟩,
         ⟨(some 226), .idxA 1 (.t 224) (.t 225), (some (223, false)), []⟩,
         ⟨(some 227), .load false 1 (.t 226), (some (223, false)), []⟩,
         ⟨(some 228), .bin .lss (.t 227) (.k (iv 0)), (some (223, false)), []⟩,
         ⟨(some 229), .pick (.t 223) (.k (bv true)) (.t 228), none, []⟩,
         ⟨(some 230), .mv (.t 229), none, []⟩,
         ⟨(some 231), .mv (.t 23), (some (230, false)), []⟩,
         ⟨(some 232), .mv (.t 28), (some (230, false)), []⟩,
         ⟨(some 233), .idxA 1 (.t 231) (.t 232), (some (230, false)), []⟩,
         ⟨(some 234), .load false 1 (.t 233), (some (230, false)), []⟩,
         ⟨(some 235), .mv (.t 7), (some (230, false)), []⟩,
         ⟨(some 236), .bin .gtr (.t 234) (.t 235), (some (230, false)), []⟩,
         ⟨(some 237), .pick (.t 230) (.k (bv true)) (.t 236), none, []⟩,
         ⟨(some 238), .mv (.t 237), none, []⟩,
         ⟨(some 239), .mv (.t 27), (some (238, false)), []⟩,
         ⟨(some 240), .mv (.t 239), (some (238, false)), []⟩,
         ⟨(some 241), .mv (.t 23), (some (240, true)), []⟩,
         ⟨(some 242), .mv (.t 28), (some (240, true)), []⟩,
         ⟨(some 243), .idxA 1 (.t 241) (.t 242), (some (240, true)), []⟩,
         ⟨(some 244), .load false 1 (.t 243), (some (240, true)), []⟩,
         ⟨(some 245), .bin .neq (.t 244) (.k (iv 0)), (some (240, true)), []⟩,
         ⟨(some 246), .pick (.t 240) (.t 245) (.k (bv false)), (some (238, false)), []⟩,
         ⟨(some 247), .pick (.t 238) (.k (bv true)) (.t 246), none, []⟩])
       (.cond (.t 247) (.seq (.ops false [⟨(some 4), .mv (.k (bv false)), none, []⟩])
        .ret)
        .skip))
      (.ops false [⟨(some 248), .mv (.t 23), none, []⟩,
       ⟨(some 249), .mv (.t 28), none, []⟩,
       ⟨(some 250), .idxA 1 (.t 248) (.t 249), none, []⟩,
       ⟨(some 251), .load false 1 (.t 250), none, []⟩,
       ⟨(some 252), .bin .eql (.t 251) (.k (iv 0)), none, []⟩,
       ⟨(some 27), .mv (.t 252), none, []⟩])))
    (.ops false [⟨(some 216), .mv (.t 28), none, []⟩,
     ⟨(some 217), .bin .add (.t 216) (.k (iv 1)), none, []⟩,
     ⟨(some 28), .mv (.t 217), none, []⟩]))))))
 (.seq (.ops false [⟨(some 254), .load true 3 (.t 6), none, []⟩,
   ⟨(some 255), .mv (.t 9), none, []⟩,
   ⟨(some 256), .call (.f 52) [(.t 254), (.t 255), (.k (iv 4096))], none, []⟩,
   ⟨(some 253), .mv (.t 256), none, []⟩,
   ⟨(some 257), .ext (.t 253) 0, none, []⟩,
   ⟨(some 258), .ext (.t 253) 1, none, []⟩,
   ⟨(some 259), .ext (.t 253) 2, none, []⟩,
   ⟨(some 29), .mv (.t 257), none, []⟩,
   ⟨(some 30), .mv (.t 258), none, []⟩,
   ⟨(some 31), .mv (.t 259), none, []⟩])
 (.seq (.seq (.ops false [⟨(some 260), .mv (.t 31), none, []⟩,
    ⟨(some 261), .un .not (.t 260), none, []⟩])
  (.cond (.t 261) (.seq (.ops false [⟨(some 262), .mv (.t 7), none, []⟩,
     ⟨(some 263), .bin .gtr (.t 262) (.k (iv 7)), none, []⟩,
     ⟨(some 264), .mv (.t 263), none, []⟩,
     ⟨(some 265), .mv (.t 5), (some (264, false)), []⟩,
     ⟨(some 266), .bin .eql (.t 265) (.k (iv 3)), (some (264, false)), []⟩,
     ⟨(some 267), .pick (.t 264) (.k (bv true)) (.t 266), none, []⟩,
     ⟨(some 4), .mv (.t 267), none, []⟩])
   .ret)
   .skip))
 (.seq (.ops false [⟨(some 269), .load true 3 (.t 6), none, []⟩,
   ⟨(some 270), .mv (.t 9), none, []⟩,
   ⟨(some 271), .mv (.t 29), none, []⟩,
   ⟨(some 272), .call (.f 53) [(.t 269), (.t 270), (.t 271)], none, []⟩,
   ⟨(some 268), .mv (.t 272), none, []⟩,
   ⟨(some 273), .ext (.t 268) 0, none, []⟩,
   ⟨(some 274), .ext (.t 268) 1, none, []⟩,
   ⟨(some 32), .mv (.t 273), none, []⟩,
   ⟨(some 33), .mv (.t 274), none, []⟩])
 (.seq (.ops false [⟨(some 276), .load true 3 (.t 6), none, []⟩,
   ⟨(some 277), .mv (.t 32), none, []⟩,
   ⟨(some 278), .mv (.t 30), none, []⟩,
   ⟨(some 279), .call (.f 53) [(.t 276), (.t 277), (.t 278)], none, []⟩,
   ⟨(some 275), .mv (.t 279), none, []⟩,
   ⟨(some 280), .ext (.t 275) 0, none, []⟩,
   ⟨(some 281), .ext (.t 275) 1, none, []⟩,
   ⟨(some 34), .mv (.t 280), none, []⟩,
   ⟨(some 35), .mv (.t 281), none, []⟩])
 (.seq (.seq (.ops false [⟨(some 282), .mv (.t 33), none, []⟩,
    ⟨(some 283), .un .not (.t 282), none, []⟩,
    ⟨(some 284), .mv (.t 283), none, []⟩,
    ⟨(some 285), .mv (.t 35), (some (284, false)), []⟩,
    ⟨(some 286), .un .not (.t 285), (some (284, false)), []⟩,
    ⟨(some 287), .pick (.t 284) (.k (bv true)) (.t 286), none, []⟩,
    ⟨(some 288), .mv (.t 287), none, []⟩,
    ⟨(some 289), .mv (.t 29), (some (288, false)), []⟩,
    ⟨(some 290), .bin .lss (.t 289) (.k (iv 0)), (some (288, false)), []⟩,
    ⟨(some 291), .pick (.t 288) (.k (bv true)) (.t 290), none, []⟩,
    ⟨(some 292), .mv (.t 291), none, []⟩,
    ⟨(some 293), .mv (.t 30), (some (292, false)), []⟩,
    ⟨(some 294), .bin .lss (.t 293) (.k (iv 1)), (some (292, false)), []⟩,
    ⟨(some 295), .pick (.t 292) (.k (bv true)) (.t 294), none, []⟩,
    ⟨(some 296), .mv (.t 295), none, []⟩,
    ⟨(some 297), .mv (.t 32), (some (296, false)), []⟩,
    ⟨(some 298), .mv (.t 34), (some (296, false)), []⟩,
    ⟨(some 299), .call (.f 48) [(.t 297), (.t 298)], (some (296, false)), []⟩,
    ⟨(some 300), .un .not (.t 299), (some (296, false)), []⟩,
    ⟨(some 301), .pick (.t 296) (.k (bv true)) (.t 300), none, []⟩])
  (.cond (.t 301) (.seq (.ops false [⟨(some 4), .mv (.k (bv false)), none, []⟩])
   .ret)
   .skip))
 (.seq (.ops false [⟨(some 303), .load true 3 (.t 6), none, []⟩,
   ⟨(some 304), .mv (.t 9), none, []⟩,
   ⟨(some 305), .mv (.t 29), none, []⟩,
   ⟨(some 306), .mv (.t 30), none, []⟩,
   ⟨(some 307), .bin .add (.t 305) (.t 306), none, []⟩,
   ⟨(some 308), .bin .sub (.t 307) (.k (iv 1)), none, []⟩,
   ⟨(some 309), .minmax true (.k (iv 1)) (.t 308), none, []⟩,
   ⟨(some 310), .call (.f 52) [(.t 303), (.t 304), (.t 309)], none, []⟩,
   ⟨(some 302), .mv (.t 310), none, []⟩,
   ⟨(some 311), .ext (.t 302) 0, none, []⟩,
   ⟨(some 312), .ext (.t 302) 1, none, []⟩,
   ⟨(some 313), .ext (.t 302) 2, none, []⟩,
   ⟨(some 36), .mv (.t 311), none, []⟩,
   ⟨(some 37), .mv (.t 312), none, []⟩,
   ⟨(some 38), .mv (.t 313), none, []⟩])
 (.seq (.ops false [⟨(some 315), .load true 3 (.t 6), none, []⟩,
   ⟨(some 316), .mv (.t 9), none, []⟩,
   ⟨(some 317), .mv (.t 29), none, []⟩,
   ⟨(some 318), .mv (.t 30), none, []⟩,
   ⟨(some 319), .bin .add (.t 317) (.t 318), none, []⟩,
   ⟨(some 320), .call (.f 52) [(.t 315), (.t 316), (.t 319)], none, []⟩,
   ⟨(some 314), .mv (.t 320), none, []⟩,
   ⟨(some 321), .ext (.t 314) 0, none, []⟩,
   ⟨(some 322), .ext (.t 314) 1, none, []⟩,
   ⟨(some 323), .ext (.t 314) 2, none, []⟩,
   ⟨(some 39), .mv (.t 321), none, []⟩,
   ⟨(some 40), .mv (.t 322), none, []⟩,
   ⟨(some 41), .mv (.t 323), none, []⟩])
 (.seq (.seq (.ops false [⟨(some 324), .mv (.t 41), none, []⟩,
    ⟨(some 325), .un .not (.t 324), none, []⟩,
    ⟨(some 326), .mv (.t 325), none, []⟩,
    ⟨(some 327), .mv (.t 39), (some (326, false)), []⟩,
    ⟨(some 328), .mv (.t 29), (some (326, false)), []⟩,
    ⟨(some 329), .bin .neq (.t 327) (.t 328), (some (326, false)), []⟩,
    ⟨(some 330), .pick (.t 326) (.k (bv true)) (.t 329), none, []⟩,
    ⟨(some 331), .mv (.t 330), none, []⟩,
    ⟨(some 332), .mv (.t 40), (some (331, false)), []⟩,
    ⟨(some 333), .mv (.t 30), (some (331, false)), []⟩,
    ⟨(some 334), .bin .neq (.t 332) (.t 333), (some (331, false)), []⟩,
    ⟨(some 335), .pick (.t 331) (.k (bv true)) (.t 334), none, []⟩,
    ⟨(some 336), .mv (.t 335), none, []⟩,
    ⟨(some 337), .mv (.t 38), (some (336, false)), []⟩,
    ⟨(some 338), .mv (.t 29), (some (336, false)), []⟩,
    ⟨(some 339), .mv (.t 30), (some (336, false)), []⟩,
    ⟨(some 340), .bin .add (.t 338) (.t 339), (some (336, false)), []⟩,
    ⟨(some 341), .bin .eql (.t 340) (.k (iv 1)), (some (336, false)), []⟩,
    ⟨(some 342), .beq true (.t 337) (.t 341), (some (336, false)), []⟩,
    ⟨(some 343), .pick (.t 336) (.k (bv true)) (.t 342), none, []⟩])
  (.cond (.t 343) (.seq (.ops false [⟨(some 4), .mv (.k (bv false)), none, []⟩])
   .ret)
   .skip))
 (.seq (.seq (.ops false [⟨(some 344), .mv (.t 29), none, []⟩,
    ⟨(some 345), .bin .gtr (.t 344) (.k (iv 0)), none, []⟩])
  (.cond (.t 345) (.seq (.ops false [⟨(some 347), .load true 3 (.t 6), none, []⟩,
     ⟨(some 348), .mv (.t 9), none, []⟩,
     ⟨(some 349), .mv (.t 29), none, []⟩,
     ⟨(some 350), .bin .sub (.t 349) (.k (iv 1)), none, []⟩,
     ⟨(some 351), .call (.f 53) [(.t 347), (.t 348), (.t 350)], none, []⟩,
     ⟨(some 346), .mv (.t 351), none, []⟩,
     ⟨(some 352), .ext (.t 346) 0, none, []⟩,
     ⟨(some 353), .ext (.t 346) 1, none, []⟩,
     ⟨(some 42), .mv (.t 352), none, []⟩,
     ⟨(some 43), .mv (.t 353), none, []⟩])
   (.seq (.ops false [⟨(some 355), .load true 3 (.t 6), none, []⟩,
     ⟨(some 356), .mv (.t 42), none, []⟩,
     ⟨(some 357), .mv (.t 30), none, []⟩,
     ⟨(some 358), .call (.f 53) [(.t 355), (.t 356), (.t 357)], none, []⟩,
     ⟨(some 354), .mv (.t 358), none, []⟩,
     ⟨(some 359), .ext (.t 354) 0, none, []⟩,
     ⟨(some 360), .ext (.t 354) 1, none, []⟩,
     ⟨(some 44), .mv (.t 359), none, []⟩,
     ⟨(some 45), .mv (.t 360), none, []⟩])
   (.seq (.ops false [⟨(some 361), .mv (.t 43), none, []⟩,
     ⟨(some 362), .mv (.t 361), none, []⟩,
     ⟨(some 363), .mv (.t 45), (some (362, true)), []⟩,
     ⟨(some 364), .pick (.t 362) (.t 363) (.k (bv false)), none, []⟩,
     ⟨(some 365), .mv (.t 364), none, []⟩,
     ⟨(some 366), .mv (.t 42), (some (365, true)), []⟩,
     ⟨(some 367), .mv (.t 44), (some (365, true)), []⟩,
     ⟨(some 368), .call (.f 48) [(.t 366), (.t 367)], (some (365, true)), []⟩,
     ⟨(some 369), .un .not (.t 368), (some (365, true)), []⟩,
     ⟨(some 370), .pick (.t 365) (.t 369) (.k (bv false)), none, []⟩,
     ⟨(some 4), .mv (.t 370), none, []⟩])
   .ret)))
   .skip))
 (.seq (.ops false [⟨(some 4), .mv (.k (bv true)), none, []⟩])
 .ret))))))))))))))))))))))))))))))))⟩
theorem code9 : acode Try.prog hints 9 = some L9 := by kernel_rfl


/-- Where control goes on, from an outcome. -/
def un : Nat → AOut → KK → Option KK
  | 0, _, _ => none
  | f + 1, o, .thn c k => match o with
    | .normal => (match c with | .exit id => un f (.exit id) k | .skip => un f .normal k | c => some (.thn c k))
    | o => un f o k
  | f + 1, o, .blk id k => un f (exitTo id o) k
  | f + 1, o, .rnd _ _ _ k => match o with | .normal => none | o => un f o k
  | _ + 1, _, .ret _ _ => none
theorem un_ok {B : List Nat} {b : St} {fr : Frm} {s : St} : ∀ (f : Nat) (o : AOut) (k k2 : KK), un f o k = some k2 → KQ B b k2 .normal fr s → KQ B b k o fr s := by
  intro f
  induction f with
  | zero => intro o k k2 h; cases h
  | succ f ih =>
    intro o k k2 h hq
    cases k with
    | ret res P => cases h
    | thn c k =>
      cases o with
      | normal =>
        cases c with
        | exit id => exact C_exit (ih _ _ _ h hq)
        | skip => exact C_skip (ih _ _ _ h hq)
        | _ => obtain rfl := Option.some.inj h; exact hq
      | exit id => exact ih (.exit id) k _ h hq
      | ret => exact ih .ret k _ h hq
    | blk id k => exact ih (exitTo id o) k _ h hq
    | rnd live n I k =>
      cases o with
      | normal => cases h
      | exit id => exact ih (.exit id) k _ h hq
      | ret => exact ih .ret k _ h hq
theorem A_cut {B : List Nat} {b : St} {L : Objs} {hist : List Objs} {fr : Frm} {k k2 : KK} (h : un 99 .normal k = some k2) (h2 : At B b L [] [] fr k2) : At B b L [] hist fr k :=
  .nil fun s H => un_ok 99 _ _ _ h (by
    obtain ⟨fr', s', e, c⟩ := (h2.ok s [] H .nil).ex
    cases e; exact c)
/-- What follows the first 'n' parts of a code. -/
def tl : Nat → ACode → ACode
  | 0, c => c
  | n + 1, .seq _ c => tl n c
  | _ + 1, c => c
abbrev BwF (S p6 py n : Nat) (v1 v2 v3 v4 v5 v6 v7 v8 : AV) : Frm := [(215, v1), (214, v2), (213, v3), (5, iv S), (6, .c (.ptr p6 0)), (7, iv n), (9, .c (.sl py 0 n)), (22, v4), (23, v5), (25, v6), (27, v7), (28, v8)]
abbrev BwL (S : Nat) (re : Int) (p6 ptb py : Nat) (xs ys : List Int) : Objs := [(p6, .rw 30 3 [ic S, ic re, .sl ptb 0 xs.length]), (ptb, ints xs), (py, ints ys)]
abbrev BwK : KK := .thn (tl 22 (L9).body) (.ret [.t 4] fun r N => r = bv true ∧ N = [])
theorem bw_none {s : St} [Wf s] {S p6 ptb py : Nat} {re : Int} {xs ys : List Int} {v1 v2 v3 v4 v5 v6 v7 v8 : AV} (hS : 2 ≤ S ∧ S ≤ 3) (hre1 : 0 ≤ re ∧ re ≤ 1) (hvr : VR S re xs) (hrg : RG S ys) (hylen : 1 ≤ ys.length ∧ ys.length ≤ 64) (hxb : xs.length ≤ 2000000) (hP : ¬ PerP (runR S re xs ys) (4096 : Int)) :
    At [] s (BwL S re p6 ptb py xs ys) [] [] (BwF S p6 py ys.length v1 v2 v3 v4 v5 v6 v7 v8) BwK := by
  by_cases h7 : 7 < ys.length
  · repeat' (first
 | refine A_go rfl ?_ | refine A_ifT rfl rfl ?_ | refine A_ifF rfl rfl ?_ | refine A_offP rfl rfl ?_ | refine A_offH rfl rfl ?_ | refine A_off0 rfl rfl ?_
 | refine A_add rfl rfl rfl (by omega) ?_ | refine A_sub rfl rfl rfl (by omega) ?_ | refine A_mul rfl rfl rfl (by omega) ?_ | refine A_rem rfl rfl rfl (by omega) ?_ | refine A_remT rfl rfl rfl (by omega) ?_ | refine A_quo rfl rfl rfl (by omega) ?_
 | ((first | refine A_lt rfl rfl rfl ?_ ?_ | refine A_le rfl rfl rfl ?_ ?_ | refine A_gt rfl rfl rfl ?_ ?_ | refine A_ge rfl rfl rfl ?_ ?_ | refine A_eq rfl rfl rfl ?_ ?_ | refine A_ne rfl rfl rfl ?_ ?_ | refine A_beq rfl rfl rfl ?_ ?_) <;> intro hc <;> try first | contradiction | (exfalso; omega) | exact absurd rfl hc)
 | refine A_idxN1 rfl rfl rfl (by omega) ?_ | refine A_idx1 rfl rfl rfl (by omega) ?_ | refine A_idxArr1 rfl rfl rfl (by omega) ?_
 | refine A_callV rfl rfl (fun s H => c_periodNo (ys := ys) (hp := hP)) ?_
 | refine A_fld rfl rfl ?_ | refine A_mk3 rfl rfl rfl rfl ?_ | refine A_mk23 rfl rfl rfl ?_ | refine A_mk2 rfl rfl rfl ?_ | refine A_mk13 rfl rfl ?_ | refine A_p (by rfl) rfl ?_
 | refine A_ldI rfl (by first | omega | (simp; done) | (simp; omega)) rfl ?_ | refine A_ldB rfl (by first | omega | (simp; done) | (simp; omega)) rfl ?_ | refine A_ld rfl (by rfl) rfl ?_ | refine A_ldW rfl (by simp) rfl ?_
 | refine A_st rfl rfl rfl ?_ | refine A_stW rfl rfl (by simp) rfl ?_ | refine A_stE rfl rfl (by first | omega | (simp; done) | (simp; omega)) rfl ?_
 | ((first | refine A_alloc rfl ?_ | refine A_box rfl rfl ?_ | refine A_boxC rfl rfl ?_ | refine A_makeN rfl rfl rfl (by omega) ?_ | refine A_make rfl rfl rfl (by omega) ?_ | refine A_bld1 rfl rfl ?_ | refine A_bld2 rfl rfl rfl ?_ | refine A_bld4 rfl rfl rfl rfl rfl ?_) <;> intro pz hpz)
 | refine A_bld0 rfl ?_ | (refine A_app rfl rfl rfl (by first | omega | (simp; done) | (simp; omega)) (by first | omega | (simp; done) | (simp; omega)) (by omega) ?_; intro pz) | (refine A_appN (enc := ic) rfl (by decide) rfl rfl (by first | omega | (simp; done) | (simp; omega)) (by omega) ?_; intro pz)
 | refine A_chk1 rfl rfl rfl ?_ | refine A_chk2 rfl rfl rfl rfl ?_ | refine A_chk3 rfl rfl rfl rfl rfl ?_ | refine A_chk4 rfl rfl rfl rfl rfl rfl ?_ | refine A_chkI rfl (by assumption) rfl (by simp) ?_
 | refine A_ret1 rfl (by first | exact (RP.t rfl RP.nil) | exact (RP.c rfl inferInstance rfl (by simp) RP.nil)) ?_ | refine A_ret rfl (by first | exact (RP.t rfl (RP.t rfl RP.nil)) | exact (RP.c rfl inferInstance rfl (by simp) (RP.t rfl RP.nil)) | exact (RP.t rfl (RP.t rfl (RP.t rfl RP.nil))) | exact (RP.c rfl inferInstance rfl (by simp) (RP.t rfl (RP.t rfl RP.nil))) | exact (RP.c rfl inferInstance rfl (by simp) (RP.t rfl (RP.t rfl (RP.t rfl (RP.t rfl RP.nil)))))) ?_ | refine A_ret0 rfl ?_)
    exact R_v rfl
  · have h3 : S = 3 := by
      by_cases e : S = 3
      · exact e
      · obtain rfl : S = 2 := by omega
        obtain ⟨u, v, k1, k2⟩ := ring_rep hvr hrg
        have k3 : 2 ^ ys.length ≤ 2 ^ 7 := Nat.pow_le_pow_right (by omega) (by omega)
        have k4 : (2 : Nat) ^ 7 = 128 := by decide
        exact absurd ⟨u, v, k1, by omega⟩ hP
    subst h3
    repeat' (first
 | refine A_go rfl ?_ | refine A_ifT rfl rfl ?_ | refine A_ifF rfl rfl ?_ | refine A_offP rfl rfl ?_ | refine A_offH rfl rfl ?_ | refine A_off0 rfl rfl ?_
 | refine A_add rfl rfl rfl (by omega) ?_ | refine A_sub rfl rfl rfl (by omega) ?_ | refine A_mul rfl rfl rfl (by omega) ?_ | refine A_rem rfl rfl rfl (by omega) ?_ | refine A_remT rfl rfl rfl (by omega) ?_ | refine A_quo rfl rfl rfl (by omega) ?_
 | ((first | refine A_lt rfl rfl rfl ?_ ?_ | refine A_le rfl rfl rfl ?_ ?_ | refine A_gt rfl rfl rfl ?_ ?_ | refine A_ge rfl rfl rfl ?_ ?_ | refine A_eq rfl rfl rfl ?_ ?_ | refine A_ne rfl rfl rfl ?_ ?_ | refine A_beq rfl rfl rfl ?_ ?_) <;> intro hc <;> try first | contradiction | (exfalso; omega) | exact absurd rfl hc)
 | refine A_idxN1 rfl rfl rfl (by omega) ?_ | refine A_idx1 rfl rfl rfl (by omega) ?_ | refine A_idxArr1 rfl rfl rfl (by omega) ?_
 | refine A_callV rfl rfl (fun s H => c_periodNo (ys := ys) (hp := hP)) ?_
 | refine A_fld rfl rfl ?_ | refine A_mk3 rfl rfl rfl rfl ?_ | refine A_mk23 rfl rfl rfl ?_ | refine A_mk2 rfl rfl rfl ?_ | refine A_mk13 rfl rfl ?_ | refine A_p (by rfl) rfl ?_
 | refine A_ldI rfl (by first | omega | (simp; done) | (simp; omega)) rfl ?_ | refine A_ldB rfl (by first | omega | (simp; done) | (simp; omega)) rfl ?_ | refine A_ld rfl (by rfl) rfl ?_ | refine A_ldW rfl (by simp) rfl ?_
 | refine A_st rfl rfl rfl ?_ | refine A_stW rfl rfl (by simp) rfl ?_ | refine A_stE rfl rfl (by first | omega | (simp; done) | (simp; omega)) rfl ?_
 | ((first | refine A_alloc rfl ?_ | refine A_box rfl rfl ?_ | refine A_boxC rfl rfl ?_ | refine A_makeN rfl rfl rfl (by omega) ?_ | refine A_make rfl rfl rfl (by omega) ?_ | refine A_bld1 rfl rfl ?_ | refine A_bld2 rfl rfl rfl ?_ | refine A_bld4 rfl rfl rfl rfl rfl ?_) <;> intro pz hpz)
 | refine A_bld0 rfl ?_ | (refine A_app rfl rfl rfl (by first | omega | (simp; done) | (simp; omega)) (by first | omega | (simp; done) | (simp; omega)) (by omega) ?_; intro pz) | (refine A_appN (enc := ic) rfl (by decide) rfl rfl (by first | omega | (simp; done) | (simp; omega)) (by omega) ?_; intro pz)
 | refine A_chk1 rfl rfl rfl ?_ | refine A_chk2 rfl rfl rfl rfl ?_ | refine A_chk3 rfl rfl rfl rfl rfl ?_ | refine A_chk4 rfl rfl rfl rfl rfl rfl ?_ | refine A_chkI rfl (by assumption) rfl (by simp) ?_
 | refine A_ret1 rfl (by first | exact (RP.t rfl RP.nil) | exact (RP.c rfl inferInstance rfl (by simp) RP.nil)) ?_ | refine A_ret rfl (by first | exact (RP.t rfl (RP.t rfl RP.nil)) | exact (RP.c rfl inferInstance rfl (by simp) (RP.t rfl RP.nil)) | exact (RP.t rfl (RP.t rfl (RP.t rfl RP.nil))) | exact (RP.c rfl inferInstance rfl (by simp) (RP.t rfl (RP.t rfl RP.nil))) | exact (RP.c rfl inferInstance rfl (by simp) (RP.t rfl (RP.t rfl (RP.t rfl (RP.t rfl RP.nil)))))) ?_ | refine A_ret0 rfl ?_)
    exact R_v rfl
theorem bw_one {s : St} [Wf s] {S p6 ptb py : Nat} {re : Int} {xs ys : List Int} {v1 v2 v3 v4 v5 v6 v7 v8 : AV} (hS : 2 ≤ S ∧ S ≤ 3) (hre1 : 0 ≤ re ∧ re ≤ 1) (hvr : VR S re xs) (hrg : RG S ys) (hylen : 1 ≤ ys.length ∧ ys.length ≤ 64) (hxb : xs.length ≤ 2000000) {u v : Nat} (hper : Per (runR S re xs ys) u v) (huv : u + v ≤ 4096) (hu : u = 0) (hv2 : v = 1) :
    At [] s (BwL S re p6 ptb py xs ys) [] [] (BwF S p6 py ys.length v1 v2 v3 v4 v5 v6 v7 v8) BwK := by
  have hv1 := hper.pos
  have hrl := fun k => runR_len (st := (S : Int)) (re := re) (xs := xs) (ys := ys) k
  have hrr := fun k => runR_rg hvr hrg k
  have hnone : ∀ m : Int, m < (u + v : Nat) → ¬ PerP (runR S re xs ys) m := fun m hm ⟨u', v', k1, k2⟩ => by
    obtain ⟨e1, e2⟩ := hper.uniq k1
    omega
  subst hu
  subst hv2
  have h0v : ys = runR S re xs ys 1 := hper.eq
  have hlv := hrl 1
  repeat' (first
 | refine A_go rfl ?_ | refine A_ifT rfl rfl ?_ | refine A_ifF rfl rfl ?_ | refine A_offP rfl rfl ?_ | refine A_offH rfl rfl ?_ | refine A_off0 rfl rfl ?_
 | refine A_add rfl rfl rfl (by omega) ?_ | refine A_sub rfl rfl rfl (by omega) ?_ | refine A_mul rfl rfl rfl (by omega) ?_ | refine A_rem rfl rfl rfl (by omega) ?_ | refine A_remT rfl rfl rfl (by omega) ?_ | refine A_quo rfl rfl rfl (by omega) ?_
 | ((first | refine A_lt rfl rfl rfl ?_ ?_ | refine A_le rfl rfl rfl ?_ ?_ | refine A_gt rfl rfl rfl ?_ ?_ | refine A_ge rfl rfl rfl ?_ ?_ | refine A_eq rfl rfl rfl ?_ ?_ | refine A_ne rfl rfl rfl ?_ ?_ | refine A_beq rfl rfl rfl ?_ ?_) <;> intro hc <;> try first | contradiction | (exfalso; omega) | exact absurd rfl hc)
 | refine A_idxN1 rfl rfl rfl (by omega) ?_ | refine A_idx1 rfl rfl rfl (by omega) ?_ | refine A_idxArr1 rfl rfl rfl (by omega) ?_
 | refine A_callV rfl rfl (fun s H => c_periodOk (u := 0) (v := 1) (ys := ys) (hp := hper) (hv := hvr) (hr := hrg)) ?_
 | refine A_callV rfl rfl (fun s H => c_r8Run0 (ys := ys)) ?_
 | (refine A_callM rfl rfl (fun s H => c_r8Run1 (n := 1) (ys := ys) (hv := hvr) (hr := hrg)) ?_; rintro _ _ ⟨pz, rfl, rfl⟩) | (refine A_callM0 rfl rfl (fun s H => c_r8Run1 (n := 1) (ys := ys) (hv := hvr) (hr := hrg)) ?_; rintro _ _ ⟨pz, rfl, rfl⟩)
 | (refine A_callB rfl rfl (fun s H => c_r8Same (xs := ys) (ys := runR S re xs ys 1)) ?_ ?_ <;> intro hc <;> try first | contradiction | (exfalso; omega) | exact absurd rfl hc | exact absurd (And.intro rfl rfl) hc | exact absurd (And.intro rfl (And.intro rfl rfl)) hc | exact absurd (Eq.trans (by assumption) (Eq.symm (by assumption))) hc)
 | refine A_minmax rfl rfl rfl (m := 1) (by decide) ?_
 | refine A_fld rfl rfl ?_ | refine A_mk3 rfl rfl rfl rfl ?_ | refine A_mk23 rfl rfl rfl ?_ | refine A_mk2 rfl rfl rfl ?_ | refine A_mk13 rfl rfl ?_ | refine A_p (by rfl) rfl ?_
 | refine A_ldI rfl (by first | omega | (simp; done) | (simp; omega)) rfl ?_ | refine A_ldB rfl (by first | omega | (simp; done) | (simp; omega)) rfl ?_ | refine A_ld rfl (by rfl) rfl ?_ | refine A_ldW rfl (by simp) rfl ?_
 | refine A_st rfl rfl rfl ?_ | refine A_stW rfl rfl (by simp) rfl ?_ | refine A_stE rfl rfl (by first | omega | (simp; done) | (simp; omega)) rfl ?_
 | ((first | refine A_alloc rfl ?_ | refine A_box rfl rfl ?_ | refine A_boxC rfl rfl ?_ | refine A_makeN rfl rfl rfl (by omega) ?_ | refine A_make rfl rfl rfl (by omega) ?_ | refine A_bld1 rfl rfl ?_ | refine A_bld2 rfl rfl rfl ?_ | refine A_bld4 rfl rfl rfl rfl rfl ?_) <;> intro pz hpz)
 | refine A_bld0 rfl ?_ | (refine A_app rfl rfl rfl (by first | omega | (simp; done) | (simp; omega)) (by first | omega | (simp; done) | (simp; omega)) (by omega) ?_; intro pz) | (refine A_appN (enc := ic) rfl (by decide) rfl rfl (by first | omega | (simp; done) | (simp; omega)) (by omega) ?_; intro pz)
 | refine A_chk1 rfl rfl rfl ?_ | refine A_chk2 rfl rfl rfl rfl ?_ | refine A_chk3 rfl rfl rfl rfl rfl ?_ | refine A_chk4 rfl rfl rfl rfl rfl rfl ?_ | refine A_chkI rfl (by assumption) rfl (by simp) ?_
 | refine A_ret1 rfl (by first | exact (RP.t rfl RP.nil) | exact (RP.c rfl inferInstance rfl (by simp) RP.nil)) ?_ | refine A_ret rfl (by first | exact (RP.t rfl (RP.t rfl RP.nil)) | exact (RP.c rfl inferInstance rfl (by simp) (RP.t rfl RP.nil)) | exact (RP.t rfl (RP.t rfl (RP.t rfl RP.nil))) | exact (RP.c rfl inferInstance rfl (by simp) (RP.t rfl (RP.t rfl RP.nil))) | exact (RP.c rfl inferInstance rfl (by simp) (RP.t rfl (RP.t rfl (RP.t rfl (RP.t rfl RP.nil)))))) ?_ | refine A_ret0 rfl ?_)
  exact R_v rfl
theorem bw_zero {s : St} [Wf s] {S p6 ptb py : Nat} {re : Int} {xs ys : List Int} {v1 v2 v3 v4 v5 v6 v7 v8 : AV} (hS : 2 ≤ S ∧ S ≤ 3) (hre1 : 0 ≤ re ∧ re ≤ 1) (hvr : VR S re xs) (hrg : RG S ys) (hylen : 1 ≤ ys.length ∧ ys.length ≤ 64) (hxb : xs.length ≤ 2000000) {u v : Nat} (hper : Per (runR S re xs ys) u v) (huv : u + v ≤ 4096) (hu : u = 0) (hv2 : v ≠ 1) :
    At [] s (BwL S re p6 ptb py xs ys) [] [] (BwF S p6 py ys.length v1 v2 v3 v4 v5 v6 v7 v8) BwK := by
  have hv1 := hper.pos
  have hrl := fun k => runR_len (st := (S : Int)) (re := re) (xs := xs) (ys := ys) k
  have hrr := fun k => runR_rg hvr hrg k
  have hnone : ∀ m : Int, m < (u + v : Nat) → ¬ PerP (runR S re xs ys) m := fun m hm ⟨u', v', k1, k2⟩ => by
    obtain ⟨e1, e2⟩ := hper.uniq k1
    omega
  subst hu
  have h0v : ys = runR S re xs ys v := by have := hper.eq; rw [Nat.zero_add] at this; exact this
  have hlv := hrl v
  have hmx : (if (0 : Int) + v - 1 > 1 then (0 : Int) + v - 1 else 1) = (v : Int) - 1 := by split <;> omega
  have hno := hnone ((v : Int) - 1) (by omega)
  repeat' (first
 | refine A_go rfl ?_ | refine A_ifT rfl rfl ?_ | refine A_ifF rfl rfl ?_ | refine A_offP rfl rfl ?_ | refine A_offH rfl rfl ?_ | refine A_off0 rfl rfl ?_
 | refine A_add rfl rfl rfl (by omega) ?_ | refine A_sub rfl rfl rfl (by omega) ?_ | refine A_mul rfl rfl rfl (by omega) ?_ | refine A_rem rfl rfl rfl (by omega) ?_ | refine A_remT rfl rfl rfl (by omega) ?_ | refine A_quo rfl rfl rfl (by omega) ?_
 | ((first | refine A_lt rfl rfl rfl ?_ ?_ | refine A_le rfl rfl rfl ?_ ?_ | refine A_gt rfl rfl rfl ?_ ?_ | refine A_ge rfl rfl rfl ?_ ?_ | refine A_eq rfl rfl rfl ?_ ?_ | refine A_ne rfl rfl rfl ?_ ?_ | refine A_beq rfl rfl rfl ?_ ?_) <;> intro hc <;> try first | contradiction | (exfalso; omega) | exact absurd rfl hc)
 | refine A_idxN1 rfl rfl rfl (by omega) ?_ | refine A_idx1 rfl rfl rfl (by omega) ?_ | refine A_idxArr1 rfl rfl rfl (by omega) ?_
 | refine A_callV rfl rfl (fun s H => c_periodOk (u := 0) (v := v) (ys := ys) (hp := hper) (hv := hvr) (hr := hrg)) ?_
 | refine A_callV rfl rfl (fun s H => c_periodNo (ys := ys) (hp := hno)) ?_
 | refine A_callV rfl rfl (fun s H => c_r8Run0 (ys := ys)) ?_
 | (refine A_callM rfl rfl (fun s H => c_r8Run1 (n := v) (ys := ys) (hv := hvr) (hr := hrg)) ?_; rintro _ _ ⟨pz, rfl, rfl⟩) | (refine A_callM0 rfl rfl (fun s H => c_r8Run1 (n := v) (ys := ys) (hv := hvr) (hr := hrg)) ?_; rintro _ _ ⟨pz, rfl, rfl⟩)
 | (refine A_callB rfl rfl (fun s H => c_r8Same (xs := ys) (ys := runR S re xs ys v)) ?_ ?_ <;> intro hc <;> try first | contradiction | (exfalso; omega) | exact absurd rfl hc | exact absurd (And.intro rfl rfl) hc | exact absurd (And.intro rfl (And.intro rfl rfl)) hc | exact absurd (Eq.trans (by assumption) (Eq.symm (by assumption))) hc)
 | refine A_minmax rfl rfl rfl hmx ?_
 | refine A_fld rfl rfl ?_ | refine A_mk3 rfl rfl rfl rfl ?_ | refine A_mk23 rfl rfl rfl ?_ | refine A_mk2 rfl rfl rfl ?_ | refine A_mk13 rfl rfl ?_ | refine A_p (by rfl) rfl ?_
 | refine A_ldI rfl (by first | omega | (simp; done) | (simp; omega)) rfl ?_ | refine A_ldB rfl (by first | omega | (simp; done) | (simp; omega)) rfl ?_ | refine A_ld rfl (by rfl) rfl ?_ | refine A_ldW rfl (by simp) rfl ?_
 | refine A_st rfl rfl rfl ?_ | refine A_stW rfl rfl (by simp) rfl ?_ | refine A_stE rfl rfl (by first | omega | (simp; done) | (simp; omega)) rfl ?_
 | ((first | refine A_alloc rfl ?_ | refine A_box rfl rfl ?_ | refine A_boxC rfl rfl ?_ | refine A_makeN rfl rfl rfl (by omega) ?_ | refine A_make rfl rfl rfl (by omega) ?_ | refine A_bld1 rfl rfl ?_ | refine A_bld2 rfl rfl rfl ?_ | refine A_bld4 rfl rfl rfl rfl rfl ?_) <;> intro pz hpz)
 | refine A_bld0 rfl ?_ | (refine A_app rfl rfl rfl (by first | omega | (simp; done) | (simp; omega)) (by first | omega | (simp; done) | (simp; omega)) (by omega) ?_; intro pz) | (refine A_appN (enc := ic) rfl (by decide) rfl rfl (by first | omega | (simp; done) | (simp; omega)) (by omega) ?_; intro pz)
 | refine A_chk1 rfl rfl rfl ?_ | refine A_chk2 rfl rfl rfl rfl ?_ | refine A_chk3 rfl rfl rfl rfl rfl ?_ | refine A_chk4 rfl rfl rfl rfl rfl rfl ?_ | refine A_chkI rfl (by assumption) rfl (by simp) ?_
 | refine A_ret1 rfl (by first | exact (RP.t rfl RP.nil) | exact (RP.c rfl inferInstance rfl (by simp) RP.nil)) ?_ | refine A_ret rfl (by first | exact (RP.t rfl (RP.t rfl RP.nil)) | exact (RP.c rfl inferInstance rfl (by simp) (RP.t rfl RP.nil)) | exact (RP.t rfl (RP.t rfl (RP.t rfl RP.nil))) | exact (RP.c rfl inferInstance rfl (by simp) (RP.t rfl (RP.t rfl RP.nil))) | exact (RP.c rfl inferInstance rfl (by simp) (RP.t rfl (RP.t rfl (RP.t rfl (RP.t rfl RP.nil)))))) ?_ | refine A_ret0 rfl ?_)
  exact R_v rfl
theorem bw_first {s : St} [Wf s] {S p6 ptb py : Nat} {re : Int} {xs ys : List Int} {v1 v2 v3 v4 v5 v6 v7 v8 : AV} (hS : 2 ≤ S ∧ S ≤ 3) (hre1 : 0 ≤ re ∧ re ≤ 1) (hvr : VR S re xs) (hrg : RG S ys) (hylen : 1 ≤ ys.length ∧ ys.length ≤ 64) (hxb : xs.length ≤ 2000000) {u v : Nat} (hper : Per (runR S re xs ys) u v) (huv : u + v ≤ 4096) (hu1 : u = 1) :
    At [] s (BwL S re p6 ptb py xs ys) [] [] (BwF S p6 py ys.length v1 v2 v3 v4 v5 v6 v7 v8) BwK := by
  have hv1 := hper.pos
  have hrl := fun k => runR_len (st := (S : Int)) (re := re) (xs := xs) (ys := ys) k
  have hrr := fun k => runR_rg hvr hrg k
  have hnone : ∀ m : Int, m < (u + v : Nat) → ¬ PerP (runR S re xs ys) m := fun m hm ⟨u', v', k1, k2⟩ => by
    obtain ⟨e1, e2⟩ := hper.uniq k1
    omega
  have hu0 : 0 < u := by omega
  have hmx : (if (u : Int) + v - 1 > 1 then (u : Int) + v - 1 else 1) = (u : Int) + v - 1 := by split <;> omega
  have hno := hnone ((u : Int) + v - 1) (by push_cast; omega)
  have hlu := hrl u
  have hru := hrr u
  have hlw : (runR S re xs (runR S re xs ys u) v).length = (runR S re xs ys u).length := runR_len v
  have heq2 : runR S re xs ys u = runR S re xs (runR S re xs ys u) v := by rw [runR_add]; exact hper.eq
  have hne : runR S re xs ys (u - 1) ≠ runR S re xs ys (u - 1 + v) := hper.diff (by omega) (by omega)
  have hlz : (runR S re xs (runR S re xs ys (u - 1)) v).length = (runR S re xs ys (u - 1)).length := runR_len v
  have hl1 := hrl (u - 1)
  have hr1 := hrr (u - 1)
  have hne2 : ¬ runR S re xs ys (u - 1) = runR S re xs (runR S re xs ys (u - 1)) v := by rw [runR_add]; exact hne
  have hm1 : (u : Int) - 1 = 0 := by omega
  have hz : runR S re xs ys (u - 1) = ys := by rw [show u - 1 = 0 by omega]; rfl
  rw [hz] at hne2 hlz
  repeat' (first
 | refine A_go rfl ?_ | refine A_ifT rfl rfl ?_ | refine A_ifF rfl rfl ?_ | refine A_offP rfl rfl ?_ | refine A_offH rfl rfl ?_ | refine A_off0 rfl rfl ?_
 | refine A_add rfl rfl rfl (by omega) ?_ | refine A_sub rfl rfl rfl (by omega) ?_ | refine A_mul rfl rfl rfl (by omega) ?_ | refine A_rem rfl rfl rfl (by omega) ?_ | refine A_remT rfl rfl rfl (by omega) ?_ | refine A_quo rfl rfl rfl (by omega) ?_
 | ((first | refine A_lt rfl rfl rfl ?_ ?_ | refine A_le rfl rfl rfl ?_ ?_ | refine A_gt rfl rfl rfl ?_ ?_ | refine A_ge rfl rfl rfl ?_ ?_ | refine A_eq rfl rfl rfl ?_ ?_ | refine A_ne rfl rfl rfl ?_ ?_ | refine A_beq rfl rfl rfl ?_ ?_) <;> intro hc <;> try first | contradiction | (exfalso; omega) | exact absurd rfl hc)
 | refine A_idxN1 rfl rfl rfl (by omega) ?_ | refine A_idx1 rfl rfl rfl (by omega) ?_ | refine A_idxArr1 rfl rfl rfl (by omega) ?_
 | refine A_callV rfl rfl (fun s H => c_periodOk (u := u) (v := v) (ys := ys) (hp := hper) (hv := hvr) (hr := hrg)) ?_
 | refine A_callV rfl rfl (fun s H => c_periodNo (ys := ys) (hp := hno)) ?_
 | refine A_callV rfl rfl (fun s H => c_r8Run0 (ys := ys)) ?_
 | (refine A_callM rfl rfl (fun s H => c_r8Run1 (n := u) (ys := ys) (hv := hvr) (hr := hrg)) ?_; rintro _ _ ⟨pz, rfl, rfl⟩) | (refine A_callM0 rfl rfl (fun s H => c_r8Run1 (n := u) (ys := ys) (hv := hvr) (hr := hrg)) ?_; rintro _ _ ⟨pz, rfl, rfl⟩)
 | (refine A_callM rfl rfl (fun s H => c_r8Run1 (n := v) (ys := runR S re xs ys u) (hv := hvr) (hr := hru)) ?_; rintro _ _ ⟨pz, rfl, rfl⟩) | (refine A_callM0 rfl rfl (fun s H => c_r8Run1 (n := v) (ys := runR S re xs ys u) (hv := hvr) (hr := hru)) ?_; rintro _ _ ⟨pz, rfl, rfl⟩)
 | (refine A_callM rfl rfl (fun s H => c_r8Run1 (n := v) (ys := ys) (hv := hvr) (hr := hrg)) ?_; rintro _ _ ⟨pz, rfl, rfl⟩) | (refine A_callM0 rfl rfl (fun s H => c_r8Run1 (n := v) (ys := ys) (hv := hvr) (hr := hrg)) ?_; rintro _ _ ⟨pz, rfl, rfl⟩)
 | (refine A_callB rfl rfl (fun s H => c_r8Same (xs := runR S re xs ys u) (ys := runR S re xs (runR S re xs ys u) v)) ?_ ?_ <;> intro hc <;> try first | contradiction | (exfalso; omega) | exact absurd rfl hc | exact absurd (And.intro rfl rfl) hc | exact absurd (And.intro rfl (And.intro rfl rfl)) hc | exact absurd (Eq.trans (by assumption) (Eq.symm (by assumption))) hc)
 | (refine A_callB rfl rfl (fun s H => c_r8Same (xs := ys) (ys := runR S re xs ys v)) ?_ ?_ <;> intro hc <;> try first | contradiction | (exfalso; omega) | exact absurd rfl hc | exact absurd (And.intro rfl rfl) hc | exact absurd (And.intro rfl (And.intro rfl rfl)) hc | exact absurd (Eq.trans (by assumption) (Eq.symm (by assumption))) hc)
 | refine A_minmax rfl rfl rfl hmx ?_
 | simp only [hm1]
 | refine A_fld rfl rfl ?_ | refine A_mk3 rfl rfl rfl rfl ?_ | refine A_mk23 rfl rfl rfl ?_ | refine A_mk2 rfl rfl rfl ?_ | refine A_mk13 rfl rfl ?_ | refine A_p (by rfl) rfl ?_
 | refine A_ldI rfl (by first | omega | (simp; done) | (simp; omega)) rfl ?_ | refine A_ldB rfl (by first | omega | (simp; done) | (simp; omega)) rfl ?_ | refine A_ld rfl (by rfl) rfl ?_ | refine A_ldW rfl (by simp) rfl ?_
 | refine A_st rfl rfl rfl ?_ | refine A_stW rfl rfl (by simp) rfl ?_ | refine A_stE rfl rfl (by first | omega | (simp; done) | (simp; omega)) rfl ?_
 | ((first | refine A_alloc rfl ?_ | refine A_box rfl rfl ?_ | refine A_boxC rfl rfl ?_ | refine A_makeN rfl rfl rfl (by omega) ?_ | refine A_make rfl rfl rfl (by omega) ?_ | refine A_bld1 rfl rfl ?_ | refine A_bld2 rfl rfl rfl ?_ | refine A_bld4 rfl rfl rfl rfl rfl ?_) <;> intro pz hpz)
 | refine A_bld0 rfl ?_ | (refine A_app rfl rfl rfl (by first | omega | (simp; done) | (simp; omega)) (by first | omega | (simp; done) | (simp; omega)) (by omega) ?_; intro pz) | (refine A_appN (enc := ic) rfl (by decide) rfl rfl (by first | omega | (simp; done) | (simp; omega)) (by omega) ?_; intro pz)
 | refine A_chk1 rfl rfl rfl ?_ | refine A_chk2 rfl rfl rfl rfl ?_ | refine A_chk3 rfl rfl rfl rfl rfl ?_ | refine A_chk4 rfl rfl rfl rfl rfl rfl ?_ | refine A_chkI rfl (by assumption) rfl (by simp) ?_
 | refine A_ret1 rfl (by first | exact (RP.t rfl RP.nil) | exact (RP.c rfl inferInstance rfl (by simp) RP.nil)) ?_ | refine A_ret rfl (by first | exact (RP.t rfl (RP.t rfl RP.nil)) | exact (RP.c rfl inferInstance rfl (by simp) (RP.t rfl RP.nil)) | exact (RP.t rfl (RP.t rfl (RP.t rfl RP.nil))) | exact (RP.c rfl inferInstance rfl (by simp) (RP.t rfl (RP.t rfl RP.nil))) | exact (RP.c rfl inferInstance rfl (by simp) (RP.t rfl (RP.t rfl (RP.t rfl (RP.t rfl RP.nil)))))) ?_ | refine A_ret0 rfl ?_)
  exact R_v rfl
theorem bw_more {s : St} [Wf s] {S p6 ptb py : Nat} {re : Int} {xs ys : List Int} {v1 v2 v3 v4 v5 v6 v7 v8 : AV} (hS : 2 ≤ S ∧ S ≤ 3) (hre1 : 0 ≤ re ∧ re ≤ 1) (hvr : VR S re xs) (hrg : RG S ys) (hylen : 1 ≤ ys.length ∧ ys.length ≤ 64) (hxb : xs.length ≤ 2000000) {u v : Nat} (hper : Per (runR S re xs ys) u v) (huv : u + v ≤ 4096) (hu1 : 1 < u) :
    At [] s (BwL S re p6 ptb py xs ys) [] [] (BwF S p6 py ys.length v1 v2 v3 v4 v5 v6 v7 v8) BwK := by
  have hv1 := hper.pos
  have hrl := fun k => runR_len (st := (S : Int)) (re := re) (xs := xs) (ys := ys) k
  have hrr := fun k => runR_rg hvr hrg k
  have hnone : ∀ m : Int, m < (u + v : Nat) → ¬ PerP (runR S re xs ys) m := fun m hm ⟨u', v', k1, k2⟩ => by
    obtain ⟨e1, e2⟩ := hper.uniq k1
    omega
  have hu0 : 0 < u := by omega
  have hmx : (if (u : Int) + v - 1 > 1 then (u : Int) + v - 1 else 1) = (u : Int) + v - 1 := by split <;> omega
  have hno := hnone ((u : Int) + v - 1) (by push_cast; omega)
  have hlu := hrl u
  have hru := hrr u
  have hlw : (runR S re xs (runR S re xs ys u) v).length = (runR S re xs ys u).length := runR_len v
  have heq2 : runR S re xs ys u = runR S re xs (runR S re xs ys u) v := by rw [runR_add]; exact hper.eq
  have hne : runR S re xs ys (u - 1) ≠ runR S re xs ys (u - 1 + v) := hper.diff (by omega) (by omega)
  have hlz : (runR S re xs (runR S re xs ys (u - 1)) v).length = (runR S re xs ys (u - 1)).length := runR_len v
  have hl1 := hrl (u - 1)
  have hr1 := hrr (u - 1)
  have hne2 : ¬ runR S re xs ys (u - 1) = runR S re xs (runR S re xs ys (u - 1)) v := by rw [runR_add]; exact hne
  have hm1 : (u : Int) - 1 = ((u - 1 : Nat) : Int) := by omega
  repeat' (first
 | refine A_go rfl ?_ | refine A_ifT rfl rfl ?_ | refine A_ifF rfl rfl ?_ | refine A_offP rfl rfl ?_ | refine A_offH rfl rfl ?_ | refine A_off0 rfl rfl ?_
 | refine A_add rfl rfl rfl (by omega) ?_ | refine A_sub rfl rfl rfl (by omega) ?_ | refine A_mul rfl rfl rfl (by omega) ?_ | refine A_rem rfl rfl rfl (by omega) ?_ | refine A_remT rfl rfl rfl (by omega) ?_ | refine A_quo rfl rfl rfl (by omega) ?_
 | ((first | refine A_lt rfl rfl rfl ?_ ?_ | refine A_le rfl rfl rfl ?_ ?_ | refine A_gt rfl rfl rfl ?_ ?_ | refine A_ge rfl rfl rfl ?_ ?_ | refine A_eq rfl rfl rfl ?_ ?_ | refine A_ne rfl rfl rfl ?_ ?_ | refine A_beq rfl rfl rfl ?_ ?_) <;> intro hc <;> try first | contradiction | (exfalso; omega) | exact absurd rfl hc)
 | refine A_idxN1 rfl rfl rfl (by omega) ?_ | refine A_idx1 rfl rfl rfl (by omega) ?_ | refine A_idxArr1 rfl rfl rfl (by omega) ?_
 | refine A_callV rfl rfl (fun s H => c_periodOk (u := u) (v := v) (ys := ys) (hp := hper) (hv := hvr) (hr := hrg)) ?_
 | refine A_callV rfl rfl (fun s H => c_periodNo (ys := ys) (hp := hno)) ?_
 | (refine A_callM rfl rfl (fun s H => c_r8Run1 (n := u) (ys := ys) (hv := hvr) (hr := hrg)) ?_; rintro _ _ ⟨pz, rfl, rfl⟩) | (refine A_callM0 rfl rfl (fun s H => c_r8Run1 (n := u) (ys := ys) (hv := hvr) (hr := hrg)) ?_; rintro _ _ ⟨pz, rfl, rfl⟩)
 | (refine A_callM rfl rfl (fun s H => c_r8Run1 (n := u - 1) (ys := ys) (hv := hvr) (hr := hrg)) ?_; rintro _ _ ⟨pz, rfl, rfl⟩) | (refine A_callM0 rfl rfl (fun s H => c_r8Run1 (n := u - 1) (ys := ys) (hv := hvr) (hr := hrg)) ?_; rintro _ _ ⟨pz, rfl, rfl⟩)
 | (refine A_callM rfl rfl (fun s H => c_r8Run1 (n := v) (ys := runR S re xs ys u) (hv := hvr) (hr := hru)) ?_; rintro _ _ ⟨pz, rfl, rfl⟩) | (refine A_callM0 rfl rfl (fun s H => c_r8Run1 (n := v) (ys := runR S re xs ys u) (hv := hvr) (hr := hru)) ?_; rintro _ _ ⟨pz, rfl, rfl⟩)
 | (refine A_callM rfl rfl (fun s H => c_r8Run1 (n := v) (ys := runR S re xs ys (u - 1)) (hv := hvr) (hr := hr1)) ?_; rintro _ _ ⟨pz, rfl, rfl⟩) | (refine A_callM0 rfl rfl (fun s H => c_r8Run1 (n := v) (ys := runR S re xs ys (u - 1)) (hv := hvr) (hr := hr1)) ?_; rintro _ _ ⟨pz, rfl, rfl⟩)
 | (refine A_callB rfl rfl (fun s H => c_r8Same (xs := runR S re xs ys u) (ys := runR S re xs (runR S re xs ys u) v)) ?_ ?_ <;> intro hc <;> try first | contradiction | (exfalso; omega) | exact absurd rfl hc | exact absurd (And.intro rfl rfl) hc | exact absurd (And.intro rfl (And.intro rfl rfl)) hc | exact absurd (Eq.trans (by assumption) (Eq.symm (by assumption))) hc)
 | (refine A_callB rfl rfl (fun s H => c_r8Same (xs := runR S re xs ys (u - 1)) (ys := runR S re xs (runR S re xs ys (u - 1)) v)) ?_ ?_ <;> intro hc <;> try first | contradiction | (exfalso; omega) | exact absurd rfl hc | exact absurd (And.intro rfl rfl) hc | exact absurd (And.intro rfl (And.intro rfl rfl)) hc | exact absurd (Eq.trans (by assumption) (Eq.symm (by assumption))) hc)
 | refine A_minmax rfl rfl rfl hmx ?_
 | simp only [hm1]
 | refine A_fld rfl rfl ?_ | refine A_mk3 rfl rfl rfl rfl ?_ | refine A_mk23 rfl rfl rfl ?_ | refine A_mk2 rfl rfl rfl ?_ | refine A_mk13 rfl rfl ?_ | refine A_p (by rfl) rfl ?_
 | refine A_ldI rfl (by first | omega | (simp; done) | (simp; omega)) rfl ?_ | refine A_ldB rfl (by first | omega | (simp; done) | (simp; omega)) rfl ?_ | refine A_ld rfl (by rfl) rfl ?_ | refine A_ldW rfl (by simp) rfl ?_
 | refine A_st rfl rfl rfl ?_ | refine A_stW rfl rfl (by simp) rfl ?_ | refine A_stE rfl rfl (by first | omega | (simp; done) | (simp; omega)) rfl ?_
 | ((first | refine A_alloc rfl ?_ | refine A_box rfl rfl ?_ | refine A_boxC rfl rfl ?_ | refine A_makeN rfl rfl rfl (by omega) ?_ | refine A_make rfl rfl rfl (by omega) ?_ | refine A_bld1 rfl rfl ?_ | refine A_bld2 rfl rfl rfl ?_ | refine A_bld4 rfl rfl rfl rfl rfl ?_) <;> intro pz hpz)
 | refine A_bld0 rfl ?_ | (refine A_app rfl rfl rfl (by first | omega | (simp; done) | (simp; omega)) (by first | omega | (simp; done) | (simp; omega)) (by omega) ?_; intro pz) | (refine A_appN (enc := ic) rfl (by decide) rfl rfl (by first | omega | (simp; done) | (simp; omega)) (by omega) ?_; intro pz)
 | refine A_chk1 rfl rfl rfl ?_ | refine A_chk2 rfl rfl rfl rfl ?_ | refine A_chk3 rfl rfl rfl rfl rfl ?_ | refine A_chk4 rfl rfl rfl rfl rfl rfl ?_ | refine A_chkI rfl (by assumption) rfl (by simp) ?_
 | refine A_ret1 rfl (by first | exact (RP.t rfl RP.nil) | exact (RP.c rfl inferInstance rfl (by simp) RP.nil)) ?_ | refine A_ret rfl (by first | exact (RP.t rfl (RP.t rfl RP.nil)) | exact (RP.c rfl inferInstance rfl (by simp) (RP.t rfl RP.nil)) | exact (RP.t rfl (RP.t rfl (RP.t rfl RP.nil))) | exact (RP.c rfl inferInstance rfl (by simp) (RP.t rfl (RP.t rfl RP.nil))) | exact (RP.c rfl inferInstance rfl (by simp) (RP.t rfl (RP.t rfl (RP.t rfl (RP.t rfl RP.nil)))))) ?_ | refine A_ret0 rfl ?_)
  exact R_v rfl
theorem bw_all {s : St} [Wf s] {S p6 ptb py : Nat} {re : Int} {xs ys : List Int} {v1 v2 v3 v4 v5 v6 v7 v8 : AV} (hS : 2 ≤ S ∧ S ≤ 3) (hre1 : 0 ≤ re ∧ re ≤ 1) (hvr : VR S re xs) (hrg : RG S ys) (hylen : 1 ≤ ys.length ∧ ys.length ≤ 64) (hxb : xs.length ≤ 2000000) :
    At [] s (BwL S re p6 ptb py xs ys) [] [] (BwF S p6 py ys.length v1 v2 v3 v4 v5 v6 v7 v8) BwK := by
  by_cases hP : PerP (runR S re xs ys) (4096 : Int)
  case neg => exact bw_none hS hre1 hvr hrg hylen hxb hP
  obtain ⟨u, v, hper, huv⟩ := hP
  have huv' : u + v ≤ 4096 := by omega
  by_cases hu : u = 0
  · by_cases hv2 : v = 1
    · exact bw_one hS hre1 hvr hrg hylen hxb hper huv' hu hv2
    · exact bw_zero hS hre1 hvr hrg hylen hxb hper huv' hu hv2
  · by_cases hu1 : u = 1
    · exact bw_first hS hre1 hvr hrg hylen hxb hper huv' hu1
    · exact bw_more hS hre1 hvr hrg hylen hxb hper huv' (by omega)

end Go.Proofs.Ytafdjnhlhepibaa
