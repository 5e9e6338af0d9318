/- The second loop of the law FnHeaps, part by part: what former parts have left in their slots is of no account. Printed by genheaps.py. -/
import Derived.Test.YtckobcjjbpnkcaaXheapOk
import Derived.Test.YtckobcjjbpnkcaaXshifts
import Derived.Test.YtckobcjjbpnkcaaFB
namespace Go.Proofs.Ytckobcjjbpnkcaa
open Go Go.RowKit
set_option linter.unusedVariables false
set_option linter.unusedSimpArgs false
set_option maxRecDepth 100000
set_option maxHeartbeats 8000000
-- laws.FnHeaps
def L7 : AFun := ⟨510, [.t 4],
 (.seq (.ops false [⟨(some 4), .mv (.k (bv false)), none, []⟩])
 (.seq (.seq (.ops false [⟨(some 41), .mv (.t 0), none, []⟩,
    ⟨(some 42), .mv (.t 1), none, []⟩,
    ⟨(some 43), .call (.f 18) [(.t 41), (.t 42)], none, []⟩])
  (.cond (.t 43) (.seq (.ops false [⟨(some 4), .mv (.k (bv true)), none, []⟩])
   .ret)
   .skip))
 (.seq (.ops false [⟨(some 44), .mv (.t 1), none, []⟩,
   ⟨(some 45), .call (.f 20) [(.t 44), (.k (iv 40)), (.k (iv 5))], none, []⟩,
   ⟨(some 46), .bin .add (.k (iv 1)) (.t 45), none, []⟩,
   ⟨(some 5), .mv (.t 46), none, []⟩])
 (.seq (.ops false [⟨(some 47), .mv (.t 1), none, []⟩,
   ⟨(some 48), .call (.f 20) [(.t 47), (.k (iv 41)), (.k (iv 5))], none, []⟩,
   ⟨(some 49), .bin .add (.k (iv 1)) (.t 48), none, []⟩,
   ⟨(some 6), .mv (.t 49), none, []⟩])
 (.seq (.ops false [⟨(some 50), .mv (.t 0), none, []⟩,
   ⟨(some 51), .mv (.t 5), none, []⟩,
   ⟨(some 52), .mv (.t 6), none, []⟩,
   ⟨(some 53), .call (.f 19) [(.t 50), (.t 51), (.t 52), (.k (iv 8))], none, []⟩,
   ⟨(some 7), .alloc 25 [.int .i64 0, .int .i64 0, .sl 0 0 0], none, []⟩,
   ⟨none, .store 3 (.t 7) (.t 53), none, []⟩])
 (.seq (.ops false [⟨(some 54), .mv (.t 1), none, []⟩,
   ⟨(some 55), .mv (.t 5), none, []⟩,
   ⟨(some 56), .mv (.t 6), none, []⟩,
   ⟨(some 57), .call (.f 19) [(.t 54), (.t 55), (.t 56), (.k (iv 8))], none, []⟩,
   ⟨(some 8), .alloc 25 [.int .i64 0, .int .i64 0, .sl 0 0 0], none, []⟩,
   ⟨none, .store 3 (.t 8) (.t 57), none, []⟩])
 (.seq (.ops false [⟨(some 59), .load true 3 (.t 7), none, []⟩,
   ⟨(some 60), .call (.f 33) [(.t 59)], none, []⟩,
   ⟨(some 58), .mv (.t 60), none, []⟩,
   ⟨(some 61), .ext (.t 58) 0, none, []⟩,
   ⟨(some 62), .ext (.t 58) 1, none, []⟩,
   ⟨(some 63), .ext (.t 58) 2, none, []⟩,
   ⟨(some 9), .alloc 25 [.int .i64 0, .int .i64 0, .sl 0 0 0], none, []⟩,
   ⟨none, .store 3 (.t 9) (.t 61), none, []⟩,
   ⟨(some 10), .mv (.t 62), none, []⟩,
   ⟨(some 11), .mv (.t 63), none, []⟩])
 (.seq (.ops false [⟨(some 65), .load true 3 (.t 9), none, []⟩,
   ⟨(some 66), .call (.f 33) [(.t 65)], none, []⟩,
   ⟨(some 64), .mv (.t 66), none, []⟩,
   ⟨(some 67), .ext (.t 64) 0, none, []⟩,
   ⟨(some 68), .ext (.t 64) 1, none, []⟩,
   ⟨(some 69), .ext (.t 64) 2, none, []⟩,
   ⟨(some 12), .alloc 25 [.int .i64 0, .int .i64 0, .sl 0 0 0], none, []⟩,
   ⟨none, .store 3 (.t 12) (.t 67), none, []⟩,
   ⟨(some 13), .mv (.t 68), none, []⟩,
   ⟨(some 14), .mv (.t 69), none, []⟩])
 (.seq (.ops false [⟨(some 71), .load true 3 (.t 8), none, []⟩,
   ⟨(some 72), .call (.f 33) [(.t 71)], none, []⟩,
   ⟨(some 70), .mv (.t 72), none, []⟩,
   ⟨(some 73), .ext (.t 70) 0, none, []⟩,
   ⟨(some 74), .ext (.t 70) 1, none, []⟩,
   ⟨(some 75), .ext (.t 70) 2, none, []⟩,
   ⟨(some 15), .alloc 25 [.int .i64 0, .int .i64 0, .sl 0 0 0], none, []⟩,
   ⟨none, .store 3 (.t 15) (.t 73), none, []⟩,
   ⟨(some 16), .mv (.t 74), none, []⟩,
   ⟨(some 17), .mv (.t 75), none, []⟩])
 (.seq (.ops false [⟨(some 77), .load true 3 (.t 7), none, []⟩,
   ⟨(some 78), .load true 3 (.t 8), none, []⟩,
   ⟨(some 79), .call (.f 34) [(.t 77), (.t 78)], none, []⟩,
   ⟨(some 76), .mv (.t 79), none, []⟩,
   ⟨(some 80), .ext (.t 76) 0, none, []⟩,
   ⟨(some 81), .ext (.t 76) 1, none, []⟩,
   ⟨(some 18), .alloc 25 [.int .i64 0, .int .i64 0, .sl 0 0 0], none, []⟩,
   ⟨none, .store 3 (.t 18) (.t 80), none, []⟩,
   ⟨(some 19), .mv (.t 81), none, []⟩])
 (.seq (.ops false [⟨(some 83), .load true 3 (.t 8), none, []⟩,
   ⟨(some 84), .load true 3 (.t 7), none, []⟩,
   ⟨(some 85), .call (.f 34) [(.t 83), (.t 84)], none, []⟩,
   ⟨(some 82), .mv (.t 85), none, []⟩,
   ⟨(some 86), .ext (.t 82) 0, none, []⟩,
   ⟨(some 87), .ext (.t 82) 1, none, []⟩,
   ⟨(some 20), .alloc 25 [.int .i64 0, .int .i64 0, .sl 0 0 0], none, []⟩,
   ⟨none, .store 3 (.t 20) (.t 86), none, []⟩,
   ⟨(some 21), .mv (.t 87), none, []⟩])
 (.seq (.ops false [⟨(some 89), .load true 3 (.t 9), none, []⟩,
   ⟨(some 90), .load true 3 (.t 15), none, []⟩,
   ⟨(some 91), .call (.f 34) [(.t 89), (.t 90)], none, []⟩,
   ⟨(some 88), .mv (.t 91), none, []⟩,
   ⟨(some 92), .ext (.t 88) 0, none, []⟩,
   ⟨(some 93), .ext (.t 88) 1, none, []⟩,
   ⟨(some 22), .alloc 25 [.int .i64 0, .int .i64 0, .sl 0 0 0], none, []⟩,
   ⟨none, .store 3 (.t 22) (.t 92), none, []⟩,
   ⟨(some 23), .mv (.t 93), none, []⟩])
 (.seq (.seq (.ops false [⟨(some 94), .mv (.t 11), none, []⟩,
    ⟨(some 95), .un .not (.t 94), none, []⟩,
    ⟨(some 96), .mv (.t 95), none, []⟩,
    ⟨(some 97), .mv (.t 14), (some (96, false)), []⟩,
    ⟨(some 98), .un .not (.t 97), (some (96, false)), []⟩,
    ⟨(some 99), .pick (.t 96) (.k (bv true)) (.t 98), none, []⟩,
    ⟨(some 100), .mv (.t 99), none, []⟩,
    ⟨(some 101), .mv (.t 17), (some (100, false)), []⟩,
    ⟨(some 102), .un .not (.t 101), (some (100, false)), []⟩,
    ⟨(some 103), .pick (.t 100) (.k (bv true)) (.t 102), none, []⟩,
    ⟨(some 104), .mv (.t 103), none, []⟩,
    ⟨(some 105), .mv (.t 19), (some (104, false)), []⟩,
    ⟨(some 106), .un .not (.t 105), (some (104, false)), []⟩,
    ⟨(some 107), .pick (.t 104) (.k (bv true)) (.t 106), none, []⟩,
    ⟨(some 108), .mv (.t 107), none, []⟩,
    ⟨(some 109), .mv (.t 21), (some (108, false)), []⟩,
    ⟨(some 110), .un .not (.t 109), (some (108, false)), []⟩,
    ⟨(some 111), .pick (.t 108) (.k (bv true)) (.t 110), none, []⟩,
    ⟨(some 112), .mv (.t 111), none, []⟩,
    ⟨(some 113), .mv (.t 23), (some (112, false)), []⟩,
    ⟨(some 114), .un .not (.t 113), (some (112, false)), []⟩,
    ⟨(some 115), .pick (.t 112) (.k (bv true)) (.t 114), none, []⟩,
    ⟨(some 116), .mv (.t 115), none, []⟩,
    ⟨(some 117), .mv (.t 10), (some (116, false)), []⟩,
    ⟨(some 118), .bin .lss (.t 117) (.k (iv 0)), (some (116, false)), []⟩,
    ⟨(some 119), .pick (.t 116) (.k (bv true)) (.t 118), none, []⟩,
    ⟨(some 120), .mv (.t 119), none, []⟩,
    ⟨(some 121), .mv (.t 13), (some (120, false)), []⟩,
    ⟨(some 122), .bin .neq (.t 121) (.k (iv 0)), (some (120, false)), []⟩,
    ⟨(some 123), .pick (.t 120) (.k (bv true)) (.t 122), none, []⟩,
    ⟨(some 124), .mv (.t 123), none, []⟩,
    ⟨(some 125), .load true 3 (.t 12), (some (124, false)), []⟩,
    ⟨(some 126), .load true 3 (.t 9), (some (124, false)), []⟩,
    ⟨(some 127), .call (.f 24) [(.t 125), (.t 126)], (some (124, false)), []⟩,
    ⟨(some 128), .un .not (.t 127), (some (124, false)), []⟩,
    ⟨(some 129), .pick (.t 124) (.k (bv true)) (.t 128), none, []⟩,
    ⟨(some 130), .mv (.t 129), none, []⟩,
    ⟨(some 131), .load true 3 (.t 18), (some (130, false)), []⟩,
    ⟨(some 132), .load true 3 (.t 20), (some (130, false)), []⟩,
    ⟨(some 133), .call (.f 24) [(.t 131), (.t 132)], (some (130, false)), []⟩,
    ⟨(some 134), .un .not (.t 133), (some (130, false)), []⟩,
    ⟨(some 135), .pick (.t 130) (.k (bv true)) (.t 134), none, []⟩,
    ⟨(some 136), .mv (.t 135), none, []⟩,
    ⟨(some 137), .load true 3 (.t 22), (some (136, false)), []⟩,
    ⟨(some 138), .load true 3 (.t 18), (some (136, false)), []⟩,
    ⟨(some 139), .call (.f 24) [(.t 137), (.t 138)], (some (136, false)), []⟩,
    ⟨(some 140), .un .not (.t 139), (some (136, false)), []⟩,
    ⟨(some 141), .pick (.t 136) (.k (bv true)) (.t 140), none, []⟩])
  (.cond (.t 141) (.seq (.ops false [⟨(some 4), .mv (.k (bv false)), none, []⟩])
   .ret)
   .skip))
 (.seq (.ops false [⟨(some 24), .mv (.k (iv 0)), none, []⟩])
 (.seq (.ops false [⟨(some 25), .mv (.k (iv 0)), none, []⟩])
 (.seq (.seq (.ops false [⟨(some 26), .mv (.k (iv 0)), none, []⟩])
  (.block 0 (.loop [1, 5, 6, 7, 9, 10, 24, 25, 26] (.seq (.seq (.ops false [⟨(some 142), .mv (.t 26), none, []⟩,
       ⟨(some 143), .fieldA 2 (.t 7), none, []⟩,
       ⟨(some 144), .load false 1 (.t 143), none, []⟩,
       ⟨(some 145), .len false (.t 144), none, []⟩,
       ⟨(some 146), .bin .lss (.t 142) (.t 145), none, []⟩])
     (.cond (.t 146) .skip
      (.exit 0)))
    (.seq (.block 1 (.seq (.ops false [⟨(some 149), .mv (.t 24), none, []⟩,
        ⟨(some 150), .fieldA 2 (.t 7), none, []⟩,
        ⟨(some 151), .load false 1 (.t 150), none, []⟩,
        ⟨(some 152), .mv (.t 26), none, []⟩,
        ⟨(some 153), .idxA 1 (.t 151) (.t 152), none, []⟩,
        ⟨(some 154), .load false 1 (.t 153), none, []⟩,
        ⟨(some 155), .bin .add (.t 149) (.t 154), none, []⟩,
        ⟨(some 24), .mv (.t 155), none, []⟩])
      (.seq (.ops false [⟨(some 156), .mv (.t 25), none, []⟩,
        ⟨(some 157), .fieldA 2 (.t 9), none, []⟩,
        ⟨(some 158), .load false 1 (.t 157), none, []⟩,
        ⟨(some 159), .mv (.t 26), none, []⟩,
        ⟨(some 160), .idxA 1 (.t 158) (.t 159), none, []⟩,
        ⟨(some 161), .load false 1 (.t 160), none, []⟩,
        ⟨(some 162), .bin .add (.t 156) (.t 161), none, []⟩,
        ⟨(some 25), .mv (.t 162), none, []⟩])
      (.seq (.ops false [⟨(some 163), .fieldA 2 (.t 9), none, []⟩,
        ⟨(some 164), .load false 1 (.t 163), none, []⟩,
        ⟨(some 165), .mv (.t 26), none, []⟩,
        ⟨(some 166), .idxA 1 (.t 164) (.t 165), none, []⟩,
        ⟨(some 167), .load false 1 (.t 166), none, []⟩,
        ⟨(some 168), .bin .gtr (.t 167) (.k (iv 3)), none, []⟩,
        ⟨(some 169), .mv (.t 168), none, []⟩,
        ⟨(some 170), .fieldA 2 (.t 9), (some (169, false)), []⟩,
        ⟨(some 171), .load false 1 (.t 170), (some (169, false)), []⟩,
        ⟨(some 172), .mv (.t 26), (some (169, false)), []⟩,
        ⟨(some 173), .idxA 1 (.t 171) (.t 172), (some (169, false)), []⟩,
        ⟨(some 174), .load false 1 (.t 173), (some (169, false)), []⟩,
        ⟨(some 175), .bin .lss (.t 174) (.k (iv 0)), (some (169, false)), []⟩,
        ⟨(some 176), .pick (.t 169) (.k (bv true)) (.t 175), none, []⟩])
      (.cond (.t 176) (.seq (.ops false [⟨(some 4), .mv (.k (bv false)), none, []⟩])
       .ret)
       .skip)))))
    (.ops false [⟨(some 147), .mv (.t 26), none, []⟩,
     ⟨(some 148), .bin .add (.t 147) (.k (iv 1)), none, []⟩,
     ⟨(some 26), .mv (.t 148), none, []⟩]))))))
 (.seq (.seq (.ops false [⟨(some 177), .mv (.t 25), none, []⟩,
    ⟨(some 178), .mv (.t 24), none, []⟩,
    ⟨(some 179), .bin .gtr (.t 177) (.t 178), none, []⟩,
    ⟨(some 180), .mv (.t 179), none, []⟩,
    ⟨(some 181), .mv (.t 10), (some (180, false)), []⟩,
    ⟨(some 182), .bin .eql (.t 181) (.k (iv 0)), (some (180, false)), []⟩,
    ⟨(some 183), .mv (.t 182), (some (180, false)), []⟩,
    ⟨(some 184), .mv (.t 25), (some (183, true)), []⟩,
    ⟨(some 185), .mv (.t 24), (some (183, true)), []⟩,
    ⟨(some 186), .bin .neq (.t 184) (.t 185), (some (183, true)), []⟩,
    ⟨(some 187), .pick (.t 183) (.t 186) (.k (bv false)), (some (180, false)), []⟩,
    ⟨(some 188), .pick (.t 180) (.k (bv true)) (.t 187), none, []⟩])
  (.cond (.t 188) (.seq (.ops false [⟨(some 4), .mv (.k (bv false)), none, []⟩])
   .ret)
   .skip))
 (.seq (.ops false [⟨(some 189), .mv (.t 1), none, []⟩,
   ⟨(some 190), .mv (.t 5), none, []⟩,
   ⟨(some 191), .mv (.t 6), none, []⟩,
   ⟨(some 192), .call (.f 19) [(.t 189), (.t 190), (.t 191), (.k (iv 2))], none, []⟩,
   ⟨(some 27), .alloc 25 [.int .i64 0, .int .i64 0, .sl 0 0 0], none, []⟩,
   ⟨none, .store 3 (.t 27) (.t 192), none, []⟩])
 (.seq (.ops false [⟨(some 194), .load true 3 (.t 27), none, []⟩,
   ⟨(some 195), .call (.f 32) [(.t 194)], none, []⟩,
   ⟨(some 193), .mv (.t 195), none, []⟩,
   ⟨(some 196), .ext (.t 193) 0, none, []⟩,
   ⟨(some 197), .ext (.t 193) 1, none, []⟩,
   ⟨(some 198), .ext (.t 193) 2, none, []⟩,
   ⟨(some 28), .mv (.t 196), none, []⟩,
   ⟨(some 29), .mv (.t 197), none, []⟩,
   ⟨(some 30), .mv (.t 198), none, []⟩])
 (.seq (.ops false [⟨(some 199), .mv (.t 1), none, []⟩,
   ⟨(some 200), .mv (.t 5), none, []⟩,
   ⟨(some 201), .mv (.t 6), none, []⟩,
   ⟨(some 202), .bin .mul (.t 200) (.t 201), none, []⟩,
   ⟨(some 203), .call (.f 20) [(.t 199), (.k (iv 42)), (.t 202)], none, []⟩,
   ⟨(some 31), .mv (.t 203), none, []⟩])
 (.seq (.ops false [⟨(some 204), .mv (.t 5), none, []⟩,
   ⟨(some 205), .mv (.t 6), none, []⟩,
   ⟨(some 206), .buildS 2 1 0 [.int .i64 0] [], none, []⟩,
   ⟨(some 207), .fieldA 2 (.t 27), none, []⟩,
   ⟨(some 208), .load false 1 (.t 207), none, []⟩,
   ⟨(some 209), .append 2 1 8 (.t 206) (.t 208), none, []⟩,
   ⟨(some 210), .build [.int .i64 0, .int .i64 0, .sl 0 0 0] [(0, 1, (.t 204)), (1, 1, (.t 205)), (2, 1, (.t 209))], none, []⟩,
   ⟨(some 32), .alloc 25 [.int .i64 0, .int .i64 0, .sl 0 0 0], none, []⟩,
   ⟨none, .store 3 (.t 32) (.t 210), none, []⟩])
 (.seq (.ops false [⟨(some 211), .fieldA 2 (.t 32), none, []⟩,
   ⟨(some 212), .load false 1 (.t 211), none, []⟩,
   ⟨(some 213), .mv (.t 31), none, []⟩,
   ⟨(some 214), .idxA 1 (.t 212) (.t 213), none, []⟩,
   ⟨none, .store 1 (.t 214) (.k (iv 2)), none, []⟩])
 (.seq (.ops false [⟨(some 216), .load true 3 (.t 32), none, []⟩,
   ⟨(some 217), .call (.f 35) [(.t 216)], none, []⟩,
   ⟨(some 215), .mv (.t 217), none, []⟩,
   ⟨(some 218), .ext (.t 215) 0, none, []⟩,
   ⟨(some 219), .ext (.t 215) 1, none, []⟩,
   ⟨(some 220), .ext (.t 215) 2, none, []⟩,
   ⟨(some 33), .alloc 25 [.int .i64 0, .int .i64 0, .sl 0 0 0], none, []⟩,
   ⟨none, .store 3 (.t 33) (.t 218), none, []⟩,
   ⟨(some 34), .mv (.t 219), none, []⟩,
   ⟨(some 35), .mv (.t 220), none, []⟩])
 (.seq (.ops false [⟨(some 222), .load true 3 (.t 32), none, []⟩,
   ⟨(some 223), .call (.f 36) [(.t 222)], none, []⟩,
   ⟨(some 221), .mv (.t 223), none, []⟩,
   ⟨(some 224), .ext (.t 221) 0, none, []⟩,
   ⟨(some 225), .ext (.t 221) 1, none, []⟩,
   ⟨(some 36), .alloc 25 [.int .i64 0, .int .i64 0, .sl 0 0 0], none, []⟩,
   ⟨none, .store 3 (.t 36) (.t 224), none, []⟩,
   ⟨(some 37), .mv (.t 225), none, []⟩])
 (.seq (.seq (.ops false [⟨(some 226), .mv (.t 30), none, []⟩,
    ⟨(some 227), .un .not (.t 226), none, []⟩,
    ⟨(some 228), .mv (.t 227), none, []⟩,
    ⟨(some 229), .mv (.t 35), (some (228, false)), []⟩,
    ⟨(some 230), .un .not (.t 229), (some (228, false)), []⟩,
    ⟨(some 231), .pick (.t 228) (.k (bv true)) (.t 230), none, []⟩,
    ⟨(some 232), .mv (.t 231), none, []⟩,
    ⟨(some 233), .mv (.t 37), (some (232, false)), []⟩,
    ⟨(some 234), .un .not (.t 233), (some (232, false)), []⟩,
    ⟨(some 235), .pick (.t 232) (.k (bv true)) (.t 234), none, []⟩,
    ⟨(some 236), .mv (.t 235), none, []⟩,
    ⟨(some 237), .mv (.t 28), (some (236, false)), []⟩,
    ⟨(some 238), .len false (.t 237), (some (236, false)), []⟩,
    ⟨(some 239), .mv (.t 5), (some (236, false)), []⟩,
    ⟨(some 240), .mv (.t 6), (some (236, false)), []⟩,
    ⟨(some 241), .bin .mul (.t 239) (.t 240), (some (236, false)), []⟩,
    ⟨(some 242), .bin .neq (.t 238) (.t 241), (some (236, false)), []⟩,
    ⟨(some 243), .pick (.t 236) (.k (bv true)) (.t 242), none, []⟩,
    ⟨(some 244), .mv (.t 243), none, []⟩,
    ⟨(some 245), .mv (.t 29), (some (244, false)), []⟩,
    ⟨(some 246), .bin .lss (.t 245) (.k (iv 0)), (some (244, false)), []⟩,
    ⟨(some 247), .pick (.t 244) (.k (bv true)) (.t 246), none, []⟩,
    ⟨(some 248), .mv (.t 247), none, []⟩,
    ⟨(some 249), .mv (.t 34), (some (248, false)), []⟩,
    ⟨(some 250), .bin .lss (.t 249) (.k (iv 1)), (some (248, false)), []⟩,
    ⟨(some 251), .pick (.t 248) (.k (bv true)) (.t 250), none, []⟩,
    ⟨(some 252), .mv (.t 251), none, []⟩,
    ⟨(some 253), .fieldA 2 (.t 36), (some (252, false)), []⟩,
    ⟨(some 254), .load false 1 (.t 253), (some (252, false)), []⟩,
    ⟨(some 255), .mv (.t 31), (some (252, false)), []⟩,
    ⟨(some 256), .idxA 1 (.t 254) (.t 255), (some (252, false)), []⟩,
    ⟨(some 257), .load false 1 (.t 256), (some (252, false)), []⟩,
    ⟨(some 258), .bin .neq (.t 257) (.k (iv 0)), (some (252, false)), []⟩,
    ⟨(some 259), .pick (.t 252) (.k (bv true)) (.t 258), none, []⟩,
    ⟨(some 260), .mv (.t 259), none, []⟩,
    ⟨(some 261), .fieldA 2 (.t 33), (some (260, false)), []⟩,
    ⟨(some 262), .load false 1 (.t 261), (some (260, false)), []⟩,
    ⟨(some 263), .mv (.t 31), (some (260, false)), []⟩,
    ⟨(some 264), .idxA 1 (.t 262) (.t 263), (some (260, false)), []⟩,
    ⟨(some 265), .load false 1 (.t 264), (some (260, false)), []⟩,
    ⟨(some 266), .bin .neq (.t 265) (.k (iv 0)), (some (260, false)), []⟩,
    ⟨(some 267), .pick (.t 260) (.k (bv true)) (.t 266), none, []⟩])
  (.cond (.t 267) (.seq (.ops false [⟨(some 4), .mv (.k (bv false)), none, []⟩])
   .ret)
   .skip))
 (.seq (.ops false [⟨(some 38), .mv (.k (iv 0)), none, []⟩])
 (.seq (.seq (.ops false [⟨(some 39), .mv (.k (iv 0)), none, []⟩])
  (.block 2 (.loop [5, 6, 27, 28, 29, 31, 33, 38, 39] (.seq (.seq (.ops false [⟨(some 268), .mv (.t 39), none, []⟩,
       ⟨(some 269), .mv (.t 5), none, []⟩,
       ⟨(some 270), .mv (.t 6), none, []⟩,
       ⟨(some 271), .bin .mul (.t 269) (.t 270), none, []⟩,
       ⟨(some 272), .bin .lss (.t 268) (.t 271), none, []⟩])
     (.cond (.t 272) .skip
      (.exit 2)))
    (.seq (.block 3 (.seq (.seq (.ops true [⟨(some 275), .mv (.t 28), none, []⟩,
         ⟨(some 276), .mv (.t 39), none, []⟩,
         ⟨(some 277), .idxA 1 (.t 275) (.t 276), none, []⟩,
         ⟨(some 278), .load false 1 (.t 277), none, []⟩,
         ⟨(some 279), .bin .eql (.t 278) (.k (iv 0)), none, []⟩,
         ⟨(some 280), .fieldA 2 (.t 27), none, []⟩,
         ⟨(some 281), .load false 1 (.t 280), none, []⟩,
         ⟨(some 282), .mv (.t 39), none, []⟩,
         ⟨(some 283), .idxA 1 (.t 281) (.t 282), none, []⟩,
         ⟨(some 284), .load false 1 (.t 283), none, []⟩,
         ⟨(some 285), .bin .eql (.t 284) (.k (iv 0)), none, []⟩,
         ⟨(some 286), .beq true (.t 279) (.t 285), none, []⟩,
         ⟨(some 287), .mv (.t 286), none, []⟩,
         ⟨(some 288), .mv (.t 28), (some (287, false)), []⟩,
         ⟨(some 289), .mv (.t 39), (some (287, false)), []⟩,
         ⟨(some 290), .idxA 1 (.t 288) (.t 289), (some (287, false)), []⟩,
         ⟨(some 291), .load false 1 (.t 290), (some (287, false)), []⟩,
         ⟨(some 292), .mv (.t 38), (some (287, false)), []⟩,
         ⟨(some 293), .bin .add (.t 292) (.k (iv 1)), (some (287, false)), []⟩,
         ⟨(some 294), .bin .gtr (.t 291) (.t 293), (some (287, false)), []⟩,
         ⟨(some 295), .pick (.t 287) (.k (bv true)) (.t 294), none, []⟩])
       (.cond (.t 295) (.seq (.ops false [⟨(some 4), .mv (.k (bv false)), none, []⟩])
        .ret)
        .skip))
      (.seq (.ops false [⟨(some 296), .mv (.t 38), none, []⟩,
        ⟨(some 297), .mv (.t 28), none, []⟩,
        ⟨(some 298), .mv (.t 39), none, []⟩,
        ⟨(some 299), .idxA 1 (.t 297) (.t 298), none, []⟩,
        ⟨(some 300), .load false 1 (.t 299), none, []⟩,
        ⟨(some 301), .minmax true (.t 296) (.t 300), none, []⟩,
        ⟨(some 38), .mv (.t 301), none, []⟩])
      (.seq (.seq (.ops true [⟨(some 302), .mv (.t 39), none, []⟩,
         ⟨(some 303), .mv (.t 6), none, []⟩,
         ⟨(some 304), .bin .rem (.t 302) (.t 303), none, []⟩,
         ⟨(some 305), .bin .gtr (.t 304) (.k (iv 0)), none, []⟩,
         ⟨(some 306), .mv (.t 305), none, []⟩,
         ⟨(some 307), .fieldA 2 (.t 27), (some (306, true)), []⟩,
         ⟨(some 308), .load false 1 (.t 307), (some (306, true)), []⟩,
         ⟨(some 309), .mv (.t 39), (some (306, true)), []⟩,
         ⟨(some 310), .idxA 1 (.t 308) (.t 309), (some (306, true)), []⟩,
         ⟨(some 311), .load false 1 (.t 310), (some (306, true)), []⟩,
         ⟨(some 312), .bin .eql (.t 311) (.k (iv 1)), (some (306, true)), []⟩,
         ⟨(some 313), .pick (.t 306) (.t 312) (.k (bv false)), none, []⟩,
         ⟨(some 314), .mv (.t 313), none, []⟩,
         ⟨(some 315), .fieldA 2 (.t 27), (some (314, true)), []⟩,
         ⟨(some 316), .load false 1 (.t 315), (some (314, true)), []⟩,
         ⟨(some 317), .mv (.t 39), (some (314, true)), []⟩,
         ⟨(some 318), .bin .sub (.t 317) (.k (iv 1)), (some (314, true)), []⟩,
         ⟨(some 319), .idxA 1 (.t 316) (.t 318), (some (314, true)), []⟩,
         ⟨(some 320), .load false 1 (.t 319), (some (314, true)), []⟩,
         ⟨(some 321), .bin .eql (.t 320) (.k (iv 1)), (some (314, true)), []⟩,
         ⟨(some 322), .pick (.t 314) (.t 321) (.k (bv false)), none, []⟩,
         ⟨(some 323), .mv (.t 322), none, []⟩,
         ⟨(some 324), .mv (.t 28), (some (323, true)), []⟩,
         ⟨(some 325), .mv (.t 39), (some (323, true)), []⟩,
         ⟨(some 326), .idxA 1 (.t 324) (.t 325), (some (323, true)), []⟩,
         ⟨(some 327), .load false 1 (.t 326), (some (323, true)), []⟩,
         ⟨(some 328), .mv (.t 28), (some (323, true)), []⟩,
         ⟨(some 329), .mv (.t 39), (some (323, true)), []⟩,
         ⟨(some 330), .bin .sub (.t 329) (.k (iv 1)), (some (323, true)), []⟩,
         ⟨(some 331), .idxA 1 (.t 328) (.t 330), (some (323, true)), []⟩,
         ⟨(some 332), .load false 1 (.t 331), (some (323, true)), []⟩,
         ⟨(some 333), .bin .neq (.t 327) (.t 332), (some (323, true)), []⟩,
         ⟨(some 334), .pick (.t 323) (.t 333) (.k (bv false)), none, []⟩,
         ⟨(some 335), .mv (.t 334), none, []⟩,
         ⟨(some 336), .mv (.t 39), (some (335, false)), []⟩,
         ⟨(some 337), .mv (.t 6), (some (335, false)), []⟩,
         ⟨(some 338), .bin .geq (.t 336) (.t 337), (some (335, false)), []⟩,
         ⟨(some 339), .mv (.t 338), (some (335, false)), []⟩,
         ⟨(some 340), .fieldA 2 (.t 27), (some (339, true)), []⟩,
         ⟨(some 341), .load false 1 (.t 340), (some (339, true)), []⟩,
         ⟨(some 342), .mv (.t 39), (some (339, true)), []⟩,
         ⟨(some 343), .idxA 1 (.t 341) (.t 342), (some (339, true)), []⟩,
         ⟨(some 344), .load false 1 (.t 343), (some (339, true)), []⟩,
         ⟨(some 345), .bin .eql (.t 344) (.k (iv 1)), (some (339, true)), []⟩,
         ⟨(some 346), .pick (.t 339) (.t 345) (.k (bv false)), (some (335, false)), []⟩,
         ⟨(some 347), .mv (.t 346), (some (335, false)), []⟩,
         ⟨(some 348), .fieldA 2 (.t 27), (some (347, true)), []⟩,
         ⟨(some 349), .load false 1 (.t 348), (some (347, true)), []⟩,
         ⟨(some 350), .mv (.t 39), (some (347, true)), []⟩,
         ⟨(some 351), .mv (.t 6), (some (347, true)), []⟩,
         ⟨(some 352), .bin .sub (.t 350) (.t 351), (some (347, true)), []⟩,
         ⟨(some 353), .idxA 1 (.t 349) (.t 352), (some (347, true)), []⟩,
         ⟨(some 354), .load false 1 (.t 353), (some (347, true)), []⟩,
         ⟨(some 355), .bin .eql (.t 354) (.k (iv 1)), (some (347, true)), []⟩,
         ⟨(some 356), .pick (.t 347) (.t 355) (.k (bv false)), (some (335, false)), []⟩,
         ⟨(some 357), .mv (.t 356), (some (335, false)), []⟩,
         ⟨(some 358), .mv (.t 28), (some (357, true)), []⟩,
         ⟨(some 359), .mv (.t 39), (some (357, true)), []⟩,
         ⟨(some 360), .idxA 1 (.t 358) (.t 359), (some (357, true)), []⟩,
         ⟨(some 361), .load false 1 (.t 360), (some (357, true)), []⟩,
         ⟨(some 362), .mv (.t 28), (some (357, true)), []⟩,
         ⟨(some 363), .mv (.t 39), (some (357, true)), []⟩,
         ⟨(some 364), .mv (.t 6), (some (357, true)), []⟩,
         ⟨(some 365), .bin .sub (.t 363) (.t 364), (some (357, true)), []⟩,
         ⟨(some 366), .idxA 1 (.t 362) (.t 365), (some (357, true)), []⟩,
         ⟨(some 367), .load false 1 (.t 366), (some (357, true)), []⟩,
         ⟨(some 368), .bin .neq (.t 361) (.t 367), (some (357, true)), []⟩,
         ⟨(some 369), .pick (.t 357) (.t 368) (.k (bv false)), (some (335, false)), []⟩,
         ⟨(some 370), .pick (.t 335) (.k (bv true)) (.t 369), none, []⟩])
       (.cond (.t 370) (.seq (.ops false [⟨(some 4), .mv (.k (bv false)), none, []⟩])
        .ret)
        .skip))
      (.seq (.ops true [⟨(some 371), .mv (.t 28), none, []⟩,
        ⟨(some 372), .mv (.t 39), none, []⟩,
        ⟨(some 373), .idxA 1 (.t 371) (.t 372), none, []⟩,
        ⟨(some 374), .load false 1 (.t 373), none, []⟩,
        ⟨(some 375), .mv (.t 28), none, []⟩,
        ⟨(some 376), .mv (.t 31), none, []⟩,
        ⟨(some 377), .idxA 1 (.t 375) (.t 376), none, []⟩,
        ⟨(some 378), .load false 1 (.t 377), none, []⟩,
        ⟨(some 379), .bin .eql (.t 374) (.t 378), none, []⟩,
        ⟨(some 380), .mv (.t 379), none, []⟩,
        ⟨(some 381), .fieldA 2 (.t 27), (some (380, true)), []⟩,
        ⟨(some 382), .load false 1 (.t 381), (some (380, true)), []⟩,
        ⟨(some 383), .mv (.t 31), (some (380, true)), []⟩,
        ⟨(some 384), .idxA 1 (.t 382) (.t 383), (some (380, true)), []⟩,
        ⟨(some 385), .load false 1 (.t 384), (some (380, true)), []⟩,
        ⟨(some 386), .bin .eql (.t 385) (.k (iv 1)), (some (380, true)), []⟩,
        ⟨(some 387), .pick (.t 380) (.t 386) (.k (bv false)), none, []⟩,
        ⟨(some 40), .mv (.t 387), none, []⟩])
      (.seq (.seq (.ops false [⟨(some 388), .fieldA 2 (.t 27), none, []⟩,
         ⟨(some 389), .load false 1 (.t 388), none, []⟩,
         ⟨(some 390), .mv (.t 31), none, []⟩,
         ⟨(some 391), .idxA 1 (.t 389) (.t 390), none, []⟩,
         ⟨(some 392), .load false 1 (.t 391), none, []⟩,
         ⟨(some 393), .bin .eql (.t 392) (.k (iv 0)), none, []⟩])
       (.cond (.t 393) (.ops true [⟨(some 394), .mv (.t 31), none, []⟩,
         ⟨(some 395), .mv (.t 6), none, []⟩,
         ⟨(some 396), .bin .rem (.t 394) (.t 395), none, []⟩,
         ⟨(some 397), .bin .gtr (.t 396) (.k (iv 0)), none, []⟩,
         ⟨(some 398), .mv (.t 397), none, []⟩,
         ⟨(some 399), .mv (.t 28), (some (398, true)), []⟩,
         ⟨(some 400), .mv (.t 39), (some (398, true)), []⟩,
         ⟨(some 401), .idxA 1 (.t 399) (.t 400), (some (398, true)), []⟩,
         ⟨(some 402), .load false 1 (.t 401), (some (398, true)), []⟩,
         ⟨(some 403), .mv (.t 28), (some (398, true)), []⟩,
         ⟨(some 404), .mv (.t 31), (some (398, true)), []⟩,
         ⟨(some 405), .bin .sub (.t 404) (.k (iv 1)), (some (398, true)), []⟩,
         ⟨(some 406), .idxA 1 (.t 403) (.t 405), (some (398, true)), []⟩,
         ⟨(some 407), .load false 1 (.t 406), (some (398, true)), []⟩,
         ⟨(some 408), .bin .eql (.t 402) (.t 407), (some (398, true)), []⟩,
         ⟨(some 409), .pick (.t 398) (.t 408) (.k (bv false)), none, []⟩,
         ⟨(some 410), .mv (.t 409), none, []⟩,
         ⟨(some 411), .mv (.t 31), (some (410, false)), []⟩,
         ⟨(some 412), .mv (.t 6), (some (410, false)), []⟩,
         ⟨(some 413), .bin .rem (.t 411) (.t 412), (some (410, false)), []⟩,
         ⟨(some 414), .bin .add (.t 413) (.k (iv 1)), (some (410, false)), []⟩,
         ⟨(some 415), .mv (.t 6), (some (410, false)), []⟩,
         ⟨(some 416), .bin .lss (.t 414) (.t 415), (some (410, false)), []⟩,
         ⟨(some 417), .mv (.t 416), (some (410, false)), []⟩,
         ⟨(some 418), .mv (.t 28), (some (417, true)), []⟩,
         ⟨(some 419), .mv (.t 39), (some (417, true)), []⟩,
         ⟨(some 420), .idxA 1 (.t 418) (.t 419), (some (417, true)), []⟩,
         ⟨(some 421), .load false 1 (.t 420), (some (417, true)), []⟩,
         ⟨(some 422), .mv (.t 28), (some (417, true)), []⟩,
         ⟨(some 423), .mv (.t 31), (some (417, true)), []⟩,
         ⟨(some 424), .bin .add (.t 423) (.k (iv 1)), (some (417, true)), []⟩,
         ⟨(some 425), .idxA 1 (.t 422) (.t 424), (some (417, true)), []⟩,
         ⟨(some 426), .load false 1 (.t 425), (some (417, true)), []⟩,
         ⟨(some 427), .bin .eql (.t 421) (.t 426), (some (417, true)), []⟩,
         ⟨(some 428), .pick (.t 417) (.t 427) (.k (bv false)), (some (410, false)), []⟩,
         ⟨(some 429), .pick (.t 410) (.k (bv true)) (.t 428), none, []⟩,
         ⟨(some 430), .mv (.t 429), none, []⟩,
         ⟨(some 431), .mv (.t 31), (some (430, false)), []⟩,
         ⟨(some 432), .mv (.t 6), (some (430, false)), []⟩,
         ⟨(some 433), .bin .geq (.t 431) (.t 432), (some (430, false)), []⟩,
         ⟨(some 434), .mv (.t 433), (some (430, false)), []⟩,
         ⟨(some 435), .mv (.t 28), (some (434, true)), []⟩,
         ⟨(some 436), .mv (.t 39), (some (434, true)), []⟩,
         ⟨(some 437), .idxA 1 (.t 435) (.t 436), (some (434, true)), []⟩,
         ⟨(some 438), .load false 1 (.t 437), (some (434, true)), []⟩,
         ⟨(some 439), .mv (.t 28), (some (434, true)), []⟩,
         ⟨(some 440), .mv (.t 31), (some (434, true)), []⟩,
         ⟨(some 441), .mv (.t 6), (some (434, true)), []⟩,
         ⟨(some 442), .bin .sub (.t 440) (.t 441), (some (434, true)), []⟩,
         ⟨(some 443), .idxA 1 (.t 439) (.t 442), (some (434, true)), []⟩,
         ⟨(some 444), .load false 1 (.t 443), (some (434, true)), []⟩,
         ⟨(some 445), .bin .eql (.t 438) (.t 444), (some (434, true)), []⟩,
         ⟨(some 446), .pick (.t 434) (.t 445) (.k (bv false)), (some (430, false)), []⟩,
         ⟨(some 447), .pick (.t 430) (.k (bv true)) (.t 446), none, []⟩,
         ⟨(some 448), .mv (.t 447), none, []⟩,
         ⟨(some 449), .mv (.t 31), (some (448, false)), []⟩,
         ⟨(some 450), .mv (.t 6), (some (448, false)), []⟩,
         ⟨(some 451), .bin .add (.t 449) (.t 450), (some (448, false)), []⟩,
         ⟨(some 452), .mv (.t 5), (some (448, false)), []⟩,
         ⟨(some 453), .mv (.t 6), (some (448, false)), []⟩,
         ⟨(some 454), .bin .mul (.t 452) (.t 453), (some (448, false)), []⟩,
         ⟨(some 455), .bin .lss (.t 451) (.t 454), (some (448, false)), []⟩,
         ⟨(some 456), .mv (.t 455), (some (448, false)), []⟩,
         ⟨(some 457), .mv (.t 28), (some (456, true)), []⟩,
         ⟨(some 458), .mv (.t 39), (some (456, true)), []⟩,
         ⟨(some 459), .idxA 1 (.t 457) (.t 458), (some (456, true)), []⟩,
         ⟨(some 460), .load false 1 (.t 459), (some (456, true)), []⟩,
         ⟨(some 461), .mv (.t 28), (some (456, true)), []⟩,
         ⟨(some 462), .mv (.t 31), (some (456, true)), []⟩,
         ⟨(some 463), .mv (.t 6), (some (456, true)), []⟩,
         ⟨(some 464), .bin .add (.t 462) (.t 463), (some (456, true)), []⟩,
         ⟨(some 465), .idxA 1 (.t 461) (.t 464), (some (456, true)), []⟩,
         ⟨(some 466), .load false 1 (.t 465), (some (456, true)), []⟩,
         ⟨(some 467), .bin .eql (.t 460) (.t 466), (some (456, true)), []⟩,
         ⟨(some 468), .pick (.t 456) (.t 467) (.k (bv false)), (some (448, false)), []⟩,
         ⟨(some 469), .pick (.t 448) (.k (bv true)) (.t 468), none, []⟩,
         ⟨(some 40), .mv (.t 469), none, []⟩])
        .skip))
      (.seq (.ops false [⟨(some 470), .fieldA 2 (.t 27), none, []⟩,
        ⟨(some 471), .load false 1 (.t 470), none, []⟩,
        ⟨(some 472), .mv (.t 39), none, []⟩,
        ⟨(some 473), .idxA 1 (.t 471) (.t 472), none, []⟩,
        ⟨(some 474), .load false 1 (.t 473), none, []⟩,
        ⟨(some 475), .bin .eql (.t 474) (.k (iv 1)), none, []⟩,
        ⟨(some 476), .mv (.t 475), none, []⟩,
        ⟨(some 477), .mv (.t 39), (some (476, true)), []⟩,
        ⟨(some 478), .mv (.t 31), (some (476, true)), []⟩,
        ⟨(some 479), .bin .neq (.t 477) (.t 478), (some (476, true)), []⟩,
        ⟨(some 480), .pick (.t 476) (.t 479) (.k (bv false)), none, []⟩,
        ⟨(some 481), .mv (.t 480), none, []⟩,
        ⟨(some 482), .fieldA 2 (.t 33), (some (481, true)), []⟩,
        ⟨(some 483), .load false 1 (.t 482), (some (481, true)), []⟩,
        ⟨(some 484), .mv (.t 39), (some (481, true)), []⟩,
        ⟨(some 485), .idxA 1 (.t 483) (.t 484), (some (481, true)), []⟩,
        ⟨(some 486), .load false 1 (.t 485), (some (481, true)), []⟩,
        ⟨(some 487), .bin .eql (.t 486) (.k (iv 0)), (some (481, true)), []⟩,
        ⟨(some 488), .mv (.t 40), (some (481, true)), []⟩,
        ⟨(some 489), .beq true (.t 487) (.t 488), (some (481, true)), []⟩,
        ⟨(some 490), .pick (.t 481) (.t 489) (.k (bv false)), none, []⟩,
        ⟨(some 491), .mv (.t 490), none, []⟩,
        ⟨(some 492), .fieldA 2 (.t 27), (some (491, false)), []⟩,
        ⟨(some 493), .load false 1 (.t 492), (some (491, false)), []⟩,
        ⟨(some 494), .mv (.t 39), (some (491, false)), []⟩,
        ⟨(some 495), .idxA 1 (.t 493) (.t 494), (some (491, false)), []⟩,
        ⟨(some 496), .load false 1 (.t 495), (some (491, false)), []⟩,
        ⟨(some 497), .bin .eql (.t 496) (.k (iv 0)), (some (491, false)), []⟩,
        ⟨(some 498), .mv (.t 497), (some (491, false)), []⟩,
        ⟨(some 499), .fieldA 2 (.t 33), (some (498, true)), []⟩,
        ⟨(some 500), .load false 1 (.t 499), (some (498, true)), []⟩,
        ⟨(some 501), .mv (.t 39), (some (498, true)), []⟩,
        ⟨(some 502), .idxA 1 (.t 500) (.t 501), (some (498, true)), []⟩,
        ⟨(some 503), .load false 1 (.t 502), (some (498, true)), []⟩,
        ⟨(some 504), .bin .neq (.t 503) (.k (iv 0)), (some (498, true)), []⟩,
        ⟨(some 505), .pick (.t 498) (.t 504) (.k (bv false)), (some (491, false)), []⟩,
        ⟨(some 506), .pick (.t 491) (.k (bv true)) (.t 505), none, []⟩])
      (.cond (.t 506) (.seq (.ops false [⟨(some 4), .mv (.k (bv false)), none, []⟩])
       .ret)
       .skip))))))))
    (.ops false [⟨(some 273), .mv (.t 39), none, []⟩,
     ⟨(some 274), .bin .add (.t 273) (.k (iv 1)), none, []⟩,
     ⟨(some 39), .mv (.t 274), none, []⟩]))))))
 (.seq (.ops false [⟨(some 507), .mv (.t 38), none, []⟩,
   ⟨(some 508), .mv (.t 29), none, []⟩,
   ⟨(some 509), .bin .eql (.t 507) (.t 508), none, []⟩,
   ⟨(some 4), .mv (.t 509), none, []⟩])
 .ret))))))))))))))))))))))))))))⟩
theorem code7 : acode Try.prog hints 7 = some L7 := by kernel_rfl


def blc3 : ACode → ACode
  | .seq (.seq _ c) _ => c
  | c => c
def bodyX : ACode → ACode
  | .block _ (.loop _ (.seq _ (.seq (.block _ x) _))) => x
  | c => c
def headX : ACode → ACode
  | .block _ (.loop _ (.seq h _)) => h
  | c => c
def hdc : ACode → ACode
  | .seq a _ => a
  | c => c
theorem A_seqK {B : List Nat} {b : St} {L : Objs} {hist : List Objs} {fr : Frm} {a c : ACode} {k : KK} (h : At B b L [] [] fr (.thn a (.thn c k))) : At B b L [] hist fr (.thn (.seq a c) k) :=
  .nil fun s H => C_seq ((h.thn H).mono fun o fr' s' hq => ⟨by cases o <;> exact hq⟩)
theorem A_blkK {B : List Nat} {b : St} {L : Objs} {hist : List Objs} {fr : Frm} {a : ACode} {id : Nat} {k : KK} (h : At B b L [] [] fr (.thn a (.blk id k))) : At B b L [] hist fr (.thn (.block id a) k) :=
  .nil fun s H => C_block ((h.thn H).mono fun o fr' s' hq => ⟨by
    cases o with
    | normal => exact hq
    | ret => exact hq
    | exit i =>
      by_cases e : i = id
      · subst e
        rw [if_pos rfl]
        have e2 : exitTo i (.exit i) = .normal := by simp [exitTo]
        have h2 : KQ B b k (exitTo i (.exit i)) fr' s' := hq
        rw [e2] at h2; exact h2
      · rw [if_neg (fun g => e (by cases g; rfl))]
        have e2 : exitTo id (.exit i) = .exit i := by
          cases hb : Nat.beq i id with
          | true => exact absurd (Nat.eq_of_beq_eq_true hb) e
          | false => unfold exitTo; simp only [hb, cond_false]
        have h2 : KQ B b k (exitTo id (.exit i)) fr' s' := hq
        rw [e2] at h2; exact h2⟩)
theorem A_skipK {B : List Nat} {b : St} {L : Objs} {hist : List Objs} {fr : Frm} {k : KK} (h : At B b L [] [] fr k) : At B b L [] hist fr (.thn .skip k) :=
  .nil fun s H => C_skip (by
    obtain ⟨fr', s', e, c⟩ := (h.ok s [] H .nil).ex
    cases e; exact c)
theorem hp_0 {s : St} [Wf s] {R C T a i p27 pW pcl p33 pB : Nat} {grp seen : Int} {W cl Bs : List Int}  (lW : W.length = T) (lc : cl.length = T) (lB : Bs.length = T) (hi : i < T) (ha : a < T) (hT : T ≤ 25) (eT : (R : Int) * C = T) (hC : 1 ≤ C)  {k : KK}
    (hk : ∀ {w268 w269 w270 w271 w272 : AV}, At [] s [(p27, .rw 25 3 (fld R C pW T)), (pW, ints W), (pcl, ints cl), (p33, .rw 25 3 (fld R C pB T)), (pB, ints Bs)] [] [] [(272, w272), (271, w271), (270, w270), (269, w269), (268, w268), (5, iv R), (6, iv C), (27, .c (.ptr p27 0)), (28, .c (.sl pcl 0 T)), (29, iv grp), (31, iv a), (33, .c (.ptr p33 0)), (38, iv seen), (39, iv i)] k) :
    At [] s [(p27, .rw 25 3 (fld R C pW T)), (pW, ints W), (pcl, ints cl), (p33, .rw 25 3 (fld R C pB T)), (pB, ints Bs)] [] [] [(5, iv R), (6, iv C), (27, .c (.ptr p27 0)), (28, .c (.sl pcl 0 T)), (29, iv grp), (31, iv a), (33, .c (.ptr p33 0)), (38, iv seen), (39, iv i)] (.thn (headX (blc3 (tlc 26 (L7).body))) k) := by
  repeat' (first
 | refine A_go rfl ?_ | refine A_ifT rfl rfl ?_ | refine A_ifF rfl rfl ?_ | refine A_offP rfl rfl ?_ | refine A_offH rfl rfl ?_ | refine A_off0 rfl rfl ?_
 | refine A_add rfl rfl rfl (by omega) ?_ | refine A_sub rfl rfl rfl (by omega) ?_ | refine A_mul rfl rfl rfl (by omega) ?_ | refine A_rem rfl rfl rfl (by omega) ?_ | refine A_remT rfl rfl rfl (by omega) ?_ | refine A_quo rfl rfl rfl (by omega) ?_
 | ((first | refine A_lt rfl rfl rfl ?_ ?_ | refine A_le rfl rfl rfl ?_ ?_ | refine A_gt rfl rfl rfl ?_ ?_ | refine A_ge rfl rfl rfl ?_ ?_ | refine A_eq rfl rfl rfl ?_ ?_ | refine A_ne rfl rfl rfl ?_ ?_ | refine A_beq rfl rfl rfl ?_ ?_) <;> intro hc <;> try first | contradiction | (exfalso; omega) | exact absurd rfl hc)
 | refine A_idxN1 rfl rfl rfl (by omega) ?_ | refine A_idx1 rfl rfl rfl (by omega) ?_ | refine A_idxArr1 rfl rfl rfl (by omega) ?_
 | rw [eT]
 | refine A_fld rfl rfl ?_ | refine A_mk3 rfl rfl rfl rfl ?_ | refine A_mk23 rfl rfl rfl ?_ | refine A_mk2 rfl rfl rfl ?_ | refine A_mk13 rfl rfl ?_ | refine A_p (by rfl) rfl ?_
 | refine A_ldI rfl (by first | omega | (simp; done) | (simp; omega)) rfl ?_ | refine A_ldB rfl (by first | omega | (simp; done) | (simp; omega)) rfl ?_ | refine A_ld rfl (by rfl) rfl ?_ | refine A_ldW rfl (by simp) rfl ?_
 | refine A_st rfl rfl rfl ?_ | refine A_stW rfl rfl (by simp) rfl ?_ | refine A_stE rfl rfl (by first | omega | (simp; done) | (simp; omega)) rfl ?_
 | ((first | refine A_alloc rfl ?_ | refine A_box rfl rfl ?_ | refine A_boxC rfl rfl ?_ | refine A_makeN rfl rfl rfl (by omega) ?_ | refine A_make rfl rfl rfl (by omega) ?_ | refine A_bld1 rfl rfl ?_ | refine A_bld2 rfl rfl rfl ?_ | refine A_bld4 rfl rfl rfl rfl rfl ?_) <;> intro pz hpz)
 | refine A_bld0 rfl ?_ | (refine A_app rfl rfl rfl (by first | omega | (simp; done) | (simp; omega)) (by first | omega | (simp; done) | (simp; omega)) (by omega) ?_; intro pz) | (refine A_appN (enc := ic) rfl (by decide) rfl rfl (by first | omega | (simp; done) | (simp; omega)) (by omega) ?_; intro pz)
 | refine A_chk1 rfl rfl rfl ?_ | refine A_chk2 rfl rfl rfl rfl ?_ | refine A_chk3 rfl rfl rfl rfl rfl ?_ | refine A_chk4 rfl rfl rfl rfl rfl rfl ?_ | refine A_chkI rfl (by assumption) rfl (by simp) ?_
 | refine A_ret1 rfl (by first | exact (RP.t rfl RP.nil) | exact (RP.c rfl inferInstance rfl (by simp) RP.nil)) ?_ | refine A_ret rfl (by first | exact (RP.t rfl (RP.t rfl RP.nil)) | exact (RP.c rfl inferInstance rfl (by simp) (RP.t rfl RP.nil)) | exact (RP.t rfl (RP.t rfl (RP.t rfl RP.nil))) | exact (RP.c rfl inferInstance rfl (by simp) (RP.t rfl (RP.t rfl RP.nil))) | exact (RP.c rfl inferInstance rfl (by simp) (RP.t rfl (RP.t rfl (RP.t rfl (RP.t rfl RP.nil)))))) ?_ | refine A_ret0 rfl ?_)
  all_goals (refine A_skipK ?_; exact hk)

theorem hp_1 {s : St} [Wf s] {R C T a i p27 pW pcl p33 pB : Nat} {grp seen : Int} {W cl Bs : List Int} {w268 w269 w270 w271 w272 : AV} (lW : W.length = T) (lc : cl.length = T) (lB : Bs.length = T) (hi : i < T) (ha : a < T) (hT : T ≤ 25) (eT : (R : Int) * C = T) (hC : 1 ≤ C) (f1 : cl.getD i 0 = 0 ↔ W.getD i 0 = 0) (f2 : cl.getD i 0 ≤ seen + 1) (f3 : 0 ≤ seen ∧ seen ≤ 100) {k : KK}
    (hk : ∀ {w275 w276 w277 w278 w279 w280 w281 w282 w283 w284 w285 w286 w287 w288 w289 w290 w291 w292 w293 w294 w295 : AV}, At [] s [(p27, .rw 25 3 (fld R C pW T)), (pW, ints W), (pcl, ints cl), (p33, .rw 25 3 (fld R C pB T)), (pB, ints Bs)] [] [] [(295, w295), (294, w294), (293, w293), (292, w292), (291, w291), (290, w290), (289, w289), (288, w288), (287, w287), (286, w286), (285, w285), (284, w284), (283, w283), (282, w282), (281, w281), (280, w280), (279, w279), (278, w278), (277, w277), (276, w276), (275, w275), (272, w272), (271, w271), (270, w270), (269, w269), (268, w268), (5, iv R), (6, iv C), (27, .c (.ptr p27 0)), (28, .c (.sl pcl 0 T)), (29, iv grp), (31, iv a), (33, .c (.ptr p33 0)), (38, iv seen), (39, iv i)] k) :
    At [] s [(p27, .rw 25 3 (fld R C pW T)), (pW, ints W), (pcl, ints cl), (p33, .rw 25 3 (fld R C pB T)), (pB, ints Bs)] [] [] [(272, w272), (271, w271), (270, w270), (269, w269), (268, w268), (5, iv R), (6, iv C), (27, .c (.ptr p27 0)), (28, .c (.sl pcl 0 T)), (29, iv grp), (31, iv a), (33, .c (.ptr p33 0)), (38, iv seen), (39, iv i)] (.thn (hdc (tlc 0 (bodyX (blc3 (tlc 26 (L7).body))))) k) := by
  by_cases q : W.getD i 0 = 0
  · have q2 := f1.2 q
    repeat' (first
 | refine A_go rfl ?_ | refine A_ifT rfl rfl ?_ | refine A_ifF rfl rfl ?_ | refine A_offP rfl rfl ?_ | refine A_offH rfl rfl ?_ | refine A_off0 rfl rfl ?_
 | refine A_add rfl rfl rfl (by omega) ?_ | refine A_sub rfl rfl rfl (by omega) ?_ | refine A_mul rfl rfl rfl (by omega) ?_ | refine A_rem rfl rfl rfl (by omega) ?_ | refine A_remT rfl rfl rfl (by omega) ?_ | refine A_quo rfl rfl rfl (by omega) ?_
 | ((first | refine A_lt rfl rfl rfl ?_ ?_ | refine A_le rfl rfl rfl ?_ ?_ | refine A_gt rfl rfl rfl ?_ ?_ | refine A_ge rfl rfl rfl ?_ ?_ | refine A_eq rfl rfl rfl ?_ ?_ | refine A_ne rfl rfl rfl ?_ ?_ | refine A_beq rfl rfl rfl ?_ ?_) <;> intro hc <;> try first | contradiction | (exfalso; omega) | exact absurd rfl hc)
 | refine A_idxN1 rfl rfl rfl (by omega) ?_ | refine A_idx1 rfl rfl rfl (by omega) ?_ | refine A_idxArr1 rfl rfl rfl (by omega) ?_
 | rw [eT]
 | refine A_fld rfl rfl ?_ | refine A_mk3 rfl rfl rfl rfl ?_ | refine A_mk23 rfl rfl rfl ?_ | refine A_mk2 rfl rfl rfl ?_ | refine A_mk13 rfl rfl ?_ | refine A_p (by rfl) rfl ?_
 | refine A_ldI rfl (by first | omega | (simp; done) | (simp; omega)) rfl ?_ | refine A_ldB rfl (by first | omega | (simp; done) | (simp; omega)) rfl ?_ | refine A_ld rfl (by rfl) rfl ?_ | refine A_ldW rfl (by simp) rfl ?_
 | refine A_st rfl rfl rfl ?_ | refine A_stW rfl rfl (by simp) rfl ?_ | refine A_stE rfl rfl (by first | omega | (simp; done) | (simp; omega)) rfl ?_
 | ((first | refine A_alloc rfl ?_ | refine A_box rfl rfl ?_ | refine A_boxC rfl rfl ?_ | refine A_makeN rfl rfl rfl (by omega) ?_ | refine A_make rfl rfl rfl (by omega) ?_ | refine A_bld1 rfl rfl ?_ | refine A_bld2 rfl rfl rfl ?_ | refine A_bld4 rfl rfl rfl rfl rfl ?_) <;> intro pz hpz)
 | refine A_bld0 rfl ?_ | (refine A_app rfl rfl rfl (by first | omega | (simp; done) | (simp; omega)) (by first | omega | (simp; done) | (simp; omega)) (by omega) ?_; intro pz) | (refine A_appN (enc := ic) rfl (by decide) rfl rfl (by first | omega | (simp; done) | (simp; omega)) (by omega) ?_; intro pz)
 | refine A_chk1 rfl rfl rfl ?_ | refine A_chk2 rfl rfl rfl rfl ?_ | refine A_chk3 rfl rfl rfl rfl rfl ?_ | refine A_chk4 rfl rfl rfl rfl rfl rfl ?_ | refine A_chkI rfl (by assumption) rfl (by simp) ?_
 | refine A_ret1 rfl (by first | exact (RP.t rfl RP.nil) | exact (RP.c rfl inferInstance rfl (by simp) RP.nil)) ?_ | refine A_ret rfl (by first | exact (RP.t rfl (RP.t rfl RP.nil)) | exact (RP.c rfl inferInstance rfl (by simp) (RP.t rfl RP.nil)) | exact (RP.t rfl (RP.t rfl (RP.t rfl RP.nil))) | exact (RP.c rfl inferInstance rfl (by simp) (RP.t rfl (RP.t rfl RP.nil))) | exact (RP.c rfl inferInstance rfl (by simp) (RP.t rfl (RP.t rfl (RP.t rfl (RP.t rfl RP.nil)))))) ?_ | refine A_ret0 rfl ?_)
    all_goals (refine A_skipK ?_; exact hk)
  · have q2 := fun h => q (f1.1 h)
    repeat' (first
 | refine A_go rfl ?_ | refine A_ifT rfl rfl ?_ | refine A_ifF rfl rfl ?_ | refine A_offP rfl rfl ?_ | refine A_offH rfl rfl ?_ | refine A_off0 rfl rfl ?_
 | refine A_add rfl rfl rfl (by omega) ?_ | refine A_sub rfl rfl rfl (by omega) ?_ | refine A_mul rfl rfl rfl (by omega) ?_ | refine A_rem rfl rfl rfl (by omega) ?_ | refine A_remT rfl rfl rfl (by omega) ?_ | refine A_quo rfl rfl rfl (by omega) ?_
 | ((first | refine A_lt rfl rfl rfl ?_ ?_ | refine A_le rfl rfl rfl ?_ ?_ | refine A_gt rfl rfl rfl ?_ ?_ | refine A_ge rfl rfl rfl ?_ ?_ | refine A_eq rfl rfl rfl ?_ ?_ | refine A_ne rfl rfl rfl ?_ ?_ | refine A_beq rfl rfl rfl ?_ ?_) <;> intro hc <;> try first | contradiction | (exfalso; omega) | exact absurd rfl hc)
 | refine A_idxN1 rfl rfl rfl (by omega) ?_ | refine A_idx1 rfl rfl rfl (by omega) ?_ | refine A_idxArr1 rfl rfl rfl (by omega) ?_
 | rw [eT]
 | refine A_fld rfl rfl ?_ | refine A_mk3 rfl rfl rfl rfl ?_ | refine A_mk23 rfl rfl rfl ?_ | refine A_mk2 rfl rfl rfl ?_ | refine A_mk13 rfl rfl ?_ | refine A_p (by rfl) rfl ?_
 | refine A_ldI rfl (by first | omega | (simp; done) | (simp; omega)) rfl ?_ | refine A_ldB rfl (by first | omega | (simp; done) | (simp; omega)) rfl ?_ | refine A_ld rfl (by rfl) rfl ?_ | refine A_ldW rfl (by simp) rfl ?_
 | refine A_st rfl rfl rfl ?_ | refine A_stW rfl rfl (by simp) rfl ?_ | refine A_stE rfl rfl (by first | omega | (simp; done) | (simp; omega)) rfl ?_
 | ((first | refine A_alloc rfl ?_ | refine A_box rfl rfl ?_ | refine A_boxC rfl rfl ?_ | refine A_makeN rfl rfl rfl (by omega) ?_ | refine A_make rfl rfl rfl (by omega) ?_ | refine A_bld1 rfl rfl ?_ | refine A_bld2 rfl rfl rfl ?_ | refine A_bld4 rfl rfl rfl rfl rfl ?_) <;> intro pz hpz)
 | refine A_bld0 rfl ?_ | (refine A_app rfl rfl rfl (by first | omega | (simp; done) | (simp; omega)) (by first | omega | (simp; done) | (simp; omega)) (by omega) ?_; intro pz) | (refine A_appN (enc := ic) rfl (by decide) rfl rfl (by first | omega | (simp; done) | (simp; omega)) (by omega) ?_; intro pz)
 | refine A_chk1 rfl rfl rfl ?_ | refine A_chk2 rfl rfl rfl rfl ?_ | refine A_chk3 rfl rfl rfl rfl rfl ?_ | refine A_chk4 rfl rfl rfl rfl rfl rfl ?_ | refine A_chkI rfl (by assumption) rfl (by simp) ?_
 | refine A_ret1 rfl (by first | exact (RP.t rfl RP.nil) | exact (RP.c rfl inferInstance rfl (by simp) RP.nil)) ?_ | refine A_ret rfl (by first | exact (RP.t rfl (RP.t rfl RP.nil)) | exact (RP.c rfl inferInstance rfl (by simp) (RP.t rfl RP.nil)) | exact (RP.t rfl (RP.t rfl (RP.t rfl RP.nil))) | exact (RP.c rfl inferInstance rfl (by simp) (RP.t rfl (RP.t rfl RP.nil))) | exact (RP.c rfl inferInstance rfl (by simp) (RP.t rfl (RP.t rfl (RP.t rfl (RP.t rfl RP.nil)))))) ?_ | refine A_ret0 rfl ?_)
    all_goals (refine A_skipK ?_; exact hk)

theorem hp_2 {s : St} [Wf s] {R C T a i p27 pW pcl p33 pB : Nat} {grp seen : Int} {W cl Bs : List Int} {w275 w276 w277 w278 w279 w280 w281 w282 w283 w284 w285 w286 w287 w288 w289 w290 w291 w292 w293 w294 w295 w268 w269 w270 w271 w272 : AV} (lW : W.length = T) (lc : cl.length = T) (lB : Bs.length = T) (hi : i < T) (ha : a < T) (hT : T ≤ 25) (eT : (R : Int) * C = T) (hC : 1 ≤ C) (f3 : 0 ≤ seen ∧ seen ≤ 100) {k : KK}
    (hk : ∀ {w296 w297 w298 w299 w300 w301 : AV} {z : Int}, z = max seen (cl.getD i 0) → At [] s [(p27, .rw 25 3 (fld R C pW T)), (pW, ints W), (pcl, ints cl), (p33, .rw 25 3 (fld R C pB T)), (pB, ints Bs)] [] [] [(38, iv z), (301, w301), (300, w300), (299, w299), (298, w298), (297, w297), (296, w296), (295, w295), (294, w294), (293, w293), (292, w292), (291, w291), (290, w290), (289, w289), (288, w288), (287, w287), (286, w286), (285, w285), (284, w284), (283, w283), (282, w282), (281, w281), (280, w280), (279, w279), (278, w278), (277, w277), (276, w276), (275, w275), (272, w272), (271, w271), (270, w270), (269, w269), (268, w268), (5, iv R), (6, iv C), (27, .c (.ptr p27 0)), (28, .c (.sl pcl 0 T)), (29, iv grp), (31, iv a), (33, .c (.ptr p33 0)), (38, iv seen), (39, iv i)] k) :
    At [] s [(p27, .rw 25 3 (fld R C pW T)), (pW, ints W), (pcl, ints cl), (p33, .rw 25 3 (fld R C pB T)), (pB, ints Bs)] [] [] [(295, w295), (294, w294), (293, w293), (292, w292), (291, w291), (290, w290), (289, w289), (288, w288), (287, w287), (286, w286), (285, w285), (284, w284), (283, w283), (282, w282), (281, w281), (280, w280), (279, w279), (278, w278), (277, w277), (276, w276), (275, w275), (272, w272), (271, w271), (270, w270), (269, w269), (268, w268), (5, iv R), (6, iv C), (27, .c (.ptr p27 0)), (28, .c (.sl pcl 0 T)), (29, iv grp), (31, iv a), (33, .c (.ptr p33 0)), (38, iv seen), (39, iv i)] (.thn (hdc (tlc 1 (bodyX (blc3 (tlc 26 (L7).body))))) k) := by
  repeat' (first
 | refine A_go rfl ?_ | refine A_ifT rfl rfl ?_ | refine A_ifF rfl rfl ?_ | refine A_offP rfl rfl ?_ | refine A_offH rfl rfl ?_ | refine A_off0 rfl rfl ?_
 | refine A_add rfl rfl rfl (by omega) ?_ | refine A_sub rfl rfl rfl (by omega) ?_ | refine A_mul rfl rfl rfl (by omega) ?_ | refine A_rem rfl rfl rfl (by omega) ?_ | refine A_remT rfl rfl rfl (by omega) ?_ | refine A_quo rfl rfl rfl (by omega) ?_
 | ((first | refine A_lt rfl rfl rfl ?_ ?_ | refine A_le rfl rfl rfl ?_ ?_ | refine A_gt rfl rfl rfl ?_ ?_ | refine A_ge rfl rfl rfl ?_ ?_ | refine A_eq rfl rfl rfl ?_ ?_ | refine A_ne rfl rfl rfl ?_ ?_ | refine A_beq rfl rfl rfl ?_ ?_) <;> intro hc <;> try first | contradiction | (exfalso; omega) | exact absurd rfl hc)
 | refine A_idxN1 rfl rfl rfl (by omega) ?_ | refine A_idx1 rfl rfl rfl (by omega) ?_ | refine A_idxArr1 rfl rfl rfl (by omega) ?_
 | rw [eT]
 | refine A_fld rfl rfl ?_ | refine A_mk3 rfl rfl rfl rfl ?_ | refine A_mk23 rfl rfl rfl ?_ | refine A_mk2 rfl rfl rfl ?_ | refine A_mk13 rfl rfl ?_ | refine A_p (by rfl) rfl ?_
 | refine A_ldI rfl (by first | omega | (simp; done) | (simp; omega)) rfl ?_ | refine A_ldB rfl (by first | omega | (simp; done) | (simp; omega)) rfl ?_ | refine A_ld rfl (by rfl) rfl ?_ | refine A_ldW rfl (by simp) rfl ?_
 | refine A_st rfl rfl rfl ?_ | refine A_stW rfl rfl (by simp) rfl ?_ | refine A_stE rfl rfl (by first | omega | (simp; done) | (simp; omega)) rfl ?_
 | ((first | refine A_alloc rfl ?_ | refine A_box rfl rfl ?_ | refine A_boxC rfl rfl ?_ | refine A_makeN rfl rfl rfl (by omega) ?_ | refine A_make rfl rfl rfl (by omega) ?_ | refine A_bld1 rfl rfl ?_ | refine A_bld2 rfl rfl rfl ?_ | refine A_bld4 rfl rfl rfl rfl rfl ?_) <;> intro pz hpz)
 | refine A_bld0 rfl ?_ | (refine A_app rfl rfl rfl (by first | omega | (simp; done) | (simp; omega)) (by first | omega | (simp; done) | (simp; omega)) (by omega) ?_; intro pz) | (refine A_appN (enc := ic) rfl (by decide) rfl rfl (by first | omega | (simp; done) | (simp; omega)) (by omega) ?_; intro pz)
 | refine A_chk1 rfl rfl rfl ?_ | refine A_chk2 rfl rfl rfl rfl ?_ | refine A_chk3 rfl rfl rfl rfl rfl ?_ | refine A_chk4 rfl rfl rfl rfl rfl rfl ?_ | refine A_chkI rfl (by assumption) rfl (by simp) ?_
 | refine A_ret1 rfl (by first | exact (RP.t rfl RP.nil) | exact (RP.c rfl inferInstance rfl (by simp) RP.nil)) ?_ | refine A_ret rfl (by first | exact (RP.t rfl (RP.t rfl RP.nil)) | exact (RP.c rfl inferInstance rfl (by simp) (RP.t rfl RP.nil)) | exact (RP.t rfl (RP.t rfl (RP.t rfl RP.nil))) | exact (RP.c rfl inferInstance rfl (by simp) (RP.t rfl (RP.t rfl RP.nil))) | exact (RP.c rfl inferInstance rfl (by simp) (RP.t rfl (RP.t rfl (RP.t rfl (RP.t rfl RP.nil)))))) ?_ | refine A_ret0 rfl ?_)
  all_goals exact hk (by first | omega | (split <;> omega) | (simp only [if_true]; split <;> omega))

theorem hp_3 {s : St} [Wf s] {R C T a i p27 pW pcl p33 pB : Nat} {grp seen : Int} {W cl Bs : List Int} {w296b w297b w298b w299b w300b w301b w275 w276 w277 w278 w279 w280 w281 w282 w283 w284 w285 w286 w287 w288 w289 w290 w291 w292 w293 w294 w295 w268 w269 w270 w271 w272 : AV} (lW : W.length = T) (lc : cl.length = T) (lB : Bs.length = T) (hi : i < T) (ha : a < T) (hT : T ≤ 25) (eT : (R : Int) * C = T) (hC : 1 ≤ C) {z2 : Int} (f1 : 0 < (i : Int) % C → 1 ≤ i) (f2 : 0 < (i : Int) % C → W.getD i 0 = 1 → W.getD ((i : Int) - 1).toNat 0 = 1 → cl.getD i 0 = cl.getD ((i : Int) - 1).toNat 0) (f3 : (C : Int) ≤ i → W.getD i 0 = 1 → W.getD ((i : Int) - C).toNat 0 = 1 → cl.getD i 0 = cl.getD ((i : Int) - C).toNat 0) {k : KK}
    (hk : ∀ {w302 w303 w304 w305 w306 w307 w308 w309 w310 w311 w312 w313 w314 w315 w316 w317 w318 w319 w320 w321 w322 w323 w324 w325 w326 w327 w328 w329 w330 w331 w332 w333 w334 w335 w336 w337 w338 w339 w340 w341 w342 w343 w344 w345 w346 w347 w348 w349 w350 w351 w352 w353 w354 w355 w356 w357 w358 w359 w360 w361 w362 w363 w364 w365 w366 w367 w368 w369 w370 : AV}, At [] s [(p27, .rw 25 3 (fld R C pW T)), (pW, ints W), (pcl, ints cl), (p33, .rw 25 3 (fld R C pB T)), (pB, ints Bs)] [] [] [(370, w370), (369, w369), (368, w368), (367, w367), (366, w366), (365, w365), (364, w364), (363, w363), (362, w362), (361, w361), (360, w360), (359, w359), (358, w358), (357, w357), (356, w356), (355, w355), (354, w354), (353, w353), (352, w352), (351, w351), (350, w350), (349, w349), (348, w348), (347, w347), (346, w346), (345, w345), (344, w344), (343, w343), (342, w342), (341, w341), (340, w340), (339, w339), (338, w338), (337, w337), (336, w336), (335, w335), (334, w334), (333, w333), (332, w332), (331, w331), (330, w330), (329, w329), (328, w328), (327, w327), (326, w326), (325, w325), (324, w324), (323, w323), (322, w322), (321, w321), (320, w320), (319, w319), (318, w318), (317, w317), (316, w316), (315, w315), (314, w314), (313, w313), (312, w312), (311, w311), (310, w310), (309, w309), (308, w308), (307, w307), (306, w306), (305, w305), (304, w304), (303, w303), (302, w302), (38, iv z2), (301, w301b), (300, w300b), (299, w299b), (298, w298b), (297, w297b), (296, w296b), (295, w295), (294, w294), (293, w293), (292, w292), (291, w291), (290, w290), (289, w289), (288, w288), (287, w287), (286, w286), (285, w285), (284, w284), (283, w283), (282, w282), (281, w281), (280, w280), (279, w279), (278, w278), (277, w277), (276, w276), (275, w275), (272, w272), (271, w271), (270, w270), (269, w269), (268, w268), (5, iv R), (6, iv C), (27, .c (.ptr p27 0)), (28, .c (.sl pcl 0 T)), (29, iv grp), (31, iv a), (33, .c (.ptr p33 0)), (38, iv seen), (39, iv i)] k) :
    At [] s [(p27, .rw 25 3 (fld R C pW T)), (pW, ints W), (pcl, ints cl), (p33, .rw 25 3 (fld R C pB T)), (pB, ints Bs)] [] [] [(38, iv z2), (301, w301b), (300, w300b), (299, w299b), (298, w298b), (297, w297b), (296, w296b), (295, w295), (294, w294), (293, w293), (292, w292), (291, w291), (290, w290), (289, w289), (288, w288), (287, w287), (286, w286), (285, w285), (284, w284), (283, w283), (282, w282), (281, w281), (280, w280), (279, w279), (278, w278), (277, w277), (276, w276), (275, w275), (272, w272), (271, w271), (270, w270), (269, w269), (268, w268), (5, iv R), (6, iv C), (27, .c (.ptr p27 0)), (28, .c (.sl pcl 0 T)), (29, iv grp), (31, iv a), (33, .c (.ptr p33 0)), (38, iv seen), (39, iv i)] (.thn (hdc (tlc 2 (bodyX (blc3 (tlc 26 (L7).body))))) k) := by
  by_cases q1 : W.getD i 0 = 1
  · by_cases q2 : 0 < (i : Int) % C ∧ W.getD ((i : Int) - 1).toNat 0 = 1
    · have g1 := f1 q2.1
      have g2 := f2 q2.1 q1 q2.2
      have g3 := q2.1
      have g4 := q2.2
      by_cases q3 : (C : Int) ≤ i ∧ W.getD ((i : Int) - C).toNat 0 = 1
      · have g5 := f3 q3.1 q1 q3.2
        have g6 := q3.1
        have g7 := q3.2
        repeat' (first
 | refine A_go rfl ?_ | refine A_ifT rfl rfl ?_ | refine A_ifF rfl rfl ?_ | refine A_offP rfl rfl ?_ | refine A_offH rfl rfl ?_ | refine A_off0 rfl rfl ?_
 | refine A_add rfl rfl rfl (by omega) ?_ | refine A_sub rfl rfl rfl (by omega) ?_ | refine A_mul rfl rfl rfl (by omega) ?_ | refine A_rem rfl rfl rfl (by omega) ?_ | refine A_remT rfl rfl rfl (by omega) ?_ | refine A_quo rfl rfl rfl (by omega) ?_
 | ((first | refine A_lt rfl rfl rfl ?_ ?_ | refine A_le rfl rfl rfl ?_ ?_ | refine A_gt rfl rfl rfl ?_ ?_ | refine A_ge rfl rfl rfl ?_ ?_ | refine A_eq rfl rfl rfl ?_ ?_ | refine A_ne rfl rfl rfl ?_ ?_ | refine A_beq rfl rfl rfl ?_ ?_) <;> intro hc <;> try first | contradiction | (exfalso; omega) | exact absurd rfl hc)
 | refine A_idxN1 rfl rfl rfl (by omega) ?_ | refine A_idx1 rfl rfl rfl (by omega) ?_ | refine A_idxArr1 rfl rfl rfl (by omega) ?_
 | rw [eT]
 | refine A_fld rfl rfl ?_ | refine A_mk3 rfl rfl rfl rfl ?_ | refine A_mk23 rfl rfl rfl ?_ | refine A_mk2 rfl rfl rfl ?_ | refine A_mk13 rfl rfl ?_ | refine A_p (by rfl) rfl ?_
 | refine A_ldI rfl (by first | omega | (simp; done) | (simp; omega)) rfl ?_ | refine A_ldB rfl (by first | omega | (simp; done) | (simp; omega)) rfl ?_ | refine A_ld rfl (by rfl) rfl ?_ | refine A_ldW rfl (by simp) rfl ?_
 | refine A_st rfl rfl rfl ?_ | refine A_stW rfl rfl (by simp) rfl ?_ | refine A_stE rfl rfl (by first | omega | (simp; done) | (simp; omega)) rfl ?_
 | ((first | refine A_alloc rfl ?_ | refine A_box rfl rfl ?_ | refine A_boxC rfl rfl ?_ | refine A_makeN rfl rfl rfl (by omega) ?_ | refine A_make rfl rfl rfl (by omega) ?_ | refine A_bld1 rfl rfl ?_ | refine A_bld2 rfl rfl rfl ?_ | refine A_bld4 rfl rfl rfl rfl rfl ?_) <;> intro pz hpz)
 | refine A_bld0 rfl ?_ | (refine A_app rfl rfl rfl (by first | omega | (simp; done) | (simp; omega)) (by first | omega | (simp; done) | (simp; omega)) (by omega) ?_; intro pz) | (refine A_appN (enc := ic) rfl (by decide) rfl rfl (by first | omega | (simp; done) | (simp; omega)) (by omega) ?_; intro pz)
 | refine A_chk1 rfl rfl rfl ?_ | refine A_chk2 rfl rfl rfl rfl ?_ | refine A_chk3 rfl rfl rfl rfl rfl ?_ | refine A_chk4 rfl rfl rfl rfl rfl rfl ?_ | refine A_chkI rfl (by assumption) rfl (by simp) ?_
 | refine A_ret1 rfl (by first | exact (RP.t rfl RP.nil) | exact (RP.c rfl inferInstance rfl (by simp) RP.nil)) ?_ | refine A_ret rfl (by first | exact (RP.t rfl (RP.t rfl RP.nil)) | exact (RP.c rfl inferInstance rfl (by simp) (RP.t rfl RP.nil)) | exact (RP.t rfl (RP.t rfl (RP.t rfl RP.nil))) | exact (RP.c rfl inferInstance rfl (by simp) (RP.t rfl (RP.t rfl RP.nil))) | exact (RP.c rfl inferInstance rfl (by simp) (RP.t rfl (RP.t rfl (RP.t rfl (RP.t rfl RP.nil)))))) ?_ | refine A_ret0 rfl ?_)
        all_goals (refine A_skipK ?_; exact hk)
      · repeat' (first
 | refine A_go rfl ?_ | refine A_ifT rfl rfl ?_ | refine A_ifF rfl rfl ?_ | refine A_offP rfl rfl ?_ | refine A_offH rfl rfl ?_ | refine A_off0 rfl rfl ?_
 | refine A_add rfl rfl rfl (by omega) ?_ | refine A_sub rfl rfl rfl (by omega) ?_ | refine A_mul rfl rfl rfl (by omega) ?_ | refine A_rem rfl rfl rfl (by omega) ?_ | refine A_remT rfl rfl rfl (by omega) ?_ | refine A_quo rfl rfl rfl (by omega) ?_
 | ((first | refine A_lt rfl rfl rfl ?_ ?_ | refine A_le rfl rfl rfl ?_ ?_ | refine A_gt rfl rfl rfl ?_ ?_ | refine A_ge rfl rfl rfl ?_ ?_ | refine A_eq rfl rfl rfl ?_ ?_ | refine A_ne rfl rfl rfl ?_ ?_ | refine A_beq rfl rfl rfl ?_ ?_) <;> intro hc <;> try first | contradiction | (exfalso; omega) | exact absurd rfl hc)
 | refine A_idxN1 rfl rfl rfl (by omega) ?_ | refine A_idx1 rfl rfl rfl (by omega) ?_ | refine A_idxArr1 rfl rfl rfl (by omega) ?_
 | rw [eT]
 | refine A_fld rfl rfl ?_ | refine A_mk3 rfl rfl rfl rfl ?_ | refine A_mk23 rfl rfl rfl ?_ | refine A_mk2 rfl rfl rfl ?_ | refine A_mk13 rfl rfl ?_ | refine A_p (by rfl) rfl ?_
 | refine A_ldI rfl (by first | omega | (simp; done) | (simp; omega)) rfl ?_ | refine A_ldB rfl (by first | omega | (simp; done) | (simp; omega)) rfl ?_ | refine A_ld rfl (by rfl) rfl ?_ | refine A_ldW rfl (by simp) rfl ?_
 | refine A_st rfl rfl rfl ?_ | refine A_stW rfl rfl (by simp) rfl ?_ | refine A_stE rfl rfl (by first | omega | (simp; done) | (simp; omega)) rfl ?_
 | ((first | refine A_alloc rfl ?_ | refine A_box rfl rfl ?_ | refine A_boxC rfl rfl ?_ | refine A_makeN rfl rfl rfl (by omega) ?_ | refine A_make rfl rfl rfl (by omega) ?_ | refine A_bld1 rfl rfl ?_ | refine A_bld2 rfl rfl rfl ?_ | refine A_bld4 rfl rfl rfl rfl rfl ?_) <;> intro pz hpz)
 | refine A_bld0 rfl ?_ | (refine A_app rfl rfl rfl (by first | omega | (simp; done) | (simp; omega)) (by first | omega | (simp; done) | (simp; omega)) (by omega) ?_; intro pz) | (refine A_appN (enc := ic) rfl (by decide) rfl rfl (by first | omega | (simp; done) | (simp; omega)) (by omega) ?_; intro pz)
 | refine A_chk1 rfl rfl rfl ?_ | refine A_chk2 rfl rfl rfl rfl ?_ | refine A_chk3 rfl rfl rfl rfl rfl ?_ | refine A_chk4 rfl rfl rfl rfl rfl rfl ?_ | refine A_chkI rfl (by assumption) rfl (by simp) ?_
 | refine A_ret1 rfl (by first | exact (RP.t rfl RP.nil) | exact (RP.c rfl inferInstance rfl (by simp) RP.nil)) ?_ | refine A_ret rfl (by first | exact (RP.t rfl (RP.t rfl RP.nil)) | exact (RP.c rfl inferInstance rfl (by simp) (RP.t rfl RP.nil)) | exact (RP.t rfl (RP.t rfl (RP.t rfl RP.nil))) | exact (RP.c rfl inferInstance rfl (by simp) (RP.t rfl (RP.t rfl RP.nil))) | exact (RP.c rfl inferInstance rfl (by simp) (RP.t rfl (RP.t rfl (RP.t rfl (RP.t rfl RP.nil)))))) ?_ | refine A_ret0 rfl ?_)
        all_goals first | (refine A_skipK ?_; exact hk) | exact absurd ⟨by assumption, by assumption⟩ q3
    · by_cases q3 : (C : Int) ≤ i ∧ W.getD ((i : Int) - C).toNat 0 = 1
      · have g5 := f3 q3.1 q1 q3.2
        have g6 := q3.1
        have g7 := q3.2
        by_cases q4 : 0 < (i : Int) % C
        · have g1 := f1 q4
          repeat' (first
 | refine A_go rfl ?_ | refine A_ifT rfl rfl ?_ | refine A_ifF rfl rfl ?_ | refine A_offP rfl rfl ?_ | refine A_offH rfl rfl ?_ | refine A_off0 rfl rfl ?_
 | refine A_add rfl rfl rfl (by omega) ?_ | refine A_sub rfl rfl rfl (by omega) ?_ | refine A_mul rfl rfl rfl (by omega) ?_ | refine A_rem rfl rfl rfl (by omega) ?_ | refine A_remT rfl rfl rfl (by omega) ?_ | refine A_quo rfl rfl rfl (by omega) ?_
 | ((first | refine A_lt rfl rfl rfl ?_ ?_ | refine A_le rfl rfl rfl ?_ ?_ | refine A_gt rfl rfl rfl ?_ ?_ | refine A_ge rfl rfl rfl ?_ ?_ | refine A_eq rfl rfl rfl ?_ ?_ | refine A_ne rfl rfl rfl ?_ ?_ | refine A_beq rfl rfl rfl ?_ ?_) <;> intro hc <;> try first | contradiction | (exfalso; omega) | exact absurd rfl hc)
 | refine A_idxN1 rfl rfl rfl (by omega) ?_ | refine A_idx1 rfl rfl rfl (by omega) ?_ | refine A_idxArr1 rfl rfl rfl (by omega) ?_
 | rw [eT]
 | refine A_fld rfl rfl ?_ | refine A_mk3 rfl rfl rfl rfl ?_ | refine A_mk23 rfl rfl rfl ?_ | refine A_mk2 rfl rfl rfl ?_ | refine A_mk13 rfl rfl ?_ | refine A_p (by rfl) rfl ?_
 | refine A_ldI rfl (by first | omega | (simp; done) | (simp; omega)) rfl ?_ | refine A_ldB rfl (by first | omega | (simp; done) | (simp; omega)) rfl ?_ | refine A_ld rfl (by rfl) rfl ?_ | refine A_ldW rfl (by simp) rfl ?_
 | refine A_st rfl rfl rfl ?_ | refine A_stW rfl rfl (by simp) rfl ?_ | refine A_stE rfl rfl (by first | omega | (simp; done) | (simp; omega)) rfl ?_
 | ((first | refine A_alloc rfl ?_ | refine A_box rfl rfl ?_ | refine A_boxC rfl rfl ?_ | refine A_makeN rfl rfl rfl (by omega) ?_ | refine A_make rfl rfl rfl (by omega) ?_ | refine A_bld1 rfl rfl ?_ | refine A_bld2 rfl rfl rfl ?_ | refine A_bld4 rfl rfl rfl rfl rfl ?_) <;> intro pz hpz)
 | refine A_bld0 rfl ?_ | (refine A_app rfl rfl rfl (by first | omega | (simp; done) | (simp; omega)) (by first | omega | (simp; done) | (simp; omega)) (by omega) ?_; intro pz) | (refine A_appN (enc := ic) rfl (by decide) rfl rfl (by first | omega | (simp; done) | (simp; omega)) (by omega) ?_; intro pz)
 | refine A_chk1 rfl rfl rfl ?_ | refine A_chk2 rfl rfl rfl rfl ?_ | refine A_chk3 rfl rfl rfl rfl rfl ?_ | refine A_chk4 rfl rfl rfl rfl rfl rfl ?_ | refine A_chkI rfl (by assumption) rfl (by simp) ?_
 | refine A_ret1 rfl (by first | exact (RP.t rfl RP.nil) | exact (RP.c rfl inferInstance rfl (by simp) RP.nil)) ?_ | refine A_ret rfl (by first | exact (RP.t rfl (RP.t rfl RP.nil)) | exact (RP.c rfl inferInstance rfl (by simp) (RP.t rfl RP.nil)) | exact (RP.t rfl (RP.t rfl (RP.t rfl RP.nil))) | exact (RP.c rfl inferInstance rfl (by simp) (RP.t rfl (RP.t rfl RP.nil))) | exact (RP.c rfl inferInstance rfl (by simp) (RP.t rfl (RP.t rfl (RP.t rfl (RP.t rfl RP.nil)))))) ?_ | refine A_ret0 rfl ?_)
          all_goals first | (refine A_skipK ?_; exact hk) | exact absurd ⟨by assumption, by assumption⟩ q2
        · repeat' (first
 | refine A_go rfl ?_ | refine A_ifT rfl rfl ?_ | refine A_ifF rfl rfl ?_ | refine A_offP rfl rfl ?_ | refine A_offH rfl rfl ?_ | refine A_off0 rfl rfl ?_
 | refine A_add rfl rfl rfl (by omega) ?_ | refine A_sub rfl rfl rfl (by omega) ?_ | refine A_mul rfl rfl rfl (by omega) ?_ | refine A_rem rfl rfl rfl (by omega) ?_ | refine A_remT rfl rfl rfl (by omega) ?_ | refine A_quo rfl rfl rfl (by omega) ?_
 | ((first | refine A_lt rfl rfl rfl ?_ ?_ | refine A_le rfl rfl rfl ?_ ?_ | refine A_gt rfl rfl rfl ?_ ?_ | refine A_ge rfl rfl rfl ?_ ?_ | refine A_eq rfl rfl rfl ?_ ?_ | refine A_ne rfl rfl rfl ?_ ?_ | refine A_beq rfl rfl rfl ?_ ?_) <;> intro hc <;> try first | contradiction | (exfalso; omega) | exact absurd rfl hc)
 | refine A_idxN1 rfl rfl rfl (by omega) ?_ | refine A_idx1 rfl rfl rfl (by omega) ?_ | refine A_idxArr1 rfl rfl rfl (by omega) ?_
 | rw [eT]
 | refine A_fld rfl rfl ?_ | refine A_mk3 rfl rfl rfl rfl ?_ | refine A_mk23 rfl rfl rfl ?_ | refine A_mk2 rfl rfl rfl ?_ | refine A_mk13 rfl rfl ?_ | refine A_p (by rfl) rfl ?_
 | refine A_ldI rfl (by first | omega | (simp; done) | (simp; omega)) rfl ?_ | refine A_ldB rfl (by first | omega | (simp; done) | (simp; omega)) rfl ?_ | refine A_ld rfl (by rfl) rfl ?_ | refine A_ldW rfl (by simp) rfl ?_
 | refine A_st rfl rfl rfl ?_ | refine A_stW rfl rfl (by simp) rfl ?_ | refine A_stE rfl rfl (by first | omega | (simp; done) | (simp; omega)) rfl ?_
 | ((first | refine A_alloc rfl ?_ | refine A_box rfl rfl ?_ | refine A_boxC rfl rfl ?_ | refine A_makeN rfl rfl rfl (by omega) ?_ | refine A_make rfl rfl rfl (by omega) ?_ | refine A_bld1 rfl rfl ?_ | refine A_bld2 rfl rfl rfl ?_ | refine A_bld4 rfl rfl rfl rfl rfl ?_) <;> intro pz hpz)
 | refine A_bld0 rfl ?_ | (refine A_app rfl rfl rfl (by first | omega | (simp; done) | (simp; omega)) (by first | omega | (simp; done) | (simp; omega)) (by omega) ?_; intro pz) | (refine A_appN (enc := ic) rfl (by decide) rfl rfl (by first | omega | (simp; done) | (simp; omega)) (by omega) ?_; intro pz)
 | refine A_chk1 rfl rfl rfl ?_ | refine A_chk2 rfl rfl rfl rfl ?_ | refine A_chk3 rfl rfl rfl rfl rfl ?_ | refine A_chk4 rfl rfl rfl rfl rfl rfl ?_ | refine A_chkI rfl (by assumption) rfl (by simp) ?_
 | refine A_ret1 rfl (by first | exact (RP.t rfl RP.nil) | exact (RP.c rfl inferInstance rfl (by simp) RP.nil)) ?_ | refine A_ret rfl (by first | exact (RP.t rfl (RP.t rfl RP.nil)) | exact (RP.c rfl inferInstance rfl (by simp) (RP.t rfl RP.nil)) | exact (RP.t rfl (RP.t rfl (RP.t rfl RP.nil))) | exact (RP.c rfl inferInstance rfl (by simp) (RP.t rfl (RP.t rfl RP.nil))) | exact (RP.c rfl inferInstance rfl (by simp) (RP.t rfl (RP.t rfl (RP.t rfl (RP.t rfl RP.nil)))))) ?_ | refine A_ret0 rfl ?_)
          all_goals first | (refine A_skipK ?_; exact hk) | exact absurd ⟨by assumption, by assumption⟩ q2
      · by_cases q4 : 0 < (i : Int) % C
        · have g1 := f1 q4
          repeat' (first
 | refine A_go rfl ?_ | refine A_ifT rfl rfl ?_ | refine A_ifF rfl rfl ?_ | refine A_offP rfl rfl ?_ | refine A_offH rfl rfl ?_ | refine A_off0 rfl rfl ?_
 | refine A_add rfl rfl rfl (by omega) ?_ | refine A_sub rfl rfl rfl (by omega) ?_ | refine A_mul rfl rfl rfl (by omega) ?_ | refine A_rem rfl rfl rfl (by omega) ?_ | refine A_remT rfl rfl rfl (by omega) ?_ | refine A_quo rfl rfl rfl (by omega) ?_
 | ((first | refine A_lt rfl rfl rfl ?_ ?_ | refine A_le rfl rfl rfl ?_ ?_ | refine A_gt rfl rfl rfl ?_ ?_ | refine A_ge rfl rfl rfl ?_ ?_ | refine A_eq rfl rfl rfl ?_ ?_ | refine A_ne rfl rfl rfl ?_ ?_ | refine A_beq rfl rfl rfl ?_ ?_) <;> intro hc <;> try first | contradiction | (exfalso; omega) | exact absurd rfl hc)
 | refine A_idxN1 rfl rfl rfl (by omega) ?_ | refine A_idx1 rfl rfl rfl (by omega) ?_ | refine A_idxArr1 rfl rfl rfl (by omega) ?_
 | rw [eT]
 | refine A_fld rfl rfl ?_ | refine A_mk3 rfl rfl rfl rfl ?_ | refine A_mk23 rfl rfl rfl ?_ | refine A_mk2 rfl rfl rfl ?_ | refine A_mk13 rfl rfl ?_ | refine A_p (by rfl) rfl ?_
 | refine A_ldI rfl (by first | omega | (simp; done) | (simp; omega)) rfl ?_ | refine A_ldB rfl (by first | omega | (simp; done) | (simp; omega)) rfl ?_ | refine A_ld rfl (by rfl) rfl ?_ | refine A_ldW rfl (by simp) rfl ?_
 | refine A_st rfl rfl rfl ?_ | refine A_stW rfl rfl (by simp) rfl ?_ | refine A_stE rfl rfl (by first | omega | (simp; done) | (simp; omega)) rfl ?_
 | ((first | refine A_alloc rfl ?_ | refine A_box rfl rfl ?_ | refine A_boxC rfl rfl ?_ | refine A_makeN rfl rfl rfl (by omega) ?_ | refine A_make rfl rfl rfl (by omega) ?_ | refine A_bld1 rfl rfl ?_ | refine A_bld2 rfl rfl rfl ?_ | refine A_bld4 rfl rfl rfl rfl rfl ?_) <;> intro pz hpz)
 | refine A_bld0 rfl ?_ | (refine A_app rfl rfl rfl (by first | omega | (simp; done) | (simp; omega)) (by first | omega | (simp; done) | (simp; omega)) (by omega) ?_; intro pz) | (refine A_appN (enc := ic) rfl (by decide) rfl rfl (by first | omega | (simp; done) | (simp; omega)) (by omega) ?_; intro pz)
 | refine A_chk1 rfl rfl rfl ?_ | refine A_chk2 rfl rfl rfl rfl ?_ | refine A_chk3 rfl rfl rfl rfl rfl ?_ | refine A_chk4 rfl rfl rfl rfl rfl rfl ?_ | refine A_chkI rfl (by assumption) rfl (by simp) ?_
 | refine A_ret1 rfl (by first | exact (RP.t rfl RP.nil) | exact (RP.c rfl inferInstance rfl (by simp) RP.nil)) ?_ | refine A_ret rfl (by first | exact (RP.t rfl (RP.t rfl RP.nil)) | exact (RP.c rfl inferInstance rfl (by simp) (RP.t rfl RP.nil)) | exact (RP.t rfl (RP.t rfl (RP.t rfl RP.nil))) | exact (RP.c rfl inferInstance rfl (by simp) (RP.t rfl (RP.t rfl RP.nil))) | exact (RP.c rfl inferInstance rfl (by simp) (RP.t rfl (RP.t rfl (RP.t rfl (RP.t rfl RP.nil)))))) ?_ | refine A_ret0 rfl ?_)
          all_goals first | (refine A_skipK ?_; exact hk) | exact absurd ⟨by assumption, by assumption⟩ q2 | exact absurd ⟨by assumption, by assumption⟩ q3
        · repeat' (first
 | refine A_go rfl ?_ | refine A_ifT rfl rfl ?_ | refine A_ifF rfl rfl ?_ | refine A_offP rfl rfl ?_ | refine A_offH rfl rfl ?_ | refine A_off0 rfl rfl ?_
 | refine A_add rfl rfl rfl (by omega) ?_ | refine A_sub rfl rfl rfl (by omega) ?_ | refine A_mul rfl rfl rfl (by omega) ?_ | refine A_rem rfl rfl rfl (by omega) ?_ | refine A_remT rfl rfl rfl (by omega) ?_ | refine A_quo rfl rfl rfl (by omega) ?_
 | ((first | refine A_lt rfl rfl rfl ?_ ?_ | refine A_le rfl rfl rfl ?_ ?_ | refine A_gt rfl rfl rfl ?_ ?_ | refine A_ge rfl rfl rfl ?_ ?_ | refine A_eq rfl rfl rfl ?_ ?_ | refine A_ne rfl rfl rfl ?_ ?_ | refine A_beq rfl rfl rfl ?_ ?_) <;> intro hc <;> try first | contradiction | (exfalso; omega) | exact absurd rfl hc)
 | refine A_idxN1 rfl rfl rfl (by omega) ?_ | refine A_idx1 rfl rfl rfl (by omega) ?_ | refine A_idxArr1 rfl rfl rfl (by omega) ?_
 | rw [eT]
 | refine A_fld rfl rfl ?_ | refine A_mk3 rfl rfl rfl rfl ?_ | refine A_mk23 rfl rfl rfl ?_ | refine A_mk2 rfl rfl rfl ?_ | refine A_mk13 rfl rfl ?_ | refine A_p (by rfl) rfl ?_
 | refine A_ldI rfl (by first | omega | (simp; done) | (simp; omega)) rfl ?_ | refine A_ldB rfl (by first | omega | (simp; done) | (simp; omega)) rfl ?_ | refine A_ld rfl (by rfl) rfl ?_ | refine A_ldW rfl (by simp) rfl ?_
 | refine A_st rfl rfl rfl ?_ | refine A_stW rfl rfl (by simp) rfl ?_ | refine A_stE rfl rfl (by first | omega | (simp; done) | (simp; omega)) rfl ?_
 | ((first | refine A_alloc rfl ?_ | refine A_box rfl rfl ?_ | refine A_boxC rfl rfl ?_ | refine A_makeN rfl rfl rfl (by omega) ?_ | refine A_make rfl rfl rfl (by omega) ?_ | refine A_bld1 rfl rfl ?_ | refine A_bld2 rfl rfl rfl ?_ | refine A_bld4 rfl rfl rfl rfl rfl ?_) <;> intro pz hpz)
 | refine A_bld0 rfl ?_ | (refine A_app rfl rfl rfl (by first | omega | (simp; done) | (simp; omega)) (by first | omega | (simp; done) | (simp; omega)) (by omega) ?_; intro pz) | (refine A_appN (enc := ic) rfl (by decide) rfl rfl (by first | omega | (simp; done) | (simp; omega)) (by omega) ?_; intro pz)
 | refine A_chk1 rfl rfl rfl ?_ | refine A_chk2 rfl rfl rfl rfl ?_ | refine A_chk3 rfl rfl rfl rfl rfl ?_ | refine A_chk4 rfl rfl rfl rfl rfl rfl ?_ | refine A_chkI rfl (by assumption) rfl (by simp) ?_
 | refine A_ret1 rfl (by first | exact (RP.t rfl RP.nil) | exact (RP.c rfl inferInstance rfl (by simp) RP.nil)) ?_ | refine A_ret rfl (by first | exact (RP.t rfl (RP.t rfl RP.nil)) | exact (RP.c rfl inferInstance rfl (by simp) (RP.t rfl RP.nil)) | exact (RP.t rfl (RP.t rfl (RP.t rfl RP.nil))) | exact (RP.c rfl inferInstance rfl (by simp) (RP.t rfl (RP.t rfl RP.nil))) | exact (RP.c rfl inferInstance rfl (by simp) (RP.t rfl (RP.t rfl (RP.t rfl (RP.t rfl RP.nil)))))) ?_ | refine A_ret0 rfl ?_)
          all_goals first | (refine A_skipK ?_; exact hk) | exact absurd ⟨by assumption, by assumption⟩ q2 | exact absurd ⟨by assumption, by assumption⟩ q3
  · by_cases q4 : 0 < (i : Int) % C
    · have g1 := f1 q4
      repeat' (first
 | refine A_go rfl ?_ | refine A_ifT rfl rfl ?_ | refine A_ifF rfl rfl ?_ | refine A_offP rfl rfl ?_ | refine A_offH rfl rfl ?_ | refine A_off0 rfl rfl ?_
 | refine A_add rfl rfl rfl (by omega) ?_ | refine A_sub rfl rfl rfl (by omega) ?_ | refine A_mul rfl rfl rfl (by omega) ?_ | refine A_rem rfl rfl rfl (by omega) ?_ | refine A_remT rfl rfl rfl (by omega) ?_ | refine A_quo rfl rfl rfl (by omega) ?_
 | ((first | refine A_lt rfl rfl rfl ?_ ?_ | refine A_le rfl rfl rfl ?_ ?_ | refine A_gt rfl rfl rfl ?_ ?_ | refine A_ge rfl rfl rfl ?_ ?_ | refine A_eq rfl rfl rfl ?_ ?_ | refine A_ne rfl rfl rfl ?_ ?_ | refine A_beq rfl rfl rfl ?_ ?_) <;> intro hc <;> try first | contradiction | (exfalso; omega) | exact absurd rfl hc)
 | refine A_idxN1 rfl rfl rfl (by omega) ?_ | refine A_idx1 rfl rfl rfl (by omega) ?_ | refine A_idxArr1 rfl rfl rfl (by omega) ?_
 | rw [eT]
 | refine A_fld rfl rfl ?_ | refine A_mk3 rfl rfl rfl rfl ?_ | refine A_mk23 rfl rfl rfl ?_ | refine A_mk2 rfl rfl rfl ?_ | refine A_mk13 rfl rfl ?_ | refine A_p (by rfl) rfl ?_
 | refine A_ldI rfl (by first | omega | (simp; done) | (simp; omega)) rfl ?_ | refine A_ldB rfl (by first | omega | (simp; done) | (simp; omega)) rfl ?_ | refine A_ld rfl (by rfl) rfl ?_ | refine A_ldW rfl (by simp) rfl ?_
 | refine A_st rfl rfl rfl ?_ | refine A_stW rfl rfl (by simp) rfl ?_ | refine A_stE rfl rfl (by first | omega | (simp; done) | (simp; omega)) rfl ?_
 | ((first | refine A_alloc rfl ?_ | refine A_box rfl rfl ?_ | refine A_boxC rfl rfl ?_ | refine A_makeN rfl rfl rfl (by omega) ?_ | refine A_make rfl rfl rfl (by omega) ?_ | refine A_bld1 rfl rfl ?_ | refine A_bld2 rfl rfl rfl ?_ | refine A_bld4 rfl rfl rfl rfl rfl ?_) <;> intro pz hpz)
 | refine A_bld0 rfl ?_ | (refine A_app rfl rfl rfl (by first | omega | (simp; done) | (simp; omega)) (by first | omega | (simp; done) | (simp; omega)) (by omega) ?_; intro pz) | (refine A_appN (enc := ic) rfl (by decide) rfl rfl (by first | omega | (simp; done) | (simp; omega)) (by omega) ?_; intro pz)
 | refine A_chk1 rfl rfl rfl ?_ | refine A_chk2 rfl rfl rfl rfl ?_ | refine A_chk3 rfl rfl rfl rfl rfl ?_ | refine A_chk4 rfl rfl rfl rfl rfl rfl ?_ | refine A_chkI rfl (by assumption) rfl (by simp) ?_
 | refine A_ret1 rfl (by first | exact (RP.t rfl RP.nil) | exact (RP.c rfl inferInstance rfl (by simp) RP.nil)) ?_ | refine A_ret rfl (by first | exact (RP.t rfl (RP.t rfl RP.nil)) | exact (RP.c rfl inferInstance rfl (by simp) (RP.t rfl RP.nil)) | exact (RP.t rfl (RP.t rfl (RP.t rfl RP.nil))) | exact (RP.c rfl inferInstance rfl (by simp) (RP.t rfl (RP.t rfl RP.nil))) | exact (RP.c rfl inferInstance rfl (by simp) (RP.t rfl (RP.t rfl (RP.t rfl (RP.t rfl RP.nil)))))) ?_ | refine A_ret0 rfl ?_)
      all_goals (refine A_skipK ?_; exact hk)
    · repeat' (first
 | refine A_go rfl ?_ | refine A_ifT rfl rfl ?_ | refine A_ifF rfl rfl ?_ | refine A_offP rfl rfl ?_ | refine A_offH rfl rfl ?_ | refine A_off0 rfl rfl ?_
 | refine A_add rfl rfl rfl (by omega) ?_ | refine A_sub rfl rfl rfl (by omega) ?_ | refine A_mul rfl rfl rfl (by omega) ?_ | refine A_rem rfl rfl rfl (by omega) ?_ | refine A_remT rfl rfl rfl (by omega) ?_ | refine A_quo rfl rfl rfl (by omega) ?_
 | ((first | refine A_lt rfl rfl rfl ?_ ?_ | refine A_le rfl rfl rfl ?_ ?_ | refine A_gt rfl rfl rfl ?_ ?_ | refine A_ge rfl rfl rfl ?_ ?_ | refine A_eq rfl rfl rfl ?_ ?_ | refine A_ne rfl rfl rfl ?_ ?_ | refine A_beq rfl rfl rfl ?_ ?_) <;> intro hc <;> try first | contradiction | (exfalso; omega) | exact absurd rfl hc)
 | refine A_idxN1 rfl rfl rfl (by omega) ?_ | refine A_idx1 rfl rfl rfl (by omega) ?_ | refine A_idxArr1 rfl rfl rfl (by omega) ?_
 | rw [eT]
 | refine A_fld rfl rfl ?_ | refine A_mk3 rfl rfl rfl rfl ?_ | refine A_mk23 rfl rfl rfl ?_ | refine A_mk2 rfl rfl rfl ?_ | refine A_mk13 rfl rfl ?_ | refine A_p (by rfl) rfl ?_
 | refine A_ldI rfl (by first | omega | (simp; done) | (simp; omega)) rfl ?_ | refine A_ldB rfl (by first | omega | (simp; done) | (simp; omega)) rfl ?_ | refine A_ld rfl (by rfl) rfl ?_ | refine A_ldW rfl (by simp) rfl ?_
 | refine A_st rfl rfl rfl ?_ | refine A_stW rfl rfl (by simp) rfl ?_ | refine A_stE rfl rfl (by first | omega | (simp; done) | (simp; omega)) rfl ?_
 | ((first | refine A_alloc rfl ?_ | refine A_box rfl rfl ?_ | refine A_boxC rfl rfl ?_ | refine A_makeN rfl rfl rfl (by omega) ?_ | refine A_make rfl rfl rfl (by omega) ?_ | refine A_bld1 rfl rfl ?_ | refine A_bld2 rfl rfl rfl ?_ | refine A_bld4 rfl rfl rfl rfl rfl ?_) <;> intro pz hpz)
 | refine A_bld0 rfl ?_ | (refine A_app rfl rfl rfl (by first | omega | (simp; done) | (simp; omega)) (by first | omega | (simp; done) | (simp; omega)) (by omega) ?_; intro pz) | (refine A_appN (enc := ic) rfl (by decide) rfl rfl (by first | omega | (simp; done) | (simp; omega)) (by omega) ?_; intro pz)
 | refine A_chk1 rfl rfl rfl ?_ | refine A_chk2 rfl rfl rfl rfl ?_ | refine A_chk3 rfl rfl rfl rfl rfl ?_ | refine A_chk4 rfl rfl rfl rfl rfl rfl ?_ | refine A_chkI rfl (by assumption) rfl (by simp) ?_
 | refine A_ret1 rfl (by first | exact (RP.t rfl RP.nil) | exact (RP.c rfl inferInstance rfl (by simp) RP.nil)) ?_ | refine A_ret rfl (by first | exact (RP.t rfl (RP.t rfl RP.nil)) | exact (RP.c rfl inferInstance rfl (by simp) (RP.t rfl RP.nil)) | exact (RP.t rfl (RP.t rfl (RP.t rfl RP.nil))) | exact (RP.c rfl inferInstance rfl (by simp) (RP.t rfl (RP.t rfl RP.nil))) | exact (RP.c rfl inferInstance rfl (by simp) (RP.t rfl (RP.t rfl (RP.t rfl (RP.t rfl RP.nil)))))) ?_ | refine A_ret0 rfl ?_)
      all_goals (refine A_skipK ?_; exact hk)

theorem hp_4 {s : St} [Wf s] {R C T a i p27 pW pcl p33 pB : Nat} {grp seen : Int} {W cl Bs : List Int} {w302 w303 w304 w305 w306 w307 w308 w309 w310 w311 w312 w313 w314 w315 w316 w317 w318 w319 w320 w321 w322 w323 w324 w325 w326 w327 w328 w329 w330 w331 w332 w333 w334 w335 w336 w337 w338 w339 w340 w341 w342 w343 w344 w345 w346 w347 w348 w349 w350 w351 w352 w353 w354 w355 w356 w357 w358 w359 w360 w361 w362 w363 w364 w365 w366 w367 w368 w369 w370 w296b w297b w298b w299b w300b w301b w275 w276 w277 w278 w279 w280 w281 w282 w283 w284 w285 w286 w287 w288 w289 w290 w291 w292 w293 w294 w295 w268 w269 w270 w271 w272 : AV} (lW : W.length = T) (lc : cl.length = T) (lB : Bs.length = T) (hi : i < T) (ha : a < T) (hT : T ≤ 25) (eT : (R : Int) * C = T) (hC : 1 ≤ C) {z2 : Int} {k : KK}
    (hk : ∀ {w371 w372 w373 w374 w375 w376 w377 w378 w379 w380 w381 w382 w383 w384 w385 w386 w387 : AV} {g : Bool}, (g = true ↔ cl.getD i 0 = cl.getD a 0 ∧ W.getD a 0 = 1) → At [] s [(p27, .rw 25 3 (fld R C pW T)), (pW, ints W), (pcl, ints cl), (p33, .rw 25 3 (fld R C pB T)), (pB, ints Bs)] [] [] [(40, bv g), (387, w387), (386, w386), (385, w385), (384, w384), (383, w383), (382, w382), (381, w381), (380, w380), (379, w379), (378, w378), (377, w377), (376, w376), (375, w375), (374, w374), (373, w373), (372, w372), (371, w371), (370, w370), (369, w369), (368, w368), (367, w367), (366, w366), (365, w365), (364, w364), (363, w363), (362, w362), (361, w361), (360, w360), (359, w359), (358, w358), (357, w357), (356, w356), (355, w355), (354, w354), (353, w353), (352, w352), (351, w351), (350, w350), (349, w349), (348, w348), (347, w347), (346, w346), (345, w345), (344, w344), (343, w343), (342, w342), (341, w341), (340, w340), (339, w339), (338, w338), (337, w337), (336, w336), (335, w335), (334, w334), (333, w333), (332, w332), (331, w331), (330, w330), (329, w329), (328, w328), (327, w327), (326, w326), (325, w325), (324, w324), (323, w323), (322, w322), (321, w321), (320, w320), (319, w319), (318, w318), (317, w317), (316, w316), (315, w315), (314, w314), (313, w313), (312, w312), (311, w311), (310, w310), (309, w309), (308, w308), (307, w307), (306, w306), (305, w305), (304, w304), (303, w303), (302, w302), (38, iv z2), (301, w301b), (300, w300b), (299, w299b), (298, w298b), (297, w297b), (296, w296b), (295, w295), (294, w294), (293, w293), (292, w292), (291, w291), (290, w290), (289, w289), (288, w288), (287, w287), (286, w286), (285, w285), (284, w284), (283, w283), (282, w282), (281, w281), (280, w280), (279, w279), (278, w278), (277, w277), (276, w276), (275, w275), (272, w272), (271, w271), (270, w270), (269, w269), (268, w268), (5, iv R), (6, iv C), (27, .c (.ptr p27 0)), (28, .c (.sl pcl 0 T)), (29, iv grp), (31, iv a), (33, .c (.ptr p33 0)), (38, iv seen), (39, iv i)] k) :
    At [] s [(p27, .rw 25 3 (fld R C pW T)), (pW, ints W), (pcl, ints cl), (p33, .rw 25 3 (fld R C pB T)), (pB, ints Bs)] [] [] [(370, w370), (369, w369), (368, w368), (367, w367), (366, w366), (365, w365), (364, w364), (363, w363), (362, w362), (361, w361), (360, w360), (359, w359), (358, w358), (357, w357), (356, w356), (355, w355), (354, w354), (353, w353), (352, w352), (351, w351), (350, w350), (349, w349), (348, w348), (347, w347), (346, w346), (345, w345), (344, w344), (343, w343), (342, w342), (341, w341), (340, w340), (339, w339), (338, w338), (337, w337), (336, w336), (335, w335), (334, w334), (333, w333), (332, w332), (331, w331), (330, w330), (329, w329), (328, w328), (327, w327), (326, w326), (325, w325), (324, w324), (323, w323), (322, w322), (321, w321), (320, w320), (319, w319), (318, w318), (317, w317), (316, w316), (315, w315), (314, w314), (313, w313), (312, w312), (311, w311), (310, w310), (309, w309), (308, w308), (307, w307), (306, w306), (305, w305), (304, w304), (303, w303), (302, w302), (38, iv z2), (301, w301b), (300, w300b), (299, w299b), (298, w298b), (297, w297b), (296, w296b), (295, w295), (294, w294), (293, w293), (292, w292), (291, w291), (290, w290), (289, w289), (288, w288), (287, w287), (286, w286), (285, w285), (284, w284), (283, w283), (282, w282), (281, w281), (280, w280), (279, w279), (278, w278), (277, w277), (276, w276), (275, w275), (272, w272), (271, w271), (270, w270), (269, w269), (268, w268), (5, iv R), (6, iv C), (27, .c (.ptr p27 0)), (28, .c (.sl pcl 0 T)), (29, iv grp), (31, iv a), (33, .c (.ptr p33 0)), (38, iv seen), (39, iv i)] (.thn (hdc (tlc 3 (bodyX (blc3 (tlc 26 (L7).body))))) k) := by
  by_cases q1 : cl.getD i 0 = cl.getD a 0
  · by_cases q2 : W.getD a 0 = 1
    · repeat' (first
 | refine A_go rfl ?_ | refine A_ifT rfl rfl ?_ | refine A_ifF rfl rfl ?_ | refine A_offP rfl rfl ?_ | refine A_offH rfl rfl ?_ | refine A_off0 rfl rfl ?_
 | refine A_add rfl rfl rfl (by omega) ?_ | refine A_sub rfl rfl rfl (by omega) ?_ | refine A_mul rfl rfl rfl (by omega) ?_ | refine A_rem rfl rfl rfl (by omega) ?_ | refine A_remT rfl rfl rfl (by omega) ?_ | refine A_quo rfl rfl rfl (by omega) ?_
 | ((first | refine A_lt rfl rfl rfl ?_ ?_ | refine A_le rfl rfl rfl ?_ ?_ | refine A_gt rfl rfl rfl ?_ ?_ | refine A_ge rfl rfl rfl ?_ ?_ | refine A_eq rfl rfl rfl ?_ ?_ | refine A_ne rfl rfl rfl ?_ ?_ | refine A_beq rfl rfl rfl ?_ ?_) <;> intro hc <;> try first | contradiction | (exfalso; omega) | exact absurd rfl hc)
 | refine A_idxN1 rfl rfl rfl (by omega) ?_ | refine A_idx1 rfl rfl rfl (by omega) ?_ | refine A_idxArr1 rfl rfl rfl (by omega) ?_
 | rw [eT]
 | refine A_fld rfl rfl ?_ | refine A_mk3 rfl rfl rfl rfl ?_ | refine A_mk23 rfl rfl rfl ?_ | refine A_mk2 rfl rfl rfl ?_ | refine A_mk13 rfl rfl ?_ | refine A_p (by rfl) rfl ?_
 | refine A_ldI rfl (by first | omega | (simp; done) | (simp; omega)) rfl ?_ | refine A_ldB rfl (by first | omega | (simp; done) | (simp; omega)) rfl ?_ | refine A_ld rfl (by rfl) rfl ?_ | refine A_ldW rfl (by simp) rfl ?_
 | refine A_st rfl rfl rfl ?_ | refine A_stW rfl rfl (by simp) rfl ?_ | refine A_stE rfl rfl (by first | omega | (simp; done) | (simp; omega)) rfl ?_
 | ((first | refine A_alloc rfl ?_ | refine A_box rfl rfl ?_ | refine A_boxC rfl rfl ?_ | refine A_makeN rfl rfl rfl (by omega) ?_ | refine A_make rfl rfl rfl (by omega) ?_ | refine A_bld1 rfl rfl ?_ | refine A_bld2 rfl rfl rfl ?_ | refine A_bld4 rfl rfl rfl rfl rfl ?_) <;> intro pz hpz)
 | refine A_bld0 rfl ?_ | (refine A_app rfl rfl rfl (by first | omega | (simp; done) | (simp; omega)) (by first | omega | (simp; done) | (simp; omega)) (by omega) ?_; intro pz) | (refine A_appN (enc := ic) rfl (by decide) rfl rfl (by first | omega | (simp; done) | (simp; omega)) (by omega) ?_; intro pz)
 | refine A_chk1 rfl rfl rfl ?_ | refine A_chk2 rfl rfl rfl rfl ?_ | refine A_chk3 rfl rfl rfl rfl rfl ?_ | refine A_chk4 rfl rfl rfl rfl rfl rfl ?_ | refine A_chkI rfl (by assumption) rfl (by simp) ?_
 | refine A_ret1 rfl (by first | exact (RP.t rfl RP.nil) | exact (RP.c rfl inferInstance rfl (by simp) RP.nil)) ?_ | refine A_ret rfl (by first | exact (RP.t rfl (RP.t rfl RP.nil)) | exact (RP.c rfl inferInstance rfl (by simp) (RP.t rfl RP.nil)) | exact (RP.t rfl (RP.t rfl (RP.t rfl RP.nil))) | exact (RP.c rfl inferInstance rfl (by simp) (RP.t rfl (RP.t rfl RP.nil))) | exact (RP.c rfl inferInstance rfl (by simp) (RP.t rfl (RP.t rfl (RP.t rfl (RP.t rfl RP.nil)))))) ?_ | refine A_ret0 rfl ?_)
      all_goals exact hk ⟨fun _ => ⟨q1, q2⟩, fun _ => rfl⟩
    · repeat' (first
 | refine A_go rfl ?_ | refine A_ifT rfl rfl ?_ | refine A_ifF rfl rfl ?_ | refine A_offP rfl rfl ?_ | refine A_offH rfl rfl ?_ | refine A_off0 rfl rfl ?_
 | refine A_add rfl rfl rfl (by omega) ?_ | refine A_sub rfl rfl rfl (by omega) ?_ | refine A_mul rfl rfl rfl (by omega) ?_ | refine A_rem rfl rfl rfl (by omega) ?_ | refine A_remT rfl rfl rfl (by omega) ?_ | refine A_quo rfl rfl rfl (by omega) ?_
 | ((first | refine A_lt rfl rfl rfl ?_ ?_ | refine A_le rfl rfl rfl ?_ ?_ | refine A_gt rfl rfl rfl ?_ ?_ | refine A_ge rfl rfl rfl ?_ ?_ | refine A_eq rfl rfl rfl ?_ ?_ | refine A_ne rfl rfl rfl ?_ ?_ | refine A_beq rfl rfl rfl ?_ ?_) <;> intro hc <;> try first | contradiction | (exfalso; omega) | exact absurd rfl hc)
 | refine A_idxN1 rfl rfl rfl (by omega) ?_ | refine A_idx1 rfl rfl rfl (by omega) ?_ | refine A_idxArr1 rfl rfl rfl (by omega) ?_
 | rw [eT]
 | refine A_fld rfl rfl ?_ | refine A_mk3 rfl rfl rfl rfl ?_ | refine A_mk23 rfl rfl rfl ?_ | refine A_mk2 rfl rfl rfl ?_ | refine A_mk13 rfl rfl ?_ | refine A_p (by rfl) rfl ?_
 | refine A_ldI rfl (by first | omega | (simp; done) | (simp; omega)) rfl ?_ | refine A_ldB rfl (by first | omega | (simp; done) | (simp; omega)) rfl ?_ | refine A_ld rfl (by rfl) rfl ?_ | refine A_ldW rfl (by simp) rfl ?_
 | refine A_st rfl rfl rfl ?_ | refine A_stW rfl rfl (by simp) rfl ?_ | refine A_stE rfl rfl (by first | omega | (simp; done) | (simp; omega)) rfl ?_
 | ((first | refine A_alloc rfl ?_ | refine A_box rfl rfl ?_ | refine A_boxC rfl rfl ?_ | refine A_makeN rfl rfl rfl (by omega) ?_ | refine A_make rfl rfl rfl (by omega) ?_ | refine A_bld1 rfl rfl ?_ | refine A_bld2 rfl rfl rfl ?_ | refine A_bld4 rfl rfl rfl rfl rfl ?_) <;> intro pz hpz)
 | refine A_bld0 rfl ?_ | (refine A_app rfl rfl rfl (by first | omega | (simp; done) | (simp; omega)) (by first | omega | (simp; done) | (simp; omega)) (by omega) ?_; intro pz) | (refine A_appN (enc := ic) rfl (by decide) rfl rfl (by first | omega | (simp; done) | (simp; omega)) (by omega) ?_; intro pz)
 | refine A_chk1 rfl rfl rfl ?_ | refine A_chk2 rfl rfl rfl rfl ?_ | refine A_chk3 rfl rfl rfl rfl rfl ?_ | refine A_chk4 rfl rfl rfl rfl rfl rfl ?_ | refine A_chkI rfl (by assumption) rfl (by simp) ?_
 | refine A_ret1 rfl (by first | exact (RP.t rfl RP.nil) | exact (RP.c rfl inferInstance rfl (by simp) RP.nil)) ?_ | refine A_ret rfl (by first | exact (RP.t rfl (RP.t rfl RP.nil)) | exact (RP.c rfl inferInstance rfl (by simp) (RP.t rfl RP.nil)) | exact (RP.t rfl (RP.t rfl (RP.t rfl RP.nil))) | exact (RP.c rfl inferInstance rfl (by simp) (RP.t rfl (RP.t rfl RP.nil))) | exact (RP.c rfl inferInstance rfl (by simp) (RP.t rfl (RP.t rfl (RP.t rfl (RP.t rfl RP.nil)))))) ?_ | refine A_ret0 rfl ?_)
      all_goals exact hk ⟨fun h => (by cases h), fun h => absurd h.2 q2⟩
  · repeat' (first
 | refine A_go rfl ?_ | refine A_ifT rfl rfl ?_ | refine A_ifF rfl rfl ?_ | refine A_offP rfl rfl ?_ | refine A_offH rfl rfl ?_ | refine A_off0 rfl rfl ?_
 | refine A_add rfl rfl rfl (by omega) ?_ | refine A_sub rfl rfl rfl (by omega) ?_ | refine A_mul rfl rfl rfl (by omega) ?_ | refine A_rem rfl rfl rfl (by omega) ?_ | refine A_remT rfl rfl rfl (by omega) ?_ | refine A_quo rfl rfl rfl (by omega) ?_
 | ((first | refine A_lt rfl rfl rfl ?_ ?_ | refine A_le rfl rfl rfl ?_ ?_ | refine A_gt rfl rfl rfl ?_ ?_ | refine A_ge rfl rfl rfl ?_ ?_ | refine A_eq rfl rfl rfl ?_ ?_ | refine A_ne rfl rfl rfl ?_ ?_ | refine A_beq rfl rfl rfl ?_ ?_) <;> intro hc <;> try first | contradiction | (exfalso; omega) | exact absurd rfl hc)
 | refine A_idxN1 rfl rfl rfl (by omega) ?_ | refine A_idx1 rfl rfl rfl (by omega) ?_ | refine A_idxArr1 rfl rfl rfl (by omega) ?_
 | rw [eT]
 | refine A_fld rfl rfl ?_ | refine A_mk3 rfl rfl rfl rfl ?_ | refine A_mk23 rfl rfl rfl ?_ | refine A_mk2 rfl rfl rfl ?_ | refine A_mk13 rfl rfl ?_ | refine A_p (by rfl) rfl ?_
 | refine A_ldI rfl (by first | omega | (simp; done) | (simp; omega)) rfl ?_ | refine A_ldB rfl (by first | omega | (simp; done) | (simp; omega)) rfl ?_ | refine A_ld rfl (by rfl) rfl ?_ | refine A_ldW rfl (by simp) rfl ?_
 | refine A_st rfl rfl rfl ?_ | refine A_stW rfl rfl (by simp) rfl ?_ | refine A_stE rfl rfl (by first | omega | (simp; done) | (simp; omega)) rfl ?_
 | ((first | refine A_alloc rfl ?_ | refine A_box rfl rfl ?_ | refine A_boxC rfl rfl ?_ | refine A_makeN rfl rfl rfl (by omega) ?_ | refine A_make rfl rfl rfl (by omega) ?_ | refine A_bld1 rfl rfl ?_ | refine A_bld2 rfl rfl rfl ?_ | refine A_bld4 rfl rfl rfl rfl rfl ?_) <;> intro pz hpz)
 | refine A_bld0 rfl ?_ | (refine A_app rfl rfl rfl (by first | omega | (simp; done) | (simp; omega)) (by first | omega | (simp; done) | (simp; omega)) (by omega) ?_; intro pz) | (refine A_appN (enc := ic) rfl (by decide) rfl rfl (by first | omega | (simp; done) | (simp; omega)) (by omega) ?_; intro pz)
 | refine A_chk1 rfl rfl rfl ?_ | refine A_chk2 rfl rfl rfl rfl ?_ | refine A_chk3 rfl rfl rfl rfl rfl ?_ | refine A_chk4 rfl rfl rfl rfl rfl rfl ?_ | refine A_chkI rfl (by assumption) rfl (by simp) ?_
 | refine A_ret1 rfl (by first | exact (RP.t rfl RP.nil) | exact (RP.c rfl inferInstance rfl (by simp) RP.nil)) ?_ | refine A_ret rfl (by first | exact (RP.t rfl (RP.t rfl RP.nil)) | exact (RP.c rfl inferInstance rfl (by simp) (RP.t rfl RP.nil)) | exact (RP.t rfl (RP.t rfl (RP.t rfl RP.nil))) | exact (RP.c rfl inferInstance rfl (by simp) (RP.t rfl (RP.t rfl RP.nil))) | exact (RP.c rfl inferInstance rfl (by simp) (RP.t rfl (RP.t rfl (RP.t rfl (RP.t rfl RP.nil)))))) ?_ | refine A_ret0 rfl ?_)
    all_goals exact hk ⟨fun h => (by cases h), fun h => absurd h.1 q1⟩

theorem hp_5a {s : St} [Wf s] {R C T a i p27 pW pcl p33 pB : Nat} {grp seen : Int} {W cl Bs : List Int} {w371 w372 w373 w374 w375 w376 w377 w378 w379 w380 w381 w382 w383 w384 w385 w386 w387 w302 w303 w304 w305 w306 w307 w308 w309 w310 w311 w312 w313 w314 w315 w316 w317 w318 w319 w320 w321 w322 w323 w324 w325 w326 w327 w328 w329 w330 w331 w332 w333 w334 w335 w336 w337 w338 w339 w340 w341 w342 w343 w344 w345 w346 w347 w348 w349 w350 w351 w352 w353 w354 w355 w356 w357 w358 w359 w360 w361 w362 w363 w364 w365 w366 w367 w368 w369 w370 w296b w297b w298b w299b w300b w301b w275 w276 w277 w278 w279 w280 w281 w282 w283 w284 w285 w286 w287 w288 w289 w290 w291 w292 w293 w294 w295 w268 w269 w270 w271 w272 : AV} (lW : W.length = T) (lc : cl.length = T) (lB : Bs.length = T) (hi : i < T) (ha : a < T) (hT : T ≤ 25) (eT : (R : Int) * C = T) (hC : 1 ≤ C) {z2 : Int} {g4 : Bool} (f1 : W.getD a 0 = 1) {k : KK}
    (hk : ∀ {w388 w389 w390 w391 w392 w393 : AV}, At [] s [(p27, .rw 25 3 (fld R C pW T)), (pW, ints W), (pcl, ints cl), (p33, .rw 25 3 (fld R C pB T)), (pB, ints Bs)] [] [] [(393, w393), (392, w392), (391, w391), (390, w390), (389, w389), (388, w388), (40, bv g4), (387, w387), (386, w386), (385, w385), (384, w384), (383, w383), (382, w382), (381, w381), (380, w380), (379, w379), (378, w378), (377, w377), (376, w376), (375, w375), (374, w374), (373, w373), (372, w372), (371, w371), (370, w370), (369, w369), (368, w368), (367, w367), (366, w366), (365, w365), (364, w364), (363, w363), (362, w362), (361, w361), (360, w360), (359, w359), (358, w358), (357, w357), (356, w356), (355, w355), (354, w354), (353, w353), (352, w352), (351, w351), (350, w350), (349, w349), (348, w348), (347, w347), (346, w346), (345, w345), (344, w344), (343, w343), (342, w342), (341, w341), (340, w340), (339, w339), (338, w338), (337, w337), (336, w336), (335, w335), (334, w334), (333, w333), (332, w332), (331, w331), (330, w330), (329, w329), (328, w328), (327, w327), (326, w326), (325, w325), (324, w324), (323, w323), (322, w322), (321, w321), (320, w320), (319, w319), (318, w318), (317, w317), (316, w316), (315, w315), (314, w314), (313, w313), (312, w312), (311, w311), (310, w310), (309, w309), (308, w308), (307, w307), (306, w306), (305, w305), (304, w304), (303, w303), (302, w302), (38, iv z2), (301, w301b), (300, w300b), (299, w299b), (298, w298b), (297, w297b), (296, w296b), (295, w295), (294, w294), (293, w293), (292, w292), (291, w291), (290, w290), (289, w289), (288, w288), (287, w287), (286, w286), (285, w285), (284, w284), (283, w283), (282, w282), (281, w281), (280, w280), (279, w279), (278, w278), (277, w277), (276, w276), (275, w275), (272, w272), (271, w271), (270, w270), (269, w269), (268, w268), (5, iv R), (6, iv C), (27, .c (.ptr p27 0)), (28, .c (.sl pcl 0 T)), (29, iv grp), (31, iv a), (33, .c (.ptr p33 0)), (38, iv seen), (39, iv i)] k) :
    At [] s [(p27, .rw 25 3 (fld R C pW T)), (pW, ints W), (pcl, ints cl), (p33, .rw 25 3 (fld R C pB T)), (pB, ints Bs)] [] [] [(40, bv g4), (387, w387), (386, w386), (385, w385), (384, w384), (383, w383), (382, w382), (381, w381), (380, w380), (379, w379), (378, w378), (377, w377), (376, w376), (375, w375), (374, w374), (373, w373), (372, w372), (371, w371), (370, w370), (369, w369), (368, w368), (367, w367), (366, w366), (365, w365), (364, w364), (363, w363), (362, w362), (361, w361), (360, w360), (359, w359), (358, w358), (357, w357), (356, w356), (355, w355), (354, w354), (353, w353), (352, w352), (351, w351), (350, w350), (349, w349), (348, w348), (347, w347), (346, w346), (345, w345), (344, w344), (343, w343), (342, w342), (341, w341), (340, w340), (339, w339), (338, w338), (337, w337), (336, w336), (335, w335), (334, w334), (333, w333), (332, w332), (331, w331), (330, w330), (329, w329), (328, w328), (327, w327), (326, w326), (325, w325), (324, w324), (323, w323), (322, w322), (321, w321), (320, w320), (319, w319), (318, w318), (317, w317), (316, w316), (315, w315), (314, w314), (313, w313), (312, w312), (311, w311), (310, w310), (309, w309), (308, w308), (307, w307), (306, w306), (305, w305), (304, w304), (303, w303), (302, w302), (38, iv z2), (301, w301b), (300, w300b), (299, w299b), (298, w298b), (297, w297b), (296, w296b), (295, w295), (294, w294), (293, w293), (292, w292), (291, w291), (290, w290), (289, w289), (288, w288), (287, w287), (286, w286), (285, w285), (284, w284), (283, w283), (282, w282), (281, w281), (280, w280), (279, w279), (278, w278), (277, w277), (276, w276), (275, w275), (272, w272), (271, w271), (270, w270), (269, w269), (268, w268), (5, iv R), (6, iv C), (27, .c (.ptr p27 0)), (28, .c (.sl pcl 0 T)), (29, iv grp), (31, iv a), (33, .c (.ptr p33 0)), (38, iv seen), (39, iv i)] (.thn (hdc (tlc 4 (bodyX (blc3 (tlc 26 (L7).body))))) k) := by
  repeat' (first
 | refine A_go rfl ?_ | refine A_ifT rfl rfl ?_ | refine A_ifF rfl rfl ?_ | refine A_offP rfl rfl ?_ | refine A_offH rfl rfl ?_ | refine A_off0 rfl rfl ?_
 | refine A_add rfl rfl rfl (by omega) ?_ | refine A_sub rfl rfl rfl (by omega) ?_ | refine A_mul rfl rfl rfl (by omega) ?_ | refine A_rem rfl rfl rfl (by omega) ?_ | refine A_remT rfl rfl rfl (by omega) ?_ | refine A_quo rfl rfl rfl (by omega) ?_
 | ((first | refine A_lt rfl rfl rfl ?_ ?_ | refine A_le rfl rfl rfl ?_ ?_ | refine A_gt rfl rfl rfl ?_ ?_ | refine A_ge rfl rfl rfl ?_ ?_ | refine A_eq rfl rfl rfl ?_ ?_ | refine A_ne rfl rfl rfl ?_ ?_ | refine A_beq rfl rfl rfl ?_ ?_) <;> intro hc <;> try first | contradiction | (exfalso; omega) | exact absurd rfl hc)
 | refine A_idxN1 rfl rfl rfl (by omega) ?_ | refine A_idx1 rfl rfl rfl (by omega) ?_ | refine A_idxArr1 rfl rfl rfl (by omega) ?_
 | rw [eT]
 | refine A_fld rfl rfl ?_ | refine A_mk3 rfl rfl rfl rfl ?_ | refine A_mk23 rfl rfl rfl ?_ | refine A_mk2 rfl rfl rfl ?_ | refine A_mk13 rfl rfl ?_ | refine A_p (by rfl) rfl ?_
 | refine A_ldI rfl (by first | omega | (simp; done) | (simp; omega)) rfl ?_ | refine A_ldB rfl (by first | omega | (simp; done) | (simp; omega)) rfl ?_ | refine A_ld rfl (by rfl) rfl ?_ | refine A_ldW rfl (by simp) rfl ?_
 | refine A_st rfl rfl rfl ?_ | refine A_stW rfl rfl (by simp) rfl ?_ | refine A_stE rfl rfl (by first | omega | (simp; done) | (simp; omega)) rfl ?_
 | ((first | refine A_alloc rfl ?_ | refine A_box rfl rfl ?_ | refine A_boxC rfl rfl ?_ | refine A_makeN rfl rfl rfl (by omega) ?_ | refine A_make rfl rfl rfl (by omega) ?_ | refine A_bld1 rfl rfl ?_ | refine A_bld2 rfl rfl rfl ?_ | refine A_bld4 rfl rfl rfl rfl rfl ?_) <;> intro pz hpz)
 | refine A_bld0 rfl ?_ | (refine A_app rfl rfl rfl (by first | omega | (simp; done) | (simp; omega)) (by first | omega | (simp; done) | (simp; omega)) (by omega) ?_; intro pz) | (refine A_appN (enc := ic) rfl (by decide) rfl rfl (by first | omega | (simp; done) | (simp; omega)) (by omega) ?_; intro pz)
 | refine A_chk1 rfl rfl rfl ?_ | refine A_chk2 rfl rfl rfl rfl ?_ | refine A_chk3 rfl rfl rfl rfl rfl ?_ | refine A_chk4 rfl rfl rfl rfl rfl rfl ?_ | refine A_chkI rfl (by assumption) rfl (by simp) ?_
 | refine A_ret1 rfl (by first | exact (RP.t rfl RP.nil) | exact (RP.c rfl inferInstance rfl (by simp) RP.nil)) ?_ | refine A_ret rfl (by first | exact (RP.t rfl (RP.t rfl RP.nil)) | exact (RP.c rfl inferInstance rfl (by simp) (RP.t rfl RP.nil)) | exact (RP.t rfl (RP.t rfl (RP.t rfl RP.nil))) | exact (RP.c rfl inferInstance rfl (by simp) (RP.t rfl (RP.t rfl RP.nil))) | exact (RP.c rfl inferInstance rfl (by simp) (RP.t rfl (RP.t rfl (RP.t rfl (RP.t rfl RP.nil)))))) ?_ | refine A_ret0 rfl ?_)
  all_goals (refine A_skipK ?_; exact hk)

/-- One of two, where a place is first reckoned: a sentence that holds or not. -/
theorem no_and {p q : Prop} (h : ¬ (p ∧ q)) (hp : p) (hq : q) : False := h ⟨hp, hq⟩

end Go.Proofs.Ytckobcjjbpnkcaa
