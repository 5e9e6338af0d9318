/- The law FnThrough runs to true. -/
import Derived.Test.YtckobcjjbpnkcaaXthrF
import Derived.Test.YtckobcjjbpnkcaaFB
namespace Go.Proofs.Ytckobcjjbpnkcaa
open Go Go.RowKit
set_option linter.unusedVariables false
set_option linter.unusedSimpArgs false
set_option maxRecDepth 100000
set_option maxHeartbeats 8000000
-- laws.FnThrough
def L6 : AFun := ⟨322, [.t 4],
 (.seq (.ops false [⟨(some 4), .mv (.k (bv false)), none, []⟩])
 (.seq (.seq (.ops false [⟨(some 37), .mv (.t 0), none, []⟩,
    ⟨(some 38), .mv (.t 1), none, []⟩,
    ⟨(some 39), .call (.f 18) [(.t 37), (.t 38)], none, []⟩])
  (.cond (.t 39) (.seq (.ops false [⟨(some 4), .mv (.k (bv true)), none, []⟩])
   .ret)
   .skip))
 (.seq (.ops false [⟨(some 40), .mv (.t 1), none, []⟩,
   ⟨(some 41), .call (.f 20) [(.t 40), (.k (iv 40)), (.k (iv 4))], none, []⟩,
   ⟨(some 42), .bin .add (.k (iv 1)) (.t 41), none, []⟩,
   ⟨(some 5), .mv (.t 42), none, []⟩])
 (.seq (.ops false [⟨(some 43), .mv (.t 1), none, []⟩,
   ⟨(some 44), .call (.f 20) [(.t 43), (.k (iv 41)), (.k (iv 3))], none, []⟩,
   ⟨(some 45), .bin .add (.k (iv 1)) (.t 44), none, []⟩,
   ⟨(some 6), .mv (.t 45), none, []⟩])
 (.seq (.ops false [⟨(some 46), .mv (.t 0), none, []⟩,
   ⟨(some 47), .mv (.t 5), none, []⟩,
   ⟨(some 48), .mv (.t 6), none, []⟩,
   ⟨(some 49), .call (.f 19) [(.t 46), (.t 47), (.t 48), (.k (iv 2))], none, []⟩,
   ⟨(some 7), .alloc 25 [.int .i64 0, .int .i64 0, .sl 0 0 0], none, []⟩,
   ⟨none, .store 3 (.t 7) (.t 49), none, []⟩])
 (.seq (.ops false [⟨(some 51), .load true 3 (.t 7), none, []⟩,
   ⟨(some 52), .call (.f 31) [(.t 51)], none, []⟩,
   ⟨(some 50), .mv (.t 52), none, []⟩,
   ⟨(some 53), .ext (.t 50) 0, none, []⟩,
   ⟨(some 54), .ext (.t 50) 1, none, []⟩,
   ⟨(some 8), .mv (.t 53), none, []⟩,
   ⟨(some 9), .mv (.t 54), none, []⟩])
 (.seq (.ops false [⟨(some 56), .load true 3 (.t 7), none, []⟩,
   ⟨(some 57), .call (.f 32) [(.t 56)], none, []⟩,
   ⟨(some 55), .mv (.t 57), none, []⟩,
   ⟨(some 58), .ext (.t 55) 0, none, []⟩,
   ⟨(some 59), .ext (.t 55) 1, none, []⟩,
   ⟨(some 60), .ext (.t 55) 2, none, []⟩,
   ⟨(some 10), .mv (.t 58), none, []⟩,
   ⟨(some 11), .mv (.t 59), none, []⟩,
   ⟨(some 12), .mv (.t 60), none, []⟩])
 (.seq (.ops false [⟨(some 13), .mv (.k (bv false)), none, []⟩])
 (.seq (.seq (.ops false [⟨(some 14), .mv (.k (iv 0)), none, []⟩])
  (.block 0 (.loop [1, 5, 6, 8, 9, 10, 11, 12, 13, 14] (.seq (.seq (.ops false [⟨(some 61), .mv (.t 14), none, []⟩,
       ⟨(some 62), .mv (.t 6), none, []⟩,
       ⟨(some 63), .bin .lss (.t 61) (.t 62), none, []⟩,
       ⟨(some 64), .mv (.t 63), none, []⟩,
       ⟨(some 65), .mv (.t 12), (some (64, true)), []⟩,
       ⟨(some 66), .pick (.t 64) (.t 65) (.k (bv false)), none, []⟩])
     (.cond (.t 66) .skip
      (.exit 0)))
    (.seq (.block 1 (.seq (.ops false [⟨(some 69), .mv (.t 5), none, []⟩,
        ⟨(some 70), .bin .sub (.t 69) (.k (iv 1)), none, []⟩,
        ⟨(some 71), .mv (.t 6), none, []⟩,
        ⟨(some 72), .bin .mul (.t 70) (.t 71), none, []⟩,
        ⟨(some 15), .mv (.t 72), none, []⟩])
      (.block 2 (.loop [1, 5, 6, 8, 9, 10, 11, 12, 13, 14, 15] (.seq (.seq (.ops false [⟨(some 73), .mv (.t 15), none, []⟩,
           ⟨(some 74), .mv (.t 5), none, []⟩,
           ⟨(some 75), .mv (.t 6), none, []⟩,
           ⟨(some 76), .bin .mul (.t 74) (.t 75), none, []⟩,
           ⟨(some 77), .bin .lss (.t 73) (.t 76), none, []⟩])
         (.cond (.t 77) .skip
          (.exit 2)))
        (.seq (.block 3 (.ops true [⟨(some 80), .mv (.t 13), none, []⟩,
           ⟨(some 81), .mv (.t 80), none, []⟩,
           ⟨(some 82), .mv (.t 10), (some (81, false)), []⟩,
           ⟨(some 83), .mv (.t 14), (some (81, false)), []⟩,
           ⟨(some 84), .idxA 1 (.t 82) (.t 83), (some (81, false)), []⟩,
           ⟨(some 85), .load false 1 (.t 84), (some (81, false)), []⟩,
           ⟨(some 86), .bin .gtr (.t 85) (.k (iv 0)), (some (81, false)), []⟩,
           ⟨(some 87), .mv (.t 86), (some (81, false)), []⟩,
           ⟨(some 88), .mv (.t 10), (some (87, true)), []⟩,
           ⟨(some 89), .mv (.t 14), (some (87, true)), []⟩,
           ⟨(some 90), .idxA 1 (.t 88) (.t 89), (some (87, true)), []⟩,
           ⟨(some 91), .load false 1 (.t 90), (some (87, true)), []⟩,
           ⟨(some 92), .mv (.t 10), (some (87, true)), []⟩,
           ⟨(some 93), .mv (.t 15), (some (87, true)), []⟩,
           ⟨(some 94), .idxA 1 (.t 92) (.t 93), (some (87, true)), []⟩,
           ⟨(some 95), .load false 1 (.t 94), (some (87, true)), []⟩,
           ⟨(some 96), .bin .eql (.t 91) (.t 95), (some (87, true)), []⟩,
           ⟨(some 97), .pick (.t 87) (.t 96) (.k (bv false)), (some (81, false)), []⟩,
           ⟨(some 98), .pick (.t 81) (.k (bv true)) (.t 97), none, []⟩,
           ⟨(some 13), .mv (.t 98), none, []⟩]))
        (.ops false [⟨(some 78), .mv (.t 15), none, []⟩,
         ⟨(some 79), .bin .add (.t 78) (.k (iv 1)), none, []⟩,
         ⟨(some 15), .mv (.t 79), none, []⟩])))))))
    (.ops false [⟨(some 67), .mv (.t 14), none, []⟩,
     ⟨(some 68), .bin .add (.t 67) (.k (iv 1)), none, []⟩,
     ⟨(some 14), .mv (.t 68), none, []⟩]))))))
 (.seq (.ops false [⟨(some 100), .mv (.t 5), none, []⟩,
   ⟨(some 101), .mv (.t 6), none, []⟩,
   ⟨(some 102), .call (.f 14) [(.t 100), (.t 101)], none, []⟩,
   ⟨(some 99), .mv (.t 102), none, []⟩,
   ⟨(some 103), .ext (.t 99) 0, none, []⟩,
   ⟨(some 104), .ext (.t 99) 1, none, []⟩,
   ⟨(some 16), .mv (.t 103), none, []⟩,
   ⟨(some 17), .mv (.t 104), none, []⟩])
 (.seq (.seq (.ops false [⟨(some 105), .mv (.t 9), none, []⟩,
    ⟨(some 106), .un .not (.t 105), none, []⟩,
    ⟨(some 107), .mv (.t 106), none, []⟩,
    ⟨(some 108), .mv (.t 12), (some (107, false)), []⟩,
    ⟨(some 109), .un .not (.t 108), (some (107, false)), []⟩,
    ⟨(some 110), .pick (.t 107) (.k (bv true)) (.t 109), none, []⟩,
    ⟨(some 111), .mv (.t 110), none, []⟩,
    ⟨(some 112), .mv (.t 17), (some (111, false)), []⟩,
    ⟨(some 113), .un .not (.t 112), (some (111, false)), []⟩,
    ⟨(some 114), .pick (.t 111) (.k (bv true)) (.t 113), none, []⟩,
    ⟨(some 115), .mv (.t 114), none, []⟩,
    ⟨(some 116), .mv (.t 11), (some (115, false)), []⟩,
    ⟨(some 117), .bin .lss (.t 116) (.k (iv 0)), (some (115, false)), []⟩,
    ⟨(some 118), .pick (.t 115) (.k (bv true)) (.t 117), none, []⟩,
    ⟨(some 119), .mv (.t 118), none, []⟩,
    ⟨(some 120), .mv (.t 8), (some (119, false)), []⟩,
    ⟨(some 121), .mv (.t 13), (some (119, false)), []⟩,
    ⟨(some 122), .beq true (.t 120) (.t 121), (some (119, false)), []⟩,
    ⟨(some 123), .pick (.t 119) (.k (bv true)) (.t 122), none, []⟩,
    ⟨(some 124), .mv (.t 123), none, []⟩,
    ⟨(some 125), .mv (.t 16), (some (124, false)), []⟩,
    ⟨(some 126), .len false (.t 125), (some (124, false)), []⟩,
    ⟨(some 127), .mv (.t 5), (some (124, false)), []⟩,
    ⟨(some 128), .mv (.t 6), (some (124, false)), []⟩,
    ⟨(some 129), .bin .mul (.t 127) (.t 128), (some (124, false)), []⟩,
    ⟨(some 130), .bin .add (.t 129) (.k (iv 1)), (some (124, false)), []⟩,
    ⟨(some 131), .bin .neq (.t 126) (.t 130), (some (124, false)), []⟩,
    ⟨(some 132), .pick (.t 124) (.k (bv true)) (.t 131), none, []⟩])
  (.cond (.t 132) (.seq (.ops false [⟨(some 4), .mv (.k (bv false)), none, []⟩])
   .ret)
   .skip))
 (.seq (.ops false [⟨(some 133), .mv (.t 5), none, []⟩,
   ⟨(some 134), .mv (.t 6), none, []⟩,
   ⟨(some 135), .bin .mul (.t 133) (.t 134), none, []⟩,
   ⟨(some 18), .mv (.t 135), none, []⟩])
 (.seq (.ops false [⟨(some 19), .mv (.k (iv 1)), none, []⟩])
 (.seq (.seq (.ops false [⟨(some 20), .mv (.k (iv 0)), none, []⟩])
  (.block 4 (.loop [1, 5, 6, 16, 18, 19, 20] (.seq (.seq (.ops false [⟨(some 136), .mv (.t 20), none, []⟩,
       ⟨(some 137), .mv (.t 18), none, []⟩,
       ⟨(some 138), .bin .leq (.t 136) (.t 137), none, []⟩])
     (.cond (.t 138) .skip
      (.exit 4)))
    (.seq (.block 5 (.seq (.seq (.ops false [⟨(some 141), .mv (.t 16), none, []⟩,
         ⟨(some 142), .mv (.t 20), none, []⟩,
         ⟨(some 143), .idxA 1 (.t 141) (.t 142), none, []⟩,
         ⟨(some 144), .load false 1 (.t 143), none, []⟩,
         ⟨(some 145), .bin .lss (.t 144) (.k (iv 0)), none, []⟩,
         ⟨(some 146), .mv (.t 145), none, []⟩,
         ⟨(some 147), .mv (.t 16), (some (146, false)), []⟩,
         ⟨(some 148), .mv (.t 20), (some (146, false)), []⟩,
         ⟨(some 149), .idxA 1 (.t 147) (.t 148), (some (146, false)), []⟩,
         ⟨(some 150), .load false 1 (.t 149), (some (146, false)), []⟩,
         ⟨(some 151), .mv (.t 19), (some (146, false)), []⟩,
         ⟨(some 152), .bin .gtr (.t 150) (.t 151), (some (146, false)), []⟩,
         ⟨(some 153), .pick (.t 146) (.k (bv true)) (.t 152), none, []⟩,
         ⟨(some 154), .mv (.t 153), none, []⟩,
         ⟨(some 155), .mv (.t 20), (some (154, false)), []⟩,
         ⟨(some 156), .mv (.t 5), (some (154, false)), []⟩,
         ⟨(some 157), .bin .lss (.t 155) (.t 156), (some (154, false)), []⟩,
         ⟨(some 158), .mv (.t 157), (some (154, false)), []⟩,
         ⟨(some 159), .mv (.t 16), (some (158, true)), []⟩,
         ⟨(some 160), .mv (.t 20), (some (158, true)), []⟩,
         ⟨(some 161), .idxA 1 (.t 159) (.t 160), (some (158, true)), []⟩,
         ⟨(some 162), .load false 1 (.t 161), (some (158, true)), []⟩,
         ⟨(some 163), .bin .neq (.t 162) (.k (iv 0)), (some (158, true)), []⟩,
         ⟨(some 164), .pick (.t 158) (.t 163) (.k (bv false)), (some (154, false)), []⟩,
         ⟨(some 165), .pick (.t 154) (.k (bv true)) (.t 164), none, []⟩,
         ⟨(some 166), .mv (.t 165), none, []⟩,
         ⟨(some 167), .mv (.t 20), (some (166, false)), []⟩,
         ⟨(some 168), .mv (.t 18), (some (166, false)), []⟩,
         ⟨(some 169), .mv (.t 6), (some (166, false)), []⟩,
         ⟨(some 170), .bin .sub (.t 168) (.t 169), (some (166, false)), []⟩,
         ⟨(some 171), .bin .gtr (.t 167) (.t 170), (some (166, false)), []⟩,
         ⟨(some 172), .mv (.t 171), (some (166, false)), []⟩,
         ⟨(some 173), .mv (.t 16), (some (172, true)), []⟩,
         ⟨(some 174), .mv (.t 20), (some (172, true)), []⟩,
         ⟨(some 175), .idxA 1 (.t 173) (.t 174), (some (172, true)), []⟩,
         ⟨(some 176), .load false 1 (.t 175), (some (172, true)), []⟩,
         ⟨(some 177), .mv (.t 19), (some (172, true)), []⟩,
         ⟨(some 178), .bin .neq (.t 176) (.t 177), (some (172, true)), []⟩,
         ⟨(some 179), .pick (.t 172) (.t 178) (.k (bv false)), (some (166, false)), []⟩,
         ⟨(some 180), .mv (.t 179), (some (166, false)), []⟩,
         ⟨(some 181), .mv (.t 5), (some (180, true)), []⟩,
         ⟨(some 182), .bin .eql (.t 181) (.k (iv 1)), (some (180, true)), []⟩,
         ⟨(some 183), .pick (.t 180) (.t 182) (.k (bv false)), (some (166, false)), []⟩,
         ⟨(some 184), .pick (.t 166) (.k (bv true)) (.t 183), none, []⟩])
       (.cond (.t 184) (.seq (.ops false [⟨(some 4), .mv (.k (bv false)), none, []⟩])
        .ret)
        .skip))
      (.ops false [⟨(some 185), .mv (.t 19), none, []⟩,
       ⟨(some 186), .mv (.t 18), none, []⟩,
       ⟨(some 187), .mv (.t 20), none, []⟩,
       ⟨(some 188), .bin .sub (.t 186) (.t 187), none, []⟩,
       ⟨(some 189), .bin .mul (.t 185) (.t 188), none, []⟩,
       ⟨(some 190), .mv (.t 20), none, []⟩,
       ⟨(some 191), .bin .add (.t 190) (.k (iv 1)), none, []⟩,
       ⟨(some 192), .bin .quo (.t 189) (.t 191), none, []⟩,
       ⟨(some 19), .mv (.t 192), none, []⟩])))
    (.ops false [⟨(some 139), .mv (.t 20), none, []⟩,
     ⟨(some 140), .bin .add (.t 139) (.k (iv 1)), none, []⟩,
     ⟨(some 20), .mv (.t 140), none, []⟩]))))))
 (.seq (.seq (.ops false [⟨(some 193), .mv (.t 16), none, []⟩,
    ⟨(some 194), .mv (.t 18), none, []⟩,
    ⟨(some 195), .idxA 1 (.t 193) (.t 194), none, []⟩,
    ⟨(some 196), .load false 1 (.t 195), none, []⟩,
    ⟨(some 197), .bin .neq (.t 196) (.k (iv 1)), none, []⟩,
    ⟨(some 198), .mv (.t 197), none, []⟩,
    ⟨(some 199), .mv (.t 16), (some (198, false)), []⟩,
    ⟨(some 200), .mv (.t 5), (some (198, false)), []⟩,
    ⟨(some 201), .idxA 1 (.t 199) (.t 200), (some (198, false)), []⟩,
    ⟨(some 202), .load false 1 (.t 201), (some (198, false)), []⟩,
    ⟨(some 203), .mv (.t 6), (some (198, false)), []⟩,
    ⟨(some 204), .bin .lss (.t 202) (.t 203), (some (198, false)), []⟩,
    ⟨(some 205), .pick (.t 198) (.k (bv true)) (.t 204), none, []⟩])
  (.cond (.t 205) (.seq (.ops false [⟨(some 4), .mv (.k (bv false)), none, []⟩])
   .ret)
   .skip))
 (.seq (.ops false [⟨(some 206), .mv (.t 1), none, []⟩,
   ⟨(some 207), .call (.f 20) [(.t 206), (.k (iv 42)), (.k (iv 256))], none, []⟩,
   ⟨(some 208), .bin .mul (.t 207) (.k (iv 65537)), none, []⟩,
   ⟨(some 21), .mv (.t 208), none, []⟩])
 (.seq (.ops false [⟨(some 209), .mv (.t 1), none, []⟩,
   ⟨(some 210), .call (.f 20) [(.t 209), (.k (iv 43)), (.k (iv 9))], none, []⟩,
   ⟨(some 211), .convF .f32 (.t 210), none, []⟩,
   ⟨(some 212), .bin .quo (.t 211) (.k (.c (.float .f32 1090519040))), none, []⟩,
   ⟨(some 22), .mv (.t 212), none, []⟩])
 (.seq (.ops false [⟨(some 214), .mv (.t 5), none, []⟩,
   ⟨(some 215), .mv (.t 6), none, []⟩,
   ⟨(some 216), .mv (.t 22), none, []⟩,
   ⟨(some 217), .mv (.t 21), none, []⟩,
   ⟨(some 218), .call (.f 9) [(.t 214), (.t 215), (.t 216), (.t 217)], none, []⟩,
   ⟨(some 213), .mv (.t 218), none, []⟩,
   ⟨(some 219), .ext (.t 213) 0, none, []⟩,
   ⟨(some 220), .ext (.t 213) 1, none, []⟩,
   ⟨(some 221), .ext (.t 213) 2, none, []⟩,
   ⟨(some 23), .alloc 25 [.int .i64 0, .int .i64 0, .sl 0 0 0], none, []⟩,
   ⟨none, .store 3 (.t 23) (.t 219), none, []⟩,
   ⟨(some 24), .mv (.t 220), none, []⟩,
   ⟨(some 25), .mv (.t 221), none, []⟩])
 (.seq (.ops false [⟨(some 223), .mv (.t 5), none, []⟩,
   ⟨(some 224), .mv (.t 6), none, []⟩,
   ⟨(some 225), .mv (.t 21), none, []⟩,
   ⟨(some 226), .call (.f 9) [(.t 223), (.t 224), (.k (.c (.float .f32 1065353216))), (.t 225)], none, []⟩,
   ⟨(some 222), .mv (.t 226), none, []⟩,
   ⟨(some 227), .ext (.t 222) 0, none, []⟩,
   ⟨(some 228), .ext (.t 222) 1, none, []⟩,
   ⟨(some 229), .ext (.t 222) 2, none, []⟩,
   ⟨(some 26), .alloc 25 [.int .i64 0, .int .i64 0, .sl 0 0 0], none, []⟩,
   ⟨none, .store 3 (.t 26) (.t 227), none, []⟩,
   ⟨(some 27), .mv (.t 228), none, []⟩,
   ⟨(some 28), .mv (.t 229), none, []⟩])
 (.seq (.ops false [⟨(some 231), .mv (.t 5), none, []⟩,
   ⟨(some 232), .mv (.t 6), none, []⟩,
   ⟨(some 233), .mv (.t 21), none, []⟩,
   ⟨(some 234), .call (.f 9) [(.t 231), (.t 232), (.k (.c (.float .f32 0))), (.t 233)], none, []⟩,
   ⟨(some 230), .mv (.t 234), none, []⟩,
   ⟨(some 235), .ext (.t 230) 0, none, []⟩,
   ⟨(some 236), .ext (.t 230) 1, none, []⟩,
   ⟨(some 237), .ext (.t 230) 2, none, []⟩,
   ⟨(some 29), .alloc 25 [.int .i64 0, .int .i64 0, .sl 0 0 0], none, []⟩,
   ⟨none, .store 3 (.t 29) (.t 235), none, []⟩,
   ⟨(some 30), .mv (.t 236), none, []⟩,
   ⟨(some 31), .mv (.t 237), none, []⟩])
 (.seq (.seq (.ops false [⟨(some 238), .mv (.t 25), none, []⟩,
    ⟨(some 239), .un .not (.t 238), none, []⟩,
    ⟨(some 240), .mv (.t 239), none, []⟩,
    ⟨(some 241), .mv (.t 28), (some (240, false)), []⟩,
    ⟨(some 242), .un .not (.t 241), (some (240, false)), []⟩,
    ⟨(some 243), .pick (.t 240) (.k (bv true)) (.t 242), none, []⟩,
    ⟨(some 244), .mv (.t 243), none, []⟩,
    ⟨(some 245), .mv (.t 31), (some (244, false)), []⟩,
    ⟨(some 246), .un .not (.t 245), (some (244, false)), []⟩,
    ⟨(some 247), .pick (.t 244) (.k (bv true)) (.t 246), none, []⟩,
    ⟨(some 248), .mv (.t 247), none, []⟩,
    ⟨(some 249), .mv (.t 24), (some (248, false)), []⟩,
    ⟨(some 250), .mv (.t 27), (some (248, false)), []⟩,
    ⟨(some 251), .bin .neq (.t 249) (.t 250), (some (248, false)), []⟩,
    ⟨(some 252), .pick (.t 248) (.k (bv true)) (.t 251), none, []⟩,
    ⟨(some 253), .mv (.t 252), none, []⟩,
    ⟨(some 254), .load true 3 (.t 23), (some (253, false)), []⟩,
    ⟨(some 255), .call (.f 25) [(.t 254)], (some (253, false)), []⟩,
    ⟨(some 256), .un .not (.t 255), (some (253, false)), []⟩,
    ⟨(some 257), .pick (.t 253) (.k (bv true)) (.t 256), none, []⟩])
  (.cond (.t 257) (.seq (.ops false [⟨(some 4), .mv (.k (bv false)), none, []⟩])
   .ret)
   .skip))
 (.seq (.seq (.ops false [⟨(some 32), .mv (.k (iv 0)), none, []⟩])
  (.block 6 (.loop [5, 6, 18, 21, 22, 23, 26, 29, 32] (.seq (.seq (.ops false [⟨(some 258), .mv (.t 32), none, []⟩,
       ⟨(some 259), .mv (.t 18), none, []⟩,
       ⟨(some 260), .bin .lss (.t 258) (.t 259), none, []⟩])
     (.cond (.t 260) .skip
      (.exit 6)))
    (.seq (.block 7 (.seq (.ops false [⟨(some 263), .fieldA 2 (.t 26), none, []⟩,
        ⟨(some 264), .load false 1 (.t 263), none, []⟩,
        ⟨(some 265), .mv (.t 32), none, []⟩,
        ⟨(some 266), .idxA 1 (.t 264) (.t 265), none, []⟩,
        ⟨(some 267), .load false 1 (.t 266), none, []⟩,
        ⟨(some 268), .bin .neq (.t 267) (.k (iv 1)), none, []⟩,
        ⟨(some 269), .mv (.t 268), none, []⟩,
        ⟨(some 270), .fieldA 2 (.t 29), (some (269, false)), []⟩,
        ⟨(some 271), .load false 1 (.t 270), (some (269, false)), []⟩,
        ⟨(some 272), .mv (.t 32), (some (269, false)), []⟩,
        ⟨(some 273), .idxA 1 (.t 271) (.t 272), (some (269, false)), []⟩,
        ⟨(some 274), .load false 1 (.t 273), (some (269, false)), []⟩,
        ⟨(some 275), .bin .neq (.t 274) (.k (iv 0)), (some (269, false)), []⟩,
        ⟨(some 276), .pick (.t 269) (.k (bv true)) (.t 275), none, []⟩,
        ⟨(some 277), .mv (.t 276), none, []⟩,
        ⟨(some 278), .fieldA 2 (.t 23), (some (277, false)), []⟩,
        ⟨(some 279), .load false 1 (.t 278), (some (277, false)), []⟩,
        ⟨(some 280), .mv (.t 32), (some (277, false)), []⟩,
        ⟨(some 281), .idxA 1 (.t 279) (.t 280), (some (277, false)), []⟩,
        ⟨(some 282), .load false 1 (.t 281), (some (277, false)), []⟩,
        ⟨(some 283), .bin .lss (.t 282) (.k (iv 0)), (some (277, false)), []⟩,
        ⟨(some 284), .pick (.t 277) (.k (bv true)) (.t 283), none, []⟩,
        ⟨(some 285), .mv (.t 284), none, []⟩,
        ⟨(some 286), .fieldA 2 (.t 23), (some (285, false)), []⟩,
        ⟨(some 287), .load false 1 (.t 286), (some (285, false)), []⟩,
        ⟨(some 288), .mv (.t 32), (some (285, false)), []⟩,
        ⟨(some 289), .idxA 1 (.t 287) (.t 288), (some (285, false)), []⟩,
        ⟨(some 290), .load false 1 (.t 289), (some (285, false)), []⟩,
        ⟨(some 291), .bin .gtr (.t 290) (.k (iv 1)), (some (285, false)), []⟩,
        ⟨(some 292), .pick (.t 285) (.k (bv true)) (.t 291), none, []⟩])
      (.cond (.t 292) (.seq (.ops false [⟨(some 4), .mv (.k (bv false)), none, []⟩])
       .ret)
       .skip)))
    (.ops false [⟨(some 261), .mv (.t 32), none, []⟩,
     ⟨(some 262), .bin .add (.t 261) (.k (iv 1)), none, []⟩,
     ⟨(some 32), .mv (.t 262), none, []⟩]))))))
 (.seq (.ops false [⟨(some 294), .mv (.t 5), none, []⟩,
   ⟨(some 295), .mv (.t 6), none, []⟩,
   ⟨(some 296), .mv (.t 22), none, []⟩,
   ⟨(some 297), .bin .add (.t 296) (.k (.c (.float .f32 1048576000))), none, []⟩,
   ⟨(some 298), .minmax false (.k (.c (.float .f32 1065353216))) (.t 297), none, []⟩,
   ⟨(some 299), .mv (.t 21), none, []⟩,
   ⟨(some 300), .call (.f 9) [(.t 294), (.t 295), (.t 298), (.t 299)], none, []⟩,
   ⟨(some 293), .mv (.t 300), none, []⟩,
   ⟨(some 301), .ext (.t 293) 0, none, []⟩,
   ⟨(some 302), .ext (.t 293) 1, none, []⟩,
   ⟨(some 303), .ext (.t 293) 2, none, []⟩,
   ⟨(some 33), .alloc 25 [.int .i64 0, .int .i64 0, .sl 0 0 0], none, []⟩,
   ⟨none, .store 3 (.t 33) (.t 301), none, []⟩,
   ⟨(some 34), .mv (.t 302), none, []⟩,
   ⟨(some 35), .mv (.t 303), none, []⟩])
 (.seq (.seq (.ops false [⟨(some 304), .mv (.t 35), none, []⟩,
    ⟨(some 305), .un .not (.t 304), none, []⟩])
  (.cond (.t 305) (.seq (.ops false [⟨(some 4), .mv (.k (bv false)), none, []⟩])
   .ret)
   .skip))
 (.seq (.seq (.ops false [⟨(some 36), .mv (.k (iv 0)), none, []⟩])
  (.block 8 (.loop [18, 23, 33, 36] (.seq (.seq (.ops false [⟨(some 306), .mv (.t 36), none, []⟩,
       ⟨(some 307), .mv (.t 18), none, []⟩,
       ⟨(some 308), .bin .lss (.t 306) (.t 307), none, []⟩])
     (.cond (.t 308) .skip
      (.exit 8)))
    (.seq (.block 9 (.seq (.ops true [⟨(some 311), .fieldA 2 (.t 23), none, []⟩,
        ⟨(some 312), .load false 1 (.t 311), none, []⟩,
        ⟨(some 313), .mv (.t 36), none, []⟩,
        ⟨(some 314), .idxA 1 (.t 312) (.t 313), none, []⟩,
        ⟨(some 315), .load false 1 (.t 314), none, []⟩,
        ⟨(some 316), .fieldA 2 (.t 33), none, []⟩,
        ⟨(some 317), .load false 1 (.t 316), none, []⟩,
        ⟨(some 318), .mv (.t 36), none, []⟩,
        ⟨(some 319), .idxA 1 (.t 317) (.t 318), none, []⟩,
        ⟨(some 320), .load false 1 (.t 319), none, []⟩,
        ⟨(some 321), .bin .gtr (.t 315) (.t 320), none, []⟩])
      (.cond (.t 321) (.seq (.ops false [⟨(some 4), .mv (.k (bv false)), none, []⟩])
       .ret)
       .skip)))
    (.ops false [⟨(some 309), .mv (.t 36), none, []⟩,
     ⟨(some 310), .bin .add (.t 309) (.k (iv 1)), none, []⟩,
     ⟨(some 36), .mv (.t 310), none, []⟩]))))))
 (.seq (.ops false [⟨(some 4), .mv (.k (bv true)), none, []⟩])
 .ret))))))))))))))))))))))))))⟩
theorem code6 : acode Try.prog hints 6 = some L6 := by kernel_rfl


/-- What is found in the first 'i' columns. -/
def Fnd (cl : List Int) (T C i : Nat) : Prop := ∃ j, j < i ∧ 0 < cl.getD j 0 ∧ ∃ k, T - C ≤ k ∧ k < T ∧ cl.getD k 0 = cl.getD j 0
def FndK (cl : List Int) (T C i k : Nat) : Prop := Fnd cl T C i ∨ (0 < cl.getD i 0 ∧ ∃ j, T - C ≤ j ∧ j < k ∧ cl.getD j 0 = cl.getD i 0)
theorem FndK.next {cl : List Int} {T C i : Nat} : FndK cl T C i T ↔ Fnd cl T C (i + 1) := by
  constructor
  · rintro (⟨j, h1, h2⟩ | ⟨h1, j, h2, h3, h4⟩)
    · exact ⟨j, by omega, h2⟩
    · exact ⟨i, by omega, h1, j, h2, h3, h4⟩
  · rintro ⟨j, h1, h2, k, h3, h4, h5⟩
    by_cases e : j = i
    · subst e; exact .inr ⟨h2, k, h3, h4, h5⟩
    · exact .inl ⟨j, by omega, h2, k, h3, h4, h5⟩
theorem FndK.zero {cl : List Int} {T C i : Nat} : FndK cl T C i (T - C) ↔ Fnd cl T C i := by
  constructor
  · rintro (h | ⟨_, j, h2, h3, _⟩)
    · exact h
    · omega
  · exact .inl
theorem FndK.succ {cl : List Int} {T C i k : Nat} (hk : T - C ≤ k) : FndK cl T C i (k + 1) ↔ FndK cl T C i k ∨ (0 < cl.getD i 0 ∧ cl.getD i 0 = cl.getD k 0) := by
  constructor
  · rintro (h | ⟨h1, j, h2, h3, h4⟩)
    · exact .inl (.inl h)
    · by_cases e : j = k
      · subst e; exact .inr ⟨h1, h4.symm⟩
      · exact .inl (.inr ⟨h1, j, h2, by omega, h4⟩)
  · rintro ((h | ⟨h1, j, h2, h3, h4⟩) | ⟨h1, h2⟩)
    · exact .inl h
    · exact .inr ⟨h1, j, h2, by omega, h4⟩
    · exact .inr ⟨h1, k, hk, by omega, h2.symm⟩
theorem c_FnThrough {s : St} [Wf s] {i0 o0 n0 i1 o1 n1 : Nat} {x0 x1 : List Int} (h0 : ArgE ub s i0 o0 x0) (l0 : x0.length = n0) (b0 : ∀ n ∈ x0, (Lit.int .u8 n).wf = true) (u0 : n0 ≤ 9223372036854775807) (h1 : ArgE ub s i1 o1 x1) (l1 : x1.length = n1) (b1 : ∀ n ∈ x1, (Lit.int .u8 n).wf = true) (u1 : n1 ≤ 9223372036854775807) :
    FnV 6 [.c (.sl i0 o0 n0), .c (.sl i1 o1 n1)] s (bv true) := by
  have c0 := wfU8 b0
  have c1 := wfU8 b1
  refine F_start code6 ?_
  by_cases hlong : 48 < n0 ∨ 48 < n1
  · repeat' (first
 | refine A_go rfl ?_ | refine A_ifT rfl rfl ?_ | refine A_ifF rfl rfl ?_
 | refine A_offP rfl rfl ?_ | refine A_offH rfl rfl ?_ | refine A_off0 rfl rfl ?_
 | refine A_add rfl rfl rfl (by omega) ?_ | refine A_sub rfl rfl rfl (by omega) ?_ | refine A_mul rfl rfl rfl (by omega) ?_ | refine A_quo rfl rfl rfl (by omega) ?_
 | ((first | refine A_lt rfl rfl rfl ?_ ?_ | refine A_le rfl rfl rfl ?_ ?_ | refine A_gt rfl rfl rfl ?_ ?_ | refine A_eq rfl rfl rfl ?_ ?_ | refine A_ne rfl rfl rfl ?_ ?_ | refine A_beq rfl rfl rfl ?_ ?_) <;> intro hc <;> try first | contradiction | (exfalso; omega) | exact absurd rfl hc)
 | refine A_idxN1 rfl rfl rfl (by omega) ?_ | refine A_idx1 rfl rfl rfl (by omega) ?_
 | (refine A_callB rfl rfl (fun s H => c_r8Long) ?_ ?_ <;> intro hc <;> try first | contradiction | (exfalso; omega) | exact absurd rfl hc | exact absurd (And.intro rfl rfl) hc | exact absurd (And.intro rfl (And.intro rfl rfl)) hc | exact absurd (Eq.trans (by assumption) (Eq.symm (by assumption))) hc)
 | refine A_fld rfl rfl ?_ | refine A_p (by rfl) rfl ?_
 | refine A_ldI rfl (by first | omega | (simp; done) | (simp; omega)) rfl ?_ | refine A_ldB rfl (by first | omega | (simp; done) | (simp; omega)) rfl ?_ | refine A_ld rfl (by rfl) rfl ?_
 | refine A_ldW rfl (by simp) rfl ?_
 | refine A_stW rfl rfl (by simp) rfl ?_
 | ((first | refine A_alloc rfl ?_) <;> intro pz hpz)
 | refine A_ret1 rfl (by exact (RP.t rfl RP.nil)) ?_)
    exact R_v rfl
  repeat' (first
 | refine A_go rfl ?_ | refine A_ifT rfl rfl ?_ | refine A_ifF rfl rfl ?_
 | refine A_offP rfl rfl ?_ | refine A_offH rfl rfl ?_ | refine A_off0 rfl rfl ?_
 | refine A_add rfl rfl rfl (by omega) ?_ | refine A_sub rfl rfl rfl (by omega) ?_ | refine A_mul rfl rfl rfl (by omega) ?_ | refine A_quo rfl rfl rfl (by omega) ?_
 | ((first | refine A_lt rfl rfl rfl ?_ ?_ | refine A_le rfl rfl rfl ?_ ?_ | refine A_gt rfl rfl rfl ?_ ?_ | refine A_eq rfl rfl rfl ?_ ?_ | refine A_ne rfl rfl rfl ?_ ?_ | refine A_beq rfl rfl rfl ?_ ?_) <;> intro hc <;> try first | contradiction | (exfalso; omega) | exact absurd rfl hc)
 | refine A_idxN1 rfl rfl rfl (by omega) ?_ | refine A_idx1 rfl rfl rfl (by omega) ?_
 | (refine A_callB rfl rfl (fun s H => c_r8Long) ?_ ?_ <;> intro hc <;> try first | contradiction | (exfalso; omega) | exact absurd rfl hc | exact absurd (And.intro rfl rfl) hc | exact absurd (And.intro rfl (And.intro rfl rfl)) hc | exact absurd (Eq.trans (by assumption) (Eq.symm (by assumption))) hc)
 | (refine A_callM rfl rfl (fun s H => c_r8At (hl := l1) (hr := c1)) ?_; rintro _ _ ⟨⟨x, rfl, hx⟩, rfl⟩) | (refine A_callM0 rfl rfl (fun s H => c_r8At (hl := l1) (hr := c1)) ?_; rintro _ _ ⟨⟨x, rfl, hx⟩, rfl⟩)
 | refine A_fld rfl rfl ?_ | refine A_p (by rfl) rfl ?_
 | refine A_ldI rfl (by first | omega | (simp; done) | (simp; omega)) rfl ?_ | refine A_ldB rfl (by first | omega | (simp; done) | (simp; omega)) rfl ?_ | refine A_ld rfl (by rfl) rfl ?_
 | refine A_ldW rfl (by simp) rfl ?_
 | refine A_stW rfl rfl (by simp) rfl ?_
 | ((first | refine A_alloc rfl ?_) <;> intro pz hpz)
 | refine A_ret1 rfl (by exact (RP.t rfl RP.nil)) ?_)
  rename_i xr hxr
  obtain ⟨R, hR⟩ : ∃ R : Nat, 1 + xr = R := ⟨(1 + xr).toNat, by omega⟩
  obtain ⟨C, hC⟩ : ∃ C : Nat, 1 + x = C := ⟨(1 + x).toNat, by omega⟩
  rw [hC, hR]
  have hR4 : 1 ≤ R ∧ R ≤ 4 := by omega
  have hC3 : 1 ≤ C ∧ C ≤ 3 := by omega
  clear hxr hx hR hC
  obtain ⟨T, hT⟩ : ∃ T, R * C = T := ⟨_, rfl⟩
  have hT12 : T ≤ 12 := by rw [← hT]; exact Nat.mul_le_mul hR4.2 hC3.2
  have hTC : C ≤ T := by rw [← hT]; exact Nat.le_mul_of_pos_left C (by omega)
  have hTR : R ≤ T := by rw [← hT]; exact Nat.le_mul_of_pos_right R (by omega)
  have eT : (R : Int) * C = T := by rw [← hT]; push_cast; rfl
  have eT1 : ((R : Int) - 1) * C = ((T - C : Nat) : Int) := by rw [Int.sub_mul]; omega
  repeat' (first
 | refine A_go rfl ?_ | refine A_ifT rfl rfl ?_ | refine A_ifF rfl rfl ?_
 | refine A_offP rfl rfl ?_ | refine A_offH rfl rfl ?_ | refine A_off0 rfl rfl ?_
 | refine A_add rfl rfl rfl (by omega) ?_ | refine A_sub rfl rfl rfl (by omega) ?_ | refine A_mul rfl rfl rfl (by omega) ?_ | refine A_quo rfl rfl rfl (by omega) ?_
 | ((first | refine A_lt rfl rfl rfl ?_ ?_ | refine A_le rfl rfl rfl ?_ ?_ | refine A_gt rfl rfl rfl ?_ ?_ | refine A_eq rfl rfl rfl ?_ ?_ | refine A_ne rfl rfl rfl ?_ ?_ | refine A_beq rfl rfl rfl ?_ ?_) <;> intro hc <;> try first | contradiction | (exfalso; omega) | exact absurd rfl hc)
 | refine A_idxN1 rfl rfl rfl (by omega) ?_ | refine A_idx1 rfl rfl rfl (by omega) ?_
 | (refine A_callM rfl rfl (fun s H => c_R8Field (hl := l0) (hr := c0)) ?_; rintro _ _ ⟨pz, xs, rfl, hv, hxm, rfl⟩) | (refine A_callM0 rfl rfl (fun s H => c_R8Field (hl := l0) (hr := c0)) ?_; rintro _ _ ⟨pz, xs, rfl, hv, hxm, rfl⟩)
 | refine A_fld rfl rfl ?_ | refine A_p (by rfl) rfl ?_
 | refine A_ldI rfl (by first | omega | (simp; done) | (simp; omega)) rfl ?_ | refine A_ldB rfl (by first | omega | (simp; done) | (simp; omega)) rfl ?_ | refine A_ld rfl (by rfl) rfl ?_
 | refine A_ldW rfl (by simp) rfl ?_
 | refine A_stW rfl rfl (by simp) rfl ?_
 | ((first | refine A_alloc rfl ?_) <;> intro pz hpz)
 | refine A_ret1 rfl (by exact (RP.t rfl RP.nil)) ?_)
  have hxl : xs.length = T := by have := hv.2.2.1; omega
  have hsml : SmlP R C := ⟨by omega, by omega⟩
  rw [hT]
  repeat' (first
 | refine A_go rfl ?_ | refine A_ifT rfl rfl ?_ | refine A_ifF rfl rfl ?_
 | refine A_offP rfl rfl ?_ | refine A_offH rfl rfl ?_ | refine A_off0 rfl rfl ?_
 | refine A_add rfl rfl rfl (by omega) ?_ | refine A_sub rfl rfl rfl (by omega) ?_ | refine A_mul rfl rfl rfl (by omega) ?_ | refine A_quo rfl rfl rfl (by omega) ?_
 | ((first | refine A_lt rfl rfl rfl ?_ ?_ | refine A_le rfl rfl rfl ?_ ?_ | refine A_gt rfl rfl rfl ?_ ?_ | refine A_eq rfl rfl rfl ?_ ?_ | refine A_ne rfl rfl rfl ?_ ?_ | refine A_beq rfl rfl rfl ?_ ?_) <;> intro hc <;> try first | contradiction | (exfalso; omega) | exact absurd rfl hc)
 | refine A_idxN1 rfl rfl rfl (by omega) ?_ | refine A_idx1 rfl rfl rfl (by omega) ?_
 | refine A_callV rfl rfl (fun s H => c_thrOk) ?_
 | (refine A_callM rfl rfl (fun s H => c_cluOk (T := T) (hT := hT)) ?_; rintro _ _ ⟨pz, rfl, rfl⟩) | (refine A_callM0 rfl rfl (fun s H => c_cluOk (T := T) (hT := hT)) ?_; rintro _ _ ⟨pz, rfl, rfl⟩)
 | refine A_fld rfl rfl ?_ | refine A_p (by rfl) rfl ?_
 | refine A_ldI rfl (by first | omega | (simp; done) | (simp; omega)) rfl ?_ | refine A_ldB rfl (by first | omega | (simp; done) | (simp; omega)) rfl ?_ | refine A_ld rfl (by rfl) rfl ?_
 | refine A_ldW rfl (by simp) rfl ?_
 | refine A_stW rfl rfl (by simp) rfl ?_
 | ((first | refine A_alloc rfl ?_) <;> intro pz hpz)
 | refine A_ret1 rfl (by exact (RP.t rfl RP.nil)) ?_)
  obtain ⟨pcl, hEq⟩ : ∃ p, p = pz := ⟨_, rfl⟩; subst hEq
  obtain ⟨o1', o2', o3'⟩ := cluAll_ok (R := R) (C := C) (xs := xs) T (by omega)
  have hthr : Thr R C xs ↔ Fnd (cluAll R C xs T).1 T C C := by
    unfold Thr Fnd
    rw [hxl, hT]
  generalize (cluAll R C xs T).2 = grp at *
  generalize (cluAll R C xs T).1 = cl at *
  rw [hT] at o1'
  obtain ⟨tb, htb⟩ : ∃ tb : Bool, tt (Thr R C xs) = tb := ⟨_, rfl⟩
  rw [htb]
  have htb2 : tb = true ↔ Fnd cl T C C := by
    rw [← htb, ← hthr]
    by_cases h : Thr R C xs
    · rw [tt_t h]; exact ⟨fun _ => h, fun _ => rfl⟩
    · rw [tt_f h]; exact ⟨fun g => (by cases g), fun g => absurd g h⟩
  refine A_loop rfl [pcl] (fun m fr L => ∃ (i : Nat) (g : Bool), m = C - i ∧ fr = [(1, .c (.sl i1 o1 n1)), (5, iv R), (6, iv C), (8, bv tb), (9, bv true), (10, .c (.sl pcl 0 T)), (11, iv grp), (12, bv true), (13, bv g), (14, iv i)] ∧ L = [(pcl, ints cl)] ∧ i ≤ C ∧ (g = true ↔ Fnd cl T C i)) C ⟨0, false, rfl, rfl, rfl, by omega, ⟨fun h => (by cases h), fun ⟨j, h, _⟩ => by omega⟩⟩ ?_
  rintro m fr L ⟨i, g, rfl, rfl, rfl, hi, hg⟩
  by_cases hi' : i < C
  · repeat' (first
 | refine A_go rfl ?_ | refine A_ifT rfl rfl ?_ | refine A_ifF rfl rfl ?_
 | refine A_offP rfl rfl ?_ | refine A_offH rfl rfl ?_ | refine A_off0 rfl rfl ?_
 | refine A_add rfl rfl rfl (by omega) ?_ | refine A_sub rfl rfl rfl (by omega) ?_ | refine A_mul rfl rfl rfl (by omega) ?_ | refine A_quo rfl rfl rfl (by omega) ?_
 | ((first | refine A_lt rfl rfl rfl ?_ ?_ | refine A_le rfl rfl rfl ?_ ?_ | refine A_gt rfl rfl rfl ?_ ?_ | refine A_eq rfl rfl rfl ?_ ?_ | refine A_ne rfl rfl rfl ?_ ?_ | refine A_beq rfl rfl rfl ?_ ?_) <;> intro hc <;> try first | contradiction | (exfalso; omega) | exact absurd rfl hc)
 | refine A_idxN1 rfl rfl rfl (by omega) ?_ | refine A_idx1 rfl rfl rfl (by omega) ?_
 | rw [eT1]
 | refine A_fld rfl rfl ?_ | refine A_p (by rfl) rfl ?_
 | refine A_ldI rfl (by first | omega | (simp; done) | (simp; omega)) rfl ?_ | refine A_ldB rfl (by first | omega | (simp; done) | (simp; omega)) rfl ?_ | refine A_ld rfl (by rfl) rfl ?_
 | refine A_ldW rfl (by simp) rfl ?_
 | refine A_stW rfl rfl (by simp) rfl ?_
 | ((first | refine A_alloc rfl ?_) <;> intro pz hpz)
 | refine A_ret1 rfl (by exact (RP.t rfl RP.nil)) ?_)
    refine A_loop rfl [pcl] (fun m fr L => ∃ (k : Nat) (g : Bool), m = T - k ∧ fr = [(1, .c (.sl i1 o1 n1)), (5, iv R), (6, iv C), (8, bv tb), (9, bv true), (10, .c (.sl pcl 0 T)), (11, iv grp), (12, bv true), (13, bv g), (14, iv i), (15, iv k)] ∧ L = [(pcl, ints cl)] ∧ T - C ≤ k ∧ k ≤ T ∧ (g = true ↔ FndK cl T C i k)) C ⟨T - C, g, by omega, rfl, rfl, by omega, by omega, hg.trans FndK.zero.symm⟩ ?_
    rintro m fr L ⟨k, g, rfl, rfl, rfl, hk1, hk, hg⟩
    by_cases hk' : k < T
    · have hsu := FndK.succ (cl := cl) (i := i) hk1
      cases g with
      | true =>
        repeat' (first
 | refine A_go rfl ?_ | refine A_ifT rfl rfl ?_ | refine A_ifF rfl rfl ?_
 | refine A_offP rfl rfl ?_ | refine A_offH rfl rfl ?_ | refine A_off0 rfl rfl ?_
 | refine A_add rfl rfl rfl (by omega) ?_ | refine A_sub rfl rfl rfl (by omega) ?_ | refine A_mul rfl rfl rfl (by omega) ?_ | refine A_quo rfl rfl rfl (by omega) ?_
 | ((first | refine A_lt rfl rfl rfl ?_ ?_ | refine A_le rfl rfl rfl ?_ ?_ | refine A_gt rfl rfl rfl ?_ ?_ | refine A_eq rfl rfl rfl ?_ ?_ | refine A_ne rfl rfl rfl ?_ ?_ | refine A_beq rfl rfl rfl ?_ ?_) <;> intro hc <;> try first | contradiction | (exfalso; omega) | exact absurd rfl hc)
 | refine A_idxN1 rfl rfl rfl (by omega) ?_ | refine A_idx1 rfl rfl rfl (by omega) ?_
 | rw [eT]
 | refine A_fld rfl rfl ?_ | refine A_p (by rfl) rfl ?_
 | refine A_ldI rfl (by first | omega | (simp; done) | (simp; omega)) rfl ?_ | refine A_ldB rfl (by first | omega | (simp; done) | (simp; omega)) rfl ?_ | refine A_ld rfl (by rfl) rfl ?_
 | refine A_ldW rfl (by simp) rfl ?_
 | refine A_stW rfl rfl (by simp) rfl ?_
 | ((first | refine A_alloc rfl ?_) <;> intro pz hpz)
 | refine A_ret1 rfl (by exact (RP.t rfl RP.nil)) ?_)
        refine A_round rfl [pcl] (T - (k + 1)) (by omega) ?_
        exact ⟨k + 1, true, rfl, rfl, rfl, by omega, by omega, ⟨fun _ => hsu.2 (.inl (hg.1 rfl)), fun _ => rfl⟩⟩
      | false =>
        have hnf : ¬ FndK cl T C i k := fun h => by have := hg.2 h; cases this
        by_cases q1 : 0 < cl.getD i 0
        · by_cases q2 : cl.getD i 0 = cl.getD k 0
          · repeat' (first
 | refine A_go rfl ?_ | refine A_ifT rfl rfl ?_ | refine A_ifF rfl rfl ?_
 | refine A_offP rfl rfl ?_ | refine A_offH rfl rfl ?_ | refine A_off0 rfl rfl ?_
 | refine A_add rfl rfl rfl (by omega) ?_ | refine A_sub rfl rfl rfl (by omega) ?_ | refine A_mul rfl rfl rfl (by omega) ?_ | refine A_quo rfl rfl rfl (by omega) ?_
 | ((first | refine A_lt rfl rfl rfl ?_ ?_ | refine A_le rfl rfl rfl ?_ ?_ | refine A_gt rfl rfl rfl ?_ ?_ | refine A_eq rfl rfl rfl ?_ ?_ | refine A_ne rfl rfl rfl ?_ ?_ | refine A_beq rfl rfl rfl ?_ ?_) <;> intro hc <;> try first | contradiction | (exfalso; omega) | exact absurd rfl hc)
 | refine A_idxN1 rfl rfl rfl (by omega) ?_ | refine A_idx1 rfl rfl rfl (by omega) ?_
 | rw [eT]
 | refine A_fld rfl rfl ?_ | refine A_p (by rfl) rfl ?_
 | refine A_ldI rfl (by first | omega | (simp; done) | (simp; omega)) rfl ?_ | refine A_ldB rfl (by first | omega | (simp; done) | (simp; omega)) rfl ?_ | refine A_ld rfl (by rfl) rfl ?_
 | refine A_ldW rfl (by simp) rfl ?_
 | refine A_stW rfl rfl (by simp) rfl ?_
 | ((first | refine A_alloc rfl ?_) <;> intro pz hpz)
 | refine A_ret1 rfl (by exact (RP.t rfl RP.nil)) ?_)
            refine A_round rfl [pcl] (T - (k + 1)) (by omega) ?_
            exact ⟨k + 1, true, rfl, rfl, rfl, by omega, by omega, ⟨fun _ => hsu.2 (.inr ⟨q1, q2⟩), fun _ => rfl⟩⟩
          · repeat' (first
 | refine A_go rfl ?_ | refine A_ifT rfl rfl ?_ | refine A_ifF rfl rfl ?_
 | refine A_offP rfl rfl ?_ | refine A_offH rfl rfl ?_ | refine A_off0 rfl rfl ?_
 | refine A_add rfl rfl rfl (by omega) ?_ | refine A_sub rfl rfl rfl (by omega) ?_ | refine A_mul rfl rfl rfl (by omega) ?_ | refine A_quo rfl rfl rfl (by omega) ?_
 | ((first | refine A_lt rfl rfl rfl ?_ ?_ | refine A_le rfl rfl rfl ?_ ?_ | refine A_gt rfl rfl rfl ?_ ?_ | refine A_eq rfl rfl rfl ?_ ?_ | refine A_ne rfl rfl rfl ?_ ?_ | refine A_beq rfl rfl rfl ?_ ?_) <;> intro hc <;> try first | contradiction | (exfalso; omega) | exact absurd rfl hc)
 | refine A_idxN1 rfl rfl rfl (by omega) ?_ | refine A_idx1 rfl rfl rfl (by omega) ?_
 | rw [eT]
 | refine A_fld rfl rfl ?_ | refine A_p (by rfl) rfl ?_
 | refine A_ldI rfl (by first | omega | (simp; done) | (simp; omega)) rfl ?_ | refine A_ldB rfl (by first | omega | (simp; done) | (simp; omega)) rfl ?_ | refine A_ld rfl (by rfl) rfl ?_
 | refine A_ldW rfl (by simp) rfl ?_
 | refine A_stW rfl rfl (by simp) rfl ?_
 | ((first | refine A_alloc rfl ?_) <;> intro pz hpz)
 | refine A_ret1 rfl (by exact (RP.t rfl RP.nil)) ?_)
            refine A_round rfl [pcl] (T - (k + 1)) (by omega) ?_
            exact ⟨k + 1, false, rfl, rfl, rfl, by omega, by omega, ⟨fun h => (by cases h), fun h => ((hsu.1 h).elim (fun h => absurd h hnf) (fun h => absurd h.2 q2))⟩⟩
        · repeat' (first
 | refine A_go rfl ?_ | refine A_ifT rfl rfl ?_ | refine A_ifF rfl rfl ?_
 | refine A_offP rfl rfl ?_ | refine A_offH rfl rfl ?_ | refine A_off0 rfl rfl ?_
 | refine A_add rfl rfl rfl (by omega) ?_ | refine A_sub rfl rfl rfl (by omega) ?_ | refine A_mul rfl rfl rfl (by omega) ?_ | refine A_quo rfl rfl rfl (by omega) ?_
 | ((first | refine A_lt rfl rfl rfl ?_ ?_ | refine A_le rfl rfl rfl ?_ ?_ | refine A_gt rfl rfl rfl ?_ ?_ | refine A_eq rfl rfl rfl ?_ ?_ | refine A_ne rfl rfl rfl ?_ ?_ | refine A_beq rfl rfl rfl ?_ ?_) <;> intro hc <;> try first | contradiction | (exfalso; omega) | exact absurd rfl hc)
 | refine A_idxN1 rfl rfl rfl (by omega) ?_ | refine A_idx1 rfl rfl rfl (by omega) ?_
 | rw [eT]
 | refine A_fld rfl rfl ?_ | refine A_p (by rfl) rfl ?_
 | refine A_ldI rfl (by first | omega | (simp; done) | (simp; omega)) rfl ?_ | refine A_ldB rfl (by first | omega | (simp; done) | (simp; omega)) rfl ?_ | refine A_ld rfl (by rfl) rfl ?_
 | refine A_ldW rfl (by simp) rfl ?_
 | refine A_stW rfl rfl (by simp) rfl ?_
 | ((first | refine A_alloc rfl ?_) <;> intro pz hpz)
 | refine A_ret1 rfl (by exact (RP.t rfl RP.nil)) ?_)
          refine A_round rfl [pcl] (T - (k + 1)) (by omega) ?_
          exact ⟨k + 1, false, rfl, rfl, rfl, by omega, by omega, ⟨fun h => (by cases h), fun h => ((hsu.1 h).elim (fun h => absurd h hnf) (fun h => absurd h.1 q1))⟩⟩
    · obtain rfl : T = k := by omega
      repeat' (first
 | refine A_go rfl ?_ | refine A_ifT rfl rfl ?_ | refine A_ifF rfl rfl ?_
 | refine A_offP rfl rfl ?_ | refine A_offH rfl rfl ?_ | refine A_off0 rfl rfl ?_
 | refine A_add rfl rfl rfl (by omega) ?_ | refine A_sub rfl rfl rfl (by omega) ?_ | refine A_mul rfl rfl rfl (by omega) ?_ | refine A_quo rfl rfl rfl (by omega) ?_
 | ((first | refine A_lt rfl rfl rfl ?_ ?_ | refine A_le rfl rfl rfl ?_ ?_ | refine A_gt rfl rfl rfl ?_ ?_ | refine A_eq rfl rfl rfl ?_ ?_ | refine A_ne rfl rfl rfl ?_ ?_ | refine A_beq rfl rfl rfl ?_ ?_) <;> intro hc <;> try first | contradiction | (exfalso; omega) | exact absurd rfl hc)
 | refine A_idxN1 rfl rfl rfl (by omega) ?_ | refine A_idx1 rfl rfl rfl (by omega) ?_
 | rw [eT]
 | refine A_fld rfl rfl ?_ | refine A_p (by rfl) rfl ?_
 | refine A_ldI rfl (by first | omega | (simp; done) | (simp; omega)) rfl ?_ | refine A_ldB rfl (by first | omega | (simp; done) | (simp; omega)) rfl ?_ | refine A_ld rfl (by rfl) rfl ?_
 | refine A_ldW rfl (by simp) rfl ?_
 | refine A_stW rfl rfl (by simp) rfl ?_
 | ((first | refine A_alloc rfl ?_) <;> intro pz hpz)
 | refine A_ret1 rfl (by exact (RP.t rfl RP.nil)) ?_)
      refine A_round rfl [pcl] (C - (i + 1)) (by omega) ?_
      exact ⟨i + 1, g, rfl, rfl, rfl, by omega, hg.trans FndK.next⟩
  obtain rfl : C = i := by omega
  obtain rfl : tb = g := by
    have := htb2.trans hg.symm
    cases tb <;> cases g <;> simp_all
  repeat' (first
 | refine A_go rfl ?_ | refine A_ifT rfl rfl ?_ | refine A_ifF rfl rfl ?_
 | refine A_offP rfl rfl ?_ | refine A_offH rfl rfl ?_ | refine A_off0 rfl rfl ?_
 | refine A_add rfl rfl rfl (by omega) ?_ | refine A_sub rfl rfl rfl (by omega) ?_ | refine A_mul rfl rfl rfl (by omega) ?_ | refine A_quo rfl rfl rfl (by omega) ?_
 | ((first | refine A_lt rfl rfl rfl ?_ ?_ | refine A_le rfl rfl rfl ?_ ?_ | refine A_gt rfl rfl rfl ?_ ?_ | refine A_eq rfl rfl rfl ?_ ?_ | refine A_ne rfl rfl rfl ?_ ?_ | refine A_beq rfl rfl rfl ?_ ?_) <;> intro hc <;> try first | contradiction | (exfalso; omega) | exact absurd rfl hc)
 | refine A_idxN1 rfl rfl rfl (by omega) ?_ | refine A_idx1 rfl rfl rfl (by omega) ?_
 | (refine A_callM rfl rfl (fun s H => c_cthOk (T := T) (hp := hsml) (hT := hT)) ?_; rintro _ _ ⟨pz, rfl, rfl⟩) | (refine A_callM0 rfl rfl (fun s H => c_cthOk (T := T) (hp := hsml) (hT := hT)) ?_; rintro _ _ ⟨pz, rfl, rfl⟩)
 | rw [eT]
 | refine A_fld rfl rfl ?_ | refine A_p (by rfl) rfl ?_
 | refine A_ldI rfl (by first | omega | (simp; done) | (simp; omega)) rfl ?_ | refine A_ldB rfl (by first | omega | (simp; done) | (simp; omega)) rfl ?_ | refine A_ld rfl (by rfl) rfl ?_
 | refine A_ldW rfl (by simp) rfl ?_
 | refine A_stW rfl rfl (by simp) rfl ?_
 | ((first | refine A_alloc rfl ?_) <;> intro pz hpz)
 | refine A_ret1 rfl (by exact (RP.t rfl RP.nil)) ?_)
  obtain ⟨pct, hEq⟩ : ∃ p, p = pz := ⟨_, rfl⟩; subst hEq
  have hctl : (thrR R C).length = T + 1 := by rw [thrR]; simp only [Int.toNat_natCast, hT]; simp
  have w1 : ∀ k, k < T + 1 → 0 ≤ (thrR R C).getD k 0 ∧ (thrR R C).getD k 0 ≤ ch T k := fun k hk => thr_le hT hk
  have w2 : ∀ k, k < T + 1 → k < R → (thrR R C).getD k 0 = 0 := fun k hk h => thr_few hT hk (by omega) h
  have w3 : (thrR R C).getD T 0 = 1 := thr_all hT (by omega) (by omega) (by omega)
  have w4 : ∀ k, k < T + 1 → R = 1 → 0 < k → (thrR R C).getD k 0 = ch T k := fun k hk h g => by
    subst h
    rw [Nat.one_mul] at hT; subst hT
    exact thr_row hk g
  have w5 : (C : Int) ≤ (thrR R C).getD R 0 := thr_cols hT (by omega) (by omega)
  have w6 : R = 1 → T = C := fun h => by rw [← hT, h, Nat.one_mul]
  generalize thrR R C = ct at *
  refine A_loop rfl [pct] (fun m fr L => ∃ (k : Nat), m = T + 1 - k ∧ fr = [(1, .c (.sl i1 o1 n1)), (5, iv R), (6, iv C), (16, .c (.sl pct 0 (T + 1))), (18, iv T), (19, iv (ch T k)), (20, iv k)] ∧ L = [(pct, ints ct)] ∧ k ≤ T + 1) (T + 1) ⟨0, rfl, by rw [show ch T 0 = 1 by cases T <;> rfl]; rfl, rfl, by omega⟩ ?_
  rintro m fr L ⟨k, rfl, rfl, rfl, hk⟩
  by_cases hk' : k < T + 1
  · have y1 := w1 k hk'
    have y2 := w2 k hk'
    have y4 := w4 k hk'
    obtain ⟨y5, y6, y7⟩ := ch_next T (by omega) k hk'
    have y8 : 0 ≤ ch T k * ((T : Int) - k) ∧ ch T k * ((T : Int) - k) ≤ 1000 * 12 := ⟨Int.mul_nonneg y6 (by omega), Int.mul_le_mul y7 (by omega) (by omega) (by omega)⟩
    repeat' (first
 | refine A_go rfl ?_ | refine A_ifT rfl rfl ?_ | refine A_ifF rfl rfl ?_
 | refine A_offP rfl rfl ?_ | refine A_offH rfl rfl ?_ | refine A_off0 rfl rfl ?_
 | refine A_add rfl rfl rfl (by omega) ?_ | refine A_sub rfl rfl rfl (by omega) ?_ | refine A_mul rfl rfl rfl (by omega) ?_ | refine A_quo rfl rfl rfl (by omega) ?_
 | ((first | refine A_lt rfl rfl rfl ?_ ?_ | refine A_le rfl rfl rfl ?_ ?_ | refine A_gt rfl rfl rfl ?_ ?_ | refine A_eq rfl rfl rfl ?_ ?_ | refine A_ne rfl rfl rfl ?_ ?_ | refine A_beq rfl rfl rfl ?_ ?_) <;> intro hc <;> try first | contradiction | (exfalso; omega) | exact absurd rfl hc)
 | refine A_idxN1 rfl rfl rfl (by omega) ?_ | refine A_idx1 rfl rfl rfl (by omega) ?_
 | refine A_fld rfl rfl ?_ | refine A_p (by rfl) rfl ?_
 | refine A_ldI rfl (by first | omega | (simp; done) | (simp; omega)) rfl ?_ | refine A_ldB rfl (by first | omega | (simp; done) | (simp; omega)) rfl ?_ | refine A_ld rfl (by rfl) rfl ?_
 | refine A_ldW rfl (by simp) rfl ?_
 | refine A_stW rfl rfl (by simp) rfl ?_
 | ((first | refine A_alloc rfl ?_) <;> intro pz hpz)
 | refine A_ret1 rfl (by exact (RP.t rfl RP.nil)) ?_)
    all_goals
      rw [y5]
      refine A_round rfl [pct] (T + 1 - (k + 1)) (by omega) ?_
      exact ⟨k + 1, rfl, rfl, rfl, by omega⟩
  obtain rfl : k = T + 1 := by omega
  repeat' (first
 | refine A_go rfl ?_ | refine A_ifT rfl rfl ?_ | refine A_ifF rfl rfl ?_
 | refine A_offP rfl rfl ?_ | refine A_offH rfl rfl ?_ | refine A_off0 rfl rfl ?_
 | refine A_add rfl rfl rfl (by omega) ?_ | refine A_sub rfl rfl rfl (by omega) ?_ | refine A_mul rfl rfl rfl (by omega) ?_ | refine A_quo rfl rfl rfl (by omega) ?_
 | ((first | refine A_lt rfl rfl rfl ?_ ?_ | refine A_le rfl rfl rfl ?_ ?_ | refine A_gt rfl rfl rfl ?_ ?_ | refine A_eq rfl rfl rfl ?_ ?_ | refine A_ne rfl rfl rfl ?_ ?_ | refine A_beq rfl rfl rfl ?_ ?_) <;> intro hc <;> try first | contradiction | (exfalso; omega) | exact absurd rfl hc)
 | refine A_idxN1 rfl rfl rfl (by omega) ?_ | refine A_idx1 rfl rfl rfl (by omega) ?_
 | (refine A_callM rfl rfl (fun s H => c_r8At (hl := l1) (hr := c1)) ?_; rintro _ _ ⟨⟨x, rfl, hx⟩, rfl⟩) | (refine A_callM0 rfl rfl (fun s H => c_r8At (hl := l1) (hr := c1)) ?_; rintro _ _ ⟨⟨x, rfl, hx⟩, rfl⟩)
 | refine A_fld rfl rfl ?_ | refine A_p (by rfl) rfl ?_
 | refine A_ldI rfl (by first | omega | (simp; done) | (simp; omega)) rfl ?_ | refine A_ldB rfl (by first | omega | (simp; done) | (simp; omega)) rfl ?_ | refine A_ld rfl (by rfl) rfl ?_
 | refine A_ldW rfl (by simp) rfl ?_
 | refine A_stW rfl rfl (by simp) rfl ?_
 | ((first | refine A_alloc rfl ?_) <;> intro pz hpz)
 | refine A_ret1 rfl (by exact (RP.t rfl RP.nil)) ?_)
  rename_i xsd hxsd
  obtain ⟨i, rfl⟩ : ∃ i : Nat, x = i := ⟨x.toNat, by omega⟩
  have hi9 : i < 9 := by omega
  obtain ⟨sd, hsd⟩ : ∃ sd, xsd * 65537 = sd := ⟨_, rfl⟩
  rw [hsd]
  have hsd2 : 0 ≤ sd ∧ sd ≤ 4294967295 := by omega
  obtain ⟨⟨s1, s2⟩, ⟨s3, s4⟩, s5⟩ := sh_ok i hi9
  obtain ⟨s6, s7⟩ := sh_ends
  have hsx := sdN_in hsd2
  have hvd : ∀ a, VF R C (drawL a sd T) := fun a => ⟨by omega, by omega, by rw [drawL_len]; omega, fun y hy => by
    obtain ⟨j, hj, rfl⟩ := mem_get (d := 0) hy
    rw [drawL_len] at hj
    rw [drawL_get hj]
    have := draw_in (a := a) (x := sdN sd (j + 1))
    omega⟩
  have hvd1 := hvd (shV i)
  clear hsd hxsd hx
  repeat' (first
 | refine A_go rfl ?_ | refine A_ifT rfl rfl ?_ | refine A_ifF rfl rfl ?_
 | refine A_offP rfl rfl ?_ | refine A_offH rfl rfl ?_ | refine A_off0 rfl rfl ?_
 | refine A_add rfl rfl rfl (by omega) ?_ | refine A_sub rfl rfl rfl (by omega) ?_ | refine A_mul rfl rfl rfl (by omega) ?_ | refine A_quo rfl rfl rfl (by omega) ?_
 | ((first | refine A_lt rfl rfl rfl ?_ ?_ | refine A_le rfl rfl rfl ?_ ?_ | refine A_gt rfl rfl rfl ?_ ?_ | refine A_eq rfl rfl rfl ?_ ?_ | refine A_ne rfl rfl rfl ?_ ?_ | refine A_beq rfl rfl rfl ?_ ?_) <;> intro hc <;> try first | contradiction | (exfalso; omega) | exact absurd rfl hc)
 | refine A_idxN1 rfl rfl rfl (by omega) ?_ | refine A_idx1 rfl rfl rfl (by omega) ?_
 | refine A_div8 (i := i) rfl rfl hi9 ?_
 | (refine A_callM rfl rfl (fun s H => c_drawOk (T := T) (hT := hT)) ?_; rintro _ _ ⟨pz, rfl, rfl⟩) | (refine A_callM0 rfl rfl (fun s H => c_drawOk (T := T) (hT := hT)) ?_; rintro _ _ ⟨pz, rfl, rfl⟩)
 | refine A_callV rfl rfl (fun s H => c_validOk) ?_
 | refine A_fld rfl rfl ?_ | refine A_p (by rfl) rfl ?_
 | refine A_ldI rfl (by first | omega | (simp; done) | (simp; omega)) rfl ?_ | refine A_ldB rfl (by first | omega | (simp; done) | (simp; omega)) rfl ?_ | refine A_ld rfl (by rfl) rfl ?_
 | refine A_ldW rfl (by simp) rfl ?_
 | refine A_stW rfl rfl (by simp) rfl ?_
 | ((first | refine A_alloc rfl ?_) <;> intro pz hpz)
 | refine A_ret1 rfl (by exact (RP.t rfl RP.nil)) ?_)
  obtain ⟨p29, hEq⟩ : ∃ p, p = pz := ⟨_, rfl⟩; subst hEq
  obtain ⟨pc, hEq⟩ : ∃ p, p = pz := ⟨_, rfl⟩; subst hEq
  obtain ⟨p26, hEq⟩ : ∃ p, p = pz := ⟨_, rfl⟩; subst hEq
  obtain ⟨pb, hEq⟩ : ∃ p, p = pz := ⟨_, rfl⟩; subst hEq
  obtain ⟨p23, hEq⟩ : ∃ p, p = pz := ⟨_, rfl⟩; subst hEq
  obtain ⟨pa, hEq⟩ : ∃ p, p = pz := ⟨_, rfl⟩; subst hEq
  refine A_loop rfl [p23, pa, p26, pb, p29, pc] (fun m fr L => ∃ (j : Nat), m = T - j ∧ fr = [(5, iv R), (6, iv C), (18, iv T), (21, iv sd), (22, .c (.float .f32 (shV i))), (23, .c (.ptr p23 0)), (26, .c (.ptr p26 0)), (29, .c (.ptr p29 0)), (32, iv j)] ∧ L = [(p23, .rw 25 3 (fld R C pa T)), (pa, ints (drawL (shV i) sd T)), (p26, .rw 25 3 (fld R C pb T)), (pb, ints (drawL 1065353216 sd T)), (p29, .rw 25 3 (fld R C pc T)), (pc, ints (drawL 0 sd T))] ∧ j ≤ T) T ⟨0, rfl, rfl, rfl, by omega⟩ ?_
  rintro m fr L ⟨j, rfl, rfl, rfl, hj⟩
  by_cases hj' : j < T
  · have d1 := draw_one (hsx (j + 1))
    have d2 := draw_zero (hsx (j + 1))
    have d3 := draw_in (a := shV i) (x := sdN sd (j + 1))
    rw [← drawL_get hj'] at d1 d2
    have d4 : 0 ≤ (drawL (shV i) sd T).getD j 0 ∧ (drawL (shV i) sd T).getD j 0 ≤ 1 := by rw [drawL_get hj']; exact d3
    repeat' (first
 | refine A_go rfl ?_ | refine A_ifT rfl rfl ?_ | refine A_ifF rfl rfl ?_
 | refine A_offP rfl rfl ?_ | refine A_offH rfl rfl ?_ | refine A_off0 rfl rfl ?_
 | refine A_add rfl rfl rfl (by omega) ?_ | refine A_sub rfl rfl rfl (by omega) ?_ | refine A_mul rfl rfl rfl (by omega) ?_ | refine A_quo rfl rfl rfl (by omega) ?_
 | ((first | refine A_lt rfl rfl rfl ?_ ?_ | refine A_le rfl rfl rfl ?_ ?_ | refine A_gt rfl rfl rfl ?_ ?_ | refine A_eq rfl rfl rfl ?_ ?_ | refine A_ne rfl rfl rfl ?_ ?_ | refine A_beq rfl rfl rfl ?_ ?_) <;> intro hc <;> try first | contradiction | (exfalso; omega) | exact absurd rfl hc)
 | refine A_idxN1 rfl rfl rfl (by omega) ?_ | refine A_idx1 rfl rfl rfl (by omega) ?_
 | refine A_fld rfl rfl ?_ | refine A_p (by rfl) rfl ?_
 | refine A_ldI rfl (by first | omega | (simp; done) | (simp; omega)) rfl ?_ | refine A_ldB rfl (by first | omega | (simp; done) | (simp; omega)) rfl ?_ | refine A_ld rfl (by rfl) rfl ?_
 | refine A_ldW rfl (by simp) rfl ?_
 | refine A_stW rfl rfl (by simp) rfl ?_
 | ((first | refine A_alloc rfl ?_) <;> intro pz hpz)
 | refine A_ret1 rfl (by exact (RP.t rfl RP.nil)) ?_)
    refine A_round rfl [p23, pa, p26, pb, p29, pc] (T - (j + 1)) (by omega) ?_
    exact ⟨j + 1, rfl, rfl, rfl, by omega⟩
  obtain rfl : T = j := by omega
  repeat' (first
 | refine A_go rfl ?_ | refine A_ifT rfl rfl ?_ | refine A_ifF rfl rfl ?_
 | refine A_offP rfl rfl ?_ | refine A_offH rfl rfl ?_ | refine A_off0 rfl rfl ?_
 | refine A_add rfl rfl rfl (by omega) ?_ | refine A_sub rfl rfl rfl (by omega) ?_ | refine A_mul rfl rfl rfl (by omega) ?_ | refine A_quo rfl rfl rfl (by omega) ?_
 | ((first | refine A_lt rfl rfl rfl ?_ ?_ | refine A_le rfl rfl rfl ?_ ?_ | refine A_gt rfl rfl rfl ?_ ?_ | refine A_eq rfl rfl rfl ?_ ?_ | refine A_ne rfl rfl rfl ?_ ?_ | refine A_beq rfl rfl rfl ?_ ?_) <;> intro hc <;> try first | contradiction | (exfalso; omega) | exact absurd rfl hc)
 | refine A_idxN1 rfl rfl rfl (by omega) ?_ | refine A_idx1 rfl rfl rfl (by omega) ?_
 | refine A_addQ (i := i) rfl rfl hi9 ?_
 | refine A_minQ (i := i) rfl rfl hi9 ?_
 | (refine A_callM rfl rfl (fun s H => c_drawOk (T := T) (hT := hT)) ?_; rintro _ _ ⟨pz, rfl, rfl⟩) | (refine A_callM0 rfl rfl (fun s H => c_drawOk (T := T) (hT := hT)) ?_; rintro _ _ ⟨pz, rfl, rfl⟩)
 | refine A_fld rfl rfl ?_ | refine A_p (by rfl) rfl ?_
 | refine A_ldI rfl (by first | omega | (simp; done) | (simp; omega)) rfl ?_ | refine A_ldB rfl (by first | omega | (simp; done) | (simp; omega)) rfl ?_ | refine A_ld rfl (by rfl) rfl ?_
 | refine A_ldW rfl (by simp) rfl ?_
 | refine A_stW rfl rfl (by simp) rfl ?_
 | ((first | refine A_alloc rfl ?_) <;> intro pz hpz)
 | refine A_ret1 rfl (by exact (RP.t rfl RP.nil)) ?_)
  obtain ⟨p33, hEq⟩ : ∃ p, p = pz := ⟨_, rfl⟩; subst hEq
  obtain ⟨pd, hEq⟩ : ∃ p, p = pz := ⟨_, rfl⟩; subst hEq
  refine A_loop rfl [p23, pa, p33, pd] (fun m fr L => ∃ (j : Nat), m = T - j ∧ fr = [(18, iv T), (23, .c (.ptr p23 0)), (33, .c (.ptr p33 0)), (36, iv j)] ∧ L = [(p23, .rw 25 3 (fld R C pa T)), (pa, ints (drawL (shV i) sd T)), (p33, .rw 25 3 (fld R C pd T)), (pd, ints (drawL (mnV i) sd T))] ∧ j ≤ T) T ⟨0, rfl, rfl, rfl, by omega⟩ ?_
  rintro m fr L ⟨j, rfl, rfl, rfl, hj⟩
  by_cases hj' : j < T
  · have d1 := draw_le s3 s4 s5 (hsx (j + 1))
    rw [← drawL_get hj', ← drawL_get hj'] at d1
    repeat' (first
 | refine A_go rfl ?_ | refine A_ifT rfl rfl ?_ | refine A_ifF rfl rfl ?_
 | refine A_offP rfl rfl ?_ | refine A_offH rfl rfl ?_ | refine A_off0 rfl rfl ?_
 | refine A_add rfl rfl rfl (by omega) ?_ | refine A_sub rfl rfl rfl (by omega) ?_ | refine A_mul rfl rfl rfl (by omega) ?_ | refine A_quo rfl rfl rfl (by omega) ?_
 | ((first | refine A_lt rfl rfl rfl ?_ ?_ | refine A_le rfl rfl rfl ?_ ?_ | refine A_gt rfl rfl rfl ?_ ?_ | refine A_eq rfl rfl rfl ?_ ?_ | refine A_ne rfl rfl rfl ?_ ?_ | refine A_beq rfl rfl rfl ?_ ?_) <;> intro hc <;> try first | contradiction | (exfalso; omega) | exact absurd rfl hc)
 | refine A_idxN1 rfl rfl rfl (by omega) ?_ | refine A_idx1 rfl rfl rfl (by omega) ?_
 | refine A_fld rfl rfl ?_ | refine A_p (by rfl) rfl ?_
 | refine A_ldI rfl (by first | omega | (simp; done) | (simp; omega)) rfl ?_ | refine A_ldB rfl (by first | omega | (simp; done) | (simp; omega)) rfl ?_ | refine A_ld rfl (by rfl) rfl ?_
 | refine A_ldW rfl (by simp) rfl ?_
 | refine A_stW rfl rfl (by simp) rfl ?_
 | ((first | refine A_alloc rfl ?_) <;> intro pz hpz)
 | refine A_ret1 rfl (by exact (RP.t rfl RP.nil)) ?_)
    refine A_round rfl [p23, pa, p33, pd] (T - (j + 1)) (by omega) ?_
    exact ⟨j + 1, rfl, rfl, rfl, by omega⟩
  obtain rfl : T = j := by omega
  repeat' (first
 | refine A_go rfl ?_ | refine A_ifT rfl rfl ?_ | refine A_ifF rfl rfl ?_
 | refine A_offP rfl rfl ?_ | refine A_offH rfl rfl ?_ | refine A_off0 rfl rfl ?_
 | refine A_add rfl rfl rfl (by omega) ?_ | refine A_sub rfl rfl rfl (by omega) ?_ | refine A_mul rfl rfl rfl (by omega) ?_ | refine A_quo rfl rfl rfl (by omega) ?_
 | ((first | refine A_lt rfl rfl rfl ?_ ?_ | refine A_le rfl rfl rfl ?_ ?_ | refine A_gt rfl rfl rfl ?_ ?_ | refine A_eq rfl rfl rfl ?_ ?_ | refine A_ne rfl rfl rfl ?_ ?_ | refine A_beq rfl rfl rfl ?_ ?_) <;> intro hc <;> try first | contradiction | (exfalso; omega) | exact absurd rfl hc)
 | refine A_idxN1 rfl rfl rfl (by omega) ?_ | refine A_idx1 rfl rfl rfl (by omega) ?_
 | refine A_fld rfl rfl ?_ | refine A_p (by rfl) rfl ?_
 | refine A_ldI rfl (by first | omega | (simp; done) | (simp; omega)) rfl ?_ | refine A_ldB rfl (by first | omega | (simp; done) | (simp; omega)) rfl ?_ | refine A_ld rfl (by rfl) rfl ?_
 | refine A_ldW rfl (by simp) rfl ?_
 | refine A_stW rfl rfl (by simp) rfl ?_
 | ((first | refine A_alloc rfl ?_) <;> intro pz hpz)
 | refine A_ret1 rfl (by exact (RP.t rfl RP.nil)) ?_)
  exact R_v rfl

end Go.Proofs.Ytckobcjjbpnkcaa
