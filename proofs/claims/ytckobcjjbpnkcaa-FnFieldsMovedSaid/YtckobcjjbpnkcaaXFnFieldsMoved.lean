/- The law FnFieldsMoved runs to true. -/
import Derived.Test.YtckobcjjbpnkcaaXmovedOk
import Derived.Test.YtckobcjjbpnkcaaXdraw
import Derived.Test.YtckobcjjbpnkcaaFB
namespace Go.Proofs.Ytckobcjjbpnkcaa
open Go Go.RowKit
set_option linter.unusedVariables false
set_option linter.unusedSimpArgs false
set_option maxRecDepth 100000
set_option maxHeartbeats 8000000
-- laws.FnFieldsMoved
def L5 : AFun := ⟨390, [.t 4],
 (.seq (.ops false [⟨(some 4), .mv (.k (bv false)), none, []⟩])
 (.seq (.seq (.ops false [⟨(some 51), .mv (.t 0), none, []⟩,
    ⟨(some 52), .mv (.t 1), none, []⟩,
    ⟨(some 53), .call (.f 18) [(.t 51), (.t 52)], none, []⟩])
  (.cond (.t 53) (.seq (.ops false [⟨(some 4), .mv (.k (bv true)), none, []⟩])
   .ret)
   .skip))
 (.seq (.ops false [⟨(some 54), .mv (.t 0), none, []⟩,
   ⟨(some 55), .mv (.t 1), none, []⟩,
   ⟨(some 56), .call (.f 20) [(.t 55), (.k (iv 40)), (.k (iv 6))], none, []⟩,
   ⟨(some 57), .bin .add (.k (iv 1)) (.t 56), none, []⟩,
   ⟨(some 58), .mv (.t 1), none, []⟩,
   ⟨(some 59), .call (.f 20) [(.t 58), (.k (iv 41)), (.k (iv 6))], none, []⟩,
   ⟨(some 60), .bin .add (.k (iv 1)) (.t 59), none, []⟩,
   ⟨(some 61), .call (.f 19) [(.t 54), (.t 57), (.t 60), (.k (iv 10))], none, []⟩,
   ⟨(some 5), .alloc 25 [.int .i64 0, .int .i64 0, .sl 0 0 0], none, []⟩,
   ⟨none, .store 3 (.t 5) (.t 61), none, []⟩])
 (.seq (.ops false [⟨(some 63), .load true 3 (.t 5), none, []⟩,
   ⟨(some 64), .call (.f 21) [(.t 63)], none, []⟩,
   ⟨(some 62), .mv (.t 64), none, []⟩,
   ⟨(some 65), .ext (.t 62) 0, none, []⟩,
   ⟨(some 66), .ext (.t 62) 1, none, []⟩,
   ⟨(some 6), .alloc 25 [.int .i64 0, .int .i64 0, .sl 0 0 0], none, []⟩,
   ⟨none, .store 3 (.t 6) (.t 65), none, []⟩,
   ⟨(some 7), .mv (.t 66), none, []⟩])
 (.seq (.ops false [⟨(some 68), .load true 3 (.t 6), none, []⟩,
   ⟨(some 69), .call (.f 21) [(.t 68)], none, []⟩,
   ⟨(some 67), .mv (.t 69), none, []⟩,
   ⟨(some 70), .ext (.t 67) 0, none, []⟩,
   ⟨(some 71), .ext (.t 67) 1, none, []⟩,
   ⟨(some 8), .alloc 25 [.int .i64 0, .int .i64 0, .sl 0 0 0], none, []⟩,
   ⟨none, .store 3 (.t 8) (.t 70), none, []⟩,
   ⟨(some 9), .mv (.t 71), none, []⟩])
 (.seq (.ops false [⟨(some 73), .load true 3 (.t 8), none, []⟩,
   ⟨(some 74), .call (.f 21) [(.t 73)], none, []⟩,
   ⟨(some 72), .mv (.t 74), none, []⟩,
   ⟨(some 75), .ext (.t 72) 0, none, []⟩,
   ⟨(some 76), .ext (.t 72) 1, none, []⟩,
   ⟨(some 10), .alloc 25 [.int .i64 0, .int .i64 0, .sl 0 0 0], none, []⟩,
   ⟨none, .store 3 (.t 10) (.t 75), none, []⟩,
   ⟨(some 11), .mv (.t 76), none, []⟩])
 (.seq (.ops false [⟨(some 78), .load true 3 (.t 10), none, []⟩,
   ⟨(some 79), .call (.f 21) [(.t 78)], none, []⟩,
   ⟨(some 77), .mv (.t 79), none, []⟩,
   ⟨(some 80), .ext (.t 77) 0, none, []⟩,
   ⟨(some 81), .ext (.t 77) 1, none, []⟩,
   ⟨(some 12), .alloc 25 [.int .i64 0, .int .i64 0, .sl 0 0 0], none, []⟩,
   ⟨none, .store 3 (.t 12) (.t 80), none, []⟩,
   ⟨(some 13), .mv (.t 81), none, []⟩])
 (.seq (.ops false [⟨(some 83), .load true 3 (.t 5), none, []⟩,
   ⟨(some 84), .call (.f 22) [(.t 83)], none, []⟩,
   ⟨(some 82), .mv (.t 84), none, []⟩,
   ⟨(some 85), .ext (.t 82) 0, none, []⟩,
   ⟨(some 86), .ext (.t 82) 1, none, []⟩,
   ⟨(some 14), .alloc 25 [.int .i64 0, .int .i64 0, .sl 0 0 0], none, []⟩,
   ⟨none, .store 3 (.t 14) (.t 85), none, []⟩,
   ⟨(some 15), .mv (.t 86), none, []⟩])
 (.seq (.ops false [⟨(some 88), .load true 3 (.t 14), none, []⟩,
   ⟨(some 89), .call (.f 22) [(.t 88)], none, []⟩,
   ⟨(some 87), .mv (.t 89), none, []⟩,
   ⟨(some 90), .ext (.t 87) 0, none, []⟩,
   ⟨(some 91), .ext (.t 87) 1, none, []⟩,
   ⟨(some 16), .alloc 25 [.int .i64 0, .int .i64 0, .sl 0 0 0], none, []⟩,
   ⟨none, .store 3 (.t 16) (.t 90), none, []⟩,
   ⟨(some 17), .mv (.t 91), none, []⟩])
 (.seq (.ops false [⟨(some 92), .mv (.t 1), none, []⟩,
   ⟨(some 93), .call (.f 20) [(.t 92), (.k (iv 42)), (.k (iv 12))], none, []⟩,
   ⟨(some 94), .bin .sub (.t 93) (.k (iv 6)), none, []⟩,
   ⟨(some 18), .mv (.t 94), none, []⟩])
 (.seq (.ops false [⟨(some 95), .mv (.t 1), none, []⟩,
   ⟨(some 96), .call (.f 20) [(.t 95), (.k (iv 43)), (.k (iv 12))], none, []⟩,
   ⟨(some 97), .bin .sub (.t 96) (.k (iv 6)), none, []⟩,
   ⟨(some 19), .mv (.t 97), none, []⟩])
 (.seq (.ops false [⟨(some 99), .load true 3 (.t 5), none, []⟩,
   ⟨(some 100), .mv (.t 18), none, []⟩,
   ⟨(some 101), .mv (.t 19), none, []⟩,
   ⟨(some 102), .call (.f 23) [(.t 99), (.t 100), (.t 101)], none, []⟩,
   ⟨(some 98), .mv (.t 102), none, []⟩,
   ⟨(some 103), .ext (.t 98) 0, none, []⟩,
   ⟨(some 104), .ext (.t 98) 1, none, []⟩,
   ⟨(some 20), .alloc 25 [.int .i64 0, .int .i64 0, .sl 0 0 0], none, []⟩,
   ⟨none, .store 3 (.t 20) (.t 103), none, []⟩,
   ⟨(some 21), .mv (.t 104), none, []⟩])
 (.seq (.ops false [⟨(some 106), .load true 3 (.t 20), none, []⟩,
   ⟨(some 107), .mv (.t 18), none, []⟩,
   ⟨(some 108), .un .neg (.t 107), none, []⟩,
   ⟨(some 109), .mv (.t 19), none, []⟩,
   ⟨(some 110), .un .neg (.t 109), none, []⟩,
   ⟨(some 111), .call (.f 23) [(.t 106), (.t 108), (.t 110)], none, []⟩,
   ⟨(some 105), .mv (.t 111), none, []⟩,
   ⟨(some 112), .ext (.t 105) 0, none, []⟩,
   ⟨(some 113), .ext (.t 105) 1, none, []⟩,
   ⟨(some 22), .alloc 25 [.int .i64 0, .int .i64 0, .sl 0 0 0], none, []⟩,
   ⟨none, .store 3 (.t 22) (.t 112), none, []⟩,
   ⟨(some 23), .mv (.t 113), none, []⟩])
 (.seq (.ops false [⟨(some 115), .load true 3 (.t 5), none, []⟩,
   ⟨(some 116), .fieldA 0 (.t 5), none, []⟩,
   ⟨(some 117), .load false 1 (.t 116), none, []⟩,
   ⟨(some 118), .fieldA 1 (.t 5), none, []⟩,
   ⟨(some 119), .load false 1 (.t 118), none, []⟩,
   ⟨(some 120), .call (.f 23) [(.t 115), (.t 117), (.t 119)], none, []⟩,
   ⟨(some 114), .mv (.t 120), none, []⟩,
   ⟨(some 121), .ext (.t 114) 0, none, []⟩,
   ⟨(some 122), .ext (.t 114) 1, none, []⟩,
   ⟨(some 24), .alloc 25 [.int .i64 0, .int .i64 0, .sl 0 0 0], none, []⟩,
   ⟨none, .store 3 (.t 24) (.t 121), none, []⟩,
   ⟨(some 25), .mv (.t 122), none, []⟩])
 (.seq (.seq (.ops false [⟨(some 123), .mv (.t 7), none, []⟩,
    ⟨(some 124), .un .not (.t 123), none, []⟩,
    ⟨(some 125), .mv (.t 124), none, []⟩,
    ⟨(some 126), .mv (.t 9), (some (125, false)), []⟩,
    ⟨(some 127), .un .not (.t 126), (some (125, false)), []⟩,
    ⟨(some 128), .pick (.t 125) (.k (bv true)) (.t 127), none, []⟩,
    ⟨(some 129), .mv (.t 128), none, []⟩,
    ⟨(some 130), .mv (.t 11), (some (129, false)), []⟩,
    ⟨(some 131), .un .not (.t 130), (some (129, false)), []⟩,
    ⟨(some 132), .pick (.t 129) (.k (bv true)) (.t 131), none, []⟩,
    ⟨(some 133), .mv (.t 132), none, []⟩,
    ⟨(some 134), .mv (.t 13), (some (133, false)), []⟩,
    ⟨(some 135), .un .not (.t 134), (some (133, false)), []⟩,
    ⟨(some 136), .pick (.t 133) (.k (bv true)) (.t 135), none, []⟩,
    ⟨(some 137), .mv (.t 136), none, []⟩,
    ⟨(some 138), .mv (.t 15), (some (137, false)), []⟩,
    ⟨(some 139), .un .not (.t 138), (some (137, false)), []⟩,
    ⟨(some 140), .pick (.t 137) (.k (bv true)) (.t 139), none, []⟩,
    ⟨(some 141), .mv (.t 140), none, []⟩,
    ⟨(some 142), .mv (.t 17), (some (141, false)), []⟩,
    ⟨(some 143), .un .not (.t 142), (some (141, false)), []⟩,
    ⟨(some 144), .pick (.t 141) (.k (bv true)) (.t 143), none, []⟩,
    ⟨(some 145), .mv (.t 144), none, []⟩,
    ⟨(some 146), .mv (.t 21), (some (145, false)), []⟩,
    ⟨(some 147), .un .not (.t 146), (some (145, false)), []⟩,
    ⟨(some 148), .pick (.t 145) (.k (bv true)) (.t 147), none, []⟩,
    ⟨(some 149), .mv (.t 148), none, []⟩,
    ⟨(some 150), .mv (.t 23), (some (149, false)), []⟩,
    ⟨(some 151), .un .not (.t 150), (some (149, false)), []⟩,
    ⟨(some 152), .pick (.t 149) (.k (bv true)) (.t 151), none, []⟩,
    ⟨(some 153), .mv (.t 152), none, []⟩,
    ⟨(some 154), .mv (.t 25), (some (153, false)), []⟩,
    ⟨(some 155), .un .not (.t 154), (some (153, false)), []⟩,
    ⟨(some 156), .pick (.t 153) (.k (bv true)) (.t 155), none, []⟩,
    ⟨(some 157), .mv (.t 156), none, []⟩,
    ⟨(some 158), .fieldA 0 (.t 6), (some (157, false)), []⟩,
    ⟨(some 159), .load false 1 (.t 158), (some (157, false)), []⟩,
    ⟨(some 160), .fieldA 1 (.t 5), (some (157, false)), []⟩,
    ⟨(some 161), .load false 1 (.t 160), (some (157, false)), []⟩,
    ⟨(some 162), .bin .neq (.t 159) (.t 161), (some (157, false)), []⟩,
    ⟨(some 163), .pick (.t 157) (.k (bv true)) (.t 162), none, []⟩,
    ⟨(some 164), .mv (.t 163), none, []⟩,
    ⟨(some 165), .load true 3 (.t 12), (some (164, false)), []⟩,
    ⟨(some 166), .load true 3 (.t 5), (some (164, false)), []⟩,
    ⟨(some 167), .call (.f 24) [(.t 165), (.t 166)], (some (164, false)), []⟩,
    ⟨(some 168), .un .not (.t 167), (some (164, false)), []⟩,
    ⟨(some 169), .pick (.t 164) (.k (bv true)) (.t 168), none, []⟩,
    ⟨(some 170), .mv (.t 169), none, []⟩,
    ⟨(some 171), .load true 3 (.t 16), (some (170, false)), []⟩,
    ⟨(some 172), .load true 3 (.t 5), (some (170, false)), []⟩,
    ⟨(some 173), .call (.f 24) [(.t 171), (.t 172)], (some (170, false)), []⟩,
    ⟨(some 174), .un .not (.t 173), (some (170, false)), []⟩,
    ⟨(some 175), .pick (.t 170) (.k (bv true)) (.t 174), none, []⟩,
    ⟨(some 176), .mv (.t 175), none, []⟩,
    ⟨(some 177), .load true 3 (.t 22), (some (176, false)), []⟩,
    ⟨(some 178), .load true 3 (.t 5), (some (176, false)), []⟩,
    ⟨(some 179), .call (.f 24) [(.t 177), (.t 178)], (some (176, false)), []⟩,
    ⟨(some 180), .un .not (.t 179), (some (176, false)), []⟩,
    ⟨(some 181), .pick (.t 176) (.k (bv true)) (.t 180), none, []⟩,
    ⟨(some 182), .mv (.t 181), none, []⟩,
    ⟨(some 183), .load true 3 (.t 24), (some (182, false)), []⟩,
    ⟨(some 184), .load true 3 (.t 5), (some (182, false)), []⟩,
    ⟨(some 185), .call (.f 24) [(.t 183), (.t 184)], (some (182, false)), []⟩,
    ⟨(some 186), .un .not (.t 185), (some (182, false)), []⟩,
    ⟨(some 187), .pick (.t 182) (.k (bv true)) (.t 186), none, []⟩,
    ⟨(some 188), .mv (.t 187), none, []⟩,
    ⟨(some 189), .load true 3 (.t 20), (some (188, false)), []⟩,
    ⟨(some 190), .call (.f 25) [(.t 189)], (some (188, false)), []⟩,
    ⟨(some 191), .un .not (.t 190), (some (188, false)), []⟩,
    ⟨(some 192), .pick (.t 188) (.k (bv true)) (.t 191), none, []⟩])
  (.cond (.t 192) (.seq (.ops false [⟨(some 4), .mv (.k (bv false)), none, []⟩])
   .ret)
   .skip))
 (.seq (.ops false [⟨(some 193), .mv (.t 1), none, []⟩,
   ⟨(some 194), .fieldA 0 (.t 5), none, []⟩,
   ⟨(some 195), .load false 1 (.t 194), none, []⟩,
   ⟨(some 196), .call (.f 20) [(.t 193), (.k (iv 44)), (.t 195)], none, []⟩,
   ⟨(some 26), .mv (.t 196), none, []⟩])
 (.seq (.ops false [⟨(some 197), .mv (.t 1), none, []⟩,
   ⟨(some 198), .fieldA 1 (.t 5), none, []⟩,
   ⟨(some 199), .load false 1 (.t 198), none, []⟩,
   ⟨(some 200), .call (.f 20) [(.t 197), (.k (iv 45)), (.t 199)], none, []⟩,
   ⟨(some 27), .mv (.t 200), none, []⟩])
 (.seq (.ops false [⟨(some 201), .mv (.t 1), none, []⟩,
   ⟨(some 202), .fieldA 0 (.t 5), none, []⟩,
   ⟨(some 203), .load false 1 (.t 202), none, []⟩,
   ⟨(some 204), .mv (.t 26), none, []⟩,
   ⟨(some 205), .bin .sub (.t 203) (.t 204), none, []⟩,
   ⟨(some 206), .call (.f 20) [(.t 201), (.k (iv 46)), (.t 205)], none, []⟩,
   ⟨(some 207), .bin .add (.k (iv 1)) (.t 206), none, []⟩,
   ⟨(some 28), .mv (.t 207), none, []⟩])
 (.seq (.ops false [⟨(some 208), .mv (.t 1), none, []⟩,
   ⟨(some 209), .fieldA 1 (.t 5), none, []⟩,
   ⟨(some 210), .load false 1 (.t 209), none, []⟩,
   ⟨(some 211), .mv (.t 27), none, []⟩,
   ⟨(some 212), .bin .sub (.t 210) (.t 211), none, []⟩,
   ⟨(some 213), .call (.f 20) [(.t 208), (.k (iv 47)), (.t 212)], none, []⟩,
   ⟨(some 214), .bin .add (.k (iv 1)) (.t 213), none, []⟩,
   ⟨(some 29), .mv (.t 214), none, []⟩])
 (.seq (.ops false [⟨(some 216), .load true 3 (.t 5), none, []⟩,
   ⟨(some 217), .mv (.t 26), none, []⟩,
   ⟨(some 218), .mv (.t 27), none, []⟩,
   ⟨(some 219), .mv (.t 28), none, []⟩,
   ⟨(some 220), .mv (.t 29), none, []⟩,
   ⟨(some 221), .call (.f 26) [(.t 216), (.t 217), (.t 218), (.t 219), (.t 220)], none, []⟩,
   ⟨(some 215), .mv (.t 221), none, []⟩,
   ⟨(some 222), .ext (.t 215) 0, none, []⟩,
   ⟨(some 223), .ext (.t 215) 1, none, []⟩,
   ⟨(some 30), .alloc 25 [.int .i64 0, .int .i64 0, .sl 0 0 0], none, []⟩,
   ⟨none, .store 3 (.t 30) (.t 222), none, []⟩,
   ⟨(some 31), .mv (.t 223), none, []⟩])
 (.seq (.ops false [⟨(some 225), .load true 3 (.t 5), none, []⟩,
   ⟨(some 226), .load true 3 (.t 30), none, []⟩,
   ⟨(some 227), .mv (.t 26), none, []⟩,
   ⟨(some 228), .mv (.t 27), none, []⟩,
   ⟨(some 229), .call (.f 27) [(.t 225), (.t 226), (.t 227), (.t 228)], none, []⟩,
   ⟨(some 224), .mv (.t 229), none, []⟩,
   ⟨(some 230), .ext (.t 224) 0, none, []⟩,
   ⟨(some 231), .ext (.t 224) 1, none, []⟩,
   ⟨(some 32), .alloc 25 [.int .i64 0, .int .i64 0, .sl 0 0 0], none, []⟩,
   ⟨none, .store 3 (.t 32) (.t 230), none, []⟩,
   ⟨(some 33), .mv (.t 231), none, []⟩])
 (.seq (.ops false [⟨(some 233), .mv (.t 28), none, []⟩,
   ⟨(some 234), .mv (.t 29), none, []⟩,
   ⟨(some 235), .call (.f 28) [(.t 233), (.t 234)], none, []⟩,
   ⟨(some 232), .mv (.t 235), none, []⟩,
   ⟨(some 236), .ext (.t 232) 0, none, []⟩,
   ⟨(some 237), .ext (.t 232) 1, none, []⟩,
   ⟨(some 34), .alloc 25 [.int .i64 0, .int .i64 0, .sl 0 0 0], none, []⟩,
   ⟨none, .store 3 (.t 34) (.t 236), none, []⟩,
   ⟨(some 35), .mv (.t 237), none, []⟩])
 (.seq (.ops false [⟨(some 239), .load true 3 (.t 5), none, []⟩,
   ⟨(some 240), .load true 3 (.t 34), none, []⟩,
   ⟨(some 241), .mv (.t 26), none, []⟩,
   ⟨(some 242), .mv (.t 27), none, []⟩,
   ⟨(some 243), .call (.f 27) [(.t 239), (.t 240), (.t 241), (.t 242)], none, []⟩,
   ⟨(some 238), .mv (.t 243), none, []⟩,
   ⟨(some 244), .ext (.t 238) 0, none, []⟩,
   ⟨(some 245), .ext (.t 238) 1, none, []⟩,
   ⟨(some 36), .alloc 25 [.int .i64 0, .int .i64 0, .sl 0 0 0], none, []⟩,
   ⟨none, .store 3 (.t 36) (.t 244), none, []⟩,
   ⟨(some 37), .mv (.t 245), none, []⟩])
 (.seq (.ops false [⟨(some 247), .load true 3 (.t 36), none, []⟩,
   ⟨(some 248), .load true 3 (.t 5), none, []⟩,
   ⟨(some 249), .call (.f 29) [(.t 247), (.t 248)], none, []⟩,
   ⟨(some 246), .mv (.t 249), none, []⟩,
   ⟨(some 250), .ext (.t 246) 0, none, []⟩,
   ⟨(some 251), .ext (.t 246) 1, none, []⟩,
   ⟨(some 38), .mv (.t 250), none, []⟩,
   ⟨(some 39), .mv (.t 251), none, []⟩])
 (.seq (.ops false [⟨(some 253), .load true 3 (.t 30), none, []⟩,
   ⟨(some 254), .call (.f 30) [(.t 253), (.k (iv 0))], none, []⟩,
   ⟨(some 252), .mv (.t 254), none, []⟩,
   ⟨(some 255), .ext (.t 252) 0, none, []⟩,
   ⟨(some 256), .ext (.t 252) 1, none, []⟩,
   ⟨(some 40), .mv (.t 255), none, []⟩,
   ⟨(some 41), .mv (.t 256), none, []⟩])
 (.seq (.ops false [⟨(some 258), .load true 3 (.t 5), none, []⟩,
   ⟨(some 259), .mv (.t 26), none, []⟩,
   ⟨(some 260), .mv (.t 27), none, []⟩,
   ⟨(some 261), .fieldA 0 (.t 5), none, []⟩,
   ⟨(some 262), .load false 1 (.t 261), none, []⟩,
   ⟨(some 263), .mv (.t 26), none, []⟩,
   ⟨(some 264), .bin .sub (.t 262) (.t 263), none, []⟩,
   ⟨(some 265), .bin .add (.t 264) (.k (iv 1)), none, []⟩,
   ⟨(some 266), .mv (.t 29), none, []⟩,
   ⟨(some 267), .call (.f 26) [(.t 258), (.t 259), (.t 260), (.t 265), (.t 266)], none, []⟩,
   ⟨(some 257), .mv (.t 267), none, []⟩,
   ⟨(some 268), .ext (.t 257) 0, none, []⟩,
   ⟨(some 269), .ext (.t 257) 1, none, []⟩,
   ⟨(some 42), .alloc 25 [.int .i64 0, .int .i64 0, .sl 0 0 0], none, []⟩,
   ⟨none, .store 3 (.t 42) (.t 268), none, []⟩,
   ⟨(some 43), .mv (.t 269), none, []⟩])
 (.seq (.seq (.ops false [⟨(some 270), .mv (.t 31), none, []⟩,
    ⟨(some 271), .un .not (.t 270), none, []⟩,
    ⟨(some 272), .mv (.t 271), none, []⟩,
    ⟨(some 273), .mv (.t 33), (some (272, false)), []⟩,
    ⟨(some 274), .un .not (.t 273), (some (272, false)), []⟩,
    ⟨(some 275), .pick (.t 272) (.k (bv true)) (.t 274), none, []⟩,
    ⟨(some 276), .mv (.t 275), none, []⟩,
    ⟨(some 277), .mv (.t 35), (some (276, false)), []⟩,
    ⟨(some 278), .un .not (.t 277), (some (276, false)), []⟩,
    ⟨(some 279), .pick (.t 276) (.k (bv true)) (.t 278), none, []⟩,
    ⟨(some 280), .mv (.t 279), none, []⟩,
    ⟨(some 281), .mv (.t 37), (some (280, false)), []⟩,
    ⟨(some 282), .un .not (.t 281), (some (280, false)), []⟩,
    ⟨(some 283), .pick (.t 280) (.k (bv true)) (.t 282), none, []⟩,
    ⟨(some 284), .mv (.t 283), none, []⟩,
    ⟨(some 285), .mv (.t 39), (some (284, false)), []⟩,
    ⟨(some 286), .un .not (.t 285), (some (284, false)), []⟩,
    ⟨(some 287), .pick (.t 284) (.k (bv true)) (.t 286), none, []⟩,
    ⟨(some 288), .mv (.t 287), none, []⟩,
    ⟨(some 289), .mv (.t 41), (some (288, false)), []⟩,
    ⟨(some 290), .un .not (.t 289), (some (288, false)), []⟩,
    ⟨(some 291), .pick (.t 288) (.k (bv true)) (.t 290), none, []⟩,
    ⟨(some 292), .mv (.t 291), none, []⟩,
    ⟨(some 293), .mv (.t 43), (some (292, false)), []⟩,
    ⟨(some 294), .pick (.t 292) (.k (bv true)) (.t 293), none, []⟩,
    ⟨(some 295), .mv (.t 294), none, []⟩,
    ⟨(some 296), .load true 3 (.t 32), (some (295, false)), []⟩,
    ⟨(some 297), .load true 3 (.t 5), (some (295, false)), []⟩,
    ⟨(some 298), .call (.f 24) [(.t 296), (.t 297)], (some (295, false)), []⟩,
    ⟨(some 299), .un .not (.t 298), (some (295, false)), []⟩,
    ⟨(some 300), .pick (.t 295) (.k (bv true)) (.t 299), none, []⟩,
    ⟨(some 301), .mv (.t 300), none, []⟩,
    ⟨(some 302), .fieldA 0 (.t 30), (some (301, false)), []⟩,
    ⟨(some 303), .load false 1 (.t 302), (some (301, false)), []⟩,
    ⟨(some 304), .mv (.t 28), (some (301, false)), []⟩,
    ⟨(some 305), .bin .neq (.t 303) (.t 304), (some (301, false)), []⟩,
    ⟨(some 306), .pick (.t 301) (.k (bv true)) (.t 305), none, []⟩,
    ⟨(some 307), .mv (.t 306), none, []⟩,
    ⟨(some 308), .fieldA 1 (.t 30), (some (307, false)), []⟩,
    ⟨(some 309), .load false 1 (.t 308), (some (307, false)), []⟩,
    ⟨(some 310), .mv (.t 29), (some (307, false)), []⟩,
    ⟨(some 311), .bin .neq (.t 309) (.t 310), (some (307, false)), []⟩,
    ⟨(some 312), .pick (.t 307) (.k (bv true)) (.t 311), none, []⟩,
    ⟨(some 313), .mv (.t 312), none, []⟩,
    ⟨(some 314), .mv (.t 38), (some (313, false)), []⟩,
    ⟨(some 315), .mv (.t 28), (some (313, false)), []⟩,
    ⟨(some 316), .mv (.t 29), (some (313, false)), []⟩,
    ⟨(some 317), .bin .mul (.t 315) (.t 316), (some (313, false)), []⟩,
    ⟨(some 318), .mv (.t 40), (some (313, false)), []⟩,
    ⟨(some 319), .bin .sub (.t 317) (.t 318), (some (313, false)), []⟩,
    ⟨(some 320), .bin .neq (.t 314) (.t 319), (some (313, false)), []⟩,
    ⟨(some 321), .pick (.t 313) (.k (bv true)) (.t 320), none, []⟩])
  (.cond (.t 321) (.seq (.ops false [⟨(some 4), .mv (.k (bv false)), none, []⟩])
   .ret)
   .skip))
 (.seq (.ops false [⟨(some 322), .mv (.t 1), none, []⟩,
   ⟨(some 323), .call (.f 20) [(.t 322), (.k (iv 40)), (.k (iv 10))], none, []⟩,
   ⟨(some 44), .mv (.t 323), none, []⟩])
 (.seq (.ops false [⟨(some 325), .load true 3 (.t 5), none, []⟩,
   ⟨(some 326), .mv (.t 44), none, []⟩,
   ⟨(some 327), .call (.f 30) [(.t 325), (.t 326)], none, []⟩,
   ⟨(some 324), .mv (.t 327), none, []⟩,
   ⟨(some 328), .ext (.t 324) 0, none, []⟩,
   ⟨(some 329), .ext (.t 324) 1, none, []⟩,
   ⟨(some 45), .mv (.t 328), none, []⟩,
   ⟨(some 46), .mv (.t 329), none, []⟩])
 (.seq (.ops false [⟨(some 331), .load true 3 (.t 6), none, []⟩,
   ⟨(some 332), .mv (.t 44), none, []⟩,
   ⟨(some 333), .call (.f 30) [(.t 331), (.t 332)], none, []⟩,
   ⟨(some 330), .mv (.t 333), none, []⟩,
   ⟨(some 334), .ext (.t 330) 0, none, []⟩,
   ⟨(some 335), .ext (.t 330) 1, none, []⟩,
   ⟨(some 47), .mv (.t 334), none, []⟩,
   ⟨(some 48), .mv (.t 335), none, []⟩])
 (.seq (.ops false [⟨(some 337), .load true 3 (.t 20), none, []⟩,
   ⟨(some 338), .mv (.t 44), none, []⟩,
   ⟨(some 339), .call (.f 30) [(.t 337), (.t 338)], none, []⟩,
   ⟨(some 336), .mv (.t 339), none, []⟩,
   ⟨(some 340), .ext (.t 336) 0, none, []⟩,
   ⟨(some 341), .ext (.t 336) 1, none, []⟩,
   ⟨(some 49), .mv (.t 340), none, []⟩,
   ⟨(some 50), .mv (.t 341), none, []⟩])
 (.seq (.ops true [⟨(some 342), .mv (.t 46), none, []⟩,
   ⟨(some 343), .mv (.t 342), none, []⟩,
   ⟨(some 344), .mv (.t 48), (some (343, true)), []⟩,
   ⟨(some 345), .pick (.t 343) (.t 344) (.k (bv false)), none, []⟩,
   ⟨(some 346), .mv (.t 345), none, []⟩,
   ⟨(some 347), .mv (.t 50), (some (346, true)), []⟩,
   ⟨(some 348), .pick (.t 346) (.t 347) (.k (bv false)), none, []⟩,
   ⟨(some 349), .mv (.t 348), none, []⟩,
   ⟨(some 350), .mv (.t 45), (some (349, true)), []⟩,
   ⟨(some 351), .mv (.t 47), (some (349, true)), []⟩,
   ⟨(some 352), .bin .eql (.t 350) (.t 351), (some (349, true)), []⟩,
   ⟨(some 353), .pick (.t 349) (.t 352) (.k (bv false)), none, []⟩,
   ⟨(some 354), .mv (.t 353), none, []⟩,
   ⟨(some 355), .mv (.t 45), (some (354, true)), []⟩,
   ⟨(some 356), .mv (.t 49), (some (354, true)), []⟩,
   ⟨(some 357), .bin .eql (.t 355) (.t 356), (some (354, true)), []⟩,
   ⟨(some 358), .pick (.t 354) (.t 357) (.k (bv false)), none, []⟩,
   ⟨(some 359), .mv (.t 358), none, []⟩,
   ⟨(some 360), .fieldA 2 (.t 6), (some (359, true)), []⟩,
   ⟨(some 361), .load false 1 (.t 360), (some (359, true)), []⟩,
   ⟨(some 362), .idxA 1 (.t 361) (.k (iv 0)), (some (359, true)), []⟩,
   ⟨(some 363), .load false 1 (.t 362), (some (359, true)), []⟩,
   ⟨(some 364), .fieldA 2 (.t 5), (some (359, true)), []⟩,
   ⟨(some 365), .load false 1 (.t 364), (some (359, true)), []⟩,
   ⟨(some 366), .fieldA 0 (.t 5), (some (359, true)), []⟩,
   ⟨(some 367), .load false 1 (.t 366), (some (359, true)), []⟩,
   ⟨(some 368), .bin .sub (.t 367) (.k (iv 1)), (some (359, true)), []⟩,
   ⟨(some 369), .fieldA 1 (.t 5), (some (359, true)), []⟩,
   ⟨(some 370), .load false 1 (.t 369), (some (359, true)), []⟩,
   ⟨(some 371), .bin .mul (.t 368) (.t 370), (some (359, true)), []⟩,
   ⟨(some 372), .idxA 1 (.t 365) (.t 371), (some (359, true)), []⟩,
   ⟨(some 373), .load false 1 (.t 372), (some (359, true)), []⟩,
   ⟨(some 374), .bin .eql (.t 363) (.t 373), (some (359, true)), []⟩,
   ⟨(some 375), .pick (.t 359) (.t 374) (.k (bv false)), none, []⟩,
   ⟨(some 376), .mv (.t 375), none, []⟩,
   ⟨(some 377), .fieldA 2 (.t 14), (some (376, true)), []⟩,
   ⟨(some 378), .load false 1 (.t 377), (some (376, true)), []⟩,
   ⟨(some 379), .idxA 1 (.t 378) (.k (iv 0)), (some (376, true)), []⟩,
   ⟨(some 380), .load false 1 (.t 379), (some (376, true)), []⟩,
   ⟨(some 381), .fieldA 2 (.t 5), (some (376, true)), []⟩,
   ⟨(some 382), .load false 1 (.t 381), (some (376, true)), []⟩,
   ⟨(some 383), .fieldA 1 (.t 5), (some (376, true)), []⟩,
   ⟨(some 384), .load false 1 (.t 383), (some (376, true)), []⟩,
   ⟨(some 385), .bin .sub (.t 384) (.k (iv 1)), (some (376, true)), []⟩,
   ⟨(some 386), .idxA 1 (.t 382) (.t 385), (some (376, true)), []⟩,
   ⟨(some 387), .load false 1 (.t 386), (some (376, true)), []⟩,
   ⟨(some 388), .bin .eql (.t 380) (.t 387), (some (376, true)), []⟩,
   ⟨(some 389), .pick (.t 376) (.t 388) (.k (bv false)), none, []⟩,
   ⟨(some 4), .mv (.t 389), none, []⟩])
 .ret))))))))))))))))))))))))))))))))⟩
theorem code5 : acode Try.prog hints 5 = some L5 := by kernel_rfl


theorem shf_of {a b : Int} (h : (-24 ≤ a ∧ a ≤ 24) ∧ -24 ≤ b ∧ b ≤ 24) : Shf a b := h
theorem cov_of {r c row col rows cols : Int} (h : ((1 ≤ rows ∧ rows ≤ 24) ∧ 1 ≤ cols ∧ cols ≤ 24) ∧ (0 ≤ row ∧ row ≤ r - rows) ∧ 0 ≤ col ∧ col ≤ c - cols) : Cov r c row col rows cols := h
theorem turn_first {R C : Nat} {xs : List Int} (hR : 0 < R) (hC : 0 < C) : (turn R C xs).getD 0 0 = xs.getD (((R : Int) - 1) * (C : Int)).toNat 0 := by
  have := mk_get (r := C) (c := R) (g := fun i k => cel xs C ((R : Int) - 1 - k) i) (i := 0) (k := 0) (by omega) (by omega)
  rw [Nat.zero_mul] at this
  rw [turn, this, cel]
  congr 2
  simp
theorem mirr_first {R C : Nat} {xs : List Int} (hR : 0 < R) (hC : 0 < C) : (mirr R C xs).getD 0 0 = xs.getD ((C : Int) - 1).toNat 0 := by
  have := mk_get (r := R) (c := C) (g := fun i k => cel xs C i ((C : Int) - 1 - k)) (i := 0) (k := 0) (by omega) (by omega)
  rw [Nat.zero_mul] at this
  rw [mirr, this, cel]
  congr 2
  simp
@[simp] theorem turn_len {R C : Nat} {xs : List Int} : (turn R C xs).length = C * R := by simp [turn]
@[simp] theorem mirr_len {R C : Nat} {xs : List Int} : (mirr R C xs).length = R * C := by simp [mirr]
@[simp] theorem shif_len {R C : Nat} {xs : List Int} {a b : Int} : (shif R C xs a b).length = R * C := by simp [shif]
@[simp] theorem cutt_len {C row col M N : Nat} {xs : List Int} : (cutt C xs row col M N).length = M * N := by simp [cutt]
theorem c_FnFieldsMoved {s : St} [Wf s] {i0 o0 n0 i1 o1 n1 : Nat} {x0 x1 : List Int} (h0 : ArgE ub s i0 o0 x0) (l0 : x0.length = n0) (b0 : ∀ n ∈ x0, (Lit.int .u8 n).wf = true) (u0 : n0 ≤ 9223372036854775807) (h1 : ArgE ub s i1 o1 x1) (l1 : x1.length = n1) (b1 : ∀ n ∈ x1, (Lit.int .u8 n).wf = true) (u1 : n1 ≤ 9223372036854775807) :
    FnV 5 [.c (.sl i0 o0 n0), .c (.sl i1 o1 n1)] s (bv true) := by
  have c0 := wfU8 b0
  have c1 := wfU8 b1
  refine F_start code5 ?_
  by_cases hlong : 48 < n0 ∨ 48 < n1
  · repeat' (first
 | refine A_go rfl ?_ | refine A_ifT rfl rfl ?_ | refine A_ifF rfl rfl ?_
 | refine A_offP rfl rfl ?_ | refine A_offH rfl rfl ?_ | refine A_off0 rfl rfl ?_
 | refine A_add rfl rfl rfl (by omega) ?_ | refine A_sub rfl rfl rfl (by omega) ?_ | refine A_mul rfl rfl rfl (by omega) ?_
 | ((first | refine A_eq rfl rfl rfl ?_ ?_ | refine A_ne rfl rfl rfl ?_ ?_) <;> intro hc <;> try first | contradiction | (exfalso; omega) | exact absurd rfl hc)
 | refine A_idxN1 rfl rfl rfl (by omega) ?_ | refine A_idx1 rfl rfl rfl (by omega) ?_
 | (refine A_callB rfl rfl (fun s H => c_r8Long) ?_ ?_ <;> intro hc <;> try first | contradiction | (exfalso; omega) | exact absurd rfl hc | exact absurd (And.intro rfl rfl) hc | exact absurd (And.intro rfl (And.intro rfl rfl)) hc | exact absurd (Eq.trans (by assumption) (Eq.symm (by assumption))) hc)
 | refine A_fld rfl rfl ?_ | refine A_p (by rfl) rfl ?_
 | refine A_ldI rfl (by first | omega | (simp; done) | (simp; omega)) rfl ?_ | refine A_ldB rfl (by first | omega | (simp; done) | (simp; omega)) rfl ?_ | refine A_ld rfl (by rfl) rfl ?_
 | refine A_ldW rfl (by simp) rfl ?_
 | refine A_stW rfl rfl (by simp) rfl ?_
 | ((first | refine A_alloc rfl ?_) <;> intro pz hpz)
 | refine A_ret1 rfl (by exact (RP.t rfl RP.nil)) ?_)
    exact R_v rfl
  repeat' (first
 | refine A_go rfl ?_ | refine A_ifT rfl rfl ?_ | refine A_ifF rfl rfl ?_
 | refine A_offP rfl rfl ?_ | refine A_offH rfl rfl ?_ | refine A_off0 rfl rfl ?_
 | refine A_add rfl rfl rfl (by omega) ?_ | refine A_sub rfl rfl rfl (by omega) ?_ | refine A_mul rfl rfl rfl (by omega) ?_
 | ((first | refine A_eq rfl rfl rfl ?_ ?_ | refine A_ne rfl rfl rfl ?_ ?_) <;> intro hc <;> try first | contradiction | (exfalso; omega) | exact absurd rfl hc)
 | refine A_idxN1 rfl rfl rfl (by omega) ?_ | refine A_idx1 rfl rfl rfl (by omega) ?_
 | (refine A_callB rfl rfl (fun s H => c_r8Long) ?_ ?_ <;> intro hc <;> try first | contradiction | (exfalso; omega) | exact absurd rfl hc | exact absurd (And.intro rfl rfl) hc | exact absurd (And.intro rfl (And.intro rfl rfl)) hc | exact absurd (Eq.trans (by assumption) (Eq.symm (by assumption))) hc)
 | (refine A_callM rfl rfl (fun s H => c_r8At (hl := l1) (hr := c1)) ?_; rintro _ _ ⟨⟨x, rfl, hx⟩, rfl⟩) | (refine A_callM0 rfl rfl (fun s H => c_r8At (hl := l1) (hr := c1)) ?_; rintro _ _ ⟨⟨x, rfl, hx⟩, rfl⟩)
 | refine A_fld rfl rfl ?_ | refine A_p (by rfl) rfl ?_
 | refine A_ldI rfl (by first | omega | (simp; done) | (simp; omega)) rfl ?_ | refine A_ldB rfl (by first | omega | (simp; done) | (simp; omega)) rfl ?_ | refine A_ld rfl (by rfl) rfl ?_
 | refine A_ldW rfl (by simp) rfl ?_
 | refine A_stW rfl rfl (by simp) rfl ?_
 | ((first | refine A_alloc rfl ?_) <;> intro pz hpz)
 | refine A_ret1 rfl (by exact (RP.t rfl RP.nil)) ?_)
  rename_i xr hxr
  obtain ⟨C, hC⟩ : ∃ C : Nat, 1 + x = C := ⟨(1 + x).toNat, by omega⟩
  obtain ⟨R, hR⟩ : ∃ R : Nat, 1 + xr = R := ⟨(1 + xr).toNat, by omega⟩
  rw [hC, hR]
  have hR6 : 1 ≤ R ∧ R ≤ 6 := by omega
  have hC6 : 1 ≤ C ∧ C ≤ 6 := by omega
  clear hxr hx hR hC
  have hRC : R * C ≤ 36 := Nat.mul_le_mul hR6.2 hC6.2
  have hCR : C * R = R * C := Nat.mul_comm C R
  repeat' (first
 | refine A_go rfl ?_ | refine A_ifT rfl rfl ?_ | refine A_ifF rfl rfl ?_
 | refine A_offP rfl rfl ?_ | refine A_offH rfl rfl ?_ | refine A_off0 rfl rfl ?_
 | refine A_add rfl rfl rfl (by omega) ?_ | refine A_sub rfl rfl rfl (by omega) ?_ | refine A_mul rfl rfl rfl (by omega) ?_
 | ((first | refine A_eq rfl rfl rfl ?_ ?_ | refine A_ne rfl rfl rfl ?_ ?_) <;> intro hc <;> try first | contradiction | (exfalso; omega) | exact absurd rfl hc)
 | refine A_idxN1 rfl rfl rfl (by omega) ?_ | refine A_idx1 rfl rfl rfl (by omega) ?_
 | (refine A_callM rfl rfl (fun s H => c_R8Field (hl := l0) (hr := c0)) ?_; rintro _ _ ⟨pz, xs, rfl, hv, hxm, rfl⟩) | (refine A_callM0 rfl rfl (fun s H => c_R8Field (hl := l0) (hr := c0)) ?_; rintro _ _ ⟨pz, xs, rfl, hv, hxm, rfl⟩)
 | refine A_fld rfl rfl ?_ | refine A_p (by rfl) rfl ?_
 | refine A_ldI rfl (by first | omega | (simp; done) | (simp; omega)) rfl ?_ | refine A_ldB rfl (by first | omega | (simp; done) | (simp; omega)) rfl ?_ | refine A_ld rfl (by rfl) rfl ?_
 | refine A_ldW rfl (by simp) rfl ?_
 | refine A_stW rfl rfl (by simp) rfl ?_
 | ((first | refine A_alloc rfl ?_) <;> intro pz hpz)
 | refine A_ret1 rfl (by exact (RP.t rfl RP.nil)) ?_)
  have v1 := hv.turn
  have v2 := v1.turn
  have v3 := v2.turn
  have v4 := v3.turn
  have v5 := hv.mirr
  have v6 := v5.mirr
  have hxl : xs.length = R * C := by have := hv.2.2.1; push_cast at *; omega
  have e4 := turn4 hxl
  have e5 := mirr2 hxl
  repeat' (first
 | refine A_go rfl ?_ | refine A_ifT rfl rfl ?_ | refine A_ifF rfl rfl ?_
 | refine A_offP rfl rfl ?_ | refine A_offH rfl rfl ?_ | refine A_off0 rfl rfl ?_
 | refine A_add rfl rfl rfl (by omega) ?_ | refine A_sub rfl rfl rfl (by omega) ?_ | refine A_mul rfl rfl rfl (by omega) ?_
 | ((first | refine A_eq rfl rfl rfl ?_ ?_ | refine A_ne rfl rfl rfl ?_ ?_) <;> intro hc <;> try first | contradiction | (exfalso; omega) | exact absurd rfl hc)
 | refine A_idxN1 rfl rfl rfl (by omega) ?_ | refine A_idx1 rfl rfl rfl (by omega) ?_
 | (refine A_callM rfl rfl (fun s H => c_turnOk) ?_; rintro _ _ ⟨pz, rfl, rfl⟩) | (refine A_callM0 rfl rfl (fun s H => c_turnOk) ?_; rintro _ _ ⟨pz, rfl, rfl⟩)
 | (refine A_callM rfl rfl (fun s H => c_mirrOk) ?_; rintro _ _ ⟨pz, rfl, rfl⟩) | (refine A_callM0 rfl rfl (fun s H => c_mirrOk) ?_; rintro _ _ ⟨pz, rfl, rfl⟩)
 | (refine A_callM rfl rfl (fun s H => c_r8At (hl := l1) (hr := c1)) ?_; rintro _ _ ⟨⟨x, rfl, hx⟩, rfl⟩) | (refine A_callM0 rfl rfl (fun s H => c_r8At (hl := l1) (hr := c1)) ?_; rintro _ _ ⟨⟨x, rfl, hx⟩, rfl⟩)
 | refine A_fld rfl rfl ?_ | refine A_p (by rfl) rfl ?_
 | refine A_ldI rfl (by first | omega | (simp; done) | (simp; omega)) rfl ?_ | refine A_ldB rfl (by first | omega | (simp; done) | (simp; omega)) rfl ?_ | refine A_ld rfl (by rfl) rfl ?_
 | refine A_ldW rfl (by simp) rfl ?_
 | refine A_stW rfl rfl (by simp) rfl ?_
 | ((first | refine A_alloc rfl ?_) <;> intro pz hpz)
 | refine A_ret1 rfl (by exact (RP.t rfl RP.nil)) ?_)
  rename_i xa hxa
  obtain ⟨a, ha⟩ : ∃ a, xa - 6 = a := ⟨_, rfl⟩
  obtain ⟨b, hb⟩ : ∃ b, x - 6 = b := ⟨_, rfl⟩
  rw [ha, hb]
  have hs1 : Shf a b := shf_of (by omega)
  have hs2 : Shf (0 - a) (0 - b) := shf_of (by omega)
  have hs3 : Shf R C := shf_of (by omega)
  have hwa : IntKind.wrap .i64 (0 - a) = 0 - a := wrap_in (by unfold in64; omega)
  have hwb : IntKind.wrap .i64 (0 - b) = 0 - b := wrap_in (by unfold in64; omega)
  have v7 := hv.shif a b
  have v8 := v7.shif (0 - a) (0 - b)
  have v9 := hv.shif R C
  have e6 : shif R C (shif R C xs a b) (0 - a) (0 - b) = xs := by
    rw [shif2 (by omega) (by omega), show a + (0 - a) = 0 by omega, show b + (0 - b) = 0 by omega]
    exact shif0 hxl (Int.zero_emod _) (Int.zero_emod _)
  have e7 : shif R C xs R C = xs := shif0 hxl (Int.emod_self) (Int.emod_self)
  repeat' (first
 | refine A_go rfl ?_ | refine A_ifT rfl rfl ?_ | refine A_ifF rfl rfl ?_
 | refine A_offP rfl rfl ?_ | refine A_offH rfl rfl ?_ | refine A_off0 rfl rfl ?_
 | refine A_add rfl rfl rfl (by omega) ?_ | refine A_sub rfl rfl rfl (by omega) ?_ | refine A_mul rfl rfl rfl (by omega) ?_
 | ((first | refine A_eq rfl rfl rfl ?_ ?_ | refine A_ne rfl rfl rfl ?_ ?_) <;> intro hc <;> try first | contradiction | (exfalso; omega) | exact absurd rfl hc)
 | refine A_idxN1 rfl rfl rfl (by omega) ?_ | refine A_idx1 rfl rfl rfl (by omega) ?_
 | (refine A_callM rfl rfl (fun s H => c_shifOk) ?_; rintro _ _ ⟨pz, rfl, rfl⟩) | (refine A_callM0 rfl rfl (fun s H => c_shifOk) ?_; rintro _ _ ⟨pz, rfl, rfl⟩)
 | rw [hwa, hwb]
 | refine A_callV rfl rfl (fun s H => c_sameOk) ?_
 | refine A_callV rfl rfl (fun s H => c_validOk) ?_
 | (refine A_callM rfl rfl (fun s H => c_r8At (hl := l1) (hr := c1)) ?_; rintro _ _ ⟨⟨x, rfl, hx⟩, rfl⟩) | (refine A_callM0 rfl rfl (fun s H => c_r8At (hl := l1) (hr := c1)) ?_; rintro _ _ ⟨⟨x, rfl, hx⟩, rfl⟩)
 | refine A_fld rfl rfl ?_ | refine A_p (by rfl) rfl ?_
 | refine A_ldI rfl (by first | omega | (simp; done) | (simp; omega)) rfl ?_ | refine A_ldB rfl (by first | omega | (simp; done) | (simp; omega)) rfl ?_ | refine A_ld rfl (by rfl) rfl ?_
 | refine A_ldW rfl (by simp) rfl ?_
 | refine A_stW rfl rfl (by simp) rfl ?_
 | ((first | refine A_alloc rfl ?_) <;> intro pz hpz)
 | refine A_ret1 rfl (by exact (RP.t rfl RP.nil)) ?_)
  rename_i xrow hrow xcol hcol xh hxh
  obtain ⟨row, rfl⟩ : ∃ n : Nat, xrow = n := ⟨xrow.toNat, by omega⟩
  obtain ⟨col, rfl⟩ : ∃ n : Nat, xcol = n := ⟨xcol.toNat, by omega⟩
  obtain ⟨M, hM⟩ : ∃ n : Nat, 1 + xh = n := ⟨(1 + xh).toNat, by omega⟩
  obtain ⟨N, hN⟩ : ∃ n : Nat, 1 + x = n := ⟨(1 + x).toNat, by omega⟩
  rw [hM, hN]
  have hMR : 1 ≤ M ∧ row + M ≤ R := by omega
  have hNC : 1 ≤ N ∧ col + N ≤ C := by omega
  clear hM hN hxh hx hrow hcol hxa
  have hcov : Cov R C row col M N := cov_of (by omega)
  have hnc : ¬ Cov R C row col ((R : Int) - row + 1) N := fun h => by have := h.2.1; omega
  have hMN : M * N ≤ 36 := Nat.mul_le_mul (show M ≤ 6 by omega) (show N ≤ 6 by omega)
  have eMN : (M : Int) * N = ((M * N : Nat) : Int) := by push_cast; rfl
  have vc : VF M N (cutt C xs row col M N) := hv.mk (by omega) (by omega) fun i k hi hk => hv.cel (by omega) (by omega)
  have vz : VF M N (mk M N fun _ _ => 0) := hv.mk (by omega) (by omega) fun i k hi hk => by omega
  have e8 : mk R C (paG xs C (cutt C xs row col M N) M N row col) = xs := paste_back hxl
  have hz0 : ∀ i k : Int, cel (mk M N fun _ _ => 0) N i k = 0 := fun i k => by
    unfold cel
    by_cases h : (i * (N : Int) + k).toNat < M * N
    · obtain ⟨h1, h2, h3⟩ := div_mod_lt h
      rw [← h3, mk_get h1 h2]
    · rw [List.getD_eq_getElem?_getD, List.getElem?_eq_none (by simp; omega)]; rfl
  obtain ⟨zh, hzh⟩ : ∃ zh, mk R C (paG xs C (mk M N fun _ _ => 0) M N row col) = zh := ⟨_, rfl⟩
  have vh : VF R C zh := by
    rw [← hzh]
    refine hv.mk (by omega) (by omega) fun i k hi hk => ?_
    unfold paG
    split
    · rw [hz0]; omega
    · exact hv.cel (by omega) (by omega)
  have hdf : ((dif zh xs (R * C) : Nat) : Int) = (M : Int) * N - ((cnt (cutt C xs row col M N) 0 (M * N) : Nat) : Int) := by rw [← hzh]; exact dif_hole (zs := mk M N fun _ _ => 0) hxl hMR.2 hNC.2 hz0
  have hcl := cnt_le (xs := cutt C xs row col M N) (a := 0) (M * N)
  have hzl : zh.length = R * C := by rw [← hzh]; simp
  have v8' : VF R C (mk R C (paG xs C (cutt C xs row col M N) M N row col)) := by rw [e8]; exact hv
  have hCR0 : 0 < C * R := Nat.mul_pos (by omega) (by omega)
  have hC : C ≤ R * C := Nat.le_mul_of_pos_left C (by omega)
  have ei : ((R : Int) - 1) * C = ((R * C - C : Nat) : Int) := by
    have : ((R * C : Nat) : Int) = (R : Int) * C := by push_cast; rfl
    rw [Int.sub_mul]; omega
  have hi0 : 0 ≤ ((R : Int) - 1) * C ∧ ((R : Int) - 1) * C < ((R * C : Nat) : Int) := by omega
  have q3 := turn_first (xs := xs) (R := R) (C := C) (by omega) (by omega)
  have q4 := mirr_first (xs := xs) (R := R) (C := C) (by omega) (by omega)
  repeat' (first
 | refine A_go rfl ?_ | refine A_ifT rfl rfl ?_ | refine A_ifF rfl rfl ?_
 | refine A_offP rfl rfl ?_ | refine A_offH rfl rfl ?_ | refine A_off0 rfl rfl ?_
 | refine A_add rfl rfl rfl (by omega) ?_ | refine A_sub rfl rfl rfl (by omega) ?_ | refine A_mul rfl rfl rfl (by omega) ?_
 | ((first | refine A_eq rfl rfl rfl ?_ ?_ | refine A_ne rfl rfl rfl ?_ ?_) <;> intro hc <;> try first | contradiction | (exfalso; omega) | exact absurd rfl hc)
 | refine A_idxN1 rfl rfl rfl (by omega) ?_ | refine A_idx1 rfl rfl rfl (by omega) ?_
 | (refine A_callM rfl rfl (fun s H => c_cutOk) ?_; rintro _ _ ⟨pz, rfl, rfl⟩) | (refine A_callM0 rfl rfl (fun s H => c_cutOk) ?_; rintro _ _ ⟨pz, rfl, rfl⟩)
 | (refine A_callM rfl rfl (fun s H => c_pasteOk) ?_; rintro _ _ ⟨pz, rfl, rfl⟩) | (refine A_callM0 rfl rfl (fun s H => c_pasteOk) ?_; rintro _ _ ⟨pz, rfl, rfl⟩)
 | (refine A_callM rfl rfl (fun s H => c_newOk) ?_; rintro _ _ ⟨pz, rfl, rfl⟩) | (refine A_callM0 rfl rfl (fun s H => c_newOk) ?_; rintro _ _ ⟨pz, rfl, rfl⟩)
 | rw [hzh]
 | refine A_callV rfl rfl (fun s H => c_apartOk) ?_
 | refine A_callV rfl rfl (fun s H => c_countOk) ?_
 | (refine A_callM rfl rfl (fun s H => c_cutNo) ?_; rintro _ _ ⟨pz, rfl, rfl⟩) | (refine A_callM0 rfl rfl (fun s H => c_cutNo) ?_; rintro _ _ ⟨pz, rfl, rfl⟩)
 | refine A_callV rfl rfl (fun s H => c_sameOk) ?_
 | refine A_fld rfl rfl ?_ | refine A_p (by rfl) rfl ?_
 | refine A_ldI rfl (by first | omega | (simp; done) | (simp; omega)) rfl ?_ | refine A_ldB rfl (by first | omega | (simp; done) | (simp; omega)) rfl ?_ | refine A_ld rfl (by rfl) rfl ?_
 | refine A_ldW rfl (by simp) rfl ?_
 | refine A_stW rfl rfl (by simp) rfl ?_
 | ((first | refine A_alloc rfl ?_) <;> intro pz hpz)
 | refine A_ret1 rfl (by exact (RP.t rfl RP.nil)) ?_)
  repeat' (first
 | refine A_go rfl ?_ | refine A_ifT rfl rfl ?_ | refine A_ifF rfl rfl ?_
 | refine A_offP rfl rfl ?_ | refine A_offH rfl rfl ?_ | refine A_off0 rfl rfl ?_
 | refine A_add rfl rfl rfl (by omega) ?_ | refine A_sub rfl rfl rfl (by omega) ?_ | refine A_mul rfl rfl rfl (by omega) ?_
 | ((first | refine A_eq rfl rfl rfl ?_ ?_ | refine A_ne rfl rfl rfl ?_ ?_) <;> intro hc <;> try first | contradiction | (exfalso; omega) | exact absurd rfl hc)
 | refine A_idxN1 rfl rfl rfl (by omega) ?_ | refine A_idx1 rfl rfl rfl (by omega) ?_
 | (refine A_callM rfl rfl (fun s H => c_r8At (hl := l1) (hr := c1)) ?_; rintro _ _ ⟨⟨x, rfl, hx⟩, rfl⟩) | (refine A_callM0 rfl rfl (fun s H => c_r8At (hl := l1) (hr := c1)) ?_; rintro _ _ ⟨⟨x, rfl, hx⟩, rfl⟩)
 | refine A_fld rfl rfl ?_ | refine A_p (by rfl) rfl ?_
 | refine A_ldI rfl (by first | omega | (simp; done) | (simp; omega)) rfl ?_ | refine A_ldB rfl (by first | omega | (simp; done) | (simp; omega)) rfl ?_ | refine A_ld rfl (by rfl) rfl ?_
 | refine A_ldW rfl (by simp) rfl ?_
 | refine A_stW rfl rfl (by simp) rfl ?_
 | ((first | refine A_alloc rfl ?_) <;> intro pz hpz)
 | refine A_ret1 rfl (by exact (RP.t rfl RP.nil)) ?_)
  have q1 : cnt (turn R C xs) x (C * R) = cnt xs x (R * C) := cnt_turn hxl
  have q2 : cnt (shif R C xs a b) x (R * C) = cnt xs x (R * C) := cnt_shif hxl (by omega) (by omega)
  repeat' (first
 | refine A_go rfl ?_ | refine A_ifT rfl rfl ?_ | refine A_ifF rfl rfl ?_
 | refine A_offP rfl rfl ?_ | refine A_offH rfl rfl ?_ | refine A_off0 rfl rfl ?_
 | refine A_add rfl rfl rfl (by omega) ?_ | refine A_sub rfl rfl rfl (by omega) ?_ | refine A_mul rfl rfl rfl (by omega) ?_
 | ((first | refine A_eq rfl rfl rfl ?_ ?_ | refine A_ne rfl rfl rfl ?_ ?_) <;> intro hc <;> try first | contradiction | (exfalso; omega) | exact absurd rfl hc)
 | refine A_idxN1 rfl rfl rfl (by omega) ?_ | refine A_idx1 rfl rfl rfl (by omega) ?_
 | refine A_callV rfl rfl (fun s H => c_countOk) ?_
 | refine A_fld rfl rfl ?_ | refine A_p (by rfl) rfl ?_
 | refine A_ldI rfl (by first | omega | (simp; done) | (simp; omega)) rfl ?_ | refine A_ldB rfl (by first | omega | (simp; done) | (simp; omega)) rfl ?_ | refine A_ld rfl (by rfl) rfl ?_
 | refine A_ldW rfl (by simp) rfl ?_
 | refine A_stW rfl rfl (by simp) rfl ?_
 | ((first | refine A_alloc rfl ?_) <;> intro pz hpz)
 | refine A_ret1 rfl (by exact (RP.t rfl RP.nil)) ?_)
  all_goals exact R_v rfl

end Go.Proofs.Ytckobcjjbpnkcaa
