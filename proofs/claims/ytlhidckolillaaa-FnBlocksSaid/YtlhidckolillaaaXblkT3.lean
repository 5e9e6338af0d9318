/- The law FnBlocks: its glider. -/
import Derived.Test.YtlhidckolillaaaXblkOk
import Derived.Test.YtlhidckolillaaaXglider
import Derived.Test.YtlhidckolillaaaXsameField
import Derived.Test.YtlhidckolillaaaXframeM
import Derived.Test.YtlhidckolillaaaFB
namespace Go.Proofs.Ytlhidckolillaaa
open Go Go.RowKit
set_option linter.unusedVariables false
set_option linter.unusedSimpArgs false
set_option maxRecDepth 100000
set_option maxHeartbeats 8000000
-- laws.FnBlocks
def L5 : AFun := ⟨329, [.t 4],
 (.seq (.ops false [⟨(some 4), .mv (.k (bv false)), none, []⟩])
 (.seq (.seq (.ops false [⟨(some 48), .mv (.t 0), none, []⟩,
    ⟨(some 49), .mv (.t 1), none, []⟩,
    ⟨(some 50), .call (.f 16) [(.t 48), (.t 49)], none, []⟩])
  (.cond (.t 50) (.seq (.ops false [⟨(some 4), .mv (.k (bv true)), none, []⟩])
   .ret)
   .skip))
 (.seq (.ops false [⟨(some 51), .mv (.t 0), none, []⟩,
   ⟨(some 52), .call (.f 31) [(.t 51)], none, []⟩,
   ⟨(some 5), .mv (.t 52), none, []⟩])
 (.seq (.ops false [⟨(some 54), .mv (.t 5), none, []⟩,
   ⟨(some 55), .call (.f 32) [(.t 54)], none, []⟩,
   ⟨(some 53), .mv (.t 55), none, []⟩,
   ⟨(some 56), .ext (.t 53) 0, none, []⟩,
   ⟨(some 57), .ext (.t 53) 1, none, []⟩,
   ⟨(some 6), .mv (.t 56), none, []⟩,
   ⟨(some 7), .mv (.t 57), none, []⟩])
 (.seq (.ops false [⟨(some 59), .mv (.t 6), none, []⟩,
   ⟨(some 60), .call (.f 32) [(.t 59)], none, []⟩,
   ⟨(some 58), .mv (.t 60), none, []⟩,
   ⟨(some 61), .ext (.t 58) 0, none, []⟩,
   ⟨(some 62), .ext (.t 58) 1, none, []⟩,
   ⟨(some 8), .mv (.t 61), none, []⟩,
   ⟨(some 9), .mv (.t 62), none, []⟩])
 (.seq (.ops false [⟨(some 63), .mv (.t 1), none, []⟩,
   ⟨(some 64), .mv (.t 1), none, []⟩,
   ⟨(some 65), .call (.f 19) [(.t 64), (.k (iv 40)), (.k (iv 3))], none, []⟩,
   ⟨(some 66), .bin .mul (.k (iv 2)) (.t 65), none, []⟩,
   ⟨(some 67), .bin .add (.k (iv 2)) (.t 66), none, []⟩,
   ⟨(some 68), .mv (.t 1), none, []⟩,
   ⟨(some 69), .call (.f 19) [(.t 68), (.k (iv 41)), (.k (iv 3))], none, []⟩,
   ⟨(some 70), .bin .mul (.k (iv 2)) (.t 69), none, []⟩,
   ⟨(some 71), .bin .add (.k (iv 2)) (.t 70), none, []⟩,
   ⟨(some 72), .call (.f 18) [(.t 63), (.t 67), (.t 71), (.k (iv 2))], none, []⟩,
   ⟨(some 10), .alloc 26 [.int .i64 0, .int .i64 0, .sl 0 0 0], none, []⟩,
   ⟨none, .store 3 (.t 10) (.t 72), none, []⟩])
 (.seq (.ops false [⟨(some 73), .mv (.t 1), none, []⟩,
   ⟨(some 74), .call (.f 19) [(.t 73), (.k (iv 42)), (.k (iv 2))], none, []⟩,
   ⟨(some 75), .bin .eql (.t 74) (.k (iv 1)), none, []⟩,
   ⟨(some 11), .mv (.t 75), none, []⟩])
 (.seq (.ops false [⟨(some 77), .load true 3 (.t 10), none, []⟩,
   ⟨(some 78), .mv (.t 5), none, []⟩,
   ⟨(some 79), .mv (.t 11), none, []⟩,
   ⟨(some 80), .call (.f 10) [(.t 77), (.t 78), (.t 79)], none, []⟩,
   ⟨(some 76), .mv (.t 80), none, []⟩,
   ⟨(some 81), .ext (.t 76) 0, none, []⟩,
   ⟨(some 82), .ext (.t 76) 1, none, []⟩,
   ⟨(some 12), .alloc 26 [.int .i64 0, .int .i64 0, .sl 0 0 0], none, []⟩,
   ⟨none, .store 3 (.t 12) (.t 81), none, []⟩,
   ⟨(some 13), .mv (.t 82), none, []⟩])
 (.seq (.ops false [⟨(some 84), .load true 3 (.t 12), none, []⟩,
   ⟨(some 85), .mv (.t 6), none, []⟩,
   ⟨(some 86), .mv (.t 11), none, []⟩,
   ⟨(some 87), .call (.f 10) [(.t 84), (.t 85), (.t 86)], none, []⟩,
   ⟨(some 83), .mv (.t 87), none, []⟩,
   ⟨(some 88), .ext (.t 83) 0, none, []⟩,
   ⟨(some 89), .ext (.t 83) 1, none, []⟩,
   ⟨(some 14), .alloc 26 [.int .i64 0, .int .i64 0, .sl 0 0 0], none, []⟩,
   ⟨none, .store 3 (.t 14) (.t 88), none, []⟩,
   ⟨(some 15), .mv (.t 89), none, []⟩])
 (.seq (.seq (.ops false [⟨(some 90), .mv (.t 7), none, []⟩,
    ⟨(some 91), .un .not (.t 90), none, []⟩,
    ⟨(some 92), .mv (.t 91), none, []⟩,
    ⟨(some 93), .mv (.t 9), (some (92, false)), []⟩,
    ⟨(some 94), .un .not (.t 93), (some (92, false)), []⟩,
    ⟨(some 95), .pick (.t 92) (.k (bv true)) (.t 94), none, []⟩,
    ⟨(some 96), .mv (.t 95), none, []⟩,
    ⟨(some 97), .mv (.t 13), (some (96, false)), []⟩,
    ⟨(some 98), .un .not (.t 97), (some (96, false)), []⟩,
    ⟨(some 99), .pick (.t 96) (.k (bv true)) (.t 98), none, []⟩,
    ⟨(some 100), .mv (.t 99), none, []⟩,
    ⟨(some 101), .mv (.t 15), (some (100, false)), []⟩,
    ⟨(some 102), .un .not (.t 101), (some (100, false)), []⟩,
    ⟨(some 103), .pick (.t 100) (.k (bv true)) (.t 102), none, []⟩,
    ⟨(some 104), .mv (.t 103), none, []⟩,
    ⟨(some 105), .mv (.t 5), (some (104, false)), []⟩,
    ⟨(some 106), .call (.f 33) [(.t 105)], (some (104, false)), []⟩,
    ⟨(some 107), .un .not (.t 106), (some (104, false)), []⟩,
    ⟨(some 108), .pick (.t 104) (.k (bv true)) (.t 107), none, []⟩,
    ⟨(some 109), .mv (.t 108), none, []⟩,
    ⟨(some 110), .mv (.t 6), (some (109, false)), []⟩,
    ⟨(some 111), .call (.f 33) [(.t 110)], (some (109, false)), []⟩,
    ⟨(some 112), .un .not (.t 111), (some (109, false)), []⟩,
    ⟨(some 113), .pick (.t 109) (.k (bv true)) (.t 112), none, []⟩,
    ⟨(some 114), .mv (.t 113), none, []⟩,
    ⟨(some 115), .mv (.t 8), (some (114, false)), []⟩,
    ⟨(some 116), .mv (.t 5), (some (114, false)), []⟩,
    ⟨(some 117), .call (.f 34) [(.t 115), (.t 116)], (some (114, false)), []⟩,
    ⟨(some 118), .un .not (.t 117), (some (114, false)), []⟩,
    ⟨(some 119), .pick (.t 114) (.k (bv true)) (.t 118), none, []⟩,
    ⟨(some 120), .mv (.t 119), none, []⟩,
    ⟨(some 121), .load true 3 (.t 14), (some (120, false)), []⟩,
    ⟨(some 122), .load true 3 (.t 10), (some (120, false)), []⟩,
    ⟨(some 123), .call (.f 24) [(.t 121), (.t 122)], (some (120, false)), []⟩,
    ⟨(some 124), .un .not (.t 123), (some (120, false)), []⟩,
    ⟨(some 125), .pick (.t 120) (.k (bv true)) (.t 124), none, []⟩])
  (.cond (.t 125) (.seq (.ops false [⟨(some 4), .mv (.k (bv false)), none, []⟩])
   .ret)
   .skip))
 (.seq (.ops false [⟨(some 126), .buildS 2 1 16 [.int .i64 0] [(0, 1, (.k (iv 0))), (1, 1, (.k (iv 1))), (2, 1, (.k (iv 2))), (3, 1, (.k (iv 3))), (4, 1, (.k (iv 4))), (5, 1, (.k (iv 5))), (6, 1, (.k (iv 6))), (7, 1, (.k (iv 7))), (8, 1, (.k (iv 8))), (9, 1, (.k (iv 9))), (10, 1, (.k (iv 10))), (11, 1, (.k (iv 11))), (12, 1, (.k (iv 12))), (13, 1, (.k (iv 13))), (14, 1, (.k (iv 14))), (15, 1, (.k (iv 15)))], none, []⟩,
   ⟨(some 16), .mv (.t 126), none, []⟩])
 (.seq (.ops false [⟨(some 128), .load true 3 (.t 10), none, []⟩,
   ⟨(some 129), .mv (.t 16), none, []⟩,
   ⟨(some 130), .mv (.t 11), none, []⟩,
   ⟨(some 131), .call (.f 10) [(.t 128), (.t 129), (.t 130)], none, []⟩,
   ⟨(some 127), .mv (.t 131), none, []⟩,
   ⟨(some 132), .ext (.t 127) 0, none, []⟩,
   ⟨(some 133), .ext (.t 127) 1, none, []⟩,
   ⟨(some 17), .alloc 26 [.int .i64 0, .int .i64 0, .sl 0 0 0], none, []⟩,
   ⟨none, .store 3 (.t 17) (.t 132), none, []⟩,
   ⟨(some 18), .mv (.t 133), none, []⟩])
 (.seq (.ops false [⟨(some 134), .mv (.t 1), none, []⟩,
   ⟨(some 135), .fieldA 0 (.t 10), none, []⟩,
   ⟨(some 136), .load false 1 (.t 135), none, []⟩,
   ⟨(some 137), .call (.f 19) [(.t 134), (.k (iv 43)), (.t 136)], none, []⟩,
   ⟨(some 19), .mv (.t 137), none, []⟩])
 (.seq (.ops false [⟨(some 138), .mv (.t 1), none, []⟩,
   ⟨(some 139), .fieldA 1 (.t 10), none, []⟩,
   ⟨(some 140), .load false 1 (.t 139), none, []⟩,
   ⟨(some 141), .call (.f 19) [(.t 138), (.k (iv 44)), (.t 140)], none, []⟩,
   ⟨(some 20), .mv (.t 141), none, []⟩])
 (.seq (.ops false [⟨(some 142), .mv (.t 1), none, []⟩,
   ⟨(some 143), .call (.f 19) [(.t 142), (.k (iv 45)), (.k (iv 4))], none, []⟩,
   ⟨(some 21), .mv (.t 143), none, []⟩])
 (.seq (.ops false [⟨(some 144), .mv (.t 1), none, []⟩,
   ⟨(some 145), .call (.f 19) [(.t 144), (.k (iv 46)), (.k (iv 40))], none, []⟩,
   ⟨(some 22), .mv (.t 145), none, []⟩])
 (.seq (.ops false [⟨(some 147), .load true 3 (.t 10), none, []⟩,
   ⟨(some 148), .mv (.t 19), none, []⟩,
   ⟨(some 149), .mv (.t 20), none, []⟩,
   ⟨(some 150), .mv (.t 21), none, []⟩,
   ⟨(some 151), .mv (.t 22), none, []⟩,
   ⟨(some 152), .call (.f 35) [(.t 147), (.t 148), (.t 149), (.t 150), (.t 151)], none, []⟩,
   ⟨(some 146), .mv (.t 152), none, []⟩,
   ⟨(some 153), .ext (.t 146) 0, none, []⟩,
   ⟨(some 154), .ext (.t 146) 1, none, []⟩,
   ⟨(some 155), .ext (.t 146) 2, none, []⟩,
   ⟨(some 156), .ext (.t 146) 3, none, []⟩,
   ⟨(some 157), .ext (.t 146) 4, none, []⟩,
   ⟨(some 23), .alloc 26 [.int .i64 0, .int .i64 0, .sl 0 0 0], none, []⟩,
   ⟨none, .store 3 (.t 23) (.t 153), none, []⟩,
   ⟨(some 24), .mv (.t 154), none, []⟩,
   ⟨(some 25), .mv (.t 155), none, []⟩,
   ⟨(some 26), .mv (.t 156), none, []⟩,
   ⟨(some 27), .mv (.t 157), none, []⟩])
 (.seq (.ops false [⟨(some 159), .load true 3 (.t 10), none, []⟩,
   ⟨(some 160), .mv (.t 19), none, []⟩,
   ⟨(some 161), .mv (.t 20), none, []⟩,
   ⟨(some 162), .mv (.t 21), none, []⟩,
   ⟨(some 163), .call (.f 35) [(.t 159), (.t 160), (.t 161), (.t 162), (.k (iv 1))], none, []⟩,
   ⟨(some 158), .mv (.t 163), none, []⟩,
   ⟨(some 164), .ext (.t 158) 0, none, []⟩,
   ⟨(some 165), .ext (.t 158) 1, none, []⟩,
   ⟨(some 166), .ext (.t 158) 2, none, []⟩,
   ⟨(some 167), .ext (.t 158) 3, none, []⟩,
   ⟨(some 168), .ext (.t 158) 4, none, []⟩,
   ⟨(some 28), .alloc 26 [.int .i64 0, .int .i64 0, .sl 0 0 0], none, []⟩,
   ⟨none, .store 3 (.t 28) (.t 164), none, []⟩,
   ⟨(some 29), .mv (.t 165), none, []⟩,
   ⟨(some 30), .mv (.t 166), none, []⟩,
   ⟨(some 31), .mv (.t 167), none, []⟩,
   ⟨(some 32), .mv (.t 168), none, []⟩])
 (.seq (.seq (.ops false [⟨(some 169), .mv (.t 18), none, []⟩,
    ⟨(some 170), .un .not (.t 169), none, []⟩,
    ⟨(some 171), .mv (.t 170), none, []⟩,
    ⟨(some 172), .mv (.t 27), (some (171, false)), []⟩,
    ⟨(some 173), .un .not (.t 172), (some (171, false)), []⟩,
    ⟨(some 174), .pick (.t 171) (.k (bv true)) (.t 173), none, []⟩,
    ⟨(some 175), .mv (.t 174), none, []⟩,
    ⟨(some 176), .mv (.t 32), (some (175, false)), []⟩,
    ⟨(some 177), .un .not (.t 176), (some (175, false)), []⟩,
    ⟨(some 178), .pick (.t 175) (.k (bv true)) (.t 177), none, []⟩,
    ⟨(some 179), .mv (.t 178), none, []⟩,
    ⟨(some 180), .load true 3 (.t 17), (some (179, false)), []⟩,
    ⟨(some 181), .load true 3 (.t 10), (some (179, false)), []⟩,
    ⟨(some 182), .call (.f 24) [(.t 180), (.t 181)], (some (179, false)), []⟩,
    ⟨(some 183), .un .not (.t 182), (some (179, false)), []⟩,
    ⟨(some 184), .pick (.t 179) (.k (bv true)) (.t 183), none, []⟩,
    ⟨(some 185), .mv (.t 184), none, []⟩,
    ⟨(some 186), .mv (.t 24), (some (185, false)), []⟩,
    ⟨(some 187), .bin .lss (.t 186) (.k (iv 0)), (some (185, false)), []⟩,
    ⟨(some 188), .pick (.t 185) (.k (bv true)) (.t 187), none, []⟩,
    ⟨(some 189), .mv (.t 188), none, []⟩,
    ⟨(some 190), .mv (.t 24), (some (189, false)), []⟩,
    ⟨(some 191), .fieldA 0 (.t 10), (some (189, false)), []⟩,
    ⟨(some 192), .load false 1 (.t 191), (some (189, false)), []⟩,
    ⟨(some 193), .bin .geq (.t 190) (.t 192), (some (189, false)), []⟩,
    ⟨(some 194), .pick (.t 189) (.k (bv true)) (.t 193), none, []⟩,
    ⟨(some 195), .mv (.t 194), none, []⟩,
    ⟨(some 196), .mv (.t 25), (some (195, false)), []⟩,
    ⟨(some 197), .bin .lss (.t 196) (.k (iv 0)), (some (195, false)), []⟩,
    ⟨(some 198), .pick (.t 195) (.k (bv true)) (.t 197), none, []⟩,
    ⟨(some 199), .mv (.t 198), none, []⟩,
    ⟨(some 200), .mv (.t 25), (some (199, false)), []⟩,
    ⟨(some 201), .fieldA 1 (.t 10), (some (199, false)), []⟩,
    ⟨(some 202), .load false 1 (.t 201), (some (199, false)), []⟩,
    ⟨(some 203), .bin .geq (.t 200) (.t 202), (some (199, false)), []⟩,
    ⟨(some 204), .pick (.t 199) (.k (bv true)) (.t 203), none, []⟩,
    ⟨(some 205), .mv (.t 204), none, []⟩,
    ⟨(some 206), .mv (.t 26), (some (205, false)), []⟩,
    ⟨(some 207), .bin .lss (.t 206) (.k (iv 0)), (some (205, false)), []⟩,
    ⟨(some 208), .pick (.t 205) (.k (bv true)) (.t 207), none, []⟩,
    ⟨(some 209), .mv (.t 208), none, []⟩,
    ⟨(some 210), .mv (.t 26), (some (209, false)), []⟩,
    ⟨(some 211), .bin .gtr (.t 210) (.k (iv 3)), (some (209, false)), []⟩,
    ⟨(some 212), .pick (.t 209) (.k (bv true)) (.t 211), none, []⟩])
  (.cond (.t 212) (.seq (.ops false [⟨(some 4), .mv (.k (bv false)), none, []⟩])
   .ret)
   .skip))
 (.seq (.ops false [⟨(some 214), .load true 3 (.t 28), none, []⟩,
   ⟨(some 215), .load true 3 (.t 10), none, []⟩,
   ⟨(some 216), .call (.f 36) [(.t 214), (.t 215)], none, []⟩,
   ⟨(some 213), .mv (.t 216), none, []⟩,
   ⟨(some 217), .ext (.t 213) 0, none, []⟩,
   ⟨(some 218), .ext (.t 213) 1, none, []⟩,
   ⟨(some 33), .mv (.t 217), none, []⟩,
   ⟨(some 34), .mv (.t 218), none, []⟩])
 (.seq (.ops false [⟨(some 220), .load true 3 (.t 23), none, []⟩,
   ⟨(some 221), .load true 3 (.t 10), none, []⟩,
   ⟨(some 222), .call (.f 36) [(.t 220), (.t 221)], none, []⟩,
   ⟨(some 219), .mv (.t 222), none, []⟩,
   ⟨(some 223), .ext (.t 219) 0, none, []⟩,
   ⟨(some 224), .ext (.t 219) 1, none, []⟩,
   ⟨(some 35), .mv (.t 223), none, []⟩,
   ⟨(some 36), .mv (.t 224), none, []⟩])
 (.seq (.ops false [⟨(some 37), .mv (.k (iv 1)), none, []⟩])
 (.seq (.seq (.ops false [⟨(some 225), .fieldA 2 (.t 10), none, []⟩,
    ⟨(some 226), .load false 1 (.t 225), none, []⟩,
    ⟨(some 227), .mv (.t 19), none, []⟩,
    ⟨(some 228), .fieldA 1 (.t 10), none, []⟩,
    ⟨(some 229), .load false 1 (.t 228), none, []⟩,
    ⟨(some 230), .bin .mul (.t 227) (.t 229), none, []⟩,
    ⟨(some 231), .mv (.t 20), none, []⟩,
    ⟨(some 232), .bin .add (.t 230) (.t 231), none, []⟩,
    ⟨(some 233), .idxA 1 (.t 226) (.t 232), none, []⟩,
    ⟨(some 234), .load false 1 (.t 233), none, []⟩,
    ⟨(some 235), .bin .eql (.t 234) (.k (iv 1)), none, []⟩])
  (.cond (.t 235) (.ops false [⟨(some 37), .mv (.k (iv 3)), none, []⟩])
   .skip))
 (.seq (.seq (.ops false [⟨(some 236), .mv (.t 34), none, []⟩,
    ⟨(some 237), .un .not (.t 236), none, []⟩,
    ⟨(some 238), .mv (.t 237), none, []⟩,
    ⟨(some 239), .mv (.t 36), (some (238, false)), []⟩,
    ⟨(some 240), .un .not (.t 239), (some (238, false)), []⟩,
    ⟨(some 241), .pick (.t 238) (.k (bv true)) (.t 240), none, []⟩,
    ⟨(some 242), .mv (.t 241), none, []⟩,
    ⟨(some 243), .mv (.t 33), (some (242, false)), []⟩,
    ⟨(some 244), .bin .neq (.t 243) (.k (iv 1)), (some (242, false)), []⟩,
    ⟨(some 245), .pick (.t 242) (.k (bv true)) (.t 244), none, []⟩,
    ⟨(some 246), .mv (.t 245), none, []⟩,
    ⟨(some 247), .mv (.t 35), (some (246, false)), []⟩,
    ⟨(some 248), .mv (.t 22), (some (246, false)), []⟩,
    ⟨(some 249), .bin .gtr (.t 247) (.t 248), (some (246, false)), []⟩,
    ⟨(some 250), .pick (.t 246) (.k (bv true)) (.t 249), none, []⟩,
    ⟨(some 251), .mv (.t 250), none, []⟩,
    ⟨(some 252), .mv (.t 35), (some (251, false)), []⟩,
    ⟨(some 253), .mv (.t 22), (some (251, false)), []⟩,
    ⟨(some 254), .bin .sub (.t 252) (.t 253), (some (251, false)), []⟩,
    ⟨(some 255), .bin .rem (.t 254) (.k (iv 2)), (some (251, false)), []⟩,
    ⟨(some 256), .bin .neq (.t 255) (.k (iv 0)), (some (251, false)), []⟩,
    ⟨(some 257), .pick (.t 251) (.k (bv true)) (.t 256), none, []⟩,
    ⟨(some 258), .mv (.t 257), none, []⟩,
    ⟨(some 259), .mv (.t 31), (some (258, false)), []⟩,
    ⟨(some 260), .mv (.t 21), (some (258, false)), []⟩,
    ⟨(some 261), .mv (.t 37), (some (258, false)), []⟩,
    ⟨(some 262), .bin .add (.t 260) (.t 261), (some (258, false)), []⟩,
    ⟨(some 263), .bin .rem (.t 262) (.k (iv 4)), (some (258, false)), []⟩,
    ⟨(some 264), .bin .neq (.t 259) (.t 263), (some (258, false)), []⟩,
    ⟨(some 265), .pick (.t 258) (.k (bv true)) (.t 264), none, []⟩])
  (.cond (.t 265) (.seq (.ops false [⟨(some 4), .mv (.k (bv false)), none, []⟩])
   .ret)
   .skip))
 (.seq (.seq (.ops false [⟨(some 266), .mv (.t 22), none, []⟩,
    ⟨(some 267), .bin .gtr (.t 266) (.k (iv 0)), none, []⟩])
  (.cond (.t 267) (.seq (.ops false [⟨(some 269), .load true 3 (.t 28), none, []⟩,
     ⟨(some 270), .mv (.t 29), none, []⟩,
     ⟨(some 271), .mv (.t 30), none, []⟩,
     ⟨(some 272), .mv (.t 31), none, []⟩,
     ⟨(some 273), .mv (.t 22), none, []⟩,
     ⟨(some 274), .bin .sub (.t 273) (.k (iv 1)), none, []⟩,
     ⟨(some 275), .call (.f 35) [(.t 269), (.t 270), (.t 271), (.t 272), (.t 274)], none, []⟩,
     ⟨(some 268), .mv (.t 275), none, []⟩,
     ⟨(some 276), .ext (.t 268) 0, none, []⟩,
     ⟨(some 277), .ext (.t 268) 1, none, []⟩,
     ⟨(some 278), .ext (.t 268) 2, none, []⟩,
     ⟨(some 279), .ext (.t 268) 3, none, []⟩,
     ⟨(some 280), .ext (.t 268) 4, none, []⟩,
     ⟨(some 38), .alloc 26 [.int .i64 0, .int .i64 0, .sl 0 0 0], none, []⟩,
     ⟨none, .store 3 (.t 38) (.t 276), none, []⟩,
     ⟨(some 39), .mv (.t 277), none, []⟩,
     ⟨(some 40), .mv (.t 278), none, []⟩,
     ⟨(some 41), .mv (.t 279), none, []⟩,
     ⟨(some 42), .mv (.t 280), none, []⟩])
   (.seq (.ops false [⟨(some 281), .mv (.t 42), none, []⟩,
     ⟨(some 282), .un .not (.t 281), none, []⟩,
     ⟨(some 283), .mv (.t 282), none, []⟩,
     ⟨(some 284), .load true 3 (.t 38), (some (283, false)), []⟩,
     ⟨(some 285), .load true 3 (.t 23), (some (283, false)), []⟩,
     ⟨(some 286), .call (.f 24) [(.t 284), (.t 285)], (some (283, false)), []⟩,
     ⟨(some 287), .un .not (.t 286), (some (283, false)), []⟩,
     ⟨(some 288), .pick (.t 283) (.k (bv true)) (.t 287), none, []⟩,
     ⟨(some 289), .mv (.t 288), none, []⟩,
     ⟨(some 290), .mv (.t 39), (some (289, false)), []⟩,
     ⟨(some 291), .mv (.t 24), (some (289, false)), []⟩,
     ⟨(some 292), .bin .neq (.t 290) (.t 291), (some (289, false)), []⟩,
     ⟨(some 293), .pick (.t 289) (.k (bv true)) (.t 292), none, []⟩,
     ⟨(some 294), .mv (.t 293), none, []⟩,
     ⟨(some 295), .mv (.t 40), (some (294, false)), []⟩,
     ⟨(some 296), .mv (.t 25), (some (294, false)), []⟩,
     ⟨(some 297), .bin .neq (.t 295) (.t 296), (some (294, false)), []⟩,
     ⟨(some 298), .pick (.t 294) (.k (bv true)) (.t 297), none, []⟩,
     ⟨(some 299), .mv (.t 298), none, []⟩,
     ⟨(some 300), .mv (.t 41), (some (299, false)), []⟩,
     ⟨(some 301), .mv (.t 26), (some (299, false)), []⟩,
     ⟨(some 302), .bin .neq (.t 300) (.t 301), (some (299, false)), []⟩,
     ⟨(some 303), .pick (.t 299) (.k (bv true)) (.t 302), none, []⟩])
   (.cond (.t 303) (.seq (.ops false [⟨(some 4), .mv (.k (bv false)), none, []⟩])
    .ret)
    .skip)))
   .skip))
 (.seq (.ops false [⟨(some 304), .buildS 2 1 36 [.int .i64 0] [(0, 1, (.k (iv 0))), (1, 1, (.k (iv 1))), (2, 1, (.k (iv 0))), (3, 1, (.k (iv 0))), (4, 1, (.k (iv 0))), (5, 1, (.k (iv 0))), (6, 1, (.k (iv 0))), (7, 1, (.k (iv 0))), (8, 1, (.k (iv 1))), (9, 1, (.k (iv 0))), (10, 1, (.k (iv 0))), (11, 1, (.k (iv 0))), (12, 1, (.k (iv 1))), (13, 1, (.k (iv 1))), (14, 1, (.k (iv 1))), (15, 1, (.k (iv 0))), (16, 1, (.k (iv 0))), (17, 1, (.k (iv 0))), (18, 1, (.k (iv 0))), (19, 1, (.k (iv 0))), (20, 1, (.k (iv 0))), (21, 1, (.k (iv 0))), (22, 1, (.k (iv 0))), (23, 1, (.k (iv 0))), (24, 1, (.k (iv 0))), (25, 1, (.k (iv 0))), (26, 1, (.k (iv 0))), (27, 1, (.k (iv 0))), (28, 1, (.k (iv 0))), (29, 1, (.k (iv 0))), (30, 1, (.k (iv 0))), (31, 1, (.k (iv 0))), (32, 1, (.k (iv 0))), (33, 1, (.k (iv 0))), (34, 1, (.k (iv 0))), (35, 1, (.k (iv 0)))], none, []⟩,
   ⟨(some 305), .build [.int .i64 0, .int .i64 0, .sl 0 0 0] [(0, 1, (.k (iv 6))), (1, 1, (.k (iv 6))), (2, 1, (.t 304))], none, []⟩,
   ⟨(some 43), .alloc 26 [.int .i64 0, .int .i64 0, .sl 0 0 0], none, []⟩,
   ⟨none, .store 3 (.t 43) (.t 305), none, []⟩])
 (.seq (.ops false [⟨(some 307), .buildS 2 1 1 [.int .i64 0] [(0, 1, (.k (iv 3)))], none, []⟩,
   ⟨(some 308), .buildS 2 1 2 [.int .i64 0] [(0, 1, (.k (iv 2))), (1, 1, (.k (iv 3)))], none, []⟩,
   ⟨(some 309), .build [.sl 0 0 0, .sl 0 0 0] [(0, 1, (.t 307)), (1, 1, (.t 308))], none, []⟩,
   ⟨(some 310), .load true 3 (.t 43), none, []⟩,
   ⟨(some 311), .call (.f 30) [(.t 309), (.t 310), (.k (iv 8))], none, []⟩,
   ⟨(some 306), .mv (.t 311), none, []⟩,
   ⟨(some 312), .ext (.t 306) 0, none, []⟩,
   ⟨(some 313), .ext (.t 306) 1, none, []⟩,
   ⟨(some 314), .ext (.t 306) 2, none, []⟩,
   ⟨(some 315), .ext (.t 306) 3, none, []⟩,
   ⟨(some 44), .mv (.t 312), none, []⟩,
   ⟨(some 45), .mv (.t 313), none, []⟩,
   ⟨(some 46), .mv (.t 314), none, []⟩,
   ⟨(some 47), .mv (.t 315), none, []⟩])
 (.seq (.ops false [⟨(some 316), .mv (.t 47), none, []⟩,
   ⟨(some 317), .mv (.t 316), none, []⟩,
   ⟨(some 318), .mv (.t 44), (some (317, true)), []⟩,
   ⟨(some 319), .bin .eql (.t 318) (.k (iv 4)), (some (317, true)), []⟩,
   ⟨(some 320), .pick (.t 317) (.t 319) (.k (bv false)), none, []⟩,
   ⟨(some 321), .mv (.t 320), none, []⟩,
   ⟨(some 322), .mv (.t 45), (some (321, true)), []⟩,
   ⟨(some 323), .bin .eql (.t 322) (.k (iv 1)), (some (321, true)), []⟩,
   ⟨(some 324), .pick (.t 321) (.t 323) (.k (bv false)), none, []⟩,
   ⟨(some 325), .mv (.t 324), none, []⟩,
   ⟨(some 326), .mv (.t 46), (some (325, true)), []⟩,
   ⟨(some 327), .bin .eql (.t 326) (.k (iv 1)), (some (325, true)), []⟩,
   ⟨(some 328), .pick (.t 325) (.t 327) (.k (bv false)), none, []⟩,
   ⟨(some 4), .mv (.t 328), none, []⟩])
 .ret))))))))))))))))))))))))))))⟩
theorem code5 : acode Try.prog hints 5 = some L5 := by kernel_rfl


abbrev BlK (n : Nat) : KK := .thn (tlc n (L5).body) (.ret [.t 4] fun r N => r = bv true ∧ N = [])
theorem cnts23 : Cnts [2, 3] := ⟨fun i hi => by
  obtain rfl : i = 0 := by simp at hi; omega
  decide, by decide⟩
theorem cnts3 : Cnts [3] := ⟨fun i hi => by simp at hi, by decide⟩
theorem gl_pl : PL ((6 : Nat) : Int) ((6 : Nat) : Int) gl0 := ⟨⟨by decide, by decide, by decide, by decide⟩, by decide⟩
theorem blk_end0 {s : St} [Wf s] : At [] s [] [] [] [] (BlK 25) := by
  have hp : LifeP [3] [2, 3] ((6 : Nat) : Int) ((6 : Nat) : Int) gl0 := ⟨⟨cnts3, cnts23⟩, gl_pl⟩
  have hlen : gl0.length = 36 := rfl
  refine A_go rfl ?_
  refine A_bldC (cs := gl0.map ic) (by decide) rfl rfl ?_
  intro pg hpg
  refine A_subL (L' := [(pg, ints gl0)]) ?_
  have hmv : ∀ V, MvP [3] [2, 3] 6 6 8 gl0 V → V = .tup [.c (ic 4), .c (ic 1), .c (ic 1), .c (.bool true)] := fun V => gl_mv
  generalize gl0 = g at *
  repeat' (first
 | refine A_go rfl ?_ | refine A_ifT rfl rfl ?_ | refine A_ifF rfl rfl ?_ | refine A_offP rfl rfl ?_ | refine A_offH rfl rfl ?_ | refine A_off0 rfl rfl ?_
 | refine A_add rfl rfl rfl (by omega) ?_ | refine A_sub rfl rfl rfl (by omega) ?_ | refine A_mul rfl rfl rfl (by omega) ?_ | refine A_rem rfl rfl rfl (by omega) ?_ | refine A_remT rfl rfl rfl (by omega) ?_ | refine A_quo rfl rfl rfl (by omega) ?_
 | ((first | refine A_lt rfl rfl rfl ?_ ?_ | refine A_le rfl rfl rfl ?_ ?_ | refine A_gt rfl rfl rfl ?_ ?_ | refine A_ge rfl rfl rfl ?_ ?_ | refine A_eq rfl rfl rfl ?_ ?_ | refine A_ne rfl rfl rfl ?_ ?_ | refine A_beq rfl rfl rfl ?_ ?_) <;> intro hc <;> try first | contradiction | (exfalso; omega) | exact absurd rfl hc)
 | refine A_idxN1 rfl rfl rfl (by omega) ?_ | refine A_idx1 rfl rfl rfl (by omega) ?_ | refine A_idxArr1 rfl rfl rfl (by omega) ?_
 | refine A_callM rfl rfl (fun s H => c_movOk (bo := [3]) (sy := [2, 3]) (xs := g) (R := 6) (C := 6) (most := 8) (hp := hp) (hm := by omega)) ?_ | refine A_callM0 rfl rfl (fun s H => c_movOk (bo := [3]) (sy := [2, 3]) (xs := g) (R := 6) (C := 6) (most := 8) (hp := hp) (hm := by omega)) ?_
 | refine A_fld rfl rfl ?_ | refine A_mk3 rfl rfl rfl rfl ?_ | refine A_mk23 rfl rfl rfl ?_ | refine A_mk2 rfl rfl rfl ?_ | refine A_mk13 rfl rfl ?_ | refine A_p (by rfl) rfl ?_
 | refine A_ldI rfl (by first | omega | (simp; done) | (simp; omega)) rfl ?_ | refine A_ldB rfl (by first | omega | (simp; done) | (simp; omega)) rfl ?_ | refine A_ld rfl (by rfl) rfl ?_ | refine A_ldW rfl (by simp) rfl ?_
 | refine A_st rfl rfl rfl ?_ | refine A_stW rfl rfl (by simp) rfl ?_ | refine A_stE rfl rfl (by first | omega | (simp; done) | (simp; omega)) rfl ?_
 | ((first | refine A_alloc rfl ?_ | refine A_box rfl rfl ?_ | refine A_boxC rfl rfl ?_ | refine A_makeN rfl rfl rfl (by omega) ?_ | refine A_make rfl rfl rfl (by omega) ?_ | refine A_bld1 rfl rfl ?_ | refine A_bld2 rfl rfl rfl ?_ | refine A_bld4 rfl rfl rfl rfl rfl ?_) <;> intro pz hpz)
 | refine A_bld0 rfl ?_ | (refine A_app rfl rfl rfl (by first | omega | (simp; done) | (simp; omega)) (by first | omega | (simp; done) | (simp; omega)) (by omega) ?_; intro pz) | (refine A_appN (enc := ic) rfl (by decide) rfl rfl (by first | omega | (simp; done) | (simp; omega)) (by omega) ?_; intro pz)
 | refine A_chk1 rfl rfl rfl ?_ | refine A_chk2 rfl rfl rfl rfl ?_ | refine A_chk3 rfl rfl rfl rfl rfl ?_ | refine A_chk4 rfl rfl rfl rfl rfl rfl ?_ | refine A_chkI rfl (by assumption) rfl (by simp) ?_
 | refine A_ret1 rfl (by first | exact (RP.t rfl RP.nil) | exact (RP.c rfl inferInstance rfl (by simp) RP.nil)) ?_ | refine A_ret rfl (by first | exact (RP.t rfl (RP.t rfl RP.nil)) | exact (RP.c rfl inferInstance rfl (by simp) (RP.t rfl RP.nil)) | exact (RP.t rfl (RP.t rfl (RP.t rfl RP.nil))) | exact (RP.c rfl inferInstance rfl (by simp) (RP.t rfl (RP.t rfl RP.nil))) | exact (RP.c rfl inferInstance rfl (by simp) (RP.t rfl (RP.t rfl (RP.t rfl (RP.t rfl RP.nil)))))) ?_ | refine A_ret0 rfl ?_)
  rintro _ _ ⟨hv, rfl⟩
  obtain rfl := hmv _ hv
  repeat' (first
 | refine A_go rfl ?_ | refine A_ifT rfl rfl ?_ | refine A_ifF rfl rfl ?_ | refine A_offP rfl rfl ?_ | refine A_offH rfl rfl ?_ | refine A_off0 rfl rfl ?_
 | refine A_add rfl rfl rfl (by omega) ?_ | refine A_sub rfl rfl rfl (by omega) ?_ | refine A_mul rfl rfl rfl (by omega) ?_ | refine A_rem rfl rfl rfl (by omega) ?_ | refine A_remT rfl rfl rfl (by omega) ?_ | refine A_quo rfl rfl rfl (by omega) ?_
 | ((first | refine A_lt rfl rfl rfl ?_ ?_ | refine A_le rfl rfl rfl ?_ ?_ | refine A_gt rfl rfl rfl ?_ ?_ | refine A_ge rfl rfl rfl ?_ ?_ | refine A_eq rfl rfl rfl ?_ ?_ | refine A_ne rfl rfl rfl ?_ ?_ | refine A_beq rfl rfl rfl ?_ ?_) <;> intro hc <;> try first | contradiction | (exfalso; omega) | exact absurd rfl hc)
 | refine A_idxN1 rfl rfl rfl (by omega) ?_ | refine A_idx1 rfl rfl rfl (by omega) ?_ | refine A_idxArr1 rfl rfl rfl (by omega) ?_
 | refine A_fld rfl rfl ?_ | refine A_mk3 rfl rfl rfl rfl ?_ | refine A_mk23 rfl rfl rfl ?_ | refine A_mk2 rfl rfl rfl ?_ | refine A_mk13 rfl rfl ?_ | refine A_p (by rfl) rfl ?_
 | refine A_ldI rfl (by first | omega | (simp; done) | (simp; omega)) rfl ?_ | refine A_ldB rfl (by first | omega | (simp; done) | (simp; omega)) rfl ?_ | refine A_ld rfl (by rfl) rfl ?_ | refine A_ldW rfl (by simp) rfl ?_
 | refine A_st rfl rfl rfl ?_ | refine A_stW rfl rfl (by simp) rfl ?_ | refine A_stE rfl rfl (by first | omega | (simp; done) | (simp; omega)) rfl ?_
 | ((first | refine A_alloc rfl ?_ | refine A_box rfl rfl ?_ | refine A_boxC rfl rfl ?_ | refine A_makeN rfl rfl rfl (by omega) ?_ | refine A_make rfl rfl rfl (by omega) ?_ | refine A_bld1 rfl rfl ?_ | refine A_bld2 rfl rfl rfl ?_ | refine A_bld4 rfl rfl rfl rfl rfl ?_) <;> intro pz hpz)
 | refine A_bld0 rfl ?_ | (refine A_app rfl rfl rfl (by first | omega | (simp; done) | (simp; omega)) (by first | omega | (simp; done) | (simp; omega)) (by omega) ?_; intro pz) | (refine A_appN (enc := ic) rfl (by decide) rfl rfl (by first | omega | (simp; done) | (simp; omega)) (by omega) ?_; intro pz)
 | refine A_chk1 rfl rfl rfl ?_ | refine A_chk2 rfl rfl rfl rfl ?_ | refine A_chk3 rfl rfl rfl rfl rfl ?_ | refine A_chk4 rfl rfl rfl rfl rfl rfl ?_ | refine A_chkI rfl (by assumption) rfl (by simp) ?_
 | refine A_ret1 rfl (by first | exact (RP.t rfl RP.nil) | exact (RP.c rfl inferInstance rfl (by simp) RP.nil)) ?_ | refine A_ret rfl (by first | exact (RP.t rfl (RP.t rfl RP.nil)) | exact (RP.c rfl inferInstance rfl (by simp) (RP.t rfl RP.nil)) | exact (RP.t rfl (RP.t rfl (RP.t rfl RP.nil))) | exact (RP.c rfl inferInstance rfl (by simp) (RP.t rfl (RP.t rfl RP.nil))) | exact (RP.c rfl inferInstance rfl (by simp) (RP.t rfl (RP.t rfl (RP.t rfl (RP.t rfl RP.nil)))))) ?_ | refine A_ret0 rfl ?_)
  exact R_v rfl
theorem blk_end {s : St} [Wf s] {L : Objs} {hist : List Objs} {fr : Frm} : At [] s L [] hist fr (BlK 25) :=
  A_fr [] rfl rfl (A_subL blk_end0)

end Go.Proofs.Ytlhidckolillaaa
