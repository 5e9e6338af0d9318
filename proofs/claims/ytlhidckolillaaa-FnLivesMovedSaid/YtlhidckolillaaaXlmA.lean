/- The law FnLivesMoved: contracts of what it calls, with their results named. -/
import Derived.Test.YtlhidckolillaaaXlifeD2
import Derived.Test.YtlhidckolillaaaXdraw
import Derived.Test.YtlhidckolillaaaFB
namespace Go.Proofs.Ytlhidckolillaaa
open Go Go.RowKit
set_option linter.unusedVariables false
set_option linter.unusedSimpArgs false
set_option maxRecDepth 100000
set_option maxHeartbeats 8000000
-- laws.FnLivesMoved
def L4 : AFun := ⟨382, [.t 4],
 (.seq (.ops false [⟨(some 4), .mv (.k (bv false)), none, []⟩])
 (.seq (.seq (.ops false [⟨(some 54), .mv (.t 0), none, []⟩,
    ⟨(some 55), .mv (.t 1), none, []⟩,
    ⟨(some 56), .call (.f 16) [(.t 54), (.t 55)], none, []⟩])
  (.cond (.t 56) (.seq (.ops false [⟨(some 4), .mv (.k (bv true)), none, []⟩])
   .ret)
   .skip))
 (.seq (.ops false [⟨(some 57), .mv (.t 1), none, []⟩,
   ⟨(some 58), .call (.f 17) [(.t 57)], none, []⟩,
   ⟨(some 5), .alloc 39 [.sl 0 0 0, .sl 0 0 0], none, []⟩,
   ⟨none, .store 2 (.t 5) (.t 58), none, []⟩])
 (.seq (.ops false [⟨(some 59), .mv (.t 0), none, []⟩,
   ⟨(some 60), .mv (.t 1), none, []⟩,
   ⟨(some 61), .call (.f 19) [(.t 60), (.k (iv 40)), (.k (iv 5))], none, []⟩,
   ⟨(some 62), .bin .add (.k (iv 1)) (.t 61), none, []⟩,
   ⟨(some 63), .mv (.t 1), none, []⟩,
   ⟨(some 64), .call (.f 19) [(.t 63), (.k (iv 41)), (.k (iv 5))], none, []⟩,
   ⟨(some 65), .bin .add (.k (iv 1)) (.t 64), none, []⟩,
   ⟨(some 66), .call (.f 18) [(.t 59), (.t 62), (.t 65), (.k (iv 2))], none, []⟩,
   ⟨(some 6), .alloc 26 [.int .i64 0, .int .i64 0, .sl 0 0 0], none, []⟩,
   ⟨none, .store 3 (.t 6) (.t 66), none, []⟩])
 (.seq (.ops false [⟨(some 67), .mv (.t 1), none, []⟩,
   ⟨(some 68), .call (.f 19) [(.t 67), (.k (iv 42)), (.k (iv 2))], none, []⟩,
   ⟨(some 69), .bin .eql (.t 68) (.k (iv 1)), none, []⟩,
   ⟨(some 7), .mv (.t 69), none, []⟩])
 (.seq (.ops false [⟨(some 70), .mv (.t 1), none, []⟩,
   ⟨(some 71), .call (.f 19) [(.t 70), (.k (iv 43)), (.k (iv 6))], none, []⟩,
   ⟨(some 8), .mv (.t 71), none, []⟩])
 (.seq (.ops false [⟨(some 73), .load true 2 (.t 5), none, []⟩,
   ⟨(some 74), .load true 3 (.t 6), none, []⟩,
   ⟨(some 75), .mv (.t 7), none, []⟩,
   ⟨(some 76), .mv (.t 8), none, []⟩,
   ⟨(some 77), .call (.f 20) [(.t 73), (.t 74), (.t 75), (.t 76)], none, []⟩,
   ⟨(some 72), .mv (.t 77), none, []⟩,
   ⟨(some 78), .ext (.t 72) 0, none, []⟩,
   ⟨(some 79), .ext (.t 72) 1, none, []⟩,
   ⟨(some 9), .alloc 26 [.int .i64 0, .int .i64 0, .sl 0 0 0], none, []⟩,
   ⟨none, .store 3 (.t 9) (.t 78), none, []⟩,
   ⟨(some 10), .mv (.t 79), none, []⟩])
 (.seq (.ops false [⟨(some 81), .load true 3 (.t 6), none, []⟩,
   ⟨(some 82), .call (.f 21) [(.t 81)], none, []⟩,
   ⟨(some 80), .mv (.t 82), none, []⟩,
   ⟨(some 83), .ext (.t 80) 0, none, []⟩,
   ⟨(some 84), .ext (.t 80) 1, none, []⟩,
   ⟨(some 11), .alloc 26 [.int .i64 0, .int .i64 0, .sl 0 0 0], none, []⟩,
   ⟨none, .store 3 (.t 11) (.t 83), none, []⟩,
   ⟨(some 12), .mv (.t 84), none, []⟩])
 (.seq (.ops false [⟨(some 86), .load true 2 (.t 5), none, []⟩,
   ⟨(some 87), .load true 3 (.t 11), none, []⟩,
   ⟨(some 88), .mv (.t 7), none, []⟩,
   ⟨(some 89), .mv (.t 8), none, []⟩,
   ⟨(some 90), .call (.f 20) [(.t 86), (.t 87), (.t 88), (.t 89)], none, []⟩,
   ⟨(some 85), .mv (.t 90), none, []⟩,
   ⟨(some 91), .ext (.t 85) 0, none, []⟩,
   ⟨(some 92), .ext (.t 85) 1, none, []⟩,
   ⟨(some 13), .alloc 26 [.int .i64 0, .int .i64 0, .sl 0 0 0], none, []⟩,
   ⟨none, .store 3 (.t 13) (.t 91), none, []⟩,
   ⟨(some 14), .mv (.t 92), none, []⟩])
 (.seq (.ops false [⟨(some 94), .load true 3 (.t 9), none, []⟩,
   ⟨(some 95), .call (.f 21) [(.t 94)], none, []⟩,
   ⟨(some 93), .mv (.t 95), none, []⟩,
   ⟨(some 96), .ext (.t 93) 0, none, []⟩,
   ⟨(some 97), .ext (.t 93) 1, none, []⟩,
   ⟨(some 15), .alloc 26 [.int .i64 0, .int .i64 0, .sl 0 0 0], none, []⟩,
   ⟨none, .store 3 (.t 15) (.t 96), none, []⟩,
   ⟨(some 16), .mv (.t 97), none, []⟩])
 (.seq (.ops false [⟨(some 99), .load true 3 (.t 6), none, []⟩,
   ⟨(some 100), .call (.f 22) [(.t 99)], none, []⟩,
   ⟨(some 98), .mv (.t 100), none, []⟩,
   ⟨(some 101), .ext (.t 98) 0, none, []⟩,
   ⟨(some 102), .ext (.t 98) 1, none, []⟩,
   ⟨(some 17), .alloc 26 [.int .i64 0, .int .i64 0, .sl 0 0 0], none, []⟩,
   ⟨none, .store 3 (.t 17) (.t 101), none, []⟩,
   ⟨(some 18), .mv (.t 102), none, []⟩])
 (.seq (.ops false [⟨(some 104), .load true 2 (.t 5), none, []⟩,
   ⟨(some 105), .load true 3 (.t 17), none, []⟩,
   ⟨(some 106), .mv (.t 7), none, []⟩,
   ⟨(some 107), .mv (.t 8), none, []⟩,
   ⟨(some 108), .call (.f 20) [(.t 104), (.t 105), (.t 106), (.t 107)], none, []⟩,
   ⟨(some 103), .mv (.t 108), none, []⟩,
   ⟨(some 109), .ext (.t 103) 0, none, []⟩,
   ⟨(some 110), .ext (.t 103) 1, none, []⟩,
   ⟨(some 19), .alloc 26 [.int .i64 0, .int .i64 0, .sl 0 0 0], none, []⟩,
   ⟨none, .store 3 (.t 19) (.t 109), none, []⟩,
   ⟨(some 20), .mv (.t 110), none, []⟩])
 (.seq (.ops false [⟨(some 112), .load true 3 (.t 9), none, []⟩,
   ⟨(some 113), .call (.f 22) [(.t 112)], none, []⟩,
   ⟨(some 111), .mv (.t 113), none, []⟩,
   ⟨(some 114), .ext (.t 111) 0, none, []⟩,
   ⟨(some 115), .ext (.t 111) 1, none, []⟩,
   ⟨(some 21), .alloc 26 [.int .i64 0, .int .i64 0, .sl 0 0 0], none, []⟩,
   ⟨none, .store 3 (.t 21) (.t 114), none, []⟩,
   ⟨(some 22), .mv (.t 115), none, []⟩])
 (.seq (.seq (.ops false [⟨(some 116), .mv (.t 10), none, []⟩,
    ⟨(some 117), .un .not (.t 116), none, []⟩,
    ⟨(some 118), .mv (.t 117), none, []⟩,
    ⟨(some 119), .mv (.t 12), (some (118, false)), []⟩,
    ⟨(some 120), .un .not (.t 119), (some (118, false)), []⟩,
    ⟨(some 121), .pick (.t 118) (.k (bv true)) (.t 120), none, []⟩,
    ⟨(some 122), .mv (.t 121), none, []⟩,
    ⟨(some 123), .mv (.t 14), (some (122, false)), []⟩,
    ⟨(some 124), .un .not (.t 123), (some (122, false)), []⟩,
    ⟨(some 125), .pick (.t 122) (.k (bv true)) (.t 124), none, []⟩,
    ⟨(some 126), .mv (.t 125), none, []⟩,
    ⟨(some 127), .mv (.t 16), (some (126, false)), []⟩,
    ⟨(some 128), .un .not (.t 127), (some (126, false)), []⟩,
    ⟨(some 129), .pick (.t 126) (.k (bv true)) (.t 128), none, []⟩,
    ⟨(some 130), .mv (.t 129), none, []⟩,
    ⟨(some 131), .mv (.t 18), (some (130, false)), []⟩,
    ⟨(some 132), .un .not (.t 131), (some (130, false)), []⟩,
    ⟨(some 133), .pick (.t 130) (.k (bv true)) (.t 132), none, []⟩,
    ⟨(some 134), .mv (.t 133), none, []⟩,
    ⟨(some 135), .mv (.t 20), (some (134, false)), []⟩,
    ⟨(some 136), .un .not (.t 135), (some (134, false)), []⟩,
    ⟨(some 137), .pick (.t 134) (.k (bv true)) (.t 136), none, []⟩,
    ⟨(some 138), .mv (.t 137), none, []⟩,
    ⟨(some 139), .mv (.t 22), (some (138, false)), []⟩,
    ⟨(some 140), .un .not (.t 139), (some (138, false)), []⟩,
    ⟨(some 141), .pick (.t 138) (.k (bv true)) (.t 140), none, []⟩,
    ⟨(some 142), .mv (.t 141), none, []⟩,
    ⟨(some 143), .load true 2 (.t 5), (some (142, false)), []⟩,
    ⟨(some 144), .call (.f 23) [(.t 143)], (some (142, false)), []⟩,
    ⟨(some 145), .un .not (.t 144), (some (142, false)), []⟩,
    ⟨(some 146), .pick (.t 142) (.k (bv true)) (.t 145), none, []⟩,
    ⟨(some 147), .mv (.t 146), none, []⟩,
    ⟨(some 148), .load true 3 (.t 13), (some (147, false)), []⟩,
    ⟨(some 149), .load true 3 (.t 15), (some (147, false)), []⟩,
    ⟨(some 150), .call (.f 24) [(.t 148), (.t 149)], (some (147, false)), []⟩,
    ⟨(some 151), .un .not (.t 150), (some (147, false)), []⟩,
    ⟨(some 152), .pick (.t 147) (.k (bv true)) (.t 151), none, []⟩,
    ⟨(some 153), .mv (.t 152), none, []⟩,
    ⟨(some 154), .load true 3 (.t 19), (some (153, false)), []⟩,
    ⟨(some 155), .load true 3 (.t 21), (some (153, false)), []⟩,
    ⟨(some 156), .call (.f 24) [(.t 154), (.t 155)], (some (153, false)), []⟩,
    ⟨(some 157), .un .not (.t 156), (some (153, false)), []⟩,
    ⟨(some 158), .pick (.t 153) (.k (bv true)) (.t 157), none, []⟩])
  (.cond (.t 158) (.seq (.ops false [⟨(some 4), .mv (.k (bv false)), none, []⟩])
   .ret)
   .skip))
 (.seq (.ops false [⟨(some 159), .mv (.t 1), none, []⟩,
   ⟨(some 160), .call (.f 19) [(.t 159), (.k (iv 44)), (.k (iv 5))], none, []⟩,
   ⟨(some 23), .mv (.t 160), none, []⟩])
 (.seq (.ops false [⟨(some 161), .mv (.t 1), none, []⟩,
   ⟨(some 162), .call (.f 19) [(.t 161), (.k (iv 45)), (.k (iv 5))], none, []⟩,
   ⟨(some 24), .mv (.t 162), none, []⟩])
 (.seq (.ops false [⟨(some 164), .load true 3 (.t 6), none, []⟩,
   ⟨(some 165), .mv (.t 23), none, []⟩,
   ⟨(some 166), .mv (.t 24), none, []⟩,
   ⟨(some 167), .call (.f 25) [(.t 164), (.t 165), (.t 166)], none, []⟩,
   ⟨(some 163), .mv (.t 167), none, []⟩,
   ⟨(some 168), .ext (.t 163) 0, none, []⟩,
   ⟨(some 169), .ext (.t 163) 1, none, []⟩,
   ⟨(some 25), .alloc 26 [.int .i64 0, .int .i64 0, .sl 0 0 0], none, []⟩,
   ⟨none, .store 3 (.t 25) (.t 168), none, []⟩,
   ⟨(some 26), .mv (.t 169), none, []⟩])
 (.seq (.ops false [⟨(some 171), .load true 2 (.t 5), none, []⟩,
   ⟨(some 172), .load true 3 (.t 25), none, []⟩,
   ⟨(some 173), .mv (.t 8), none, []⟩,
   ⟨(some 174), .call (.f 20) [(.t 171), (.t 172), (.k (bv true)), (.t 173)], none, []⟩,
   ⟨(some 170), .mv (.t 174), none, []⟩,
   ⟨(some 175), .ext (.t 170) 0, none, []⟩,
   ⟨(some 176), .ext (.t 170) 1, none, []⟩,
   ⟨(some 27), .alloc 26 [.int .i64 0, .int .i64 0, .sl 0 0 0], none, []⟩,
   ⟨none, .store 3 (.t 27) (.t 175), none, []⟩,
   ⟨(some 28), .mv (.t 176), none, []⟩])
 (.seq (.ops false [⟨(some 178), .load true 2 (.t 5), none, []⟩,
   ⟨(some 179), .load true 3 (.t 6), none, []⟩,
   ⟨(some 180), .mv (.t 8), none, []⟩,
   ⟨(some 181), .call (.f 20) [(.t 178), (.t 179), (.k (bv true)), (.t 180)], none, []⟩,
   ⟨(some 177), .mv (.t 181), none, []⟩,
   ⟨(some 182), .ext (.t 177) 0, none, []⟩,
   ⟨(some 183), .ext (.t 177) 1, none, []⟩,
   ⟨(some 29), .alloc 26 [.int .i64 0, .int .i64 0, .sl 0 0 0], none, []⟩,
   ⟨none, .store 3 (.t 29) (.t 182), none, []⟩,
   ⟨(some 30), .mv (.t 183), none, []⟩])
 (.seq (.ops false [⟨(some 185), .load true 3 (.t 29), none, []⟩,
   ⟨(some 186), .mv (.t 23), none, []⟩,
   ⟨(some 187), .mv (.t 24), none, []⟩,
   ⟨(some 188), .call (.f 25) [(.t 185), (.t 186), (.t 187)], none, []⟩,
   ⟨(some 184), .mv (.t 188), none, []⟩,
   ⟨(some 189), .ext (.t 184) 0, none, []⟩,
   ⟨(some 190), .ext (.t 184) 1, none, []⟩,
   ⟨(some 31), .alloc 26 [.int .i64 0, .int .i64 0, .sl 0 0 0], none, []⟩,
   ⟨none, .store 3 (.t 31) (.t 189), none, []⟩,
   ⟨(some 32), .mv (.t 190), none, []⟩])
 (.seq (.ops false [⟨(some 192), .load true 2 (.t 5), none, []⟩,
   ⟨(some 193), .load true 3 (.t 6), none, []⟩,
   ⟨(some 194), .mv (.t 7), none, []⟩,
   ⟨(some 195), .call (.f 26) [(.t 192), (.t 193), (.t 194)], none, []⟩,
   ⟨(some 191), .mv (.t 195), none, []⟩,
   ⟨(some 196), .ext (.t 191) 0, none, []⟩,
   ⟨(some 197), .ext (.t 191) 1, none, []⟩,
   ⟨(some 33), .alloc 26 [.int .i64 0, .int .i64 0, .sl 0 0 0], none, []⟩,
   ⟨none, .store 3 (.t 33) (.t 196), none, []⟩,
   ⟨(some 34), .mv (.t 197), none, []⟩])
 (.seq (.ops false [⟨(some 199), .load true 2 (.t 5), none, []⟩,
   ⟨(some 200), .load true 3 (.t 6), none, []⟩,
   ⟨(some 201), .mv (.t 7), none, []⟩,
   ⟨(some 202), .call (.f 27) [(.t 199), (.t 200), (.t 201)], none, []⟩,
   ⟨(some 198), .mv (.t 202), none, []⟩,
   ⟨(some 203), .ext (.t 198) 0, none, []⟩,
   ⟨(some 204), .ext (.t 198) 1, none, []⟩,
   ⟨(some 35), .mv (.t 203), none, []⟩,
   ⟨(some 36), .mv (.t 204), none, []⟩])
 (.seq (.ops true [⟨(some 212), .mv (.t 1), none, []⟩,
   ⟨(some 213), .call (.f 19) [(.t 212), (.k (iv 46)), (.k (iv 8))], none, []⟩,
   ⟨(some 206), .load true 2 (.t 5), none, [0]⟩,
   ⟨(some 207), .load true 3 (.t 6), none, [0]⟩,
   ⟨(some 208), .load true 3 (.t 6), none, [0]⟩,
   ⟨(some 209), .buildS 26 3 2 [.int .i64 0, .int .i64 0, .sl 0 0 0] [(0, 3, (.t 207)), (3, 3, (.t 208))], none, []⟩,
   ⟨(some 210), .mv (.t 7), none, []⟩,
   ⟨(some 211), .mv (.t 8), none, []⟩,
   ⟨(some 214), .bin .add (.k (iv 1)) (.t 213), none, []⟩,
   ⟨(some 215), .call (.f 28) [(.t 206), (.t 209), (.t 210), (.t 211), (.t 214)], none, []⟩,
   ⟨(some 205), .mv (.t 215), none, []⟩,
   ⟨(some 216), .ext (.t 205) 0, none, []⟩,
   ⟨(some 217), .ext (.t 205) 1, none, []⟩,
   ⟨(some 37), .mv (.t 216), none, []⟩,
   ⟨(some 38), .mv (.t 217), none, []⟩])
 (.seq (.seq (.ops true [⟨(some 218), .mv (.t 26), none, []⟩,
    ⟨(some 219), .un .not (.t 218), none, []⟩,
    ⟨(some 220), .mv (.t 219), none, []⟩,
    ⟨(some 221), .mv (.t 28), (some (220, false)), []⟩,
    ⟨(some 222), .un .not (.t 221), (some (220, false)), []⟩,
    ⟨(some 223), .pick (.t 220) (.k (bv true)) (.t 222), none, []⟩,
    ⟨(some 224), .mv (.t 223), none, []⟩,
    ⟨(some 225), .mv (.t 30), (some (224, false)), []⟩,
    ⟨(some 226), .un .not (.t 225), (some (224, false)), []⟩,
    ⟨(some 227), .pick (.t 224) (.k (bv true)) (.t 226), none, []⟩,
    ⟨(some 228), .mv (.t 227), none, []⟩,
    ⟨(some 229), .mv (.t 32), (some (228, false)), []⟩,
    ⟨(some 230), .un .not (.t 229), (some (228, false)), []⟩,
    ⟨(some 231), .pick (.t 228) (.k (bv true)) (.t 230), none, []⟩,
    ⟨(some 232), .mv (.t 231), none, []⟩,
    ⟨(some 233), .mv (.t 34), (some (232, false)), []⟩,
    ⟨(some 234), .un .not (.t 233), (some (232, false)), []⟩,
    ⟨(some 235), .pick (.t 232) (.k (bv true)) (.t 234), none, []⟩,
    ⟨(some 236), .mv (.t 235), none, []⟩,
    ⟨(some 237), .mv (.t 36), (some (236, false)), []⟩,
    ⟨(some 238), .un .not (.t 237), (some (236, false)), []⟩,
    ⟨(some 239), .pick (.t 236) (.k (bv true)) (.t 238), none, []⟩,
    ⟨(some 240), .mv (.t 239), none, []⟩,
    ⟨(some 241), .mv (.t 38), (some (240, false)), []⟩,
    ⟨(some 242), .un .not (.t 241), (some (240, false)), []⟩,
    ⟨(some 243), .pick (.t 240) (.k (bv true)) (.t 242), none, []⟩,
    ⟨(some 244), .mv (.t 243), none, []⟩,
    ⟨(some 245), .load true 3 (.t 27), (some (244, false)), []⟩,
    ⟨(some 246), .load true 3 (.t 31), (some (244, false)), []⟩,
    ⟨(some 247), .call (.f 24) [(.t 245), (.t 246)], (some (244, false)), []⟩,
    ⟨(some 248), .un .not (.t 247), (some (244, false)), []⟩,
    ⟨(some 249), .pick (.t 244) (.k (bv true)) (.t 248), none, []⟩,
    ⟨(some 250), .mv (.t 249), none, []⟩,
    ⟨(some 252), .load true 3 (.t 33), (some (250, false)), []⟩,
    ⟨(some 253), .load true 3 (.t 6), (some (250, false)), []⟩,
    ⟨(some 254), .call (.f 24) [(.t 252), (.t 253)], (some (250, false)), []⟩,
    ⟨(some 251), .mv (.t 35), (some (250, false)), []⟩,
    ⟨(some 255), .beq true (.t 251) (.t 254), (some (250, false)), []⟩,
    ⟨(some 256), .pick (.t 250) (.k (bv true)) (.t 255), none, []⟩,
    ⟨(some 257), .mv (.t 256), none, []⟩,
    ⟨(some 258), .mv (.t 37), (some (257, false)), []⟩,
    ⟨(some 259), .len false (.t 258), (some (257, false)), []⟩,
    ⟨(some 260), .bin .neq (.t 259) (.k (iv 2)), (some (257, false)), []⟩,
    ⟨(some 261), .pick (.t 257) (.k (bv true)) (.t 260), none, []⟩,
    ⟨(some 262), .mv (.t 261), none, []⟩,
    ⟨(some 263), .mv (.t 37), (some (262, false)), []⟩,
    ⟨(some 264), .idxA 3 (.t 263) (.k (iv 1)), (some (262, false)), []⟩,
    ⟨(some 265), .load true 3 (.t 264), (some (262, false)), []⟩,
    ⟨(some 266), .load true 3 (.t 9), (some (262, false)), []⟩,
    ⟨(some 267), .call (.f 24) [(.t 265), (.t 266)], (some (262, false)), []⟩,
    ⟨(some 268), .un .not (.t 267), (some (262, false)), []⟩,
    ⟨(some 269), .pick (.t 262) (.k (bv true)) (.t 268), none, []⟩])
  (.cond (.t 269) (.seq (.ops false [⟨(some 4), .mv (.k (bv false)), none, []⟩])
   .ret)
   .skip))
 (.seq (.ops false [⟨(some 271), .call (.f 29) [(.k (iv 3)), (.k (iv 3))], none, []⟩,
   ⟨(some 270), .mv (.t 271), none, []⟩,
   ⟨(some 272), .ext (.t 270) 0, none, []⟩,
   ⟨(some 273), .ext (.t 270) 1, none, []⟩,
   ⟨(some 39), .alloc 26 [.int .i64 0, .int .i64 0, .sl 0 0 0], none, []⟩,
   ⟨none, .store 3 (.t 39) (.t 272), none, []⟩,
   ⟨(some 40), .mv (.t 273), none, []⟩])
 (.seq (.ops false [⟨(some 275), .load true 2 (.t 5), none, []⟩,
   ⟨(some 276), .load true 3 (.t 39), none, []⟩,
   ⟨(some 277), .mv (.t 7), none, []⟩,
   ⟨(some 278), .call (.f 27) [(.t 275), (.t 276), (.t 277)], none, []⟩,
   ⟨(some 274), .mv (.t 278), none, []⟩,
   ⟨(some 279), .ext (.t 274) 0, none, []⟩,
   ⟨(some 280), .ext (.t 274) 1, none, []⟩,
   ⟨(some 41), .mv (.t 279), none, []⟩,
   ⟨(some 42), .mv (.t 280), none, []⟩])
 (.seq (.seq (.ops false [⟨(some 281), .mv (.t 40), none, []⟩,
    ⟨(some 282), .un .not (.t 281), none, []⟩,
    ⟨(some 283), .mv (.t 282), none, []⟩,
    ⟨(some 284), .mv (.t 42), (some (283, false)), []⟩,
    ⟨(some 285), .un .not (.t 284), (some (283, false)), []⟩,
    ⟨(some 286), .pick (.t 283) (.k (bv true)) (.t 285), none, []⟩,
    ⟨(some 287), .mv (.t 286), none, []⟩,
    ⟨(some 288), .mv (.t 41), (some (287, false)), []⟩,
    ⟨(some 289), .fieldA 0 (.t 5), (some (287, false)), []⟩,
    ⟨(some 290), .load false 1 (.t 289), (some (287, false)), []⟩,
    ⟨(some 291), .len false (.t 290), (some (287, false)), []⟩,
    ⟨(some 292), .bin .eql (.t 291) (.k (iv 0)), (some (287, false)), []⟩,
    ⟨(some 293), .mv (.t 292), (some (287, false)), []⟩,
    ⟨(some 294), .fieldA 0 (.t 5), (some (293, false)), []⟩,
    ⟨(some 295), .load false 1 (.t 294), (some (293, false)), []⟩,
    ⟨(some 296), .idxA 1 (.t 295) (.k (iv 0)), (some (293, false)), []⟩,
    ⟨(some 297), .load false 1 (.t 296), (some (293, false)), []⟩,
    ⟨(some 298), .bin .neq (.t 297) (.k (iv 0)), (some (293, false)), []⟩,
    ⟨(some 299), .pick (.t 293) (.k (bv true)) (.t 298), (some (287, false)), []⟩,
    ⟨(some 300), .beq true (.t 288) (.t 299), (some (287, false)), []⟩,
    ⟨(some 301), .pick (.t 287) (.k (bv true)) (.t 300), none, []⟩])
  (.cond (.t 301) (.seq (.ops false [⟨(some 4), .mv (.k (bv false)), none, []⟩])
   .ret)
   .skip))
 (.seq (.ops false [⟨(some 302), .mv (.t 1), none, []⟩,
   ⟨(some 303), .call (.f 19) [(.t 302), (.k (iv 47)), (.k (iv 8))], none, []⟩,
   ⟨(some 304), .bin .add (.k (iv 1)) (.t 303), none, []⟩,
   ⟨(some 43), .mv (.t 304), none, []⟩])
 (.seq (.ops false [⟨(some 306), .load true 2 (.t 5), none, []⟩,
   ⟨(some 307), .load true 3 (.t 6), none, []⟩,
   ⟨(some 308), .mv (.t 43), none, []⟩,
   ⟨(some 309), .call (.f 30) [(.t 306), (.t 307), (.t 308)], none, []⟩,
   ⟨(some 305), .mv (.t 309), none, []⟩,
   ⟨(some 310), .ext (.t 305) 0, none, []⟩,
   ⟨(some 311), .ext (.t 305) 1, none, []⟩,
   ⟨(some 312), .ext (.t 305) 2, none, []⟩,
   ⟨(some 313), .ext (.t 305) 3, none, []⟩,
   ⟨(some 44), .mv (.t 310), none, []⟩,
   ⟨(some 45), .mv (.t 311), none, []⟩,
   ⟨(some 46), .mv (.t 312), none, []⟩,
   ⟨(some 47), .mv (.t 313), none, []⟩])
 (.seq (.seq (.ops false [⟨(some 314), .mv (.t 47), none, []⟩,
    ⟨(some 315), .un .not (.t 314), none, []⟩])
  (.cond (.t 315) (.seq (.ops false [⟨(some 317), .load true 2 (.t 5), none, []⟩,
     ⟨(some 318), .load true 3 (.t 6), none, []⟩,
     ⟨(some 319), .mv (.t 43), none, []⟩,
     ⟨(some 320), .call (.f 20) [(.t 317), (.t 318), (.k (bv true)), (.t 319)], none, []⟩,
     ⟨(some 316), .mv (.t 320), none, []⟩,
     ⟨(some 321), .ext (.t 316) 0, none, []⟩,
     ⟨(some 322), .ext (.t 316) 1, none, []⟩,
     ⟨(some 48), .alloc 26 [.int .i64 0, .int .i64 0, .sl 0 0 0], none, []⟩,
     ⟨none, .store 3 (.t 48) (.t 321), none, []⟩,
     ⟨(some 49), .mv (.t 322), none, []⟩])
   (.seq (.ops false [⟨(some 323), .mv (.t 49), none, []⟩,
     ⟨(some 324), .mv (.t 323), none, []⟩,
     ⟨(some 325), .load true 3 (.t 48), (some (324, true)), []⟩,
     ⟨(some 326), .load true 3 (.t 6), (some (324, true)), []⟩,
     ⟨(some 327), .call (.f 24) [(.t 325), (.t 326)], (some (324, true)), []⟩,
     ⟨(some 328), .un .not (.t 327), (some (324, true)), []⟩,
     ⟨(some 329), .pick (.t 324) (.t 328) (.k (bv false)), none, []⟩,
     ⟨(some 4), .mv (.t 329), none, []⟩])
   .ret))
   .skip))
 (.seq (.ops false [⟨(some 331), .load true 2 (.t 5), none, []⟩,
   ⟨(some 332), .load true 3 (.t 6), none, []⟩,
   ⟨(some 333), .mv (.t 44), none, []⟩,
   ⟨(some 334), .call (.f 20) [(.t 331), (.t 332), (.k (bv true)), (.t 333)], none, []⟩,
   ⟨(some 330), .mv (.t 334), none, []⟩,
   ⟨(some 335), .ext (.t 330) 0, none, []⟩,
   ⟨(some 336), .ext (.t 330) 1, none, []⟩,
   ⟨(some 50), .alloc 26 [.int .i64 0, .int .i64 0, .sl 0 0 0], none, []⟩,
   ⟨none, .store 3 (.t 50) (.t 335), none, []⟩,
   ⟨(some 51), .mv (.t 336), none, []⟩])
 (.seq (.ops false [⟨(some 338), .load true 3 (.t 6), none, []⟩,
   ⟨(some 339), .mv (.t 45), none, []⟩,
   ⟨(some 340), .mv (.t 46), none, []⟩,
   ⟨(some 341), .call (.f 25) [(.t 338), (.t 339), (.t 340)], none, []⟩,
   ⟨(some 337), .mv (.t 341), none, []⟩,
   ⟨(some 342), .ext (.t 337) 0, none, []⟩,
   ⟨(some 343), .ext (.t 337) 1, none, []⟩,
   ⟨(some 52), .alloc 26 [.int .i64 0, .int .i64 0, .sl 0 0 0], none, []⟩,
   ⟨none, .store 3 (.t 52) (.t 342), none, []⟩,
   ⟨(some 53), .mv (.t 343), none, []⟩])
 (.seq (.ops false [⟨(some 344), .mv (.t 51), none, []⟩,
   ⟨(some 345), .mv (.t 344), none, []⟩,
   ⟨(some 346), .mv (.t 53), (some (345, true)), []⟩,
   ⟨(some 347), .pick (.t 345) (.t 346) (.k (bv false)), none, []⟩,
   ⟨(some 348), .mv (.t 347), none, []⟩,
   ⟨(some 349), .mv (.t 44), (some (348, true)), []⟩,
   ⟨(some 350), .bin .geq (.t 349) (.k (iv 1)), (some (348, true)), []⟩,
   ⟨(some 351), .pick (.t 348) (.t 350) (.k (bv false)), none, []⟩,
   ⟨(some 352), .mv (.t 351), none, []⟩,
   ⟨(some 353), .mv (.t 44), (some (352, true)), []⟩,
   ⟨(some 354), .mv (.t 43), (some (352, true)), []⟩,
   ⟨(some 355), .bin .leq (.t 353) (.t 354), (some (352, true)), []⟩,
   ⟨(some 356), .pick (.t 352) (.t 355) (.k (bv false)), none, []⟩,
   ⟨(some 357), .mv (.t 356), none, []⟩,
   ⟨(some 358), .mv (.t 45), (some (357, true)), []⟩,
   ⟨(some 359), .bin .geq (.t 358) (.k (iv 0)), (some (357, true)), []⟩,
   ⟨(some 360), .pick (.t 357) (.t 359) (.k (bv false)), none, []⟩,
   ⟨(some 361), .mv (.t 360), none, []⟩,
   ⟨(some 362), .mv (.t 45), (some (361, true)), []⟩,
   ⟨(some 363), .fieldA 0 (.t 6), (some (361, true)), []⟩,
   ⟨(some 364), .load false 1 (.t 363), (some (361, true)), []⟩,
   ⟨(some 365), .bin .lss (.t 362) (.t 364), (some (361, true)), []⟩,
   ⟨(some 366), .pick (.t 361) (.t 365) (.k (bv false)), none, []⟩,
   ⟨(some 367), .mv (.t 366), none, []⟩,
   ⟨(some 368), .mv (.t 46), (some (367, true)), []⟩,
   ⟨(some 369), .bin .geq (.t 368) (.k (iv 0)), (some (367, true)), []⟩,
   ⟨(some 370), .pick (.t 367) (.t 369) (.k (bv false)), none, []⟩,
   ⟨(some 371), .mv (.t 370), none, []⟩,
   ⟨(some 372), .mv (.t 46), (some (371, true)), []⟩,
   ⟨(some 373), .fieldA 1 (.t 6), (some (371, true)), []⟩,
   ⟨(some 374), .load false 1 (.t 373), (some (371, true)), []⟩,
   ⟨(some 375), .bin .lss (.t 372) (.t 374), (some (371, true)), []⟩,
   ⟨(some 376), .pick (.t 371) (.t 375) (.k (bv false)), none, []⟩,
   ⟨(some 377), .mv (.t 376), none, []⟩,
   ⟨(some 378), .load true 3 (.t 50), (some (377, true)), []⟩,
   ⟨(some 379), .load true 3 (.t 52), (some (377, true)), []⟩,
   ⟨(some 380), .call (.f 24) [(.t 378), (.t 379)], (some (377, true)), []⟩,
   ⟨(some 381), .pick (.t 377) (.t 380) (.k (bv false)), none, []⟩,
   ⟨(some 4), .mv (.t 381), none, []⟩])
 .ret)))))))))))))))))))))))))))))))))⟩
theorem code4 : acode Try.prog hints 4 = some L4 := by kernel_rfl


abbrev LmK (n : Nat) : KK := .thn (tlc n (L4).body) (.ret [.t 4] fun r N => r = bv true ∧ N = [])
theorem c_turnAt {s : St} [Wf s] {R C : Nat} {ys : List Int} {id_xs off_xs len_xs : Nat} {xs : List Int} [h_xs : ArgE ic s id_xs off_xs xs] (hl_xs : xs.length = len_xs := by first | rfl | simp | omega | (simp; omega)) (he : turn R C xs = ys) (hv : VF R C xs := by assumption) : Fn [] 21 [.agg [ic R, ic C, .sl id_xs off_xs len_xs]] s fun V N => ∃ p, V = .tup [.agg (fld C R p (C * R)), .c (.bool true)] ∧ N = [(p, ints ys)] := by
  subst he; exact c_turnOk
theorem c_mirrAt {s : St} [Wf s] {R C : Nat} {ys : List Int} {id_xs off_xs len_xs : Nat} {xs : List Int} [h_xs : ArgE ic s id_xs off_xs xs] (hl_xs : xs.length = len_xs := by first | rfl | simp | omega | (simp; omega)) (he : mirr R C xs = ys) (hv : VF R C xs := by assumption) : Fn [] 22 [.agg [ic R, ic C, .sl id_xs off_xs len_xs]] s fun V N => ∃ p, V = .tup [.agg (fld R C p (R * C)), .c (.bool true)] ∧ N = [(p, ints ys)] := by
  subst he; exact c_mirrOk
theorem c_shifAt {s : St} [Wf s] {R C : Nat} {row col : Int} {ys : List Int} {id_xs off_xs len_xs : Nat} {xs : List Int} [h_xs : ArgE ic s id_xs off_xs xs] (hl_xs : xs.length = len_xs := by first | rfl | simp | omega | (simp; omega)) (he : shif R C xs row col = ys) (hs : Shf row col := by assumption) (hv : VF R C xs := by assumption) : Fn [] 25 [.agg [ic R, ic C, .sl id_xs off_xs len_xs], iv row, iv col] s fun V N => ∃ p, V = .tup [.agg (fld R C p (R * C)), .c (.bool true)] ∧ N = [(p, ints ys)] := by
  subst he; exact c_shifOk
theorem c_stepAt {s : St} [Wf s] {R C : Nat} {t : Bool} {ys : List Int} {id_bo off_bo len_bo : Nat} {bo : List Int} [h_bo : ArgE ic s id_bo off_bo bo] (hl_bo : bo.length = len_bo := by first | rfl | simp | omega | (simp; omega)) {id_sy off_sy len_sy : Nat} {sy : List Int} [h_sy : ArgE ic s id_sy off_sy sy] (hl_sy : sy.length = len_sy := by first | rfl | simp | omega | (simp; omega)) {id_xs off_xs len_xs : Nat} {xs : List Int} [h_xs : ArgE ic s id_xs off_xs xs] (hl_xs : xs.length = len_xs := by first | rfl | simp | omega | (simp; omega)) (he : mk R C (lifeV bo sy xs R C t) = ys) (hp : LifeP bo sy R C xs) (hb : len_bo ≤ 2000000 ∧ len_sy ≤ 2000000 ∧ len_xs ≤ 2000000 := by omega) :
    Fn [] 26 [.agg [.sl id_bo off_bo len_bo, .sl id_sy off_sy len_sy], .agg [ic R, ic C, .sl id_xs off_xs len_xs], bv t] s fun V N => ∃ p, V = .tup [.agg (fld R C p (R * C)), .c (.bool true)] ∧ N = [(p, ints ys)] := by
  refine (c_implStepLife (r := R) (c := C) (t := t) (bo := bo) (sy := sy) (xs := xs)).mono fun V N k => ?_
  obtain ⟨p, h1, h2⟩ := fr_fld hp k
  simp only [Int.toNat_natCast] at h1 h2
  rw [mk_len] at h1
  rw [he] at h2
  exact ⟨p, h1, h2⟩
theorem c_stillT {s : St} [Wf s] {R C : Nat} {t : Bool} {id_bo off_bo len_bo : Nat} {bo : List Int} [h_bo : ArgE ic s id_bo off_bo bo] (hl_bo : bo.length = len_bo := by first | rfl | simp | omega | (simp; omega)) {id_sy off_sy len_sy : Nat} {sy : List Int} [h_sy : ArgE ic s id_sy off_sy sy] (hl_sy : sy.length = len_sy := by first | rfl | simp | omega | (simp; omega)) {id_xs off_xs len_xs : Nat} {xs : List Int} [h_xs : ArgE ic s id_xs off_xs xs] (hl_xs : xs.length = len_xs := by first | rfl | simp | omega | (simp; omega)) (he : mk R C (lifeV bo sy xs R C t) = xs) (hp : LifeP bo sy R C xs) (hb : len_bo ≤ 2000000 ∧ len_sy ≤ 2000000 ∧ len_xs ≤ 2000000 := by omega) :
    FnV 27 [.agg [.sl id_bo off_bo len_bo, .sl id_sy off_sy len_sy], .agg [ic R, ic C, .sl id_xs off_xs len_xs], bv t] s (.tup [.c (.bool true), .c (.bool true)]) := by
  refine (c_implIsStill (r := R) (c := C) (t := t) (bo := bo) (sy := sy) (xs := xs)).mono fun V N k => ?_
  simp only [Int.toNat_natCast] at k
  rw [boolV, tt_t hp, tt_t ⟨hp, he⟩] at k; exact k
theorem c_stillF {s : St} [Wf s] {R C : Nat} {t : Bool} {id_bo off_bo len_bo : Nat} {bo : List Int} [h_bo : ArgE ic s id_bo off_bo bo] (hl_bo : bo.length = len_bo := by first | rfl | simp | omega | (simp; omega)) {id_sy off_sy len_sy : Nat} {sy : List Int} [h_sy : ArgE ic s id_sy off_sy sy] (hl_sy : sy.length = len_sy := by first | rfl | simp | omega | (simp; omega)) {id_xs off_xs len_xs : Nat} {xs : List Int} [h_xs : ArgE ic s id_xs off_xs xs] (hl_xs : xs.length = len_xs := by first | rfl | simp | omega | (simp; omega)) (he : ¬ mk R C (lifeV bo sy xs R C t) = xs) (hp : LifeP bo sy R C xs) (hb : len_bo ≤ 2000000 ∧ len_sy ≤ 2000000 ∧ len_xs ≤ 2000000 := by omega) :
    FnV 27 [.agg [.sl id_bo off_bo len_bo, .sl id_sy off_sy len_sy], .agg [ic R, ic C, .sl id_xs off_xs len_xs], bv t] s (.tup [.c (.bool false), .c (.bool true)]) := by
  refine (c_implIsStill (r := R) (c := C) (t := t) (bo := bo) (sy := sy) (xs := xs)).mono fun V N k => ?_
  simp only [Int.toNat_natCast] at k
  rw [boolV, tt_t hp, tt_f (show ¬ (LifeP bo sy R C xs ∧ _) from fun h => he h.2)] at k; exact k
theorem c_sameF {s : St} [Wf s] {R C : Int} {id off len id2 off2 len2 : Nat} {xs ys : List Int} [hx : ArgE ic s id off xs] [hy : ArgE ic s id2 off2 ys] (h : ¬ xs = ys) (hl : xs.length = len := by first | rfl | simp | omega | (simp; omega)) (hl2 : ys.length = len2 := by first | rfl | simp | omega | (simp; omega)) (hb : len ≤ 2000000 := by omega) :
    FnV 24 [.agg [ic R, ic C, .sl id off len], .agg [ic R, ic C, .sl id2 off2 len2]] s (bv false) := by
  refine (c_implSameField (r := R) (c := C) (xs := xs) (r2 := R) (c2 := C) (ys := ys)).mono fun V L k => ?_
  rw [tt_f (fun g => h g.2.2)] at k; exact k
theorem c_new3 {s : St} [Wf s] {ys : List Int} (he : (mk 3 3 fun _ _ => 0) = ys) : Fn [] 29 [iv 3, iv 3] s fun V L => ∃ p, V = .tup [.agg (fld ((3 : Nat) : Int) ((3 : Nat) : Int) p 9), .c (.bool true)] ∧ L = [(p, ints ys)] := by
  subst he; exact c_newOk (R := 3) (C := 3)
abbrev LmO (R C p5 pb ps p6 pf : Nat) (bo sy xs : List Int) : Objs := [(p5, .rw 39 2 [.sl pb 0 bo.length, .sl ps 0 sy.length]), (pb, ints bo), (ps, ints sy), (p6, .rw 26 3 (fld R C pf (R * C))), (pf, ints xs)]

end Go.Proofs.Ytlhidckolillaaa
