/- The law FnExactDamageOf runs to true. -/
import Derived.Test.YtkeabhhndcpejaaXdamage
import Derived.Test.YtkeabhhndcpejaaXruleLaws
import Derived.Test.YtkeabhhndcpejaaFB
namespace Go.Proofs.Ytkeabhhndcpejaa
open Go Go.RowKit
set_option linter.unusedVariables false
set_option linter.unusedSimpArgs false
set_option maxRecDepth 100000
set_option maxHeartbeats 8000000
-- laws.FnExactDamageOf
def L3 : AFun := ⟨143, [.t 8],
 (.seq (.ops false [⟨(some 4), .box 24 (.t 0), none, []⟩,
   ⟨(some 8), .mv (.k (bv false)), none, []⟩])
 (.seq (.seq (.ops false [⟨(some 22), .mv (.t 1), none, []⟩,
    ⟨(some 23), .len false (.t 22), none, []⟩,
    ⟨(some 24), .bin .gtr (.t 23) (.k (iv 1048576)), none, []⟩])
  (.cond (.t 24) (.seq (.ops false [⟨(some 8), .mv (.k (bv true)), none, []⟩])
   .ret)
   .skip))
 (.seq (.seq (.ops false [⟨(some 25), .mv (.t 2), none, []⟩,
    ⟨(some 26), .len false (.t 25), none, []⟩,
    ⟨(some 27), .bin .gtr (.t 26) (.k (iv 1048576)), none, []⟩])
  (.cond (.t 27) (.seq (.ops false [⟨(some 8), .mv (.k (bv true)), none, []⟩])
   .ret)
   .skip))
 (.seq (.ops false [⟨(some 9), .mv (.k (iv 1048576)), none, []⟩])
 (.seq (.ops false [⟨(some 28), .load true 3 (.t 4), none, []⟩,
   ⟨(some 29), .mv (.t 9), none, []⟩,
   ⟨(some 30), .call (.f 15) [(.t 28), (.t 29)], none, []⟩,
   ⟨(some 9), .mv (.t 30), none, []⟩])
 (.seq (.seq (.ops false [⟨(some 31), .mv (.t 9), none, []⟩,
    ⟨(some 32), .bin .lss (.t 31) (.k (iv 0)), none, []⟩])
  (.cond (.t 32) (.seq (.ops false [⟨(some 8), .mv (.k (bv true)), none, []⟩])
   .ret)
   .skip))
 (.seq (.ops false [⟨(some 34), .load true 3 (.t 4), none, []⟩,
   ⟨(some 35), .call (.f 17) [(.t 34)], none, []⟩,
   ⟨(some 36), .mv (.t 1), none, []⟩,
   ⟨(some 37), .call (.f 18) [(.t 36)], none, []⟩,
   ⟨(some 38), .mv (.t 2), none, []⟩,
   ⟨(some 39), .call (.f 18) [(.t 38)], none, []⟩,
   ⟨(some 40), .mv (.t 3), none, []⟩,
   ⟨(some 41), .call (.f 16) [(.t 35), (.t 37), (.t 39), (.t 40)], none, []⟩,
   ⟨(some 33), .mv (.t 41), none, []⟩,
   ⟨(some 42), .ext (.t 33) 0, none, []⟩,
   ⟨(some 43), .ext (.t 33) 1, none, []⟩,
   ⟨(some 10), .mv (.t 42), none, []⟩,
   ⟨(some 11), .mv (.t 43), none, []⟩])
 (.seq (.ops false [⟨(some 44), .load true 3 (.t 4), none, []⟩,
   ⟨(some 45), .call (.f 17) [(.t 44)], none, []⟩,
   ⟨(some 12), .alloc 28 [.int .i64 0, .int .i64 0, .sl 0 0 0], none, []⟩,
   ⟨none, .store 3 (.t 12) (.t 45), none, []⟩])
 (.seq (.ops false [⟨(some 46), .mv (.t 1), none, []⟩,
   ⟨(some 47), .call (.f 18) [(.t 46)], none, []⟩,
   ⟨(some 13), .mv (.t 47), none, []⟩])
 (.seq (.ops false [⟨(some 48), .mv (.t 2), none, []⟩,
   ⟨(some 49), .call (.f 18) [(.t 48)], none, []⟩,
   ⟨(some 14), .mv (.t 49), none, []⟩])
 (.seq (.ops false [⟨(some 51), .load true 3 (.t 12), none, []⟩,
   ⟨(some 52), .mv (.t 13), none, []⟩,
   ⟨(some 53), .mv (.t 14), none, []⟩,
   ⟨(some 54), .mv (.t 3), none, []⟩,
   ⟨(some 55), .call (.f 19) [(.t 51), (.t 52), (.t 53), (.t 54)], none, []⟩,
   ⟨(some 50), .mv (.t 55), none, []⟩,
   ⟨(some 56), .ext (.t 50) 0, none, []⟩,
   ⟨(some 57), .ext (.t 50) 1, none, []⟩,
   ⟨(some 15), .mv (.t 56), none, []⟩,
   ⟨(some 16), .mv (.t 57), none, []⟩])
 (.seq (.seq (.ops false [⟨(some 58), .mv (.t 15), none, []⟩,
    ⟨(some 59), .mv (.t 10), none, []⟩,
    ⟨(some 60), .call (.f 20) [(.t 58), (.t 59)], none, []⟩,
    ⟨(some 61), .un .not (.t 60), none, []⟩,
    ⟨(some 62), .mv (.t 61), none, []⟩,
    ⟨(some 63), .mv (.t 16), (some (62, false)), []⟩,
    ⟨(some 64), .mv (.t 11), (some (62, false)), []⟩,
    ⟨(some 65), .beq true (.t 63) (.t 64), (some (62, false)), []⟩,
    ⟨(some 66), .pick (.t 62) (.k (bv true)) (.t 65), none, []⟩])
  (.cond (.t 66) (.seq (.ops false [⟨(some 8), .mv (.k (bv false)), none, []⟩])
   .ret)
   .skip))
 (.seq (.seq (.ops true [⟨(some 68), .load true 3 (.t 4), none, []⟩,
    ⟨(some 69), .call (.f 17) [(.t 68)], none, []⟩,
    ⟨(some 67), .load true 3 (.t 12), none, [0]⟩,
    ⟨(some 70), .call (.f 21) [(.t 67), (.t 69)], none, []⟩,
    ⟨(some 71), .un .not (.t 70), none, []⟩])
  (.cond (.t 71) (.seq (.ops false [⟨(some 8), .mv (.k (bv false)), none, []⟩])
   .ret)
   .skip))
 (.seq (.seq (.ops false [⟨(some 72), .mv (.t 13), none, []⟩,
    ⟨(some 73), .mv (.t 1), none, []⟩,
    ⟨(some 74), .call (.f 18) [(.t 73)], none, []⟩,
    ⟨(some 75), .call (.f 20) [(.t 72), (.t 74)], none, []⟩,
    ⟨(some 76), .un .not (.t 75), none, []⟩])
  (.cond (.t 76) (.seq (.ops false [⟨(some 8), .mv (.k (bv false)), none, []⟩])
   .ret)
   .skip))
 (.seq (.seq (.ops false [⟨(some 77), .mv (.t 14), none, []⟩,
    ⟨(some 78), .mv (.t 2), none, []⟩,
    ⟨(some 79), .call (.f 18) [(.t 78)], none, []⟩,
    ⟨(some 80), .call (.f 20) [(.t 77), (.t 79)], none, []⟩,
    ⟨(some 81), .un .not (.t 80), none, []⟩])
  (.cond (.t 81) (.seq (.ops false [⟨(some 8), .mv (.k (bv false)), none, []⟩])
   .ret)
   .skip))
 (.seq (.ops false [⟨(some 17), .mv (.k (iv 1)), none, []⟩])
 (.seq (.ops false [⟨(some 82), .load true 3 (.t 12), none, []⟩,
   ⟨(some 83), .mv (.t 17), none, []⟩,
   ⟨(some 84), .call (.f 22) [(.t 82), (.t 83)], none, []⟩,
   ⟨(some 17), .mv (.t 84), none, []⟩])
 (.seq (.ops false [⟨(some 85), .mv (.t 13), none, []⟩,
   ⟨(some 86), .mv (.t 17), none, []⟩,
   ⟨(some 87), .call (.f 23) [(.t 85), (.t 86)], none, []⟩,
   ⟨(some 17), .mv (.t 87), none, []⟩])
 (.seq (.ops false [⟨(some 88), .mv (.t 14), none, []⟩,
   ⟨(some 89), .mv (.t 17), none, []⟩,
   ⟨(some 90), .call (.f 23) [(.t 88), (.t 89)], none, []⟩,
   ⟨(some 17), .mv (.t 90), none, []⟩])
 (.seq (.seq (.ops false [⟨(some 91), .mv (.t 17), none, []⟩,
    ⟨(some 92), .bin .lss (.t 91) (.k (iv 0)), none, []⟩,
    ⟨(some 93), .mv (.t 92), none, []⟩,
    ⟨(some 94), .mv (.t 15), (some (93, false)), []⟩,
    ⟨(some 95), .mv (.t 10), (some (93, false)), []⟩,
    ⟨(some 96), .call (.f 20) [(.t 94), (.t 95)], (some (93, false)), []⟩,
    ⟨(some 97), .un .not (.t 96), (some (93, false)), []⟩,
    ⟨(some 98), .pick (.t 93) (.k (bv true)) (.t 97), none, []⟩,
    ⟨(some 99), .mv (.t 98), none, []⟩,
    ⟨(some 100), .mv (.t 16), (some (99, false)), []⟩,
    ⟨(some 101), .mv (.t 11), (some (99, false)), []⟩,
    ⟨(some 102), .beq true (.t 100) (.t 101), (some (99, false)), []⟩,
    ⟨(some 103), .pick (.t 99) (.k (bv true)) (.t 102), none, []⟩])
  (.cond (.t 103) (.seq (.ops false [⟨(some 8), .mv (.k (bv false)), none, []⟩])
   .ret)
   .skip))
 (.seq (.ops false [⟨(some 18), .mv (.k (iv 1)), none, []⟩])
 (.seq (.ops false [⟨(some 104), .mv (.t 15), none, []⟩,
   ⟨(some 105), .mv (.t 18), none, []⟩,
   ⟨(some 106), .call (.f 23) [(.t 104), (.t 105)], none, []⟩,
   ⟨(some 18), .mv (.t 106), none, []⟩])
 (.seq (.ops false [⟨(some 19), .mv (.k (iv 1)), none, []⟩])
 (.seq (.ops false [⟨(some 107), .mv (.t 15), none, []⟩,
   ⟨(some 108), .mv (.t 19), none, []⟩,
   ⟨(some 109), .call (.f 24) [(.t 107), (.t 108)], none, []⟩,
   ⟨(some 19), .mv (.t 109), none, []⟩])
 (.seq (.seq (.ops false [⟨(some 110), .mv (.t 19), none, []⟩,
    ⟨(some 111), .bin .lss (.t 110) (.k (iv 0)), none, []⟩])
  (.cond (.t 111) (.seq (.ops false [⟨(some 8), .mv (.k (bv false)), none, []⟩])
   .ret)
   .skip))
 (.seq (.seq (.ops false [⟨(some 112), .mv (.t 19), none, []⟩,
    ⟨(some 113), .mv (.t 18), none, []⟩,
    ⟨(some 114), .bin .neq (.t 112) (.t 113), none, []⟩])
  (.cond (.t 114) (.seq (.ops false [⟨(some 8), .mv (.k (bv false)), none, []⟩])
   .ret)
   .skip))
 (.seq (.ops false [⟨(some 116), .load true 3 (.t 4), none, []⟩,
   ⟨(some 117), .call (.f 17) [(.t 116)], none, []⟩,
   ⟨(some 118), .mv (.t 1), none, []⟩,
   ⟨(some 119), .call (.f 18) [(.t 118)], none, []⟩,
   ⟨(some 120), .mv (.t 2), none, []⟩,
   ⟨(some 121), .call (.f 18) [(.t 120)], none, []⟩,
   ⟨(some 122), .mv (.t 3), none, []⟩,
   ⟨(some 123), .call (.f 19) [(.t 117), (.t 119), (.t 121), (.t 122)], none, []⟩,
   ⟨(some 115), .mv (.t 123), none, []⟩,
   ⟨(some 124), .ext (.t 115) 0, none, []⟩,
   ⟨(some 125), .ext (.t 115) 1, none, []⟩,
   ⟨(some 20), .mv (.t 124), none, []⟩,
   ⟨(some 21), .mv (.t 125), none, []⟩])
 (.seq (.seq (.ops false [⟨(some 126), .mv (.t 20), none, []⟩,
    ⟨(some 127), .mv (.t 10), none, []⟩,
    ⟨(some 128), .call (.f 20) [(.t 126), (.t 127)], none, []⟩,
    ⟨(some 129), .un .not (.t 128), none, []⟩,
    ⟨(some 130), .mv (.t 129), none, []⟩,
    ⟨(some 131), .mv (.t 21), (some (130, false)), []⟩,
    ⟨(some 132), .mv (.t 11), (some (130, false)), []⟩,
    ⟨(some 133), .beq true (.t 131) (.t 132), (some (130, false)), []⟩,
    ⟨(some 134), .pick (.t 130) (.k (bv true)) (.t 133), none, []⟩])
  (.cond (.t 134) (.seq (.ops false [⟨(some 8), .mv (.k (bv false)), none, []⟩])
   .ret)
   .skip))
 (.seq (.ops false [⟨(some 19), .mv (.k (iv 1)), none, []⟩])
 (.seq (.ops false [⟨(some 135), .mv (.t 15), none, []⟩,
   ⟨(some 136), .mv (.t 19), none, []⟩,
   ⟨(some 137), .call (.f 24) [(.t 135), (.t 136)], none, []⟩,
   ⟨(some 19), .mv (.t 137), none, []⟩])
 (.seq (.seq (.ops false [⟨(some 138), .mv (.t 19), none, []⟩,
    ⟨(some 139), .bin .lss (.t 138) (.k (iv 0)), none, []⟩])
  (.cond (.t 139) (.seq (.ops false [⟨(some 8), .mv (.k (bv false)), none, []⟩])
   .ret)
   .skip))
 (.seq (.seq (.ops false [⟨(some 140), .mv (.t 19), none, []⟩,
    ⟨(some 141), .mv (.t 18), none, []⟩,
    ⟨(some 142), .bin .neq (.t 140) (.t 141), none, []⟩])
  (.cond (.t 142) (.seq (.ops false [⟨(some 8), .mv (.k (bv false)), none, []⟩])
   .ret)
   .skip))
 (.seq (.ops false [⟨(some 8), .mv (.k (bv true)), none, []⟩])
 .ret)))))))))))))))))))))))))))))))))⟩
theorem code3 : acode Try.prog hints 3 = some L3 := by kernel_rfl

theorem c_FnExactDamageOf {s : St} [Wf s] {a0_0 : Int} (w0_0 : -9223372036854775808 ≤ a0_0 ∧ a0_0 ≤ 9223372036854775807) {a0_1 : Int} (w0_1 : -9223372036854775808 ≤ a0_1 ∧ a0_1 ≤ 9223372036854775807) {i0_2 o0_2 n0_2 : Nat} {x0_2 : List Int} (h0_2 : ArgE ic s i0_2 o0_2 x0_2) (l0_2 : x0_2.length = n0_2) (b0_2 : ∀ n ∈ x0_2, -9223372036854775808 ≤ n ∧ n ≤ 9223372036854775807) (u0_2 : n0_2 ≤ 9223372036854775807) {i1 o1 n1 : Nat} {x1 : List Int} (h1 : ArgE ic s i1 o1 x1) (l1 : x1.length = n1) (b1 : ∀ n ∈ x1, -9223372036854775808 ≤ n ∧ n ≤ 9223372036854775807) (u1 : n1 ≤ 9223372036854775807) {i2 o2 n2 : Nat} {x2 : List Int} (h2 : ArgE ic s i2 o2 x2) (l2 : x2.length = n2) (b2 : ∀ n ∈ x2, -9223372036854775808 ≤ n ∧ n ≤ 9223372036854775807) (u2 : n2 ≤ 9223372036854775807) {a3 : Int} (w3 : -9223372036854775808 ≤ a3 ∧ a3 ≤ 9223372036854775807) :
    FnV 3 [.agg [.int .i64 a0_0, .int .i64 a0_1, .sl i0_2 o0_2 n0_2], .c (.sl i1 o1 n1), .c (.sl i2 o2 n2), .c (.int .i64 a3)] s (bv true) := by
  refine F_start code3 ?_
  repeat' (first
 | refine A_go rfl ?_ | refine A_ifT rfl rfl ?_ | refine A_ifF rfl rfl ?_ | refine A_offP rfl rfl ?_ | refine A_offH rfl rfl ?_ | refine A_off0 rfl rfl ?_
 | refine A_add rfl rfl rfl (by omega) ?_ | refine A_sub rfl rfl rfl (by omega) ?_ | refine A_mul rfl rfl rfl (by omega) ?_ | refine A_rem rfl rfl rfl (by omega) ?_ | refine A_remT rfl rfl rfl (by omega) ?_ | refine A_quo rfl rfl rfl (by omega) ?_
 | ((first | refine A_lt rfl rfl rfl ?_ ?_ | refine A_le rfl rfl rfl ?_ ?_ | refine A_gt rfl rfl rfl ?_ ?_ | refine A_ge rfl rfl rfl ?_ ?_ | refine A_eq rfl rfl rfl ?_ ?_ | refine A_ne rfl rfl rfl ?_ ?_ | refine A_beq rfl rfl rfl ?_ ?_) <;> intro hc <;> try first | contradiction | (exfalso; omega) | exact absurd rfl hc)
 | refine A_idxN1 rfl rfl rfl (by omega) ?_ | refine A_idx1 rfl rfl rfl (by omega) ?_ | refine A_idxArr1 rfl rfl rfl (by omega) ?_
 | (refine A_callM rfl rfl (fun s H => c_szRule) ?_; rintro _ _ ⟨⟨l, rfl, hl1, hl2⟩, rfl⟩) | (refine A_callM0 rfl rfl (fun s H => c_szRule) ?_; rintro _ _ ⟨⟨l, rfl, hl1, hl2⟩, rfl⟩)
 | (refine A_callM rfl rfl (fun s H => c_toRule) ?_; rintro _ _ ⟨pz, rfl, rfl⟩) | (refine A_callM0 rfl rfl (fun s H => c_toRule) ?_; rintro _ _ ⟨pz, rfl, rfl⟩)
 | (refine A_callM rfl rfl (fun s H => c_toInt64S) ?_; rintro _ _ ⟨pz, rfl, rfl⟩) | (refine A_callM0 rfl rfl (fun s H => c_toInt64S) ?_; rintro _ _ ⟨pz, rfl, rfl⟩)
 | (refine A_callM rfl rfl (fun s H => c_specDamageOf) ?_; rintro _ _ ⟨pz, rfl, rfl, hlen⟩) | (refine A_callM0 rfl rfl (fun s H => c_specDamageOf) ?_; rintro _ _ ⟨pz, rfl, rfl, hlen⟩)
 | (refine A_callM rfl rfl (fun s H => c_implDamageOf) ?_; rintro _ _ ⟨pz, rfl, rfl, hlen⟩) | (refine A_callM0 rfl rfl (fun s H => c_implDamageOf) ?_; rintro _ _ ⟨pz, rfl, rfl, hlen⟩)
 | (refine A_callB rfl rfl (fun s H => c_eqRule) ?_ ?_ <;> intro hc <;> try first | contradiction | (exfalso; omega) | exact absurd rfl hc | exact absurd (And.intro rfl rfl) hc | exact absurd (And.intro rfl (And.intro rfl rfl)) hc)
 | (refine A_callB rfl rfl (fun s H => c_eqInt64S) ?_ ?_ <;> intro hc <;> try first | contradiction | (exfalso; omega) | exact absurd rfl hc | exact absurd (And.intro rfl rfl) hc | exact absurd (And.intro rfl (And.intro rfl rfl)) hc)
 | (refine A_callM rfl rfl (fun s H => c_markRule) ?_; rintro _ _ ⟨rfl, rfl⟩) | (refine A_callM0 rfl rfl (fun s H => c_markRule) ?_; rintro _ _ ⟨rfl, rfl⟩)
 | (refine A_callM rfl rfl (fun s H => c_markInt64S) ?_; rintro _ _ ⟨rfl, rfl⟩) | (refine A_callM0 rfl rfl (fun s H => c_markInt64S) ?_; rintro _ _ ⟨rfl, rfl⟩)
 | refine A_callV rfl rfl (fun s H => c_heldInt64S) ?_
 | refine A_fld rfl rfl ?_ | refine A_mk3 rfl rfl rfl rfl ?_ | refine A_mk23 rfl rfl rfl ?_ | refine A_mk2 rfl rfl rfl ?_ | refine A_p (by rfl) rfl ?_
 | refine A_ldI rfl (by first | omega | (simp; done) | (simp; omega)) rfl ?_ | refine A_ldB rfl (by first | omega | (simp; done) | (simp; omega)) rfl ?_ | refine A_ld rfl (by rfl) rfl ?_ | refine A_ldW rfl (by simp) rfl ?_
 | refine A_st rfl rfl rfl ?_ | refine A_stW rfl rfl (by simp) rfl ?_ | refine A_stE rfl rfl (by first | omega | (simp; done) | (simp; omega)) rfl ?_
 | ((first | refine A_alloc rfl ?_ | refine A_box rfl rfl ?_ | refine A_boxC rfl rfl ?_ | refine A_makeN rfl rfl rfl (by omega) ?_ | refine A_make rfl rfl rfl (by omega) ?_ | refine A_bld1 rfl rfl ?_ | refine A_bld2 rfl rfl rfl ?_ | refine A_bld4 rfl rfl rfl rfl rfl ?_) <;> intro pz hpz)
 | refine A_bld0 rfl ?_ | (refine A_app rfl rfl rfl (by first | omega | (simp; done) | (simp; omega)) (by first | omega | (simp; done) | (simp; omega)) (by omega) ?_; intro pz) | (refine A_appN (enc := ic) rfl (by decide) rfl rfl (by first | omega | (simp; done) | (simp; omega)) (by omega) ?_; intro pz)
 | refine A_chk1 rfl rfl rfl ?_ | refine A_chk2 rfl rfl rfl rfl ?_ | refine A_chk3 rfl rfl rfl rfl rfl ?_ | refine A_chk4 rfl rfl rfl rfl rfl rfl ?_ | refine A_chkI rfl (by assumption) rfl (by simp) ?_
 | refine A_ret1 rfl (by first | exact (RP.t rfl RP.nil) | exact (RP.c rfl inferInstance rfl (by simp) RP.nil)) ?_ | refine A_ret rfl (by first | exact (RP.t rfl (RP.t rfl RP.nil)) | exact (RP.c rfl inferInstance rfl (by simp) (RP.t rfl RP.nil)) | exact (RP.t rfl (RP.t rfl (RP.t rfl RP.nil))) | exact (RP.c rfl inferInstance rfl (by simp) (RP.t rfl (RP.t rfl RP.nil))) | exact (RP.c rfl inferInstance rfl (by simp) (RP.t rfl (RP.t rfl (RP.t rfl (RP.t rfl RP.nil)))))) ?_ | refine A_ret0 rfl ?_)
  all_goals exact R_v rfl

end Go.Proofs.Ytkeabhhndcpejaa
