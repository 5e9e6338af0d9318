/- The law FnExactSecondStep runs to true. -/
import Derived.Test.YtpjnhhhpedidpaaXalone
import Derived.Test.YtpjnhhhpedidpaaFB
namespace Go.Proofs.Ytpjnhhhpedidpaa
open Go Go.RowKit
set_option linter.unusedVariables false
set_option linter.unusedSimpArgs false
set_option maxRecDepth 100000
set_option maxHeartbeats 8000000
-- laws.FnExactSecondStep
def L10 : AFun := ⟨138, [.t 6],
 (.seq (.ops false [⟨(some 3), .box 24 (.t 0), none, []⟩,
   ⟨(some 6), .mv (.k (bv false)), none, []⟩])
 (.seq (.seq (.ops false [⟨(some 20), .mv (.t 1), none, []⟩,
    ⟨(some 21), .len false (.t 20), none, []⟩,
    ⟨(some 22), .bin .gtr (.t 21) (.k (iv 1048576)), none, []⟩])
  (.cond (.t 22) (.seq (.ops false [⟨(some 6), .mv (.k (bv true)), none, []⟩])
   .ret)
   .skip))
 (.seq (.seq (.ops false [⟨(some 23), .mv (.t 2), none, []⟩,
    ⟨(some 24), .len false (.t 23), none, []⟩,
    ⟨(some 25), .bin .gtr (.t 24) (.k (iv 1048576)), none, []⟩])
  (.cond (.t 25) (.seq (.ops false [⟨(some 6), .mv (.k (bv true)), none, []⟩])
   .ret)
   .skip))
 (.seq (.ops false [⟨(some 7), .mv (.k (iv 1048576)), none, []⟩])
 (.seq (.ops false [⟨(some 26), .load true 3 (.t 3), none, []⟩,
   ⟨(some 27), .mv (.t 7), none, []⟩,
   ⟨(some 28), .call (.f 15) [(.t 26), (.t 27)], none, []⟩,
   ⟨(some 7), .mv (.t 28), none, []⟩])
 (.seq (.seq (.ops false [⟨(some 29), .mv (.t 7), none, []⟩,
    ⟨(some 30), .bin .lss (.t 29) (.k (iv 0)), none, []⟩])
  (.cond (.t 30) (.seq (.ops false [⟨(some 6), .mv (.k (bv true)), none, []⟩])
   .ret)
   .skip))
 (.seq (.ops false [⟨(some 32), .load true 3 (.t 3), none, []⟩,
   ⟨(some 33), .call (.f 17) [(.t 32)], none, []⟩,
   ⟨(some 34), .mv (.t 1), none, []⟩,
   ⟨(some 35), .call (.f 35) [(.t 34)], none, []⟩,
   ⟨(some 36), .mv (.t 2), none, []⟩,
   ⟨(some 37), .call (.f 35) [(.t 36)], none, []⟩,
   ⟨(some 38), .call (.f 37) [(.t 33), (.t 35), (.t 37)], none, []⟩,
   ⟨(some 31), .mv (.t 38), none, []⟩,
   ⟨(some 39), .ext (.t 31) 0, none, []⟩,
   ⟨(some 40), .ext (.t 31) 1, none, []⟩,
   ⟨(some 8), .mv (.t 39), none, []⟩,
   ⟨(some 9), .mv (.t 40), none, []⟩])
 (.seq (.ops false [⟨(some 41), .load true 3 (.t 3), none, []⟩,
   ⟨(some 42), .call (.f 17) [(.t 41)], none, []⟩,
   ⟨(some 10), .alloc 28 [.int .i64 0, .int .i64 0, .sl 0 0 0], none, []⟩,
   ⟨none, .store 3 (.t 10) (.t 42), none, []⟩])
 (.seq (.ops false [⟨(some 43), .mv (.t 1), none, []⟩,
   ⟨(some 44), .call (.f 35) [(.t 43)], none, []⟩,
   ⟨(some 11), .mv (.t 44), none, []⟩])
 (.seq (.ops false [⟨(some 45), .mv (.t 2), none, []⟩,
   ⟨(some 46), .call (.f 35) [(.t 45)], none, []⟩,
   ⟨(some 12), .mv (.t 46), none, []⟩])
 (.seq (.ops false [⟨(some 48), .load true 3 (.t 10), none, []⟩,
   ⟨(some 49), .mv (.t 11), none, []⟩,
   ⟨(some 50), .mv (.t 12), none, []⟩,
   ⟨(some 51), .call (.f 38) [(.t 48), (.t 49), (.t 50)], none, []⟩,
   ⟨(some 47), .mv (.t 51), none, []⟩,
   ⟨(some 52), .ext (.t 47) 0, none, []⟩,
   ⟨(some 53), .ext (.t 47) 1, none, []⟩,
   ⟨(some 13), .mv (.t 52), none, []⟩,
   ⟨(some 14), .mv (.t 53), none, []⟩])
 (.seq (.seq (.ops false [⟨(some 54), .mv (.t 13), none, []⟩,
    ⟨(some 55), .mv (.t 8), none, []⟩,
    ⟨(some 56), .call (.f 22) [(.t 54), (.t 55)], none, []⟩,
    ⟨(some 57), .un .not (.t 56), none, []⟩,
    ⟨(some 58), .mv (.t 57), none, []⟩,
    ⟨(some 59), .mv (.t 14), (some (58, false)), []⟩,
    ⟨(some 60), .mv (.t 9), (some (58, false)), []⟩,
    ⟨(some 61), .beq true (.t 59) (.t 60), (some (58, false)), []⟩,
    ⟨(some 62), .pick (.t 58) (.k (bv true)) (.t 61), none, []⟩])
  (.cond (.t 62) (.seq (.ops false [⟨(some 6), .mv (.k (bv false)), none, []⟩])
   .ret)
   .skip))
 (.seq (.seq (.ops true [⟨(some 64), .load true 3 (.t 3), none, []⟩,
    ⟨(some 65), .call (.f 17) [(.t 64)], none, []⟩,
    ⟨(some 63), .load true 3 (.t 10), none, [0]⟩,
    ⟨(some 66), .call (.f 19) [(.t 63), (.t 65)], none, []⟩,
    ⟨(some 67), .un .not (.t 66), none, []⟩])
  (.cond (.t 67) (.seq (.ops false [⟨(some 6), .mv (.k (bv false)), none, []⟩])
   .ret)
   .skip))
 (.seq (.seq (.ops false [⟨(some 68), .mv (.t 11), none, []⟩,
    ⟨(some 69), .mv (.t 1), none, []⟩,
    ⟨(some 70), .call (.f 35) [(.t 69)], none, []⟩,
    ⟨(some 71), .call (.f 22) [(.t 68), (.t 70)], none, []⟩,
    ⟨(some 72), .un .not (.t 71), none, []⟩])
  (.cond (.t 72) (.seq (.ops false [⟨(some 6), .mv (.k (bv false)), none, []⟩])
   .ret)
   .skip))
 (.seq (.seq (.ops false [⟨(some 73), .mv (.t 12), none, []⟩,
    ⟨(some 74), .mv (.t 2), none, []⟩,
    ⟨(some 75), .call (.f 35) [(.t 74)], none, []⟩,
    ⟨(some 76), .call (.f 22) [(.t 73), (.t 75)], none, []⟩,
    ⟨(some 77), .un .not (.t 76), none, []⟩])
  (.cond (.t 77) (.seq (.ops false [⟨(some 6), .mv (.k (bv false)), none, []⟩])
   .ret)
   .skip))
 (.seq (.ops false [⟨(some 15), .mv (.k (iv 1)), none, []⟩])
 (.seq (.ops false [⟨(some 78), .load true 3 (.t 10), none, []⟩,
   ⟨(some 79), .mv (.t 15), none, []⟩,
   ⟨(some 80), .call (.f 23) [(.t 78), (.t 79)], none, []⟩,
   ⟨(some 15), .mv (.t 80), none, []⟩])
 (.seq (.ops false [⟨(some 81), .mv (.t 11), none, []⟩,
   ⟨(some 82), .mv (.t 15), none, []⟩,
   ⟨(some 83), .call (.f 24) [(.t 81), (.t 82)], none, []⟩,
   ⟨(some 15), .mv (.t 83), none, []⟩])
 (.seq (.ops false [⟨(some 84), .mv (.t 12), none, []⟩,
   ⟨(some 85), .mv (.t 15), none, []⟩,
   ⟨(some 86), .call (.f 24) [(.t 84), (.t 85)], none, []⟩,
   ⟨(some 15), .mv (.t 86), none, []⟩])
 (.seq (.seq (.ops false [⟨(some 87), .mv (.t 15), none, []⟩,
    ⟨(some 88), .bin .lss (.t 87) (.k (iv 0)), none, []⟩,
    ⟨(some 89), .mv (.t 88), none, []⟩,
    ⟨(some 90), .mv (.t 13), (some (89, false)), []⟩,
    ⟨(some 91), .mv (.t 8), (some (89, false)), []⟩,
    ⟨(some 92), .call (.f 22) [(.t 90), (.t 91)], (some (89, false)), []⟩,
    ⟨(some 93), .un .not (.t 92), (some (89, false)), []⟩,
    ⟨(some 94), .pick (.t 89) (.k (bv true)) (.t 93), none, []⟩,
    ⟨(some 95), .mv (.t 94), none, []⟩,
    ⟨(some 96), .mv (.t 14), (some (95, false)), []⟩,
    ⟨(some 97), .mv (.t 9), (some (95, false)), []⟩,
    ⟨(some 98), .beq true (.t 96) (.t 97), (some (95, false)), []⟩,
    ⟨(some 99), .pick (.t 95) (.k (bv true)) (.t 98), none, []⟩])
  (.cond (.t 99) (.seq (.ops false [⟨(some 6), .mv (.k (bv false)), none, []⟩])
   .ret)
   .skip))
 (.seq (.ops false [⟨(some 16), .mv (.k (iv 1)), none, []⟩])
 (.seq (.ops false [⟨(some 100), .mv (.t 13), none, []⟩,
   ⟨(some 101), .mv (.t 16), none, []⟩,
   ⟨(some 102), .call (.f 24) [(.t 100), (.t 101)], none, []⟩,
   ⟨(some 16), .mv (.t 102), none, []⟩])
 (.seq (.ops false [⟨(some 17), .mv (.k (iv 1)), none, []⟩])
 (.seq (.ops false [⟨(some 103), .mv (.t 13), none, []⟩,
   ⟨(some 104), .mv (.t 17), none, []⟩,
   ⟨(some 105), .call (.f 25) [(.t 103), (.t 104)], none, []⟩,
   ⟨(some 17), .mv (.t 105), none, []⟩])
 (.seq (.seq (.ops false [⟨(some 106), .mv (.t 17), none, []⟩,
    ⟨(some 107), .bin .lss (.t 106) (.k (iv 0)), none, []⟩])
  (.cond (.t 107) (.seq (.ops false [⟨(some 6), .mv (.k (bv false)), none, []⟩])
   .ret)
   .skip))
 (.seq (.seq (.ops false [⟨(some 108), .mv (.t 17), none, []⟩,
    ⟨(some 109), .mv (.t 16), none, []⟩,
    ⟨(some 110), .bin .neq (.t 108) (.t 109), none, []⟩])
  (.cond (.t 110) (.seq (.ops false [⟨(some 6), .mv (.k (bv false)), none, []⟩])
   .ret)
   .skip))
 (.seq (.ops false [⟨(some 112), .load true 3 (.t 3), none, []⟩,
   ⟨(some 113), .call (.f 17) [(.t 112)], none, []⟩,
   ⟨(some 114), .mv (.t 1), none, []⟩,
   ⟨(some 115), .call (.f 35) [(.t 114)], none, []⟩,
   ⟨(some 116), .mv (.t 2), none, []⟩,
   ⟨(some 117), .call (.f 35) [(.t 116)], none, []⟩,
   ⟨(some 118), .call (.f 38) [(.t 113), (.t 115), (.t 117)], none, []⟩,
   ⟨(some 111), .mv (.t 118), none, []⟩,
   ⟨(some 119), .ext (.t 111) 0, none, []⟩,
   ⟨(some 120), .ext (.t 111) 1, none, []⟩,
   ⟨(some 18), .mv (.t 119), none, []⟩,
   ⟨(some 19), .mv (.t 120), none, []⟩])
 (.seq (.seq (.ops false [⟨(some 121), .mv (.t 18), none, []⟩,
    ⟨(some 122), .mv (.t 8), none, []⟩,
    ⟨(some 123), .call (.f 22) [(.t 121), (.t 122)], none, []⟩,
    ⟨(some 124), .un .not (.t 123), none, []⟩,
    ⟨(some 125), .mv (.t 124), none, []⟩,
    ⟨(some 126), .mv (.t 19), (some (125, false)), []⟩,
    ⟨(some 127), .mv (.t 9), (some (125, false)), []⟩,
    ⟨(some 128), .beq true (.t 126) (.t 127), (some (125, false)), []⟩,
    ⟨(some 129), .pick (.t 125) (.k (bv true)) (.t 128), none, []⟩])
  (.cond (.t 129) (.seq (.ops false [⟨(some 6), .mv (.k (bv false)), none, []⟩])
   .ret)
   .skip))
 (.seq (.ops false [⟨(some 17), .mv (.k (iv 1)), none, []⟩])
 (.seq (.ops false [⟨(some 130), .mv (.t 13), none, []⟩,
   ⟨(some 131), .mv (.t 17), none, []⟩,
   ⟨(some 132), .call (.f 25) [(.t 130), (.t 131)], none, []⟩,
   ⟨(some 17), .mv (.t 132), none, []⟩])
 (.seq (.seq (.ops false [⟨(some 133), .mv (.t 17), none, []⟩,
    ⟨(some 134), .bin .lss (.t 133) (.k (iv 0)), none, []⟩])
  (.cond (.t 134) (.seq (.ops false [⟨(some 6), .mv (.k (bv false)), none, []⟩])
   .ret)
   .skip))
 (.seq (.seq (.ops false [⟨(some 135), .mv (.t 17), none, []⟩,
    ⟨(some 136), .mv (.t 16), none, []⟩,
    ⟨(some 137), .bin .neq (.t 135) (.t 136), none, []⟩])
  (.cond (.t 137) (.seq (.ops false [⟨(some 6), .mv (.k (bv false)), none, []⟩])
   .ret)
   .skip))
 (.seq (.ops false [⟨(some 6), .mv (.k (bv true)), none, []⟩])
 .ret)))))))))))))))))))))))))))))))))⟩
theorem code10 : acode Try.prog hints 10 = some L10 := by kernel_rfl

theorem c_FnExactSecondStep {s : St} [Wf s] {a0_0 : Int} (w0_0 : -9223372036854775808 ≤ a0_0 ∧ a0_0 ≤ 9223372036854775807) {a0_1 : Int} (w0_1 : -9223372036854775808 ≤ a0_1 ∧ a0_1 ≤ 9223372036854775807) {i0_2 o0_2 n0_2 : Nat} {x0_2 : List Int} (h0_2 : ArgE ic s i0_2 o0_2 x0_2) (l0_2 : x0_2.length = n0_2) (b0_2 : ∀ n ∈ x0_2, -9223372036854775808 ≤ n ∧ n ≤ 9223372036854775807) (u0_2 : n0_2 ≤ 9223372036854775807) {i1 o1 n1 : Nat} {x1 : List Int} (h1 : ArgE ic s i1 o1 x1) (l1 : x1.length = n1) (b1 : ∀ n ∈ x1, -9223372036854775808 ≤ n ∧ n ≤ 9223372036854775807) (u1 : n1 ≤ 9223372036854775807) {i2 o2 n2 : Nat} {x2 : List Int} (h2 : ArgE ic s i2 o2 x2) (l2 : x2.length = n2) (b2 : ∀ n ∈ x2, -9223372036854775808 ≤ n ∧ n ≤ 9223372036854775807) (u2 : n2 ≤ 9223372036854775807) :
    FnV 10 [.agg [.int .i64 a0_0, .int .i64 a0_1, .sl i0_2 o0_2 n0_2], .c (.sl i1 o1 n1), .c (.sl i2 o2 n2)] s (bv true) := by
  refine F_start code10 ?_
  repeat' (first
 | refine A_go rfl ?_ | refine A_ifT rfl rfl ?_ | refine A_ifF rfl rfl ?_ | refine A_offP rfl rfl ?_ | refine A_offH rfl rfl ?_ | refine A_off0 rfl rfl ?_
 | refine A_add rfl rfl rfl (by omega) ?_ | refine A_sub rfl rfl rfl (by omega) ?_ | refine A_mul rfl rfl rfl (by omega) ?_ | refine A_rem rfl rfl rfl (by omega) ?_ | refine A_remT rfl rfl rfl (by omega) ?_ | refine A_quo rfl rfl rfl (by omega) ?_
 | ((first | refine A_lt rfl rfl rfl ?_ ?_ | refine A_le rfl rfl rfl ?_ ?_ | refine A_gt rfl rfl rfl ?_ ?_ | refine A_ge rfl rfl rfl ?_ ?_ | refine A_eq rfl rfl rfl ?_ ?_ | refine A_ne rfl rfl rfl ?_ ?_ | refine A_beq rfl rfl rfl ?_ ?_) <;> intro hc <;> try first | contradiction | (exfalso; omega) | exact absurd rfl hc)
 | refine A_idxN1 rfl rfl rfl (by omega) ?_ | refine A_idx1 rfl rfl rfl (by omega) ?_ | refine A_idxArr1 rfl rfl rfl (by omega) ?_
 | (refine A_callM rfl rfl (fun s H => c_szRule) ?_; rintro _ _ ⟨⟨l, rfl, hl1, hl2⟩, rfl⟩) | (refine A_callM0 rfl rfl (fun s H => c_szRule) ?_; rintro _ _ ⟨⟨l, rfl, hl1, hl2⟩, rfl⟩)
 | (refine A_callM rfl rfl (fun s H => c_toRule) ?_; rintro _ _ ⟨pz, rfl, rfl⟩) | (refine A_callM0 rfl rfl (fun s H => c_toRule) ?_; rintro _ _ ⟨pz, rfl, rfl⟩)
 | (refine A_callM rfl rfl (fun s H => c_toInt64S) ?_; rintro _ _ ⟨pz, rfl, rfl⟩) | (refine A_callM0 rfl rfl (fun s H => c_toInt64S) ?_; rintro _ _ ⟨pz, rfl, rfl⟩)
 | (refine A_callM rfl rfl (fun s H => c_specSecondStep) ?_; rintro _ _ ⟨pz, rfl, rfl, hlen⟩) | (refine A_callM0 rfl rfl (fun s H => c_specSecondStep) ?_; rintro _ _ ⟨pz, rfl, rfl, hlen⟩)
 | (refine A_callM rfl rfl (fun s H => c_implSecondStep) ?_; rintro _ _ ⟨pz, rfl, rfl, hlen⟩) | (refine A_callM0 rfl rfl (fun s H => c_implSecondStep) ?_; rintro _ _ ⟨pz, rfl, rfl, hlen⟩)
 | (refine A_callB rfl rfl (fun s H => c_eqRule) ?_ ?_ <;> intro hc <;> try first | contradiction | (exfalso; omega) | exact absurd rfl hc | exact absurd (And.intro rfl rfl) hc | exact absurd (And.intro rfl (And.intro rfl rfl)) hc)
 | (refine A_callB rfl rfl (fun s H => c_eqInt64S) ?_ ?_ <;> intro hc <;> try first | contradiction | (exfalso; omega) | exact absurd rfl hc | exact absurd (And.intro rfl rfl) hc | exact absurd (And.intro rfl (And.intro rfl rfl)) hc)
 | (refine A_callM rfl rfl (fun s H => c_markRule) ?_; rintro _ _ ⟨rfl, rfl⟩) | (refine A_callM0 rfl rfl (fun s H => c_markRule) ?_; rintro _ _ ⟨rfl, rfl⟩)
 | (refine A_callM rfl rfl (fun s H => c_markInt64S) ?_; rintro _ _ ⟨rfl, rfl⟩) | (refine A_callM0 rfl rfl (fun s H => c_markInt64S) ?_; rintro _ _ ⟨rfl, rfl⟩)
 | refine A_callV rfl rfl (fun s H => c_heldInt64S) ?_
 | refine A_fld rfl rfl ?_ | refine A_mk3 rfl rfl rfl rfl ?_ | refine A_mk23 rfl rfl rfl ?_ | refine A_mk2 rfl rfl rfl ?_ | refine A_p (by rfl) rfl ?_
 | refine A_ldI rfl (by first | omega | (simp; done) | (simp; omega)) rfl ?_ | refine A_ldB rfl (by first | omega | (simp; done) | (simp; omega)) rfl ?_ | refine A_ld rfl (by rfl) rfl ?_ | refine A_ldW rfl (by simp) rfl ?_
 | refine A_st rfl rfl rfl ?_ | refine A_stW rfl rfl (by simp) rfl ?_ | refine A_stE rfl rfl (by first | omega | (simp; done) | (simp; omega)) rfl ?_
 | ((first | refine A_alloc rfl ?_ | refine A_box rfl rfl ?_ | refine A_boxC rfl rfl ?_ | refine A_makeN rfl rfl rfl (by omega) ?_ | refine A_make rfl rfl rfl (by omega) ?_ | refine A_bld1 rfl rfl ?_ | refine A_bld2 rfl rfl rfl ?_ | refine A_bld4 rfl rfl rfl rfl rfl ?_) <;> intro pz hpz)
 | refine A_bld0 rfl ?_ | (refine A_app rfl rfl rfl (by first | omega | (simp; done) | (simp; omega)) (by first | omega | (simp; done) | (simp; omega)) (by omega) ?_; intro pz) | (refine A_appN (enc := ic) rfl (by decide) rfl rfl (by first | omega | (simp; done) | (simp; omega)) (by omega) ?_; intro pz)
 | refine A_chk1 rfl rfl rfl ?_ | refine A_chk2 rfl rfl rfl rfl ?_ | refine A_chk3 rfl rfl rfl rfl rfl ?_ | refine A_chk4 rfl rfl rfl rfl rfl rfl ?_ | refine A_chkI rfl (by assumption) rfl (by simp) ?_
 | refine A_ret1 rfl (by first | exact (RP.t rfl RP.nil) | exact (RP.c rfl inferInstance rfl (by simp) RP.nil)) ?_ | refine A_ret rfl (by first | exact (RP.t rfl (RP.t rfl RP.nil)) | exact (RP.c rfl inferInstance rfl (by simp) (RP.t rfl RP.nil)) | exact (RP.t rfl (RP.t rfl (RP.t rfl RP.nil))) | exact (RP.c rfl inferInstance rfl (by simp) (RP.t rfl (RP.t rfl RP.nil))) | exact (RP.c rfl inferInstance rfl (by simp) (RP.t rfl (RP.t rfl (RP.t rfl (RP.t rfl RP.nil)))))) ?_ | refine A_ret0 rfl ?_)
  all_goals exact R_v rfl

end Go.Proofs.Ytpjnhhhpedidpaa
