/- The law FnExactFlowOf runs to true. -/
import Derived.Test.YtpjnhhhpedidpaaXflow
import Derived.Test.YtpjnhhhpedidpaaXruleLaws
import Derived.Test.YtpjnhhhpedidpaaFB
namespace Go.Proofs.Ytpjnhhhpedidpaa
open Go Go.RowKit
set_option linter.unusedVariables false
set_option linter.unusedSimpArgs false
set_option maxRecDepth 100000
set_option maxHeartbeats 8000000
-- laws.FnExactFlowOf
def L8 : AFun := ⟨96, [.t 2],
 (.seq (.ops false [⟨(some 1), .box 24 (.t 0), none, []⟩,
   ⟨(some 2), .mv (.k (bv false)), none, []⟩])
 (.seq (.ops false [⟨(some 3), .mv (.k (iv 1048576)), none, []⟩])
 (.seq (.ops false [⟨(some 14), .load true 3 (.t 1), none, []⟩,
   ⟨(some 15), .mv (.t 3), none, []⟩,
   ⟨(some 16), .call (.f 15) [(.t 14), (.t 15)], none, []⟩,
   ⟨(some 3), .mv (.t 16), none, []⟩])
 (.seq (.seq (.ops false [⟨(some 17), .mv (.t 3), none, []⟩,
    ⟨(some 18), .bin .lss (.t 17) (.k (iv 0)), none, []⟩])
  (.cond (.t 18) (.seq (.ops false [⟨(some 2), .mv (.k (bv true)), none, []⟩])
   .ret)
   .skip))
 (.seq (.ops false [⟨(some 20), .load true 3 (.t 1), none, []⟩,
   ⟨(some 21), .call (.f 17) [(.t 20)], none, []⟩,
   ⟨(some 22), .call (.f 32) [(.t 21)], none, []⟩,
   ⟨(some 19), .mv (.t 22), none, []⟩,
   ⟨(some 23), .ext (.t 19) 0, none, []⟩,
   ⟨(some 24), .ext (.t 19) 1, none, []⟩,
   ⟨(some 4), .mv (.t 23), none, []⟩,
   ⟨(some 5), .mv (.t 24), none, []⟩])
 (.seq (.ops false [⟨(some 25), .load true 3 (.t 1), none, []⟩,
   ⟨(some 26), .call (.f 17) [(.t 25)], none, []⟩,
   ⟨(some 6), .alloc 28 [.int .i64 0, .int .i64 0, .sl 0 0 0], none, []⟩,
   ⟨none, .store 3 (.t 6) (.t 26), none, []⟩])
 (.seq (.ops false [⟨(some 28), .load true 3 (.t 6), none, []⟩,
   ⟨(some 29), .call (.f 33) [(.t 28)], none, []⟩,
   ⟨(some 27), .mv (.t 29), none, []⟩,
   ⟨(some 30), .ext (.t 27) 0, none, []⟩,
   ⟨(some 31), .ext (.t 27) 1, none, []⟩,
   ⟨(some 7), .mv (.t 30), none, []⟩,
   ⟨(some 8), .mv (.t 31), none, []⟩])
 (.seq (.seq (.ops false [⟨(some 32), .mv (.t 7), none, []⟩,
    ⟨(some 33), .mv (.t 4), none, []⟩,
    ⟨(some 34), .call (.f 22) [(.t 32), (.t 33)], none, []⟩,
    ⟨(some 35), .un .not (.t 34), none, []⟩,
    ⟨(some 36), .mv (.t 35), none, []⟩,
    ⟨(some 37), .mv (.t 8), (some (36, false)), []⟩,
    ⟨(some 38), .mv (.t 5), (some (36, false)), []⟩,
    ⟨(some 39), .beq true (.t 37) (.t 38), (some (36, false)), []⟩,
    ⟨(some 40), .pick (.t 36) (.k (bv true)) (.t 39), none, []⟩])
  (.cond (.t 40) (.seq (.ops false [⟨(some 2), .mv (.k (bv false)), none, []⟩])
   .ret)
   .skip))
 (.seq (.seq (.ops true [⟨(some 42), .load true 3 (.t 1), none, []⟩,
    ⟨(some 43), .call (.f 17) [(.t 42)], none, []⟩,
    ⟨(some 41), .load true 3 (.t 6), none, [0]⟩,
    ⟨(some 44), .call (.f 19) [(.t 41), (.t 43)], none, []⟩,
    ⟨(some 45), .un .not (.t 44), none, []⟩])
  (.cond (.t 45) (.seq (.ops false [⟨(some 2), .mv (.k (bv false)), none, []⟩])
   .ret)
   .skip))
 (.seq (.ops false [⟨(some 9), .mv (.k (iv 1)), none, []⟩])
 (.seq (.ops false [⟨(some 46), .load true 3 (.t 6), none, []⟩,
   ⟨(some 47), .mv (.t 9), none, []⟩,
   ⟨(some 48), .call (.f 23) [(.t 46), (.t 47)], none, []⟩,
   ⟨(some 9), .mv (.t 48), none, []⟩])
 (.seq (.seq (.ops false [⟨(some 49), .mv (.t 9), none, []⟩,
    ⟨(some 50), .bin .lss (.t 49) (.k (iv 0)), none, []⟩,
    ⟨(some 51), .mv (.t 50), none, []⟩,
    ⟨(some 52), .mv (.t 7), (some (51, false)), []⟩,
    ⟨(some 53), .mv (.t 4), (some (51, false)), []⟩,
    ⟨(some 54), .call (.f 22) [(.t 52), (.t 53)], (some (51, false)), []⟩,
    ⟨(some 55), .un .not (.t 54), (some (51, false)), []⟩,
    ⟨(some 56), .pick (.t 51) (.k (bv true)) (.t 55), none, []⟩,
    ⟨(some 57), .mv (.t 56), none, []⟩,
    ⟨(some 58), .mv (.t 8), (some (57, false)), []⟩,
    ⟨(some 59), .mv (.t 5), (some (57, false)), []⟩,
    ⟨(some 60), .beq true (.t 58) (.t 59), (some (57, false)), []⟩,
    ⟨(some 61), .pick (.t 57) (.k (bv true)) (.t 60), none, []⟩])
  (.cond (.t 61) (.seq (.ops false [⟨(some 2), .mv (.k (bv false)), none, []⟩])
   .ret)
   .skip))
 (.seq (.ops false [⟨(some 10), .mv (.k (iv 1)), none, []⟩])
 (.seq (.ops false [⟨(some 62), .mv (.t 7), none, []⟩,
   ⟨(some 63), .mv (.t 10), none, []⟩,
   ⟨(some 64), .call (.f 24) [(.t 62), (.t 63)], none, []⟩,
   ⟨(some 10), .mv (.t 64), none, []⟩])
 (.seq (.ops false [⟨(some 11), .mv (.k (iv 1)), none, []⟩])
 (.seq (.ops false [⟨(some 65), .mv (.t 7), none, []⟩,
   ⟨(some 66), .mv (.t 11), none, []⟩,
   ⟨(some 67), .call (.f 25) [(.t 65), (.t 66)], none, []⟩,
   ⟨(some 11), .mv (.t 67), none, []⟩])
 (.seq (.seq (.ops false [⟨(some 68), .mv (.t 11), none, []⟩,
    ⟨(some 69), .bin .lss (.t 68) (.k (iv 0)), none, []⟩])
  (.cond (.t 69) (.seq (.ops false [⟨(some 2), .mv (.k (bv false)), none, []⟩])
   .ret)
   .skip))
 (.seq (.seq (.ops false [⟨(some 70), .mv (.t 11), none, []⟩,
    ⟨(some 71), .mv (.t 10), none, []⟩,
    ⟨(some 72), .bin .neq (.t 70) (.t 71), none, []⟩])
  (.cond (.t 72) (.seq (.ops false [⟨(some 2), .mv (.k (bv false)), none, []⟩])
   .ret)
   .skip))
 (.seq (.ops false [⟨(some 74), .load true 3 (.t 1), none, []⟩,
   ⟨(some 75), .call (.f 17) [(.t 74)], none, []⟩,
   ⟨(some 76), .call (.f 33) [(.t 75)], none, []⟩,
   ⟨(some 73), .mv (.t 76), none, []⟩,
   ⟨(some 77), .ext (.t 73) 0, none, []⟩,
   ⟨(some 78), .ext (.t 73) 1, none, []⟩,
   ⟨(some 12), .mv (.t 77), none, []⟩,
   ⟨(some 13), .mv (.t 78), none, []⟩])
 (.seq (.seq (.ops false [⟨(some 79), .mv (.t 12), none, []⟩,
    ⟨(some 80), .mv (.t 4), none, []⟩,
    ⟨(some 81), .call (.f 22) [(.t 79), (.t 80)], none, []⟩,
    ⟨(some 82), .un .not (.t 81), none, []⟩,
    ⟨(some 83), .mv (.t 82), none, []⟩,
    ⟨(some 84), .mv (.t 13), (some (83, false)), []⟩,
    ⟨(some 85), .mv (.t 5), (some (83, false)), []⟩,
    ⟨(some 86), .beq true (.t 84) (.t 85), (some (83, false)), []⟩,
    ⟨(some 87), .pick (.t 83) (.k (bv true)) (.t 86), none, []⟩])
  (.cond (.t 87) (.seq (.ops false [⟨(some 2), .mv (.k (bv false)), none, []⟩])
   .ret)
   .skip))
 (.seq (.ops false [⟨(some 11), .mv (.k (iv 1)), none, []⟩])
 (.seq (.ops false [⟨(some 88), .mv (.t 7), none, []⟩,
   ⟨(some 89), .mv (.t 11), none, []⟩,
   ⟨(some 90), .call (.f 25) [(.t 88), (.t 89)], none, []⟩,
   ⟨(some 11), .mv (.t 90), none, []⟩])
 (.seq (.seq (.ops false [⟨(some 91), .mv (.t 11), none, []⟩,
    ⟨(some 92), .bin .lss (.t 91) (.k (iv 0)), none, []⟩])
  (.cond (.t 92) (.seq (.ops false [⟨(some 2), .mv (.k (bv false)), none, []⟩])
   .ret)
   .skip))
 (.seq (.seq (.ops false [⟨(some 93), .mv (.t 11), none, []⟩,
    ⟨(some 94), .mv (.t 10), none, []⟩,
    ⟨(some 95), .bin .neq (.t 93) (.t 94), none, []⟩])
  (.cond (.t 95) (.seq (.ops false [⟨(some 2), .mv (.k (bv false)), none, []⟩])
   .ret)
   .skip))
 (.seq (.ops false [⟨(some 2), .mv (.k (bv true)), none, []⟩])
 .ret)))))))))))))))))))))))))⟩
theorem code8 : acode Try.prog hints 8 = some L8 := by kernel_rfl

theorem c_FnExactFlowOf {s : St} [Wf s] {a0_0 : Int} (w0_0 : -9223372036854775808 ≤ a0_0 ∧ a0_0 ≤ 9223372036854775807) {a0_1 : Int} (w0_1 : -9223372036854775808 ≤ a0_1 ∧ a0_1 ≤ 9223372036854775807) {i0_2 o0_2 n0_2 : Nat} {x0_2 : List Int} (h0_2 : ArgE ic s i0_2 o0_2 x0_2) (l0_2 : x0_2.length = n0_2) (b0_2 : ∀ n ∈ x0_2, -9223372036854775808 ≤ n ∧ n ≤ 9223372036854775807) (u0_2 : n0_2 ≤ 9223372036854775807) :
    FnV 8 [.agg [.int .i64 a0_0, .int .i64 a0_1, .sl i0_2 o0_2 n0_2]] s (bv true) := by
  refine F_start code8 ?_
  repeat' (first
 | refine A_go rfl ?_ | refine A_ifT rfl rfl ?_ | refine A_ifF rfl rfl ?_ | refine A_offP rfl rfl ?_ | refine A_offH rfl rfl ?_ | refine A_off0 rfl rfl ?_
 | refine A_add rfl rfl rfl (by omega) ?_ | refine A_sub rfl rfl rfl (by omega) ?_ | refine A_mul rfl rfl rfl (by omega) ?_ | refine A_rem rfl rfl rfl (by omega) ?_ | refine A_remT rfl rfl rfl (by omega) ?_ | refine A_quo rfl rfl rfl (by omega) ?_
 | ((first | refine A_lt rfl rfl rfl ?_ ?_ | refine A_le rfl rfl rfl ?_ ?_ | refine A_gt rfl rfl rfl ?_ ?_ | refine A_ge rfl rfl rfl ?_ ?_ | refine A_eq rfl rfl rfl ?_ ?_ | refine A_ne rfl rfl rfl ?_ ?_ | refine A_beq rfl rfl rfl ?_ ?_) <;> intro hc <;> try first | contradiction | (exfalso; omega) | exact absurd rfl hc)
 | refine A_idxN1 rfl rfl rfl (by omega) ?_ | refine A_idx1 rfl rfl rfl (by omega) ?_ | refine A_idxArr1 rfl rfl rfl (by omega) ?_
 | (refine A_callM rfl rfl (fun s H => c_szRule) ?_; rintro _ _ ⟨⟨l, rfl, hl1, hl2⟩, rfl⟩) | (refine A_callM0 rfl rfl (fun s H => c_szRule) ?_; rintro _ _ ⟨⟨l, rfl, hl1, hl2⟩, rfl⟩)
 | (refine A_callM rfl rfl (fun s H => c_toRule) ?_; rintro _ _ ⟨pz, rfl, rfl⟩) | (refine A_callM0 rfl rfl (fun s H => c_toRule) ?_; rintro _ _ ⟨pz, rfl, rfl⟩)
 | (refine A_callM rfl rfl (fun s H => c_toInt64S) ?_; rintro _ _ ⟨pz, rfl, rfl⟩) | (refine A_callM0 rfl rfl (fun s H => c_toInt64S) ?_; rintro _ _ ⟨pz, rfl, rfl⟩)
 | (refine A_callM rfl rfl (fun s H => c_specFlowOf) ?_; rintro _ _ ⟨pz, rfl, rfl, hlen⟩) | (refine A_callM0 rfl rfl (fun s H => c_specFlowOf) ?_; rintro _ _ ⟨pz, rfl, rfl, hlen⟩)
 | (refine A_callM rfl rfl (fun s H => c_implFlowOf) ?_; rintro _ _ ⟨pz, rfl, rfl, hlen⟩) | (refine A_callM0 rfl rfl (fun s H => c_implFlowOf) ?_; rintro _ _ ⟨pz, rfl, rfl, hlen⟩)
 | (refine A_callB rfl rfl (fun s H => c_eqRule) ?_ ?_ <;> intro hc <;> try first | contradiction | (exfalso; omega) | exact absurd rfl hc | exact absurd (And.intro rfl rfl) hc | exact absurd (And.intro rfl (And.intro rfl rfl)) hc)
 | (refine A_callB rfl rfl (fun s H => c_eqInt64S) ?_ ?_ <;> intro hc <;> try first | contradiction | (exfalso; omega) | exact absurd rfl hc | exact absurd (And.intro rfl rfl) hc | exact absurd (And.intro rfl (And.intro rfl rfl)) hc)
 | (refine A_callM rfl rfl (fun s H => c_markRule) ?_; rintro _ _ ⟨rfl, rfl⟩) | (refine A_callM0 rfl rfl (fun s H => c_markRule) ?_; rintro _ _ ⟨rfl, rfl⟩)
 | (refine A_callM rfl rfl (fun s H => c_markInt64S) ?_; rintro _ _ ⟨rfl, rfl⟩) | (refine A_callM0 rfl rfl (fun s H => c_markInt64S) ?_; rintro _ _ ⟨rfl, rfl⟩)
 | refine A_callV rfl rfl (fun s H => c_heldInt64S) ?_
 | refine A_fld rfl rfl ?_ | refine A_mk3 rfl rfl rfl rfl ?_ | refine A_mk23 rfl rfl rfl ?_ | refine A_mk2 rfl rfl rfl ?_ | refine A_p (by rfl) rfl ?_
 | refine A_ldI rfl (by first | omega | (simp; done) | (simp; omega)) rfl ?_ | refine A_ldB rfl (by first | omega | (simp; done) | (simp; omega)) rfl ?_ | refine A_ld rfl (by rfl) rfl ?_ | refine A_ldW rfl (by simp) rfl ?_
 | refine A_st rfl rfl rfl ?_ | refine A_stW rfl rfl (by simp) rfl ?_ | refine A_stE rfl rfl (by first | omega | (simp; done) | (simp; omega)) rfl ?_
 | ((first | refine A_alloc rfl ?_ | refine A_box rfl rfl ?_ | refine A_boxC rfl rfl ?_ | refine A_makeN rfl rfl rfl (by omega) ?_ | refine A_make rfl rfl rfl (by omega) ?_ | refine A_bld1 rfl rfl ?_ | refine A_bld2 rfl rfl rfl ?_ | refine A_bld4 rfl rfl rfl rfl rfl ?_) <;> intro pz hpz)
 | refine A_bld0 rfl ?_ | (refine A_app rfl rfl rfl (by first | omega | (simp; done) | (simp; omega)) (by first | omega | (simp; done) | (simp; omega)) (by omega) ?_; intro pz) | (refine A_appN (enc := ic) rfl (by decide) rfl rfl (by first | omega | (simp; done) | (simp; omega)) (by omega) ?_; intro pz)
 | refine A_chk1 rfl rfl rfl ?_ | refine A_chk2 rfl rfl rfl rfl ?_ | refine A_chk3 rfl rfl rfl rfl rfl ?_ | refine A_chk4 rfl rfl rfl rfl rfl rfl ?_ | refine A_chkI rfl (by assumption) rfl (by simp) ?_
 | refine A_ret1 rfl (by first | exact (RP.t rfl RP.nil) | exact (RP.c rfl inferInstance rfl (by simp) RP.nil)) ?_ | refine A_ret rfl (by first | exact (RP.t rfl (RP.t rfl RP.nil)) | exact (RP.c rfl inferInstance rfl (by simp) (RP.t rfl RP.nil)) | exact (RP.t rfl (RP.t rfl (RP.t rfl RP.nil))) | exact (RP.c rfl inferInstance rfl (by simp) (RP.t rfl (RP.t rfl RP.nil))) | exact (RP.c rfl inferInstance rfl (by simp) (RP.t rfl (RP.t rfl (RP.t rfl (RP.t rfl RP.nil)))))) ?_ | refine A_ret0 rfl ?_)
  all_goals exact R_v rfl

end Go.Proofs.Ytpjnhhhpedidpaa
