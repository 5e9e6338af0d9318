/- The law FnExactIsStill runs to true. -/
import Derived.Test.YthdmbgcnkdegmaaXlivesS
import Derived.Test.YthdmbgcnkdegmaaXlife
import Derived.Test.YthdmbgcnkdegmaaFB
namespace Go.Proofs.Ythdmbgcnkdegmaa
open Go Go.RowKit
set_option linter.unusedVariables false
set_option linter.unusedSimpArgs false
set_option maxRecDepth 100000
set_option maxHeartbeats 8000000
-- laws.FnExactIsStill
def L8 : AFun := ⟨62, [.t 6],
 (.seq (.ops false [⟨(some 3), .box 44 (.t 0), none, []⟩,
   ⟨(some 4), .box 24 (.t 1), none, []⟩,
   ⟨(some 6), .mv (.k (bv false)), none, []⟩])
 (.seq (.ops false [⟨(some 7), .mv (.k (iv 1048576)), none, []⟩])
 (.seq (.ops false [⟨(some 14), .load true 2 (.t 3), none, []⟩,
   ⟨(some 15), .mv (.t 7), none, []⟩,
   ⟨(some 16), .call (.f 33) [(.t 14), (.t 15)], none, []⟩,
   ⟨(some 7), .mv (.t 16), none, []⟩])
 (.seq (.seq (.ops false [⟨(some 17), .mv (.t 7), none, []⟩,
    ⟨(some 18), .bin .lss (.t 17) (.k (iv 0)), none, []⟩])
  (.cond (.t 18) (.seq (.ops false [⟨(some 6), .mv (.k (bv true)), none, []⟩])
   .ret)
   .skip))
 (.seq (.ops false [⟨(some 19), .load true 3 (.t 4), none, []⟩,
   ⟨(some 20), .mv (.t 7), none, []⟩,
   ⟨(some 21), .call (.f 15) [(.t 19), (.t 20)], none, []⟩,
   ⟨(some 7), .mv (.t 21), none, []⟩])
 (.seq (.seq (.ops false [⟨(some 22), .mv (.t 7), none, []⟩,
    ⟨(some 23), .bin .lss (.t 22) (.k (iv 0)), none, []⟩])
  (.cond (.t 23) (.seq (.ops false [⟨(some 6), .mv (.k (bv true)), none, []⟩])
   .ret)
   .skip))
 (.seq (.ops true [⟨(some 25), .load true 2 (.t 3), none, []⟩,
   ⟨(some 26), .call (.f 35) [(.t 25)], none, []⟩,
   ⟨(some 27), .load true 3 (.t 4), none, [0]⟩,
   ⟨(some 28), .call (.f 17) [(.t 27)], none, []⟩,
   ⟨(some 29), .mv (.t 2), none, []⟩,
   ⟨(some 30), .call (.f 34) [(.t 26), (.t 28), (.t 29)], none, []⟩,
   ⟨(some 24), .mv (.t 30), none, []⟩,
   ⟨(some 31), .ext (.t 24) 0, none, []⟩,
   ⟨(some 32), .ext (.t 24) 1, none, []⟩,
   ⟨(some 8), .mv (.t 31), none, []⟩,
   ⟨(some 9), .mv (.t 32), none, []⟩])
 (.seq (.ops false [⟨(some 33), .load true 2 (.t 3), none, []⟩,
   ⟨(some 34), .call (.f 35) [(.t 33)], none, []⟩,
   ⟨(some 10), .alloc 47 [.sl 0 0 0, .sl 0 0 0], none, []⟩,
   ⟨none, .store 2 (.t 10) (.t 34), none, []⟩])
 (.seq (.ops false [⟨(some 35), .load true 3 (.t 4), none, []⟩,
   ⟨(some 36), .call (.f 17) [(.t 35)], none, []⟩,
   ⟨(some 11), .alloc 26 [.int .i64 0, .int .i64 0, .sl 0 0 0], none, []⟩,
   ⟨none, .store 3 (.t 11) (.t 36), none, []⟩])
 (.seq (.ops false [⟨(some 38), .load true 2 (.t 10), none, []⟩,
   ⟨(some 39), .load true 3 (.t 11), none, []⟩,
   ⟨(some 40), .mv (.t 2), none, []⟩,
   ⟨(some 41), .call (.f 36) [(.t 38), (.t 39), (.t 40)], none, []⟩,
   ⟨(some 37), .mv (.t 41), none, []⟩,
   ⟨(some 42), .ext (.t 37) 0, none, []⟩,
   ⟨(some 43), .ext (.t 37) 1, none, []⟩,
   ⟨(some 12), .mv (.t 42), none, []⟩,
   ⟨(some 13), .mv (.t 43), none, []⟩])
 (.seq (.seq (.ops false [⟨(some 44), .mv (.t 12), none, []⟩,
    ⟨(some 45), .mv (.t 8), none, []⟩,
    ⟨(some 46), .beq true (.t 44) (.t 45), none, []⟩,
    ⟨(some 47), .mv (.t 46), none, []⟩,
    ⟨(some 48), .mv (.t 13), (some (47, false)), []⟩,
    ⟨(some 49), .mv (.t 9), (some (47, false)), []⟩,
    ⟨(some 50), .beq true (.t 48) (.t 49), (some (47, false)), []⟩,
    ⟨(some 51), .pick (.t 47) (.k (bv true)) (.t 50), none, []⟩])
  (.cond (.t 51) (.seq (.ops false [⟨(some 6), .mv (.k (bv false)), none, []⟩])
   .ret)
   .skip))
 (.seq (.seq (.ops true [⟨(some 53), .load true 2 (.t 3), none, []⟩,
    ⟨(some 54), .call (.f 35) [(.t 53)], none, []⟩,
    ⟨(some 52), .load true 2 (.t 10), none, [0]⟩,
    ⟨(some 55), .call (.f 37) [(.t 52), (.t 54)], none, []⟩,
    ⟨(some 56), .un .not (.t 55), none, []⟩])
  (.cond (.t 56) (.seq (.ops false [⟨(some 6), .mv (.k (bv false)), none, []⟩])
   .ret)
   .skip))
 (.seq (.seq (.ops true [⟨(some 58), .load true 3 (.t 4), none, []⟩,
    ⟨(some 59), .call (.f 17) [(.t 58)], none, []⟩,
    ⟨(some 57), .load true 3 (.t 11), none, [0]⟩,
    ⟨(some 60), .call (.f 19) [(.t 57), (.t 59)], none, []⟩,
    ⟨(some 61), .un .not (.t 60), none, []⟩])
  (.cond (.t 61) (.seq (.ops false [⟨(some 6), .mv (.k (bv false)), none, []⟩])
   .ret)
   .skip))
 (.seq (.ops false [⟨(some 6), .mv (.k (bv true)), none, []⟩])
 .ret))))))))))))))⟩
theorem code8 : acode Try.prog hints 8 = some L8 := by kernel_rfl

theorem c_FnExactIsStill {s : St} [Wf s] {i0_0 o0_0 n0_0 : Nat} {x0_0 : List Int} (h0_0 : ArgE ic s i0_0 o0_0 x0_0) (l0_0 : x0_0.length = n0_0) (b0_0 : ∀ n ∈ x0_0, -9223372036854775808 ≤ n ∧ n ≤ 9223372036854775807) (u0_0 : n0_0 ≤ 9223372036854775807) {i0_1 o0_1 n0_1 : Nat} {x0_1 : List Int} (h0_1 : ArgE ic s i0_1 o0_1 x0_1) (l0_1 : x0_1.length = n0_1) (b0_1 : ∀ n ∈ x0_1, -9223372036854775808 ≤ n ∧ n ≤ 9223372036854775807) (u0_1 : n0_1 ≤ 9223372036854775807) {a1_0 : Int} (w1_0 : -9223372036854775808 ≤ a1_0 ∧ a1_0 ≤ 9223372036854775807) {a1_1 : Int} (w1_1 : -9223372036854775808 ≤ a1_1 ∧ a1_1 ≤ 9223372036854775807) {i1_2 o1_2 n1_2 : Nat} {x1_2 : List Int} (h1_2 : ArgE ic s i1_2 o1_2 x1_2) (l1_2 : x1_2.length = n1_2) (b1_2 : ∀ n ∈ x1_2, -9223372036854775808 ≤ n ∧ n ≤ 9223372036854775807) (u1_2 : n1_2 ≤ 9223372036854775807) {t2 : Bool} :
    FnV 8 [.agg [.sl i0_0 o0_0 n0_0, .sl i0_1 o0_1 n0_1], .agg [.int .i64 a1_0, .int .i64 a1_1, .sl i1_2 o1_2 n1_2], .c (.bool t2)] s (bv true) := by
  refine F_start code8 ?_
  repeat' (first
 | refine A_go rfl ?_ | refine A_ifT rfl rfl ?_ | refine A_ifF rfl rfl ?_ | refine A_offP rfl rfl ?_ | refine A_offH rfl rfl ?_ | refine A_off0 rfl rfl ?_
 | refine A_add rfl rfl rfl (by omega) ?_ | refine A_sub rfl rfl rfl (by omega) ?_ | refine A_mul rfl rfl rfl (by omega) ?_ | refine A_rem rfl rfl rfl (by omega) ?_ | refine A_remT rfl rfl rfl (by omega) ?_ | refine A_quo rfl rfl rfl (by omega) ?_
 | ((first | refine A_lt rfl rfl rfl ?_ ?_ | refine A_le rfl rfl rfl ?_ ?_ | refine A_gt rfl rfl rfl ?_ ?_ | refine A_ge rfl rfl rfl ?_ ?_ | refine A_eq rfl rfl rfl ?_ ?_ | refine A_ne rfl rfl rfl ?_ ?_ | refine A_beq rfl rfl rfl ?_ ?_) <;> intro hc <;> try first | contradiction | (exfalso; omega) | exact absurd rfl hc)
 | refine A_idxN1 rfl rfl rfl (by omega) ?_ | refine A_idx1 rfl rfl rfl (by omega) ?_ | refine A_idxArr1 rfl rfl rfl (by omega) ?_
 | (refine A_callM rfl rfl (fun s H => c_szLife) ?_; rintro _ _ ⟨⟨l, rfl, hl1, hl2⟩, rfl⟩) | (refine A_callM0 rfl rfl (fun s H => c_szLife) ?_; rintro _ _ ⟨⟨l, rfl, hl1, hl2⟩, rfl⟩)
 | (refine A_callM rfl rfl (fun s H => c_szField) ?_; rintro _ _ ⟨⟨l, rfl, hl1, hl2⟩, rfl⟩) | (refine A_callM0 rfl rfl (fun s H => c_szField) ?_; rintro _ _ ⟨⟨l, rfl, hl1, hl2⟩, rfl⟩)
 | (refine A_callM rfl rfl (fun s H => c_toLife) ?_; rintro _ _ ⟨pz, py, rfl, rfl⟩) | (refine A_callM0 rfl rfl (fun s H => c_toLife) ?_; rintro _ _ ⟨pz, py, rfl, rfl⟩)
 | (refine A_callM rfl rfl (fun s H => c_toField) ?_; rintro _ _ ⟨pz, rfl, rfl⟩) | (refine A_callM0 rfl rfl (fun s H => c_toField) ?_; rintro _ _ ⟨pz, rfl, rfl⟩)
 | refine A_callV rfl rfl (fun s H => c_specIsStill) ?_
 | refine A_callV rfl rfl (fun s H => c_implIsStill) ?_
 | (refine A_callB rfl rfl (fun s H => c_eqLife) ?_ ?_ <;> intro hc <;> try first | contradiction | (exfalso; omega) | exact absurd rfl hc | exact absurd (And.intro rfl rfl) hc | exact absurd (And.intro rfl (And.intro rfl rfl)) hc)
 | (refine A_callB rfl rfl (fun s H => c_eqField) ?_ ?_ <;> intro hc <;> try first | contradiction | (exfalso; omega) | exact absurd rfl hc | exact absurd (And.intro rfl rfl) hc | exact absurd (And.intro rfl (And.intro rfl rfl)) hc)
 | (refine A_callM rfl rfl (fun s H => c_markLife) ?_; rintro _ _ ⟨rfl, rfl⟩) | (refine A_callM0 rfl rfl (fun s H => c_markLife) ?_; rintro _ _ ⟨rfl, rfl⟩)
 | (refine A_callM rfl rfl (fun s H => c_markField) ?_; rintro _ _ ⟨rfl, rfl⟩) | (refine A_callM0 rfl rfl (fun s H => c_markField) ?_; rintro _ _ ⟨rfl, rfl⟩)
 | refine A_callV rfl rfl (fun s H => c_heldField) ?_
 | refine A_fld rfl rfl ?_ | refine A_mk3 rfl rfl rfl rfl ?_ | refine A_mk23 rfl rfl rfl ?_ | refine A_mk2 rfl rfl rfl ?_ | refine A_p (by rfl) rfl ?_
 | refine A_ldI rfl (by first | omega | (simp; done) | (simp; omega)) rfl ?_ | refine A_ldB rfl (by first | omega | (simp; done) | (simp; omega)) rfl ?_ | refine A_ld rfl (by rfl) rfl ?_ | refine A_ldW rfl (by simp) rfl ?_
 | refine A_st rfl rfl rfl ?_ | refine A_stW rfl rfl (by simp) rfl ?_ | refine A_stE rfl rfl (by first | omega | (simp; done) | (simp; omega)) rfl ?_
 | ((first | refine A_alloc rfl ?_ | refine A_box rfl rfl ?_ | refine A_boxC rfl rfl ?_ | refine A_makeN rfl rfl rfl (by omega) ?_ | refine A_make rfl rfl rfl (by omega) ?_ | refine A_bld1 rfl rfl ?_ | refine A_bld2 rfl rfl rfl ?_ | refine A_bld4 rfl rfl rfl rfl rfl ?_) <;> intro pz hpz)
 | refine A_bld0 rfl ?_ | (refine A_app rfl rfl rfl (by first | omega | (simp; done) | (simp; omega)) (by first | omega | (simp; done) | (simp; omega)) (by omega) ?_; intro pz) | (refine A_appN (enc := ic) rfl (by decide) rfl rfl (by first | omega | (simp; done) | (simp; omega)) (by omega) ?_; intro pz)
 | refine A_chk1 rfl rfl rfl ?_ | refine A_chk2 rfl rfl rfl rfl ?_ | refine A_chk3 rfl rfl rfl rfl rfl ?_ | refine A_chk4 rfl rfl rfl rfl rfl rfl ?_ | refine A_chkI rfl (by assumption) rfl (by simp) ?_
 | refine A_ret1 rfl (by first | exact (RP.t rfl RP.nil) | exact (RP.c rfl inferInstance rfl (by simp) RP.nil)) ?_ | refine A_ret rfl (by first | exact (RP.t rfl (RP.t rfl RP.nil)) | exact (RP.c rfl inferInstance rfl (by simp) (RP.t rfl RP.nil)) | exact (RP.t rfl (RP.t rfl (RP.t rfl RP.nil))) | exact (RP.c rfl inferInstance rfl (by simp) (RP.t rfl (RP.t rfl RP.nil))) | exact (RP.c rfl inferInstance rfl (by simp) (RP.t rfl (RP.t rfl (RP.t rfl (RP.t rfl RP.nil)))))) ?_ | refine A_ret0 rfl ?_)
  all_goals exact R_v rfl

end Go.Proofs.Ythdmbgcnkdegmaa
