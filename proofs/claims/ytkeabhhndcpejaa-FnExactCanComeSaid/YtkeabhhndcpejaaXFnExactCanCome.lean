/- The law FnExactCanCome runs to true. -/
import Derived.Test.YtkeabhhndcpejaaXcomes
import Derived.Test.YtkeabhhndcpejaaXruleLaws
import Derived.Test.YtkeabhhndcpejaaFB
namespace Go.Proofs.Ytkeabhhndcpejaa
open Go Go.RowKit
set_option linter.unusedVariables false
set_option linter.unusedSimpArgs false
set_option maxRecDepth 100000
set_option maxHeartbeats 8000000
-- laws.FnExactCanCome
def L6 : AFun := ⟨60, [.t 6],
 (.seq (.ops false [⟨(some 3), .box 24 (.t 0), none, []⟩,
   ⟨(some 6), .mv (.k (bv false)), none, []⟩])
 (.seq (.seq (.ops false [⟨(some 14), .mv (.t 1), none, []⟩,
    ⟨(some 15), .len false (.t 14), none, []⟩,
    ⟨(some 16), .bin .gtr (.t 15) (.k (iv 1048576)), none, []⟩])
  (.cond (.t 16) (.seq (.ops false [⟨(some 6), .mv (.k (bv true)), none, []⟩])
   .ret)
   .skip))
 (.seq (.ops false [⟨(some 7), .mv (.k (iv 1048576)), none, []⟩])
 (.seq (.ops false [⟨(some 17), .load true 3 (.t 3), none, []⟩,
   ⟨(some 18), .mv (.t 7), none, []⟩,
   ⟨(some 19), .call (.f 15) [(.t 17), (.t 18)], none, []⟩,
   ⟨(some 7), .mv (.t 19), none, []⟩])
 (.seq (.seq (.ops false [⟨(some 20), .mv (.t 7), none, []⟩,
    ⟨(some 21), .bin .lss (.t 20) (.k (iv 0)), none, []⟩])
  (.cond (.t 21) (.seq (.ops false [⟨(some 6), .mv (.k (bv true)), none, []⟩])
   .ret)
   .skip))
 (.seq (.ops false [⟨(some 23), .load true 3 (.t 3), none, []⟩,
   ⟨(some 24), .call (.f 17) [(.t 23)], none, []⟩,
   ⟨(some 25), .mv (.t 1), none, []⟩,
   ⟨(some 26), .call (.f 18) [(.t 25)], none, []⟩,
   ⟨(some 27), .mv (.t 2), none, []⟩,
   ⟨(some 28), .call (.f 29) [(.t 24), (.t 26), (.t 27)], none, []⟩,
   ⟨(some 22), .mv (.t 28), none, []⟩,
   ⟨(some 29), .ext (.t 22) 0, none, []⟩,
   ⟨(some 30), .ext (.t 22) 1, none, []⟩,
   ⟨(some 8), .mv (.t 29), none, []⟩,
   ⟨(some 9), .mv (.t 30), none, []⟩])
 (.seq (.ops false [⟨(some 31), .load true 3 (.t 3), none, []⟩,
   ⟨(some 32), .call (.f 17) [(.t 31)], none, []⟩,
   ⟨(some 10), .alloc 28 [.int .i64 0, .int .i64 0, .sl 0 0 0], none, []⟩,
   ⟨none, .store 3 (.t 10) (.t 32), none, []⟩])
 (.seq (.ops false [⟨(some 33), .mv (.t 1), none, []⟩,
   ⟨(some 34), .call (.f 18) [(.t 33)], none, []⟩,
   ⟨(some 11), .mv (.t 34), none, []⟩])
 (.seq (.ops false [⟨(some 36), .load true 3 (.t 10), none, []⟩,
   ⟨(some 37), .mv (.t 11), none, []⟩,
   ⟨(some 38), .mv (.t 2), none, []⟩,
   ⟨(some 39), .call (.f 30) [(.t 36), (.t 37), (.t 38)], none, []⟩,
   ⟨(some 35), .mv (.t 39), none, []⟩,
   ⟨(some 40), .ext (.t 35) 0, none, []⟩,
   ⟨(some 41), .ext (.t 35) 1, none, []⟩,
   ⟨(some 12), .mv (.t 40), none, []⟩,
   ⟨(some 13), .mv (.t 41), none, []⟩])
 (.seq (.seq (.ops false [⟨(some 42), .mv (.t 12), none, []⟩,
    ⟨(some 43), .mv (.t 8), none, []⟩,
    ⟨(some 44), .beq true (.t 42) (.t 43), none, []⟩,
    ⟨(some 45), .mv (.t 44), none, []⟩,
    ⟨(some 46), .mv (.t 13), (some (45, false)), []⟩,
    ⟨(some 47), .mv (.t 9), (some (45, false)), []⟩,
    ⟨(some 48), .beq true (.t 46) (.t 47), (some (45, false)), []⟩,
    ⟨(some 49), .pick (.t 45) (.k (bv true)) (.t 48), none, []⟩])
  (.cond (.t 49) (.seq (.ops false [⟨(some 6), .mv (.k (bv false)), none, []⟩])
   .ret)
   .skip))
 (.seq (.seq (.ops true [⟨(some 51), .load true 3 (.t 3), none, []⟩,
    ⟨(some 52), .call (.f 17) [(.t 51)], none, []⟩,
    ⟨(some 50), .load true 3 (.t 10), none, [0]⟩,
    ⟨(some 53), .call (.f 21) [(.t 50), (.t 52)], none, []⟩,
    ⟨(some 54), .un .not (.t 53), none, []⟩])
  (.cond (.t 54) (.seq (.ops false [⟨(some 6), .mv (.k (bv false)), none, []⟩])
   .ret)
   .skip))
 (.seq (.seq (.ops false [⟨(some 55), .mv (.t 11), none, []⟩,
    ⟨(some 56), .mv (.t 1), none, []⟩,
    ⟨(some 57), .call (.f 18) [(.t 56)], none, []⟩,
    ⟨(some 58), .call (.f 20) [(.t 55), (.t 57)], none, []⟩,
    ⟨(some 59), .un .not (.t 58), none, []⟩])
  (.cond (.t 59) (.seq (.ops false [⟨(some 6), .mv (.k (bv false)), none, []⟩])
   .ret)
   .skip))
 (.seq (.ops false [⟨(some 6), .mv (.k (bv true)), none, []⟩])
 .ret)))))))))))))⟩
theorem code6 : acode Try.prog hints 6 = some L6 := by kernel_rfl

theorem c_FnExactCanCome {s : St} [Wf s] {a0_0 : Int} (w0_0 : -9223372036854775808 ≤ a0_0 ∧ a0_0 ≤ 9223372036854775807) {a0_1 : Int} (w0_1 : -9223372036854775808 ≤ a0_1 ∧ a0_1 ≤ 9223372036854775807) {i0_2 o0_2 n0_2 : Nat} {x0_2 : List Int} (h0_2 : ArgE ic s i0_2 o0_2 x0_2) (l0_2 : x0_2.length = n0_2) (b0_2 : ∀ n ∈ x0_2, -9223372036854775808 ≤ n ∧ n ≤ 9223372036854775807) (u0_2 : n0_2 ≤ 9223372036854775807) {i1 o1 n1 : Nat} {x1 : List Int} (h1 : ArgE ic s i1 o1 x1) (l1 : x1.length = n1) (b1 : ∀ n ∈ x1, -9223372036854775808 ≤ n ∧ n ≤ 9223372036854775807) (u1 : n1 ≤ 9223372036854775807) {a2 : Int} (w2 : -9223372036854775808 ≤ a2 ∧ a2 ≤ 9223372036854775807) :
    FnV 6 [.agg [.int .i64 a0_0, .int .i64 a0_1, .sl i0_2 o0_2 n0_2], .c (.sl i1 o1 n1), .c (.int .i64 a2)] s (bv true) := by
  refine F_start code6 ?_
  repeat' (first
 | refine A_go rfl ?_ | refine A_ifT rfl rfl ?_ | refine A_ifF rfl rfl ?_ | refine A_offP rfl rfl ?_ | refine A_offH rfl rfl ?_ | refine A_off0 rfl rfl ?_
 | refine A_add rfl rfl rfl (by omega) ?_ | refine A_sub rfl rfl rfl (by omega) ?_ | refine A_mul rfl rfl rfl (by omega) ?_ | refine A_rem rfl rfl rfl (by omega) ?_ | refine A_remT rfl rfl rfl (by omega) ?_ | refine A_quo rfl rfl rfl (by omega) ?_
 | ((first | refine A_lt rfl rfl rfl ?_ ?_ | refine A_le rfl rfl rfl ?_ ?_ | refine A_gt rfl rfl rfl ?_ ?_ | refine A_ge rfl rfl rfl ?_ ?_ | refine A_eq rfl rfl rfl ?_ ?_ | refine A_ne rfl rfl rfl ?_ ?_ | refine A_beq rfl rfl rfl ?_ ?_) <;> intro hc <;> try first | contradiction | (exfalso; omega) | exact absurd rfl hc)
 | refine A_idxN1 rfl rfl rfl (by omega) ?_ | refine A_idx1 rfl rfl rfl (by omega) ?_ | refine A_idxArr1 rfl rfl rfl (by omega) ?_
 | (refine A_callM rfl rfl (fun s H => c_szRule) ?_; rintro _ _ ⟨⟨l, rfl, hl1, hl2⟩, rfl⟩) | (refine A_callM0 rfl rfl (fun s H => c_szRule) ?_; rintro _ _ ⟨⟨l, rfl, hl1, hl2⟩, rfl⟩)
 | (refine A_callM rfl rfl (fun s H => c_toRule) ?_; rintro _ _ ⟨pz, rfl, rfl⟩) | (refine A_callM0 rfl rfl (fun s H => c_toRule) ?_; rintro _ _ ⟨pz, rfl, rfl⟩)
 | (refine A_callM rfl rfl (fun s H => c_toInt64S) ?_; rintro _ _ ⟨pz, rfl, rfl⟩) | (refine A_callM0 rfl rfl (fun s H => c_toInt64S) ?_; rintro _ _ ⟨pz, rfl, rfl⟩)
 | refine A_callV rfl rfl (fun s H => c_specCanCome) ?_
 | refine A_callV rfl rfl (fun s H => c_implCanCome) ?_
 | (refine A_callB rfl rfl (fun s H => c_eqRule) ?_ ?_ <;> intro hc <;> try first | contradiction | (exfalso; omega) | exact absurd rfl hc | exact absurd (And.intro rfl rfl) hc | exact absurd (And.intro rfl (And.intro rfl rfl)) hc | exact absurd (Eq.trans (by assumption) (Eq.symm (by assumption))) hc)
 | (refine A_callB rfl rfl (fun s H => c_eqInt64S) ?_ ?_ <;> intro hc <;> try first | contradiction | (exfalso; omega) | exact absurd rfl hc | exact absurd (And.intro rfl rfl) hc | exact absurd (And.intro rfl (And.intro rfl rfl)) hc | exact absurd (Eq.trans (by assumption) (Eq.symm (by assumption))) hc)
 | refine A_fld rfl rfl ?_ | refine A_mk3 rfl rfl rfl rfl ?_ | refine A_mk23 rfl rfl rfl ?_ | refine A_mk2 rfl rfl rfl ?_ | refine A_mk13 rfl rfl ?_ | refine A_p (by rfl) rfl ?_
 | refine A_ldI rfl (by first | omega | (simp; done) | (simp; omega)) rfl ?_ | refine A_ldB rfl (by first | omega | (simp; done) | (simp; omega)) rfl ?_ | refine A_ld rfl (by rfl) rfl ?_ | refine A_ldW rfl (by simp) rfl ?_
 | refine A_st rfl rfl rfl ?_ | refine A_stW rfl rfl (by simp) rfl ?_ | refine A_stE rfl rfl (by first | omega | (simp; done) | (simp; omega)) rfl ?_
 | ((first | refine A_alloc rfl ?_ | refine A_box rfl rfl ?_ | refine A_boxC rfl rfl ?_ | refine A_makeN rfl rfl rfl (by omega) ?_ | refine A_make rfl rfl rfl (by omega) ?_ | refine A_bld1 rfl rfl ?_ | refine A_bld2 rfl rfl rfl ?_ | refine A_bld4 rfl rfl rfl rfl rfl ?_) <;> intro pz hpz)
 | refine A_bld0 rfl ?_ | (refine A_app rfl rfl rfl (by first | omega | (simp; done) | (simp; omega)) (by first | omega | (simp; done) | (simp; omega)) (by omega) ?_; intro pz) | (refine A_appN (enc := ic) rfl (by decide) rfl rfl (by first | omega | (simp; done) | (simp; omega)) (by omega) ?_; intro pz)
 | refine A_chk1 rfl rfl rfl ?_ | refine A_chk2 rfl rfl rfl rfl ?_ | refine A_chk3 rfl rfl rfl rfl rfl ?_ | refine A_chk4 rfl rfl rfl rfl rfl rfl ?_ | refine A_chkI rfl (by assumption) rfl (by simp) ?_
 | refine A_ret1 rfl (by first | exact (RP.t rfl RP.nil) | exact (RP.c rfl inferInstance rfl (by simp) RP.nil)) ?_ | refine A_ret rfl (by first | exact (RP.t rfl (RP.t rfl RP.nil)) | exact (RP.c rfl inferInstance rfl (by simp) (RP.t rfl RP.nil)) | exact (RP.t rfl (RP.t rfl (RP.t rfl RP.nil))) | exact (RP.c rfl inferInstance rfl (by simp) (RP.t rfl (RP.t rfl RP.nil))) | exact (RP.c rfl inferInstance rfl (by simp) (RP.t rfl (RP.t rfl (RP.t rfl (RP.t rfl RP.nil)))))) ?_ | refine A_ret0 rfl ?_)
  all_goals exact R_v rfl

end Go.Proofs.Ytkeabhhndcpejaa
