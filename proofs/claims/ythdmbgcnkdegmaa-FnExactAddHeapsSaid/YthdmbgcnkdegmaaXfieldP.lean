/- Fields on which others are pasted: the reference. -/
import Derived.Test.YthdmbgcnkdegmaaXfieldS
import Derived.Test.YthdmbgcnkdegmaaFB
namespace Go.Proofs.Ythdmbgcnkdegmaa
open Go Go.RowKit
set_option linter.unusedVariables false
set_option linter.unusedSimpArgs false
set_option maxRecDepth 100000
set_option maxHeartbeats 8000000
-- spec.l04Own
def L75 : AFun := ⟨18, [.cell true 3 2],
 (.seq (.ops false [⟨(some 2), .alloc 26 [.int .i64 0, .int .i64 0, .sl 0 0 0], none, []⟩])
 (.seq (.ops true [⟨(some 11), .buildS 2 1 0 [.int .i64 0] [], none, []⟩,
   ⟨(some 12), .mv (.t 0), none, []⟩,
   ⟨(some 13), .nilChk (.t 12), none, []⟩,
   ⟨(some 14), .fieldA 2 (.t 13), none, []⟩,
   ⟨(some 15), .load false 1 (.t 14), none, []⟩,
   ⟨(some 16), .append 2 1 8 (.t 11) (.t 15), none, []⟩,
   ⟨(some 3), .mv (.t 0), none, []⟩,
   ⟨(some 4), .nilChk (.t 3), none, []⟩,
   ⟨(some 5), .fieldA 0 (.t 4), none, []⟩,
   ⟨(some 6), .load false 1 (.t 5), none, [0]⟩,
   ⟨(some 7), .mv (.t 0), none, []⟩,
   ⟨(some 8), .nilChk (.t 7), none, []⟩,
   ⟨(some 9), .fieldA 1 (.t 8), none, []⟩,
   ⟨(some 10), .load false 1 (.t 9), none, [0]⟩,
   ⟨(some 17), .build [.int .i64 0, .int .i64 0, .sl 0 0 0] [(0, 1, (.t 6)), (1, 1, (.t 10)), (2, 1, (.t 16))], none, []⟩,
   ⟨none, .store 3 (.t 2) (.t 17), none, []⟩])
 .ret))⟩
theorem code75 : acode Try.prog hints 75 = some L75 := by kernel_rfl


theorem c_l04Own {s : St} [Wf s] {q : Nat} {r c : Int} {id_xs off_xs len_xs : Nat} {xs : List Int} [hq : Ref s q [ic r, ic c, .sl id_xs off_xs len_xs]] [h_xs : ArgE ic s id_xs off_xs xs] (hl_xs : xs.length = len_xs := by first | rfl | simp | omega) (hb : len_xs ≤ 2000000 := by omega) :
    Fn [] 75 [.c (.ptr q 0)] s fun V L => ∃ p, V = .agg (fld r c p len_xs) ∧ L = [(p, ints xs)] := by
  refine F_start code75 ?_
  repeat' (first
 | refine A_go rfl ?_ | refine A_ifT rfl rfl ?_ | refine A_ifF rfl rfl ?_ | refine A_offP rfl rfl ?_ | refine A_offH rfl rfl ?_ | refine A_off0 rfl rfl ?_
 | refine A_add rfl rfl rfl (by omega) ?_ | refine A_sub rfl rfl rfl (by omega) ?_ | refine A_mul rfl rfl rfl (by omega) ?_ | refine A_rem rfl rfl rfl (by omega) ?_ | refine A_remT rfl rfl rfl (by omega) ?_ | refine A_quo rfl rfl rfl (by omega) ?_
 | ((first | refine A_lt rfl rfl rfl ?_ ?_ | refine A_le rfl rfl rfl ?_ ?_ | refine A_gt rfl rfl rfl ?_ ?_ | refine A_ge rfl rfl rfl ?_ ?_ | refine A_eq rfl rfl rfl ?_ ?_ | refine A_ne rfl rfl rfl ?_ ?_ | refine A_beq rfl rfl rfl ?_ ?_) <;> intro hc <;> try first | contradiction | (exfalso; omega) | exact absurd rfl hc)
 | refine A_idxN1 rfl rfl rfl (by omega) ?_ | refine A_idx1 rfl rfl rfl (by omega) ?_ | refine A_idxArr1 rfl rfl rfl (by omega) ?_
 | refine A_fld rfl rfl ?_ | refine A_mk3 rfl rfl rfl rfl ?_ | refine A_mk23 rfl rfl rfl ?_ | refine A_mk2 rfl rfl rfl ?_ | refine A_p (by rfl) rfl ?_
 | refine A_ldI rfl (by first | omega | (simp; done) | (simp; omega)) rfl ?_ | refine A_ldB rfl (by first | omega | (simp; done) | (simp; omega)) rfl ?_ | refine A_ld rfl (by rfl) rfl ?_ | refine A_ldW rfl (by simp) rfl ?_
 | refine A_st rfl rfl rfl ?_ | refine A_stW rfl rfl (by simp) rfl ?_ | refine A_stE rfl rfl (by first | omega | (simp; done) | (simp; omega)) rfl ?_
 | ((first | refine A_alloc rfl ?_ | refine A_box rfl rfl ?_ | refine A_boxC rfl rfl ?_ | refine A_makeN rfl rfl rfl (by omega) ?_ | refine A_make rfl rfl rfl (by omega) ?_ | refine A_bld1 rfl rfl ?_ | refine A_bld2 rfl rfl rfl ?_ | refine A_bld4 rfl rfl rfl rfl rfl ?_) <;> intro pz hpz)
 | refine A_bld0 rfl ?_ | (refine A_app rfl rfl rfl (by first | omega | (simp; done) | (simp; omega)) (by first | omega | (simp; done) | (simp; omega)) (by omega) ?_; intro pz) | (refine A_appN (enc := ic) rfl (by decide) rfl rfl (by first | omega | (simp; done) | (simp; omega)) (by omega) ?_; intro pz)
 | refine A_chk1 rfl rfl rfl ?_ | refine A_chk2 rfl rfl rfl rfl ?_ | refine A_chk3 rfl rfl rfl rfl rfl ?_ | refine A_chk4 rfl rfl rfl rfl rfl rfl ?_ | refine A_chkI rfl (by assumption) rfl (by simp) ?_
 | refine A_ret1 rfl (by first | exact (RP.t rfl RP.nil) | exact (RP.c rfl inferInstance rfl (by simp) RP.nil)) ?_ | refine A_ret rfl (by first | exact (RP.t rfl (RP.t rfl RP.nil)) | exact (RP.c rfl inferInstance rfl (by simp) (RP.t rfl RP.nil)) | exact (RP.t rfl (RP.t rfl (RP.t rfl RP.nil))) | exact (RP.c rfl inferInstance rfl (by simp) (RP.t rfl (RP.t rfl RP.nil))) | exact (RP.c rfl inferInstance rfl (by simp) (RP.t rfl (RP.t rfl (RP.t rfl (RP.t rfl RP.nil)))))) ?_ | refine A_ret0 rfl ?_)
  exact R_s ⟨pz, rfl, rfl⟩

end Go.Proofs.Ythdmbgcnkdegmaa
