/- Plain fields, and copies of fields. -/
import Derived.Test.YtckobcjjbpnkcaaXfieldS
import Derived.Test.YtckobcjjbpnkcaaXfieldP
import Derived.Test.YtckobcjjbpnkcaaXclone
import Derived.Test.YtckobcjjbpnkcaaFB
namespace Go.Proofs.Ytckobcjjbpnkcaa
open Go Go.RowKit
set_option linter.unusedVariables false
set_option linter.unusedSimpArgs false
set_option maxRecDepth 100000
set_option maxHeartbeats 8000000
-- impl.copyField
def L73 : AFun := ⟨8, [.cell true 3 2],
 (.seq (.ops false [⟨(some 1), .box 25 (.t 0), none, []⟩,
   ⟨(some 2), .alloc 25 [.int .i64 0, .int .i64 0, .sl 0 0 0], none, []⟩])
 (.seq (.ops false [⟨(some 3), .fieldA 2 (.t 1), none, []⟩,
   ⟨(some 4), .load false 1 (.t 3), none, []⟩,
   ⟨(some 5), .call (.f 90) [(.t 4)], none, []⟩,
   ⟨(some 6), .fieldA 2 (.t 1), none, []⟩,
   ⟨none, .store 1 (.t 6) (.t 5), none, []⟩])
 (.seq (.ops false [⟨(some 7), .load true 3 (.t 1), none, []⟩,
   ⟨none, .store 3 (.t 2) (.t 7), none, []⟩])
 .ret)))⟩
theorem code73 : acode Try.prog hints 73 = some L73 := by kernel_rfl


/-- A field that is valid and plain. -/
def PL (r c : Int) (xs : List Int) : Prop := VF r c xs ∧ ∀ x ∈ xs, 0 ≤ x ∧ x ≤ 1
theorem c_copyField {s : St} [Wf s] {r c : Int} {id_xs off_xs len_xs : Nat} {xs : List Int} [h_xs : ArgE ic s id_xs off_xs xs] (hl_xs : xs.length = len_xs := by first | rfl | simp | omega | (simp; omega)) (hb : len_xs ≤ 2000000 := by omega) :
    Fn [] 73 [.agg [ic r, ic c, .sl id_xs off_xs len_xs]] s fun V L => ∃ p, V = .agg (fld r c p len_xs) ∧ L = [(p, ints xs)] := by
  refine F_start code73 ?_
  repeat' (first
 | refine A_go rfl ?_ | refine A_ifT rfl rfl ?_ | refine A_ifF rfl rfl ?_
 | (refine A_callM rfl rfl (fun s H => c_clone) ?_; rintro _ _ ⟨pz, rfl, rfl⟩) | (refine A_callM0 rfl rfl (fun s H => c_clone) ?_; rintro _ _ ⟨pz, rfl, rfl⟩)
 | refine A_fld rfl rfl ?_ | refine A_p (by rfl) rfl ?_
 | refine A_ldI rfl (by first | omega | (simp; done) | (simp; omega)) rfl ?_ | refine A_ldB rfl (by first | omega | (simp; done) | (simp; omega)) rfl ?_ | refine A_ld rfl (by rfl) rfl ?_
 | refine A_ldW rfl (by simp) rfl ?_
 | refine A_st rfl rfl rfl ?_ | refine A_stE rfl rfl (by first | omega | (simp; done) | (simp; omega)) rfl ?_
 | refine A_stW rfl rfl (by simp) rfl ?_
 | ((first | refine A_alloc rfl ?_ | refine A_box rfl rfl ?_ | refine A_boxC rfl rfl ?_) <;> intro pz hpz)
 | refine A_ret1 rfl (by exact (RP.c rfl inferInstance rfl (by simp) RP.nil)) ?_)
  exact R_s ⟨pz, rfl, rfl⟩
theorem cell_div {a b C : Int} (h : 0 ≤ b ∧ b < C) : (a * C + b) / C = a ∧ (a * C + b) % C = b := by
  rw [Int.add_comm, Int.add_mul_ediv_right _ _ (by omega), Int.add_mul_emod_self_right, Int.ediv_eq_zero_of_lt h.1 h.2, Int.emod_eq_of_lt h.1 h.2]
  omega

end Go.Proofs.Ytckobcjjbpnkcaa
