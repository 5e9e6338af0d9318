/- Fields turned, mirrored, cut, shifted: the reference. -/
import Derived.Test.YtlhidckolillaaaXfieldG
import Derived.Test.YtlhidckolillaaaFB
namespace Go.Proofs.Ytlhidckolillaaa
open Go Go.RowKit
set_option linter.unusedVariables false
set_option linter.unusedSimpArgs false
set_option maxRecDepth 100000
set_option maxHeartbeats 8000000
-- spec.l04Round
def L41 : AFun := ⟨49, [.t 6],
 (.seq (.ops false [⟨(some 6), .mv (.k (iv 0)), none, []⟩])
 (.seq (.ops true [⟨(some 9), .mv (.t 1), none, []⟩,
   ⟨(some 10), .mv (.t 0), none, []⟩,
   ⟨(some 11), .nilChk (.t 10), none, []⟩,
   ⟨(some 12), .fieldA 0 (.t 11), none, []⟩,
   ⟨(some 13), .load false 1 (.t 12), none, []⟩,
   ⟨(some 14), .bin .rem (.t 9) (.t 13), none, []⟩,
   ⟨(some 15), .mv (.t 0), none, []⟩,
   ⟨(some 16), .nilChk (.t 15), none, []⟩,
   ⟨(some 17), .fieldA 0 (.t 16), none, []⟩,
   ⟨(some 18), .load false 1 (.t 17), none, []⟩,
   ⟨(some 19), .bin .add (.t 14) (.t 18), none, []⟩,
   ⟨(some 20), .mv (.t 0), none, []⟩,
   ⟨(some 21), .nilChk (.t 20), none, []⟩,
   ⟨(some 22), .fieldA 0 (.t 21), none, []⟩,
   ⟨(some 23), .load false 1 (.t 22), none, []⟩,
   ⟨(some 24), .bin .rem (.t 19) (.t 23), none, []⟩,
   ⟨(some 7), .mv (.t 24), none, []⟩])
 (.seq (.ops true [⟨(some 25), .mv (.t 2), none, []⟩,
   ⟨(some 26), .mv (.t 0), none, []⟩,
   ⟨(some 27), .nilChk (.t 26), none, []⟩,
   ⟨(some 28), .fieldA 1 (.t 27), none, []⟩,
   ⟨(some 29), .load false 1 (.t 28), none, []⟩,
   ⟨(some 30), .bin .rem (.t 25) (.t 29), none, []⟩,
   ⟨(some 31), .mv (.t 0), none, []⟩,
   ⟨(some 32), .nilChk (.t 31), none, []⟩,
   ⟨(some 33), .fieldA 1 (.t 32), none, []⟩,
   ⟨(some 34), .load false 1 (.t 33), none, []⟩,
   ⟨(some 35), .bin .add (.t 30) (.t 34), none, []⟩,
   ⟨(some 36), .mv (.t 0), none, []⟩,
   ⟨(some 37), .nilChk (.t 36), none, []⟩,
   ⟨(some 38), .fieldA 1 (.t 37), none, []⟩,
   ⟨(some 39), .load false 1 (.t 38), none, []⟩,
   ⟨(some 40), .bin .rem (.t 35) (.t 39), none, []⟩,
   ⟨(some 8), .mv (.t 40), none, []⟩])
 (.seq (.ops false [⟨(some 41), .mv (.t 7), none, []⟩,
   ⟨(some 42), .mv (.t 0), none, []⟩,
   ⟨(some 43), .nilChk (.t 42), none, []⟩,
   ⟨(some 44), .fieldA 1 (.t 43), none, []⟩,
   ⟨(some 45), .load false 1 (.t 44), none, []⟩,
   ⟨(some 46), .bin .mul (.t 41) (.t 45), none, []⟩,
   ⟨(some 47), .mv (.t 8), none, []⟩,
   ⟨(some 48), .bin .add (.t 46) (.t 47), none, []⟩,
   ⟨(some 6), .mv (.t 48), none, []⟩])
 .ret))))⟩
theorem code41 : acode Try.prog hints 41 = some L41 := by kernel_rfl


theorem fill_step {R C i k : Nat} {g : Int → Int → Int} {ys : List Int} (hl : ys.length = R * C) (ht : ys.take (i * C + k) = (mk R C g).take (i * C + k)) (hi : i < R) (hk : k < C) {v : Int} (hv : v = g i k) :
    (ys.set ((i : Int) * C + k).toNat v).take (i * C + (k + 1)) = (mk R C g).take (i * C + (k + 1)) := by
  have h := lt_mul hi hk
  rw [toNat_cell, hv, ← mk_get (g := g) hi hk]
  exact take_set (i := i * C + k) (d := 0) ht (by omega) (by simpa using h)
theorem c_l04Round {s : St} [Wf s] {q : Nat} {r c i k : Int} {v : AC} [hq : Ref s q [ic r, ic c, v]] (h : (1 ≤ r ∧ r ≤ 24) ∧ 1 ≤ c ∧ c ≤ 24 := by omega) (hi : (-1000000 ≤ i ∧ i ≤ 1000000) ∧ -1000000 ≤ k ∧ k ≤ 1000000 := by omega) :
    FnV 41 [.c (.ptr q 0), iv i, iv k] s (iv (i % r * c + k % c)) := by
  obtain ⟨a1, a2, a3⟩ := tmod_facts (a := i) (b := r) (by omega)
  obtain ⟨b1, b2, b3⟩ := tmod_facts (a := k) (b := c) (by omega)
  have e1 := emod_in (a := i) (b := r) (by omega)
  have e2 := emod_in (a := k) (b := c) (by omega)
  have e3 := cell_in e1 e2
  have hm := side_mul (r := r) (c := c) (by omega) (by omega)
  rw [← a3, ← b3] at *
  refine F_start code41 ?_
  repeat' (first
 | refine A_go rfl ?_ | refine A_ifT rfl rfl ?_ | refine A_ifF rfl rfl ?_
 | refine A_add rfl rfl rfl (by omega) ?_ | refine A_mul rfl rfl rfl (by omega) ?_ | refine A_rem rfl rfl rfl (by omega) ?_ | refine A_remT rfl rfl rfl (by omega) ?_
 | refine A_fld rfl rfl ?_ | refine A_p (by rfl) rfl ?_
 | refine A_ldI rfl (by first | omega | (simp; done) | (simp; omega)) rfl ?_ | refine A_ldB rfl (by first | omega | (simp; done) | (simp; omega)) rfl ?_ | refine A_ld rfl (by rfl) rfl ?_
 | refine A_ret1 rfl (by exact (RP.t rfl RP.nil)) ?_)
  exact R_v rfl
end Go.Proofs.Ytlhidckolillaaa
