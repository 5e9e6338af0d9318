/- Which fields and lives are valid. -/
import Derived.Test.YtlmbgaoeplffkaaXwithin
import Derived.Test.YtlmbgaoeplffkaaXlists
import Derived.Test.YtlmbgaoeplffkaaFB
namespace Go.Proofs.Ytlmbgaoeplffkaa
open Go Go.RowKit
set_option linter.unusedVariables false
set_option linter.unusedSimpArgs false
set_option maxRecDepth 100000
set_option maxHeartbeats 8000000
-- impl.areWithin
def L88 : AFun := ⟨21, [.t 6],
 (.seq (.ops false [⟨(some 6), .mv (.k (bv false)), none, []⟩])
 (.seq (.seq (.ops false [⟨(some 9), .mv (.t 0), none, []⟩,
    ⟨(some 10), .len false (.t 9), none, []⟩,
    ⟨(some 11), .mv (.k (iv 0)), none, []⟩])
  (.block 0 (.loop [1, 2, 9, 10, 11] (.seq (.ops false [⟨(some 12), .bin .lss (.t 11) (.t 10), none, []⟩])
    (.seq (.cond (.t 12) .skip
      (.exit 0))
    (.seq (.block 1 (.seq (.ops false [⟨(some 13), .idxA 1 (.t 9) (.t 11), none, []⟩,
        ⟨(some 14), .load false 1 (.t 13), none, []⟩,
        ⟨(some 8), .mv (.t 14), none, []⟩])
      (.seq (.ops false [⟨(some 15), .mv (.t 8), none, []⟩,
        ⟨(some 16), .mv (.t 1), none, []⟩,
        ⟨(some 17), .mv (.t 2), none, []⟩,
        ⟨(some 18), .call (.f 43) [(.t 15), (.t 16), (.t 17)], none, []⟩,
        ⟨(some 19), .un .not (.t 18), none, []⟩])
      (.cond (.t 19) (.seq (.ops false [⟨(some 6), .mv (.k (bv false)), none, []⟩])
       .ret)
       .skip))))
    (.ops false [⟨(some 20), .bin .add (.t 11) (.k (iv 1)), none, []⟩,
     ⟨(some 11), .mv (.t 20), none, []⟩])))))))
 (.seq (.ops false [⟨(some 6), .mv (.k (bv true)), none, []⟩])
 .ret)))⟩
theorem code88 : acode Try.prog hints 88 = some L88 := by kernel_rfl

-- impl.areMany
def L68 : AFun := ⟨22, [.t 10],
 (.seq (.ops false [⟨(some 10), .mv (.k (bv false)), none, []⟩])
 (.seq (.ops false [⟨(some 11), .mv (.t 0), none, []⟩,
   ⟨(some 12), .len false (.t 11), none, []⟩,
   ⟨(some 13), .mv (.t 1), none, []⟩,
   ⟨(some 14), .mv (.t 2), none, []⟩,
   ⟨(some 15), .call (.f 43) [(.t 12), (.t 13), (.t 14)], none, []⟩,
   ⟨(some 16), .mv (.t 15), none, []⟩,
   ⟨(some 17), .mv (.t 0), (some (16, true)), []⟩,
   ⟨(some 18), .mv (.t 3), (some (16, true)), []⟩,
   ⟨(some 19), .mv (.t 4), (some (16, true)), []⟩,
   ⟨(some 20), .call (.f 88) [(.t 17), (.t 18), (.t 19)], (some (16, true)), []⟩,
   ⟨(some 21), .pick (.t 16) (.t 20) (.k (bv false)), none, []⟩,
   ⟨(some 10), .mv (.t 21), none, []⟩])
 .ret))⟩
theorem code68 : acode Try.prog hints 68 = some L68 := by kernel_rfl


theorem c_areWithin {s : St} [Wf s] {id_xs off_xs len_xs : Nat} {xs : List Int} [h_xs : ArgE ic s id_xs off_xs xs] (hl_xs : xs.length = len_xs := by first | rfl | simp | omega | (simp; omega)) {a b : Int} (hb : len_xs ≤ 9223372036854775807 := by omega) : FnB 88 [.c (.sl id_xs off_xs len_xs), iv a, iv b] s (∀ x ∈ xs, a ≤ x ∧ x ≤ b) := by
  refine F_start code88 ?_
  repeat' (first
 | refine A_go rfl ?_ | refine A_ifT rfl rfl ?_ | refine A_ifF rfl rfl ?_
 | refine A_add rfl rfl rfl (by omega) ?_
 | ((first | refine A_lt rfl rfl rfl ?_ ?_) <;> intro hc <;> try first | contradiction | (exfalso; omega) | exact absurd rfl hc)
 | refine A_idxN1 rfl rfl rfl (by omega) ?_ | refine A_idx1 rfl rfl rfl (by omega) ?_
 | refine A_p (by rfl) rfl ?_
 | refine A_ldI rfl (by first | omega | (simp; done) | (simp; omega)) rfl ?_ | refine A_ldB rfl (by first | omega | (simp; done) | (simp; omega)) rfl ?_ | refine A_ld rfl (by rfl) rfl ?_
 | refine A_ret1 rfl (by exact (RP.t rfl RP.nil)) ?_)
  refine A_loop rfl [] (fun m fr L => ∃ i, i ≤ len_xs ∧ m = len_xs - i ∧ fr = [(1, iv a), (2, iv b), (9, .c (.sl id_xs off_xs len_xs)), (10, iv len_xs), (11, iv i)] ∧ L = [] ∧ ∀ x ∈ xs.take i, a ≤ x ∧ x ≤ b) len_xs ⟨0, by omega, rfl, rfl, rfl, by simp⟩ ?_
  rintro m fr L ⟨i, hi, rfl, rfl, rfl, ht⟩
  repeat' (first
 | refine A_go rfl ?_ | refine A_ifT rfl rfl ?_ | refine A_ifF rfl rfl ?_
 | refine A_add rfl rfl rfl (by omega) ?_
 | ((first | refine A_lt rfl rfl rfl ?_ ?_) <;> intro hc <;> try first | contradiction | (exfalso; omega) | exact absurd rfl hc)
 | refine A_idxN1 rfl rfl rfl (by omega) ?_ | refine A_idx1 rfl rfl rfl (by omega) ?_
 | (refine A_callB rfl rfl (fun s H => c_within) ?_ ?_ <;> intro hc <;> try first | contradiction | (exfalso; omega) | exact absurd rfl hc | exact absurd (And.intro rfl rfl) hc | exact absurd (And.intro rfl (And.intro rfl rfl)) hc | exact absurd (Eq.trans (by assumption) (Eq.symm (by assumption))) hc)
 | refine A_p (by rfl) rfl ?_
 | refine A_ldI rfl (by first | omega | (simp; done) | (simp; omega)) rfl ?_ | refine A_ldB rfl (by first | omega | (simp; done) | (simp; omega)) rfl ?_ | refine A_ld rfl (by rfl) rfl ?_
 | refine A_ret1 rfl (by exact (RP.t rfl RP.nil)) ?_)
  · refine A_round rfl [] (len_xs - (i + 1)) (by omega) ?_
    exact ⟨i + 1, by omega, rfl, rfl, rfl, all_succ ht (by omega) (by assumption)⟩
  · exact R_f fun h => by have := h _ (getD_mem (d := 0) (by omega : i < xs.length)); contradiction
  · exact R_t (all_end ht (by omega))
theorem c_areMany {s : St} [Wf s] {id_xs off_xs len_xs : Nat} {xs : List Int} [h_xs : ArgE ic s id_xs off_xs xs] (hl_xs : xs.length = len_xs := by first | rfl | simp | omega | (simp; omega)) {few many a b : Int} (hb : len_xs ≤ 9223372036854775807 := by omega) : FnB 68 [.c (.sl id_xs off_xs len_xs), iv few, iv many, iv a, iv b] s ((few ≤ len_xs ∧ len_xs ≤ many) ∧ ∀ x ∈ xs, a ≤ x ∧ x ≤ b) := by
  refine F_start code68 ?_
  repeat' (first
 | refine A_go rfl ?_ | refine A_ifT rfl rfl ?_ | refine A_ifF rfl rfl ?_
 | refine A_offP rfl rfl ?_ | refine A_offH rfl rfl ?_ | refine A_off0 rfl rfl ?_
 | (refine A_callB rfl rfl (fun s H => c_within) ?_ ?_ <;> intro hc <;> try first | contradiction | (exfalso; omega) | exact absurd rfl hc | exact absurd (And.intro rfl rfl) hc | exact absurd (And.intro rfl (And.intro rfl rfl)) hc | exact absurd (Eq.trans (by assumption) (Eq.symm (by assumption))) hc)
 | (refine A_callB rfl rfl (fun s H => c_areWithin) ?_ ?_ <;> intro hc <;> try first | contradiction | (exfalso; omega) | exact absurd rfl hc | exact absurd (And.intro rfl rfl) hc | exact absurd (And.intro rfl (And.intro rfl rfl)) hc | exact absurd (Eq.trans (by assumption) (Eq.symm (by assumption))) hc)
 | refine A_p (by rfl) rfl ?_
 | refine A_ret1 rfl (by exact (RP.t rfl RP.nil)) ?_)
  all_goals first | exact R_t ⟨by assumption, by assumption⟩ | exact R_f (fun h => absurd h.1 (by assumption)) | exact R_f (fun h => absurd h.2 (by assumption))
/-- A field that is valid. -/
def VF (r c : Int) (xs : List Int) : Prop := (1 ≤ r ∧ r ≤ 24) ∧ (1 ≤ c ∧ c ≤ 24) ∧ (xs.length : Int) = r * c ∧ ∀ x ∈ xs, 0 ≤ x ∧ x ≤ 9
theorem side_mul {r c : Int} (hr : 0 ≤ r ∧ r ≤ 24) (hc : 0 ≤ c ∧ c ≤ 24) : 0 ≤ r * c ∧ r * c ≤ 576 := by
  have h1 := Int.mul_nonneg hr.1 hc.1
  have h2 := Int.mul_le_mul hr.2 hc.2 hc.1 (by omega : (0 : Int) ≤ 24)
  omega
theorem wrap_id {n : Int} (h : -9223372036854775808 ≤ n ∧ n ≤ 9223372036854775807) : IntKind.wrap .i64 n = n := wrap_in h
end Go.Proofs.Ytlmbgaoeplffkaa
