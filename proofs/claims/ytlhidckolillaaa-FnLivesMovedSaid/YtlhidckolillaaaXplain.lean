/- Plain fields, and copies of fields. -/
import Derived.Test.YtlhidckolillaaaXfieldS
import Derived.Test.YtlhidckolillaaaXfieldP
import Derived.Test.YtlhidckolillaaaXclone
import Derived.Test.YtlhidckolillaaaFB
namespace Go.Proofs.Ytlhidckolillaaa
open Go Go.RowKit
set_option linter.unusedVariables false
set_option linter.unusedSimpArgs false
set_option maxRecDepth 100000
set_option maxHeartbeats 8000000
-- impl.isPlain
def L42 : AFun := ⟨10, [.t 2],
 (.seq (.ops false [⟨(some 1), .box 26 (.t 0), none, []⟩,
   ⟨(some 2), .mv (.k (bv false)), none, []⟩])
 (.seq (.ops false [⟨(some 3), .load true 3 (.t 1), none, []⟩,
   ⟨(some 4), .call (.f 55) [(.t 3)], none, []⟩,
   ⟨(some 5), .mv (.t 4), none, []⟩,
   ⟨(some 6), .fieldA 2 (.t 1), (some (5, true)), []⟩,
   ⟨(some 7), .load false 1 (.t 6), (some (5, true)), []⟩,
   ⟨(some 8), .call (.f 60) [(.t 7), (.k (iv 0)), (.k (iv 1))], (some (5, true)), []⟩,
   ⟨(some 9), .pick (.t 5) (.t 8) (.k (bv false)), none, []⟩,
   ⟨(some 2), .mv (.t 9), none, []⟩])
 .ret))⟩
theorem code42 : acode Try.prog hints 42 = some L42 := by kernel_rfl

-- spec.l04Plain
def L38 : AFun := ⟨24, [.t 2],
 (.seq (.ops false [⟨(some 2), .mv (.k (bv false)), none, []⟩])
 (.seq (.seq (.ops false [⟨(some 4), .mv (.t 0), none, []⟩,
    ⟨(some 5), .call (.f 72) [(.t 4)], none, []⟩,
    ⟨(some 6), .un .not (.t 5), none, []⟩])
  (.cond (.t 6) (.seq (.ops false [⟨(some 2), .mv (.k (bv false)), none, []⟩])
   .ret)
   .skip))
 (.seq (.seq (.ops false [⟨(some 3), .mv (.k (iv 0)), none, []⟩])
  (.block 0 (.loop [0, 3] (.seq (.seq (.ops false [⟨(some 7), .mv (.t 3), none, []⟩,
       ⟨(some 8), .mv (.t 0), none, []⟩,
       ⟨(some 9), .nilChk (.t 8), none, []⟩,
       ⟨(some 10), .fieldA 2 (.t 9), none, []⟩,
       ⟨(some 11), .load false 1 (.t 10), none, []⟩,
       ⟨(some 12), .len false (.t 11), none, []⟩,
       ⟨(some 13), .bin .lss (.t 7) (.t 12), none, []⟩])
     (.cond (.t 13) .skip
      (.exit 0)))
    (.seq (.block 1 (.seq (.ops false [⟨(some 16), .mv (.t 0), none, []⟩,
        ⟨(some 17), .nilChk (.t 16), none, []⟩,
        ⟨(some 18), .fieldA 2 (.t 17), none, []⟩,
        ⟨(some 19), .load false 1 (.t 18), none, []⟩,
        ⟨(some 20), .mv (.t 3), none, []⟩,
        ⟨(some 21), .idxA 1 (.t 19) (.t 20), none, []⟩,
        ⟨(some 22), .load false 1 (.t 21), none, []⟩,
        ⟨(some 23), .bin .gtr (.t 22) (.k (iv 1)), none, []⟩])
      (.cond (.t 23) (.seq (.ops false [⟨(some 2), .mv (.k (bv false)), none, []⟩])
       .ret)
       .skip)))
    (.ops false [⟨(some 14), .mv (.t 3), none, []⟩,
     ⟨(some 15), .bin .add (.t 14) (.k (iv 1)), none, []⟩,
     ⟨(some 3), .mv (.t 15), none, []⟩]))))))
 (.seq (.ops false [⟨(some 2), .mv (.k (bv true)), none, []⟩])
 .ret))))⟩
theorem code38 : acode Try.prog hints 38 = some L38 := by kernel_rfl

-- impl.copyField
def L69 : AFun := ⟨8, [.cell true 3 2],
 (.seq (.ops false [⟨(some 1), .box 26 (.t 0), none, []⟩,
   ⟨(some 2), .alloc 26 [.int .i64 0, .int .i64 0, .sl 0 0 0], none, []⟩])
 (.seq (.ops false [⟨(some 3), .fieldA 2 (.t 1), none, []⟩,
   ⟨(some 4), .load false 1 (.t 3), none, []⟩,
   ⟨(some 5), .call (.f 87) [(.t 4)], none, []⟩,
   ⟨(some 6), .fieldA 2 (.t 1), none, []⟩,
   ⟨none, .store 1 (.t 6) (.t 5), none, []⟩])
 (.seq (.ops false [⟨(some 7), .load true 3 (.t 1), none, []⟩,
   ⟨none, .store 3 (.t 2) (.t 7), none, []⟩])
 .ret)))⟩
theorem code69 : acode Try.prog hints 69 = some L69 := by kernel_rfl


/-- A field that is valid and plain. -/
def PL (r c : Int) (xs : List Int) : Prop := VF r c xs ∧ ∀ x ∈ xs, 0 ≤ x ∧ x ≤ 1
theorem c_isPlain {s : St} [Wf s] {r c : Int} {id_xs off_xs len_xs : Nat} {xs : List Int} [h_xs : ArgE ic s id_xs off_xs xs] (hl_xs : xs.length = len_xs := by first | rfl | simp | omega | (simp; omega)) (hb : len_xs ≤ 2000000 := by omega) : FnB 42 [.agg [ic r, ic c, .sl id_xs off_xs len_xs]] s (PL r c xs) := by
  refine F_start code42 ?_
  repeat' (first
 | refine A_go rfl ?_ | refine A_ifT rfl rfl ?_ | refine A_ifF rfl rfl ?_
 | refine A_offP rfl rfl ?_ | refine A_offH rfl rfl ?_ | refine A_off0 rfl rfl ?_
 | (refine A_callB rfl rfl (fun s H => c_implValidField) ?_ ?_ <;> intro hc <;> try first | contradiction | (exfalso; omega) | exact absurd rfl hc | exact absurd (And.intro rfl rfl) hc | exact absurd (And.intro rfl (And.intro rfl rfl)) hc | exact absurd (Eq.trans (by assumption) (Eq.symm (by assumption))) hc)
 | (refine A_callB rfl rfl (fun s H => c_areWithin) ?_ ?_ <;> intro hc <;> try first | contradiction | (exfalso; omega) | exact absurd rfl hc | exact absurd (And.intro rfl rfl) hc | exact absurd (And.intro rfl (And.intro rfl rfl)) hc | exact absurd (Eq.trans (by assumption) (Eq.symm (by assumption))) hc)
 | refine A_fld rfl rfl ?_ | refine A_p (by rfl) rfl ?_
 | refine A_ldI rfl (by first | omega | (simp; done) | (simp; omega)) rfl ?_ | refine A_ldB rfl (by first | omega | (simp; done) | (simp; omega)) rfl ?_ | refine A_ld rfl (by rfl) rfl ?_
 | refine A_ldW rfl (by simp) rfl ?_
 | ((first | refine A_box rfl rfl ?_ | refine A_boxC rfl rfl ?_) <;> intro pz hpz)
 | refine A_ret1 rfl (by exact (RP.t rfl RP.nil)) ?_)
  all_goals first | exact R_t ⟨by assumption, by assumption⟩ | exact R_f (fun h => absurd h.1 (by assumption)) | exact R_f (fun h => absurd h.2 (by assumption))
theorem c_l04Plain {s : St} [Wf s] {p : Nat} {r c : Int} {id_xs off_xs len_xs : Nat} {xs : List Int} [hp : Ref s p [ic r, ic c, .sl id_xs off_xs len_xs]] [h_xs : ArgE ic s id_xs off_xs xs] (hl_xs : xs.length = len_xs := by first | rfl | simp | omega | (simp; omega)) (hb : len_xs ≤ 2000000 := by omega) : FnB 38 [.c (.ptr p 0)] s (PL r c xs) := by
  refine F_start code38 ?_
  by_cases hv : VF r c xs
  case neg =>
    repeat' (first
 | refine A_go rfl ?_ | refine A_ifT rfl rfl ?_ | refine A_ifF rfl rfl ?_
 | refine A_add rfl rfl rfl (by omega) ?_
 | ((first | refine A_lt rfl rfl rfl ?_ ?_ | refine A_gt rfl rfl rfl ?_ ?_) <;> intro hc <;> try first | contradiction | (exfalso; omega) | exact absurd rfl hc)
 | refine A_idxN1 rfl rfl rfl (by omega) ?_ | refine A_idx1 rfl rfl rfl (by omega) ?_
 | (refine A_callB rfl rfl (fun s H => c_l04Is) ?_ ?_ <;> intro hc <;> try first | contradiction | (exfalso; omega) | exact absurd rfl hc | exact absurd (And.intro rfl rfl) hc | exact absurd (And.intro rfl (And.intro rfl rfl)) hc | exact absurd (Eq.trans (by assumption) (Eq.symm (by assumption))) hc)
 | refine A_fld rfl rfl ?_ | refine A_p (by rfl) rfl ?_
 | refine A_ldI rfl (by first | omega | (simp; done) | (simp; omega)) rfl ?_ | refine A_ldB rfl (by first | omega | (simp; done) | (simp; omega)) rfl ?_ | refine A_ld rfl (by rfl) rfl ?_
 | refine A_ret1 rfl (by exact (RP.t rfl RP.nil)) ?_)
    exact R_f fun h => hv h.1
  repeat' (first
 | refine A_go rfl ?_ | refine A_ifT rfl rfl ?_ | refine A_ifF rfl rfl ?_
 | refine A_add rfl rfl rfl (by omega) ?_
 | ((first | refine A_lt rfl rfl rfl ?_ ?_ | refine A_gt rfl rfl rfl ?_ ?_) <;> intro hc <;> try first | contradiction | (exfalso; omega) | exact absurd rfl hc)
 | refine A_idxN1 rfl rfl rfl (by omega) ?_ | refine A_idx1 rfl rfl rfl (by omega) ?_
 | (refine A_callB rfl rfl (fun s H => c_l04Is) ?_ ?_ <;> intro hc <;> try first | contradiction | (exfalso; omega) | exact absurd rfl hc | exact absurd (And.intro rfl rfl) hc | exact absurd (And.intro rfl (And.intro rfl rfl)) hc | exact absurd (Eq.trans (by assumption) (Eq.symm (by assumption))) hc)
 | refine A_fld rfl rfl ?_ | refine A_p (by rfl) rfl ?_
 | refine A_ldI rfl (by first | omega | (simp; done) | (simp; omega)) rfl ?_ | refine A_ldB rfl (by first | omega | (simp; done) | (simp; omega)) rfl ?_ | refine A_ld rfl (by rfl) rfl ?_
 | refine A_ret1 rfl (by exact (RP.t rfl RP.nil)) ?_)
  refine A_loop rfl [] (fun m fr L => ∃ i, i ≤ len_xs ∧ m = len_xs - i ∧ fr = [(0, .c (.ptr p 0)), (3, iv i)] ∧ L = [] ∧ ∀ x ∈ xs.take i, 0 ≤ x ∧ x ≤ 1) len_xs ⟨0, by omega, rfl, rfl, rfl, by simp⟩ ?_
  rintro m fr L ⟨i, hi, rfl, rfl, rfl, ht⟩
  repeat' (first
 | refine A_go rfl ?_ | refine A_ifT rfl rfl ?_ | refine A_ifF rfl rfl ?_
 | refine A_add rfl rfl rfl (by omega) ?_
 | ((first | refine A_lt rfl rfl rfl ?_ ?_ | refine A_gt rfl rfl rfl ?_ ?_) <;> intro hc <;> try first | contradiction | (exfalso; omega) | exact absurd rfl hc)
 | refine A_idxN1 rfl rfl rfl (by omega) ?_ | refine A_idx1 rfl rfl rfl (by omega) ?_
 | refine A_fld rfl rfl ?_ | refine A_p (by rfl) rfl ?_
 | refine A_ldI rfl (by first | omega | (simp; done) | (simp; omega)) rfl ?_ | refine A_ldB rfl (by first | omega | (simp; done) | (simp; omega)) rfl ?_ | refine A_ld rfl (by rfl) rfl ?_
 | refine A_ret1 rfl (by exact (RP.t rfl RP.nil)) ?_)
  · exact R_f fun h => by have := h.2 _ (getD_mem (d := 0) (by omega : i < xs.length)); omega
  · refine A_round rfl [] (len_xs - (i + 1)) (by omega) ?_
    have := hv.2.2.2 _ (getD_mem (d := 0) (by omega : i < xs.length))
    exact ⟨i + 1, by omega, rfl, rfl, rfl, all_succ (d := 0) ht (by omega) (by omega)⟩
  · exact R_t ⟨hv, all_end ht (by omega)⟩
theorem c_copyField {s : St} [Wf s] {r c : Int} {id_xs off_xs len_xs : Nat} {xs : List Int} [h_xs : ArgE ic s id_xs off_xs xs] (hl_xs : xs.length = len_xs := by first | rfl | simp | omega | (simp; omega)) (hb : len_xs ≤ 2000000 := by omega) :
    Fn [] 69 [.agg [ic r, ic c, .sl id_xs off_xs len_xs]] s fun V L => ∃ p, V = .agg (fld r c p len_xs) ∧ L = [(p, ints xs)] := by
  refine F_start code69 ?_
  repeat' (first
 | refine A_go rfl ?_ | refine A_ifT rfl rfl ?_ | refine A_ifF rfl rfl ?_
 | (refine A_callM rfl rfl (fun s H => c_clone) ?_; rintro _ _ ⟨pz, rfl, rfl⟩) | (refine A_callM0 rfl rfl (fun s H => c_clone) ?_; rintro _ _ ⟨pz, rfl, rfl⟩)
 | refine A_fld rfl rfl ?_ | refine A_p (by rfl) rfl ?_
 | refine A_ldI rfl (by first | omega | (simp; done) | (simp; omega)) rfl ?_ | refine A_ldB rfl (by first | omega | (simp; done) | (simp; omega)) rfl ?_ | refine A_ld rfl (by rfl) rfl ?_
 | refine A_ldW rfl (by simp) rfl ?_
 | refine A_st rfl rfl rfl ?_ | refine A_stE rfl rfl (by first | omega | (simp; done) | (simp; omega)) rfl ?_
 | refine A_stW rfl rfl (by simp) rfl ?_
 | ((first | refine A_alloc rfl ?_ | refine A_box rfl rfl ?_ | refine A_boxC rfl rfl ?_) <;> intro pz hpz)
 | refine A_ret1 rfl (by exact (RP.c rfl inferInstance rfl (by simp) RP.nil)) ?_)
  exact R_s ⟨pz, rfl, rfl⟩
theorem cell_div {a b C : Int} (h : 0 ≤ b ∧ b < C) : (a * C + b) / C = a ∧ (a * C + b) % C = b := by
  rw [Int.add_comm, Int.add_mul_ediv_right _ _ (by omega), Int.add_mul_emod_self_right, Int.ediv_eq_zero_of_lt h.1 h.2, Int.emod_eq_of_lt h.1 h.2]
  omega

end Go.Proofs.Ytlhidckolillaaa
