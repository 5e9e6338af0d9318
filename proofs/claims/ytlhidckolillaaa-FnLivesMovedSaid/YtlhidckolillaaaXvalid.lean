/- Which fields and lives are valid. -/
import Derived.Test.YtlhidckolillaaaXwithin
import Derived.Test.YtlhidckolillaaaXlists
import Derived.Test.YtlhidckolillaaaFB
namespace Go.Proofs.Ytlhidckolillaaa
open Go Go.RowKit
set_option linter.unusedVariables false
set_option linter.unusedSimpArgs false
set_option maxRecDepth 100000
set_option maxHeartbeats 8000000
-- impl.areWithin
def L60 : AFun := ⟨21, [.t 6],
 (.seq (.ops false [⟨(some 6), .mv (.k (bv false)), none, []⟩])
 (.seq (.seq (.ops false [⟨(some 9), .mv (.t 0), none, []⟩,
    ⟨(some 10), .len false (.t 9), none, []⟩,
    ⟨(some 11), .mv (.k (iv 0)), none, []⟩])
  (.block 0 (.loop [1, 2, 9, 10, 11] (.seq (.ops false [⟨(some 12), .bin .lss (.t 11) (.t 10), none, []⟩])
    (.seq (.cond (.t 12) .skip
      (.exit 0))
    (.seq (.block 1 (.seq (.ops false [⟨(some 13), .idxA 1 (.t 9) (.t 11), none, []⟩,
        ⟨(some 14), .load false 1 (.t 13), none, []⟩,
        ⟨(some 8), .mv (.t 14), none, []⟩])
      (.seq (.ops false [⟨(some 15), .mv (.t 8), none, []⟩,
        ⟨(some 16), .mv (.t 1), none, []⟩,
        ⟨(some 17), .mv (.t 2), none, []⟩,
        ⟨(some 18), .call (.f 53) [(.t 15), (.t 16), (.t 17)], none, []⟩,
        ⟨(some 19), .un .not (.t 18), none, []⟩])
      (.cond (.t 19) (.seq (.ops false [⟨(some 6), .mv (.k (bv false)), none, []⟩])
       .ret)
       .skip))))
    (.ops false [⟨(some 20), .bin .add (.t 11) (.k (iv 1)), none, []⟩,
     ⟨(some 11), .mv (.t 20), none, []⟩])))))))
 (.seq (.ops false [⟨(some 6), .mv (.k (bv true)), none, []⟩])
 .ret)))⟩
theorem code60 : acode Try.prog hints 60 = some L60 := by kernel_rfl

-- impl.areMany
def L79 : AFun := ⟨22, [.t 10],
 (.seq (.ops false [⟨(some 10), .mv (.k (bv false)), none, []⟩])
 (.seq (.ops false [⟨(some 11), .mv (.t 0), none, []⟩,
   ⟨(some 12), .len false (.t 11), none, []⟩,
   ⟨(some 13), .mv (.t 1), none, []⟩,
   ⟨(some 14), .mv (.t 2), none, []⟩,
   ⟨(some 15), .call (.f 53) [(.t 12), (.t 13), (.t 14)], none, []⟩,
   ⟨(some 16), .mv (.t 15), none, []⟩,
   ⟨(some 17), .mv (.t 0), (some (16, true)), []⟩,
   ⟨(some 18), .mv (.t 3), (some (16, true)), []⟩,
   ⟨(some 19), .mv (.t 4), (some (16, true)), []⟩,
   ⟨(some 20), .call (.f 60) [(.t 17), (.t 18), (.t 19)], (some (16, true)), []⟩,
   ⟨(some 21), .pick (.t 16) (.t 20) (.k (bv false)), none, []⟩,
   ⟨(some 10), .mv (.t 21), none, []⟩])
 .ret))⟩
theorem code79 : acode Try.prog hints 79 = some L79 := by kernel_rfl

-- impl.isSide
def L64 : AFun := ⟨5, [.t 2],
 (.seq (.ops false [⟨(some 2), .mv (.k (bv false)), none, []⟩])
 (.seq (.ops false [⟨(some 3), .mv (.t 0), none, []⟩,
   ⟨(some 4), .call (.f 53) [(.t 3), (.k (iv 1)), (.k (iv 24))], none, []⟩,
   ⟨(some 2), .mv (.t 4), none, []⟩])
 .ret))⟩
theorem code64 : acode Try.prog hints 64 = some L64 := by kernel_rfl

-- impl.ValidField
def L55 : AFun := ⟨24, [.t 2],
 (.seq (.ops false [⟨(some 1), .box 26 (.t 0), none, []⟩,
   ⟨(some 2), .mv (.k (bv false)), none, []⟩])
 (.seq (.ops false [⟨(some 4), .fieldA 0 (.t 1), none, []⟩,
   ⟨(some 5), .load false 1 (.t 4), none, []⟩,
   ⟨(some 6), .fieldA 1 (.t 1), none, []⟩,
   ⟨(some 7), .load false 1 (.t 6), none, []⟩,
   ⟨(some 8), .bin .mul (.t 5) (.t 7), none, []⟩,
   ⟨(some 3), .mv (.t 8), none, []⟩])
 (.seq (.ops false [⟨(some 9), .fieldA 0 (.t 1), none, []⟩,
   ⟨(some 10), .load false 1 (.t 9), none, []⟩,
   ⟨(some 11), .call (.f 64) [(.t 10)], none, []⟩,
   ⟨(some 12), .mv (.t 11), none, []⟩,
   ⟨(some 13), .fieldA 1 (.t 1), (some (12, true)), []⟩,
   ⟨(some 14), .load false 1 (.t 13), (some (12, true)), []⟩,
   ⟨(some 15), .call (.f 64) [(.t 14)], (some (12, true)), []⟩,
   ⟨(some 16), .pick (.t 12) (.t 15) (.k (bv false)), none, []⟩,
   ⟨(some 17), .mv (.t 16), none, []⟩,
   ⟨(some 18), .fieldA 2 (.t 1), (some (17, true)), []⟩,
   ⟨(some 19), .load false 1 (.t 18), (some (17, true)), []⟩,
   ⟨(some 20), .mv (.t 3), (some (17, true)), []⟩,
   ⟨(some 21), .mv (.t 3), (some (17, true)), []⟩,
   ⟨(some 22), .call (.f 79) [(.t 19), (.t 20), (.t 21), (.k (iv 0)), (.k (iv 9))], (some (17, true)), []⟩,
   ⟨(some 23), .pick (.t 17) (.t 22) (.k (bv false)), none, []⟩,
   ⟨(some 2), .mv (.t 23), none, []⟩])
 .ret)))⟩
theorem code55 : acode Try.prog hints 55 = some L55 := by kernel_rfl

-- spec.l04Is
def L72 : AFun := ⟨53, [.t 2],
 (.seq (.ops false [⟨(some 2), .mv (.k (bv false)), none, []⟩])
 (.seq (.seq (.ops true [⟨(some 4), .mv (.t 0), none, []⟩,
    ⟨(some 5), .nilChk (.t 4), none, []⟩,
    ⟨(some 6), .fieldA 0 (.t 5), none, []⟩,
    ⟨(some 7), .load false 1 (.t 6), none, []⟩,
    ⟨(some 8), .call (.f 73) [(.t 7), (.k (iv 1)), (.k (iv 24))], none, []⟩,
    ⟨(some 9), .un .not (.t 8), none, []⟩,
    ⟨(some 10), .mv (.t 9), none, []⟩,
    ⟨(some 11), .mv (.t 0), (some (10, false)), []⟩,
    ⟨(some 12), .nilChk (.t 11), (some (10, false)), []⟩,
    ⟨(some 13), .fieldA 1 (.t 12), (some (10, false)), []⟩,
    ⟨(some 14), .load false 1 (.t 13), (some (10, false)), []⟩,
    ⟨(some 15), .call (.f 73) [(.t 14), (.k (iv 1)), (.k (iv 24))], (some (10, false)), []⟩,
    ⟨(some 16), .un .not (.t 15), (some (10, false)), []⟩,
    ⟨(some 17), .pick (.t 10) (.k (bv true)) (.t 16), none, []⟩,
    ⟨(some 18), .mv (.t 17), none, []⟩,
    ⟨(some 19), .mv (.t 0), (some (18, false)), []⟩,
    ⟨(some 20), .nilChk (.t 19), (some (18, false)), []⟩,
    ⟨(some 21), .fieldA 2 (.t 20), (some (18, false)), []⟩,
    ⟨(some 22), .load false 1 (.t 21), (some (18, false)), []⟩,
    ⟨(some 23), .len false (.t 22), (some (18, false)), []⟩,
    ⟨(some 24), .mv (.t 0), (some (18, false)), []⟩,
    ⟨(some 25), .nilChk (.t 24), (some (18, false)), []⟩,
    ⟨(some 26), .fieldA 0 (.t 25), (some (18, false)), []⟩,
    ⟨(some 27), .load false 1 (.t 26), (some (18, false)), []⟩,
    ⟨(some 28), .mv (.t 0), (some (18, false)), []⟩,
    ⟨(some 29), .nilChk (.t 28), (some (18, false)), []⟩,
    ⟨(some 30), .fieldA 1 (.t 29), (some (18, false)), []⟩,
    ⟨(some 31), .load false 1 (.t 30), (some (18, false)), []⟩,
    ⟨(some 32), .bin .mul (.t 27) (.t 31), (some (18, false)), []⟩,
    ⟨(some 33), .bin .neq (.t 23) (.t 32), (some (18, false)), []⟩,
    ⟨(some 34), .pick (.t 18) (.k (bv true)) (.t 33), none, []⟩])
  (.cond (.t 34) (.seq (.ops false [⟨(some 2), .mv (.k (bv false)), none, []⟩])
   .ret)
   .skip))
 (.seq (.seq (.ops false [⟨(some 3), .mv (.k (iv 0)), none, []⟩])
  (.block 0 (.loop [0, 3] (.seq (.seq (.ops false [⟨(some 35), .mv (.t 3), none, []⟩,
       ⟨(some 36), .mv (.t 0), none, []⟩,
       ⟨(some 37), .nilChk (.t 36), none, []⟩,
       ⟨(some 38), .fieldA 2 (.t 37), none, []⟩,
       ⟨(some 39), .load false 1 (.t 38), none, []⟩,
       ⟨(some 40), .len false (.t 39), none, []⟩,
       ⟨(some 41), .bin .lss (.t 35) (.t 40), none, []⟩])
     (.cond (.t 41) .skip
      (.exit 0)))
    (.seq (.block 1 (.seq (.ops false [⟨(some 44), .mv (.t 0), none, []⟩,
        ⟨(some 45), .nilChk (.t 44), none, []⟩,
        ⟨(some 46), .fieldA 2 (.t 45), none, []⟩,
        ⟨(some 47), .load false 1 (.t 46), none, []⟩,
        ⟨(some 48), .mv (.t 3), none, []⟩,
        ⟨(some 49), .idxA 1 (.t 47) (.t 48), none, []⟩,
        ⟨(some 50), .load false 1 (.t 49), none, []⟩,
        ⟨(some 51), .call (.f 73) [(.t 50), (.k (iv 0)), (.k (iv 9))], none, []⟩,
        ⟨(some 52), .un .not (.t 51), none, []⟩])
      (.cond (.t 52) (.seq (.ops false [⟨(some 2), .mv (.k (bv false)), none, []⟩])
       .ret)
       .skip)))
    (.ops false [⟨(some 42), .mv (.t 3), none, []⟩,
     ⟨(some 43), .bin .add (.t 42) (.k (iv 1)), none, []⟩,
     ⟨(some 3), .mv (.t 43), none, []⟩]))))))
 (.seq (.ops false [⟨(some 2), .mv (.k (bv true)), none, []⟩])
 .ret))))⟩
theorem code72 : acode Try.prog hints 72 = some L72 := by kernel_rfl


theorem c_areWithin {s : St} [Wf s] {id_xs off_xs len_xs : Nat} {xs : List Int} [h_xs : ArgE ic s id_xs off_xs xs] (hl_xs : xs.length = len_xs := by first | rfl | simp | omega | (simp; omega)) {a b : Int} (hb : len_xs ≤ 9223372036854775807 := by omega) : FnB 60 [.c (.sl id_xs off_xs len_xs), iv a, iv b] s (∀ x ∈ xs, a ≤ x ∧ x ≤ b) := by
  refine F_start code60 ?_
  repeat' (first
 | refine A_go rfl ?_ | refine A_ifT rfl rfl ?_ | refine A_ifF rfl rfl ?_
 | refine A_add rfl rfl rfl (by omega) ?_
 | ((first | refine A_lt rfl rfl rfl ?_ ?_) <;> intro hc <;> try first | contradiction | (exfalso; omega) | exact absurd rfl hc)
 | refine A_idxN1 rfl rfl rfl (by omega) ?_ | refine A_idx1 rfl rfl rfl (by omega) ?_
 | refine A_p (by rfl) rfl ?_
 | refine A_ldI rfl (by first | omega | (simp; done) | (simp; omega)) rfl ?_ | refine A_ldB rfl (by first | omega | (simp; done) | (simp; omega)) rfl ?_ | refine A_ld rfl (by rfl) rfl ?_
 | refine A_ret1 rfl (by exact (RP.t rfl RP.nil)) ?_)
  refine A_loop rfl [] (fun m fr L => ∃ i, i ≤ len_xs ∧ m = len_xs - i ∧ fr = [(1, iv a), (2, iv b), (9, .c (.sl id_xs off_xs len_xs)), (10, iv len_xs), (11, iv i)] ∧ L = [] ∧ ∀ x ∈ xs.take i, a ≤ x ∧ x ≤ b) len_xs ⟨0, by omega, rfl, rfl, rfl, by simp⟩ ?_
  rintro m fr L ⟨i, hi, rfl, rfl, rfl, ht⟩
  repeat' (first
 | refine A_go rfl ?_ | refine A_ifT rfl rfl ?_ | refine A_ifF rfl rfl ?_
 | refine A_add rfl rfl rfl (by omega) ?_
 | ((first | refine A_lt rfl rfl rfl ?_ ?_) <;> intro hc <;> try first | contradiction | (exfalso; omega) | exact absurd rfl hc)
 | refine A_idxN1 rfl rfl rfl (by omega) ?_ | refine A_idx1 rfl rfl rfl (by omega) ?_
 | (refine A_callB rfl rfl (fun s H => c_within) ?_ ?_ <;> intro hc <;> try first | contradiction | (exfalso; omega) | exact absurd rfl hc | exact absurd (And.intro rfl rfl) hc | exact absurd (And.intro rfl (And.intro rfl rfl)) hc | exact absurd (Eq.trans (by assumption) (Eq.symm (by assumption))) hc)
 | refine A_p (by rfl) rfl ?_
 | refine A_ldI rfl (by first | omega | (simp; done) | (simp; omega)) rfl ?_ | refine A_ldB rfl (by first | omega | (simp; done) | (simp; omega)) rfl ?_ | refine A_ld rfl (by rfl) rfl ?_
 | refine A_ret1 rfl (by exact (RP.t rfl RP.nil)) ?_)
  · refine A_round rfl [] (len_xs - (i + 1)) (by omega) ?_
    exact ⟨i + 1, by omega, rfl, rfl, rfl, all_succ ht (by omega) (by assumption)⟩
  · exact R_f fun h => by have := h _ (getD_mem (d := 0) (by omega : i < xs.length)); contradiction
  · exact R_t (all_end ht (by omega))
theorem c_areMany {s : St} [Wf s] {id_xs off_xs len_xs : Nat} {xs : List Int} [h_xs : ArgE ic s id_xs off_xs xs] (hl_xs : xs.length = len_xs := by first | rfl | simp | omega | (simp; omega)) {few many a b : Int} (hb : len_xs ≤ 9223372036854775807 := by omega) : FnB 79 [.c (.sl id_xs off_xs len_xs), iv few, iv many, iv a, iv b] s ((few ≤ len_xs ∧ len_xs ≤ many) ∧ ∀ x ∈ xs, a ≤ x ∧ x ≤ b) := by
  refine F_start code79 ?_
  repeat' (first
 | refine A_go rfl ?_ | refine A_ifT rfl rfl ?_ | refine A_ifF rfl rfl ?_
 | refine A_offP rfl rfl ?_ | refine A_offH rfl rfl ?_ | refine A_off0 rfl rfl ?_
 | (refine A_callB rfl rfl (fun s H => c_within) ?_ ?_ <;> intro hc <;> try first | contradiction | (exfalso; omega) | exact absurd rfl hc | exact absurd (And.intro rfl rfl) hc | exact absurd (And.intro rfl (And.intro rfl rfl)) hc | exact absurd (Eq.trans (by assumption) (Eq.symm (by assumption))) hc)
 | (refine A_callB rfl rfl (fun s H => c_areWithin) ?_ ?_ <;> intro hc <;> try first | contradiction | (exfalso; omega) | exact absurd rfl hc | exact absurd (And.intro rfl rfl) hc | exact absurd (And.intro rfl (And.intro rfl rfl)) hc | exact absurd (Eq.trans (by assumption) (Eq.symm (by assumption))) hc)
 | refine A_p (by rfl) rfl ?_
 | refine A_ret1 rfl (by exact (RP.t rfl RP.nil)) ?_)
  all_goals first | exact R_t ⟨by assumption, by assumption⟩ | exact R_f (fun h => absurd h.1 (by assumption)) | exact R_f (fun h => absurd h.2 (by assumption))
theorem c_isSide {s : St} [Wf s] {n : Int} : FnB 64 [iv n] s (1 ≤ n ∧ n ≤ 24) := by
  refine F_start code64 ?_
  repeat' (first
 | refine A_go rfl ?_ | refine A_ifT rfl rfl ?_ | refine A_ifF rfl rfl ?_
 | (refine A_callB rfl rfl (fun s H => c_within) ?_ ?_ <;> intro hc <;> try first | contradiction | (exfalso; omega) | exact absurd rfl hc | exact absurd (And.intro rfl rfl) hc | exact absurd (And.intro rfl (And.intro rfl rfl)) hc | exact absurd (Eq.trans (by assumption) (Eq.symm (by assumption))) hc)
 | refine A_p (by rfl) rfl ?_
 | refine A_ret1 rfl (by exact (RP.t rfl RP.nil)) ?_)
  all_goals first | exact R_t (by assumption) | exact R_f (by assumption)
/-- A field that is valid. -/
def VF (r c : Int) (xs : List Int) : Prop := (1 ≤ r ∧ r ≤ 24) ∧ (1 ≤ c ∧ c ≤ 24) ∧ (xs.length : Int) = r * c ∧ ∀ x ∈ xs, 0 ≤ x ∧ x ≤ 9
theorem side_mul {r c : Int} (hr : 0 ≤ r ∧ r ≤ 24) (hc : 0 ≤ c ∧ c ≤ 24) : 0 ≤ r * c ∧ r * c ≤ 576 := by
  have h1 := Int.mul_nonneg hr.1 hc.1
  have h2 := Int.mul_le_mul hr.2 hc.2 hc.1 (by omega : (0 : Int) ≤ 24)
  omega
theorem wrap_id {n : Int} (h : -9223372036854775808 ≤ n ∧ n ≤ 9223372036854775807) : IntKind.wrap .i64 n = n := wrap_in h
theorem c_implValidField {s : St} [Wf s] {r c : Int} {id_xs off_xs len_xs : Nat} {xs : List Int} [h_xs : ArgE ic s id_xs off_xs xs] (hl_xs : xs.length = len_xs := by first | rfl | simp | omega | (simp; omega)) (hb : len_xs ≤ 9223372036854775807 := by omega) : FnB 55 [.agg [ic r, ic c, .sl id_xs off_xs len_xs]] s (VF r c xs) := by
  refine F_start code55 ?_
  repeat' (first
 | refine A_go rfl ?_ | refine A_ifT rfl rfl ?_ | refine A_ifF rfl rfl ?_
 | refine A_offP rfl rfl ?_ | refine A_offH rfl rfl ?_ | refine A_off0 rfl rfl ?_
 | refine A_mul rfl rfl rfl (by omega) ?_
 | (refine A_callB rfl rfl (fun s H => c_isSide) ?_ ?_ <;> intro hc <;> try first | contradiction | (exfalso; omega) | exact absurd rfl hc | exact absurd (And.intro rfl rfl) hc | exact absurd (And.intro rfl (And.intro rfl rfl)) hc | exact absurd (Eq.trans (by assumption) (Eq.symm (by assumption))) hc)
 | (refine A_callB rfl rfl (fun s H => c_areMany) ?_ ?_ <;> intro hc <;> try first | contradiction | (exfalso; omega) | exact absurd rfl hc | exact absurd (And.intro rfl rfl) hc | exact absurd (And.intro rfl (And.intro rfl rfl)) hc | exact absurd (Eq.trans (by assumption) (Eq.symm (by assumption))) hc)
 | refine A_fld rfl rfl ?_ | refine A_p (by rfl) rfl ?_
 | refine A_ldI rfl (by first | omega | (simp; done) | (simp; omega)) rfl ?_ | refine A_ldB rfl (by first | omega | (simp; done) | (simp; omega)) rfl ?_ | refine A_ld rfl (by rfl) rfl ?_
 | ((first | refine A_box rfl rfl ?_ | refine A_boxC rfl rfl ?_) <;> intro pz hpz)
 | refine A_ret1 rfl (by exact (RP.t rfl RP.nil)) ?_)
  · rename_i h1 h2; have h3 := hc
    have := side_mul (r := r) (c := c) (by omega) (by omega)
    rw [wrap_id (by omega)] at h3
    exact R_t ⟨h1, h2, by omega, h3.2⟩
  · rename_i h1 h2; have h3 := hc
    have := side_mul (r := r) (c := c) (by omega) (by omega)
    rw [wrap_id (by omega)] at h3
    exact R_f fun h => h3 ⟨by have := h.2.2.1; omega, h.2.2.2⟩
  · exact R_f fun h => absurd h.2.1 (by assumption)
  · exact R_f fun h => absurd h.1 (by assumption)
theorem c_l04Is {s : St} [Wf s] {p : Nat} {r c : Int} {id_xs off_xs len_xs : Nat} {xs : List Int} [hp : Ref s p [ic r, ic c, .sl id_xs off_xs len_xs]] [h_xs : ArgE ic s id_xs off_xs xs] (hl_xs : xs.length = len_xs := by first | rfl | simp | omega | (simp; omega)) (hb : len_xs ≤ 9223372036854775807 := by omega) : FnB 72 [.c (.ptr p 0)] s (VF r c xs) := by
  refine F_start code72 ?_
  repeat' (first
 | refine A_go rfl ?_ | refine A_ifT rfl rfl ?_ | refine A_ifF rfl rfl ?_
 | refine A_offP rfl rfl ?_ | refine A_offH rfl rfl ?_ | refine A_off0 rfl rfl ?_
 | refine A_add rfl rfl rfl (by omega) ?_ | refine A_mul rfl rfl rfl (by omega) ?_
 | ((first | refine A_lt rfl rfl rfl ?_ ?_ | refine A_ne rfl rfl rfl ?_ ?_) <;> intro hc <;> try first | contradiction | (exfalso; omega) | exact absurd rfl hc)
 | refine A_idxN1 rfl rfl rfl (by omega) ?_ | refine A_idx1 rfl rfl rfl (by omega) ?_
 | (refine A_callB rfl rfl (fun s H => c_l00In) ?_ ?_ <;> intro hc <;> try first | contradiction | (exfalso; omega) | exact absurd rfl hc | exact absurd (And.intro rfl rfl) hc | exact absurd (And.intro rfl (And.intro rfl rfl)) hc | exact absurd (Eq.trans (by assumption) (Eq.symm (by assumption))) hc)
 | refine A_fld rfl rfl ?_ | refine A_p (by rfl) rfl ?_
 | refine A_ldI rfl (by first | omega | (simp; done) | (simp; omega)) rfl ?_ | refine A_ldB rfl (by first | omega | (simp; done) | (simp; omega)) rfl ?_ | refine A_ld rfl (by rfl) rfl ?_
 | refine A_ret1 rfl (by exact (RP.t rfl RP.nil)) ?_)
  · rename_i h1 h2; have h3 := hc
    have := side_mul (r := r) (c := c) (by omega) (by omega)
    rw [wrap_id (by omega)] at h3
    exact R_f fun h => by have := h.2.2.1; omega
  · rename_i h1 h2; have h3 := hc
    have := side_mul (r := r) (c := c) (by omega) (by omega)
    rw [wrap_id (by omega)] at h3
    refine A_loop rfl [] (fun m fr L => ∃ i, i ≤ len_xs ∧ m = len_xs - i ∧ fr = [(0, .c (.ptr p 0)), (3, iv i)] ∧ L = [] ∧ ∀ x ∈ xs.take i, 0 ≤ x ∧ x ≤ 9) len_xs ⟨0, by omega, rfl, rfl, rfl, by simp⟩ ?_
    rintro m fr L ⟨i, hi, rfl, rfl, rfl, ht⟩
    repeat' (first
 | refine A_go rfl ?_ | refine A_ifT rfl rfl ?_ | refine A_ifF rfl rfl ?_
 | refine A_offP rfl rfl ?_ | refine A_offH rfl rfl ?_ | refine A_off0 rfl rfl ?_
 | refine A_add rfl rfl rfl (by omega) ?_ | refine A_mul rfl rfl rfl (by omega) ?_
 | ((first | refine A_lt rfl rfl rfl ?_ ?_ | refine A_ne rfl rfl rfl ?_ ?_) <;> intro hc <;> try first | contradiction | (exfalso; omega) | exact absurd rfl hc)
 | refine A_idxN1 rfl rfl rfl (by omega) ?_ | refine A_idx1 rfl rfl rfl (by omega) ?_
 | (refine A_callB rfl rfl (fun s H => c_l00In) ?_ ?_ <;> intro hc <;> try first | contradiction | (exfalso; omega) | exact absurd rfl hc | exact absurd (And.intro rfl rfl) hc | exact absurd (And.intro rfl (And.intro rfl rfl)) hc | exact absurd (Eq.trans (by assumption) (Eq.symm (by assumption))) hc)
 | refine A_fld rfl rfl ?_ | refine A_p (by rfl) rfl ?_
 | refine A_ldI rfl (by first | omega | (simp; done) | (simp; omega)) rfl ?_ | refine A_ldB rfl (by first | omega | (simp; done) | (simp; omega)) rfl ?_ | refine A_ld rfl (by rfl) rfl ?_
 | refine A_ret1 rfl (by exact (RP.t rfl RP.nil)) ?_)
    · refine A_round rfl [] (len_xs - (i + 1)) (by omega) ?_
      exact ⟨i + 1, by omega, rfl, rfl, rfl, all_succ ht (by omega) (by assumption)⟩
    · exact R_f fun h => by have := h.2.2.2 _ (getD_mem (d := 0) (by omega : i < xs.length)); contradiction
    · exact R_t ⟨h1, h2, by omega, all_end ht (by omega)⟩
  · exact R_f fun h => absurd h.2.1 (by assumption)
  · exact R_f fun h => absurd h.1 (by assumption)
end Go.Proofs.Ytlhidckolillaaa
