/- What the small functions of fields do. -/
import Derived.Test.YtlhidckolillaaaXmadeField
import Derived.Test.YtlhidckolillaaaXarith
import Derived.Test.YtlhidckolillaaaFB
namespace Go.Proofs.Ytlhidckolillaaa
open Go Go.RowKit
set_option linter.unusedVariables false
set_option linter.unusedSimpArgs false
set_option maxRecDepth 100000
set_option maxHeartbeats 8000000
-- impl.floorMod
def L46 : AFun := ⟨12, [.t 4],
 (.seq (.ops false [⟨(some 4), .mv (.k (iv 0)), none, []⟩])
 (.seq (.ops false [⟨(some 5), .mv (.t 0), none, []⟩,
   ⟨(some 6), .mv (.t 1), none, []⟩,
   ⟨(some 7), .bin .rem (.t 5) (.t 6), none, []⟩,
   ⟨(some 8), .mv (.t 1), none, []⟩,
   ⟨(some 9), .bin .add (.t 7) (.t 8), none, []⟩,
   ⟨(some 10), .mv (.t 1), none, []⟩,
   ⟨(some 11), .bin .rem (.t 9) (.t 10), none, []⟩,
   ⟨(some 4), .mv (.t 11), none, []⟩])
 .ret))⟩
theorem code46 : acode Try.prog hints 46 = some L46 := by kernel_rfl

-- (impl.Field).at
def L75 : AFun := ⟨17, [.t 6],
 (.seq (.ops false [⟨(some 3), .box 26 (.t 0), none, []⟩,
   ⟨(some 6), .mv (.k (iv 0)), none, []⟩])
 (.seq (.ops false [⟨(some 7), .fieldA 2 (.t 3), none, []⟩,
   ⟨(some 8), .load false 1 (.t 7), none, []⟩,
   ⟨(some 9), .mv (.t 1), none, []⟩,
   ⟨(some 10), .fieldA 1 (.t 3), none, []⟩,
   ⟨(some 11), .load false 1 (.t 10), none, []⟩,
   ⟨(some 12), .bin .mul (.t 9) (.t 11), none, []⟩,
   ⟨(some 13), .mv (.t 2), none, []⟩,
   ⟨(some 14), .bin .add (.t 12) (.t 13), none, []⟩,
   ⟨(some 15), .idxA 1 (.t 8) (.t 14), none, []⟩,
   ⟨(some 16), .load false 1 (.t 15), none, []⟩,
   ⟨(some 6), .mv (.t 16), none, []⟩])
 .ret))⟩
theorem code75 : acode Try.prog hints 75 = some L75 := by kernel_rfl

-- (impl.Field).has
def L68 : AFun := ⟨19, [.t 6],
 (.seq (.ops false [⟨(some 3), .box 26 (.t 0), none, []⟩,
   ⟨(some 6), .mv (.k (bv false)), none, []⟩])
 (.seq (.ops false [⟨(some 7), .mv (.t 1), none, []⟩,
   ⟨(some 8), .fieldA 0 (.t 3), none, []⟩,
   ⟨(some 9), .load false 1 (.t 8), none, []⟩,
   ⟨(some 10), .bin .sub (.t 9) (.k (iv 1)), none, []⟩,
   ⟨(some 11), .call (.f 53) [(.t 7), (.k (iv 0)), (.t 10)], none, []⟩,
   ⟨(some 12), .mv (.t 11), none, []⟩,
   ⟨(some 13), .mv (.t 2), (some (12, true)), []⟩,
   ⟨(some 14), .fieldA 1 (.t 3), (some (12, true)), []⟩,
   ⟨(some 15), .load false 1 (.t 14), (some (12, true)), []⟩,
   ⟨(some 16), .bin .sub (.t 15) (.k (iv 1)), (some (12, true)), []⟩,
   ⟨(some 17), .call (.f 53) [(.t 13), (.k (iv 0)), (.t 16)], (some (12, true)), []⟩,
   ⟨(some 18), .pick (.t 12) (.t 17) (.k (bv false)), none, []⟩,
   ⟨(some 6), .mv (.t 18), none, []⟩])
 .ret))⟩
theorem code68 : acode Try.prog hints 68 = some L68 := by kernel_rfl

-- (impl.Field).look
def L47 : AFun := ⟨29, [.t 8],
 (.seq (.ops false [⟨(some 4), .box 26 (.t 0), none, []⟩,
   ⟨(some 8), .mv (.k (iv 0)), none, []⟩])
 (.seq (.seq (.ops false [⟨(some 9), .mv (.t 3), none, []⟩])
  (.cond (.t 9) (.seq (.ops true [⟨(some 11), .mv (.t 1), none, []⟩,
     ⟨(some 12), .fieldA 0 (.t 4), none, []⟩,
     ⟨(some 13), .load false 1 (.t 12), none, []⟩,
     ⟨(some 14), .call (.f 46) [(.t 11), (.t 13)], none, []⟩,
     ⟨(some 15), .mv (.t 2), none, []⟩,
     ⟨(some 16), .fieldA 1 (.t 4), none, []⟩,
     ⟨(some 17), .load false 1 (.t 16), none, [0]⟩,
     ⟨(some 18), .call (.f 46) [(.t 15), (.t 17)], none, []⟩,
     ⟨(some 10), .load true 3 (.t 4), none, [0, 1]⟩,
     ⟨(some 19), .call (.f 75) [(.t 10), (.t 14), (.t 18)], none, []⟩,
     ⟨(some 8), .mv (.t 19), none, []⟩])
   .ret)
   .skip))
 (.seq (.seq (.ops false [⟨(some 20), .load true 3 (.t 4), none, []⟩,
    ⟨(some 21), .mv (.t 1), none, []⟩,
    ⟨(some 22), .mv (.t 2), none, []⟩,
    ⟨(some 23), .call (.f 68) [(.t 20), (.t 21), (.t 22)], none, []⟩,
    ⟨(some 24), .un .not (.t 23), none, []⟩])
  (.cond (.t 24) (.seq (.ops false [⟨(some 8), .mv (.k (iv 0)), none, []⟩])
   .ret)
   .skip))
 (.seq (.ops false [⟨(some 25), .load true 3 (.t 4), none, []⟩,
   ⟨(some 26), .mv (.t 1), none, []⟩,
   ⟨(some 27), .mv (.t 2), none, []⟩,
   ⟨(some 28), .call (.f 75) [(.t 25), (.t 26), (.t 27)], none, []⟩,
   ⟨(some 8), .mv (.t 28), none, []⟩])
 .ret))))⟩
theorem code47 : acode Try.prog hints 47 = some L47 := by kernel_rfl


theorem c_floorMod {s : St} [Wf s] {a b : Int} (hb : 0 < b ∧ b ≤ 1000000 := by omega) (ha : -1000000000000 ≤ a ∧ a ≤ 1000000000000 := by omega) : FnV 46 [iv a, iv b] s (iv (a % b)) := by
  obtain ⟨h1, h2, h3⟩ := tmod_facts (a := a) hb.1
  refine F_start code46 ?_
  repeat' (first
 | refine A_go rfl ?_ | refine A_ifT rfl rfl ?_ | refine A_ifF rfl rfl ?_
 | refine A_add rfl rfl rfl (by omega) ?_ | refine A_rem rfl rfl rfl (by omega) ?_ | refine A_remT rfl rfl rfl (by omega) ?_
 | refine A_p (by rfl) rfl ?_
 | refine A_ret1 rfl (by exact (RP.t rfl RP.nil)) ?_)
  rw [h3]; exact R_v rfl
abbrev cel (xs : List Int) (c i k : Int) : Int := xs.getD (i * c + k).toNat 0
theorem c_at {s : St} [Wf s] {r c i k : Int} {id_xs off_xs len_xs : Nat} {xs : List Int} [h_xs : ArgE ic s id_xs off_xs xs] (hl_xs : xs.length = len_xs := by first | rfl | simp | omega | (simp; omega)) (h : (-1000000 ≤ i * c ∧ i * c ≤ 1000000) ∧ (-1000000 ≤ k ∧ k ≤ 1000000) ∧ 0 ≤ i * c + k ∧ i * c + k < len_xs := by omega) :
    FnV 75 [.agg [ic r, ic c, .sl id_xs off_xs len_xs], iv i, iv k] s (iv (cel xs c i k)) := by
  refine F_start code75 ?_
  repeat' (first
 | refine A_go rfl ?_ | refine A_ifT rfl rfl ?_ | refine A_ifF rfl rfl ?_
 | refine A_add rfl rfl rfl (by omega) ?_ | refine A_mul rfl rfl rfl (by omega) ?_
 | refine A_idxN1 rfl rfl rfl (by omega) ?_ | refine A_idx1 rfl rfl rfl (by omega) ?_
 | refine A_fld rfl rfl ?_ | refine A_p (by rfl) rfl ?_
 | refine A_ldI rfl (by first | omega | (simp; done) | (simp; omega)) rfl ?_ | refine A_ldB rfl (by first | omega | (simp; done) | (simp; omega)) rfl ?_ | refine A_ld rfl (by rfl) rfl ?_
 | ((first | refine A_box rfl rfl ?_ | refine A_boxC rfl rfl ?_) <;> intro pz hpz)
 | refine A_ret1 rfl (by exact (RP.t rfl RP.nil)) ?_)
  exact R_v rfl
theorem c_has {s : St} [Wf s] {r c i k : Int} {v : AC} (h : (-1000000 ≤ r ∧ r ≤ 1000000) ∧ -1000000 ≤ c ∧ c ≤ 1000000 := by omega) :
    FnB 68 [.agg [ic r, ic c, v], iv i, iv k] s ((0 ≤ i ∧ i < r) ∧ 0 ≤ k ∧ k < c) := by
  refine F_start code68 ?_
  repeat' (first
 | refine A_go rfl ?_ | refine A_ifT rfl rfl ?_ | refine A_ifF rfl rfl ?_
 | refine A_offP rfl rfl ?_ | refine A_offH rfl rfl ?_ | refine A_off0 rfl rfl ?_
 | refine A_sub rfl rfl rfl (by omega) ?_
 | (refine A_callB rfl rfl (fun s H => c_within) ?_ ?_ <;> intro hc <;> try first | contradiction | (exfalso; omega) | exact absurd rfl hc | exact absurd (And.intro rfl rfl) hc | exact absurd (And.intro rfl (And.intro rfl rfl)) hc | exact absurd (Eq.trans (by assumption) (Eq.symm (by assumption))) hc)
 | refine A_fld rfl rfl ?_ | refine A_p (by rfl) rfl ?_
 | refine A_ldI rfl (by first | omega | (simp; done) | (simp; omega)) rfl ?_ | refine A_ldB rfl (by first | omega | (simp; done) | (simp; omega)) rfl ?_ | refine A_ld rfl (by rfl) rfl ?_
 | ((first | refine A_box rfl rfl ?_ | refine A_boxC rfl rfl ?_) <;> intro pz hpz)
 | refine A_ret1 rfl (by exact (RP.t rfl RP.nil)) ?_)
  all_goals first | exact R_t ⟨by omega, by omega⟩ | exact R_f (by omega)
/-- A cell, round and round, or 0 beyond the border. -/
def lookV (r c : Int) (xs : List Int) (i k : Int) (t : Bool) : Int := if t = true then cel xs c (i % r) (k % c) else if (0 ≤ i ∧ i < r) ∧ 0 ≤ k ∧ k < c then cel xs c i k else 0
theorem c_look {s : St} [Wf s] {r c i k : Int} {t : Bool} {id_xs off_xs len_xs : Nat} {xs : List Int} [h_xs : ArgE ic s id_xs off_xs xs] (hl_xs : xs.length = len_xs := by first | rfl | simp | omega | (simp; omega)) (hv : VF r c xs) (h : (-1000000 ≤ i ∧ i ≤ 1000000) ∧ -1000000 ≤ k ∧ k ≤ 1000000 := by omega) :
    FnV 47 [.agg [ic r, ic c, .sl id_xs off_xs len_xs], iv i, iv k, bv t] s (iv (lookV r c xs i k t)) := by
  obtain ⟨h1, h2, h3, h4⟩ := hv
  have e1 := emod_in (a := i) (b := r) (by omega)
  have e2 := emod_in (a := k) (b := c) (by omega)
  have e3 := cell_in e1 e2
  have hm := side_mul (r := r) (c := c) (by omega) (by omega)
  refine F_start code47 ?_
  cases t with
  | true =>
    repeat' (first
 | refine A_go rfl ?_ | refine A_ifT rfl rfl ?_ | refine A_ifF rfl rfl ?_
 | refine A_callV rfl rfl (fun s H => c_floorMod) ?_
 | refine A_callV rfl rfl (fun s H => c_at) ?_
 | refine A_fld rfl rfl ?_ | refine A_p (by rfl) rfl ?_
 | refine A_ldI rfl (by first | omega | (simp; done) | (simp; omega)) rfl ?_ | refine A_ldB rfl (by first | omega | (simp; done) | (simp; omega)) rfl ?_ | refine A_ld rfl (by rfl) rfl ?_
 | refine A_ldW rfl (by simp) rfl ?_
 | ((first | refine A_box rfl rfl ?_ | refine A_boxC rfl rfl ?_) <;> intro pz hpz)
 | refine A_chk1 rfl rfl rfl ?_ | refine A_chk2 rfl rfl rfl rfl ?_ | refine A_chk3 rfl rfl rfl rfl rfl ?_ | refine A_chk4 rfl rfl rfl rfl rfl rfl ?_ | refine A_chkI rfl (by assumption) rfl (by simp) ?_
 | refine A_ret1 rfl (by exact (RP.t rfl RP.nil)) ?_)
    exact R_v rfl
  | false =>
    by_cases hin : (0 ≤ i ∧ i < r) ∧ 0 ≤ k ∧ k < c
    · have e4 := cell_in hin.1 hin.2
      repeat' (first
 | refine A_go rfl ?_ | refine A_ifT rfl rfl ?_ | refine A_ifF rfl rfl ?_
 | (refine A_callB rfl rfl (fun s H => c_has) ?_ ?_ <;> intro hc <;> try first | contradiction | (exfalso; omega) | exact absurd rfl hc | exact absurd (And.intro rfl rfl) hc | exact absurd (And.intro rfl (And.intro rfl rfl)) hc | exact absurd (Eq.trans (by assumption) (Eq.symm (by assumption))) hc)
 | refine A_callV rfl rfl (fun s H => c_at) ?_
 | refine A_fld rfl rfl ?_ | refine A_p (by rfl) rfl ?_
 | refine A_ldI rfl (by first | omega | (simp; done) | (simp; omega)) rfl ?_ | refine A_ldB rfl (by first | omega | (simp; done) | (simp; omega)) rfl ?_ | refine A_ld rfl (by rfl) rfl ?_
 | refine A_ldW rfl (by simp) rfl ?_
 | ((first | refine A_box rfl rfl ?_ | refine A_boxC rfl rfl ?_) <;> intro pz hpz)
 | refine A_chk1 rfl rfl rfl ?_ | refine A_chk2 rfl rfl rfl rfl ?_ | refine A_chk3 rfl rfl rfl rfl rfl ?_ | refine A_chk4 rfl rfl rfl rfl rfl rfl ?_ | refine A_chkI rfl (by assumption) rfl (by simp) ?_
 | refine A_ret1 rfl (by exact (RP.t rfl RP.nil)) ?_)
      exact R_v (by simp [lookV, hin])
    · repeat' (first
 | refine A_go rfl ?_ | refine A_ifT rfl rfl ?_ | refine A_ifF rfl rfl ?_
 | (refine A_callB rfl rfl (fun s H => c_has) ?_ ?_ <;> intro hc <;> try first | contradiction | (exfalso; omega) | exact absurd rfl hc | exact absurd (And.intro rfl rfl) hc | exact absurd (And.intro rfl (And.intro rfl rfl)) hc | exact absurd (Eq.trans (by assumption) (Eq.symm (by assumption))) hc)
 | refine A_fld rfl rfl ?_ | refine A_p (by rfl) rfl ?_
 | refine A_ldI rfl (by first | omega | (simp; done) | (simp; omega)) rfl ?_ | refine A_ldB rfl (by first | omega | (simp; done) | (simp; omega)) rfl ?_ | refine A_ld rfl (by rfl) rfl ?_
 | refine A_ldW rfl (by simp) rfl ?_
 | ((first | refine A_box rfl rfl ?_ | refine A_boxC rfl rfl ?_) <;> intro pz hpz)
 | refine A_chk1 rfl rfl rfl ?_ | refine A_chk2 rfl rfl rfl rfl ?_ | refine A_chk3 rfl rfl rfl rfl rfl ?_ | refine A_chk4 rfl rfl rfl rfl rfl rfl ?_ | refine A_chkI rfl (by assumption) rfl (by simp) ?_
 | refine A_ret1 rfl (by exact (RP.t rfl RP.nil)) ?_)
      exact R_v (by simp [lookV, hin])
end Go.Proofs.Ytlhidckolillaaa
