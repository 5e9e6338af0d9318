/- Ends of neighbourhoods, and how many lead from one to another. -/
import Derived.Test.YtkeabhhndcpejaaXdigits
import Derived.Test.YtkeabhhndcpejaaXringed
import Derived.Test.YtkeabhhndcpejaaFB
namespace Go.Proofs.Ytkeabhhndcpejaa
open Go Go.RowKit
set_option linter.unusedVariables false
set_option linter.unusedSimpArgs false
set_option maxRecDepth 100000
set_option maxHeartbeats 8000000
-- (impl.Rule).ends
def L68 : AFun := ⟨9, [.t 2],
 (.seq (.ops false [⟨(some 1), .box 28 (.t 0), none, []⟩,
   ⟨(some 2), .mv (.k (iv 0)), none, []⟩])
 (.seq (.ops true [⟨(some 5), .load true 3 (.t 1), none, []⟩,
   ⟨(some 6), .call (.f 81) [(.t 5)], none, []⟩,
   ⟨(some 3), .fieldA 0 (.t 1), none, []⟩,
   ⟨(some 4), .load false 1 (.t 3), none, [0]⟩,
   ⟨(some 7), .bin .sub (.t 6) (.k (iv 1)), none, []⟩,
   ⟨(some 8), .call (.f 76) [(.t 4), (.t 7)], none, []⟩,
   ⟨(some 2), .mv (.t 8), none, []⟩])
 .ret))⟩
theorem code68 : acode Try.prog hints 68 = some L68 := by kernel_rfl

-- (impl.Rule).way
def L69 : AFun := ⟨24, [.t 6, .t 7],
 (.seq (.ops false [⟨(some 3), .box 28 (.t 0), none, []⟩,
   ⟨(some 6), .mv (.k (iv 0)), none, []⟩,
   ⟨(some 7), .mv (.k (iv 0)), none, []⟩])
 (.seq (.ops false [⟨(some 9), .mv (.t 1), none, []⟩,
   ⟨(some 10), .fieldA 0 (.t 3), none, []⟩,
   ⟨(some 11), .load false 1 (.t 10), none, []⟩,
   ⟨(some 12), .bin .mul (.t 9) (.t 11), none, []⟩,
   ⟨(some 13), .mv (.t 2), none, []⟩,
   ⟨(some 14), .bin .add (.t 12) (.t 13), none, []⟩,
   ⟨(some 8), .mv (.t 14), none, []⟩])
 (.seq (.ops true [⟨(some 16), .load true 3 (.t 3), none, []⟩,
   ⟨(some 17), .call (.f 68) [(.t 16)], none, []⟩,
   ⟨(some 15), .mv (.t 8), none, []⟩,
   ⟨(some 18), .bin .rem (.t 15) (.t 17), none, []⟩,
   ⟨(some 19), .fieldA 2 (.t 3), none, []⟩,
   ⟨(some 20), .load false 1 (.t 19), none, [0]⟩,
   ⟨(some 21), .mv (.t 8), none, []⟩,
   ⟨(some 22), .idxA 1 (.t 20) (.t 21), none, []⟩,
   ⟨(some 23), .load false 1 (.t 22), none, [0]⟩,
   ⟨(some 6), .mv (.t 18), none, []⟩,
   ⟨(some 7), .mv (.t 23), none, []⟩])
 .ret)))⟩
theorem code69 : acode Try.prog hints 69 = some L69 := by kernel_rfl

-- spec.l03Ends
def L64 : AFun := ⟨11, [.t 2],
 (.seq (.ops false [⟨(some 2), .mv (.k (iv 0)), none, []⟩])
 (.seq (.ops true [⟨(some 7), .mv (.t 0), none, []⟩,
   ⟨(some 8), .call (.f 109) [(.t 7)], none, []⟩,
   ⟨(some 3), .mv (.t 0), none, []⟩,
   ⟨(some 4), .nilChk (.t 3), none, []⟩,
   ⟨(some 5), .fieldA 0 (.t 4), none, []⟩,
   ⟨(some 6), .load false 1 (.t 5), none, [0]⟩,
   ⟨(some 9), .bin .sub (.t 8) (.k (iv 1)), none, []⟩,
   ⟨(some 10), .call (.f 78) [(.t 6), (.t 9)], none, []⟩,
   ⟨(some 2), .mv (.t 10), none, []⟩])
 .ret))⟩
theorem code64 : acode Try.prog hints 64 = some L64 := by kernel_rfl

-- spec.l03Wide
def L109 : AFun := ⟨9, [.t 2],
 (.seq (.ops false [⟨(some 2), .mv (.k (iv 0)), none, []⟩])
 (.seq (.ops false [⟨(some 3), .mv (.t 0), none, []⟩,
   ⟨(some 4), .nilChk (.t 3), none, []⟩,
   ⟨(some 5), .fieldA 1 (.t 4), none, []⟩,
   ⟨(some 6), .load false 1 (.t 5), none, []⟩,
   ⟨(some 7), .bin .mul (.k (iv 2)) (.t 6), none, []⟩,
   ⟨(some 8), .bin .add (.t 7) (.k (iv 1)), none, []⟩,
   ⟨(some 2), .mv (.t 8), none, []⟩])
 .ret))⟩
theorem code109 : acode Try.prog hints 109 = some L109 := by kernel_rfl

-- spec.l03Pairs
def L65 : AFun := ⟨28, [.t 6, .t 7],
 (.seq (.ops false [⟨(some 6), .mv (.k (iv 0)), none, []⟩,
   ⟨(some 7), .mv (.k (iv 0)), none, []⟩])
 (.seq (.ops false [⟨(some 9), .mv (.t 1), none, []⟩,
   ⟨(some 10), .mv (.t 0), none, []⟩,
   ⟨(some 11), .nilChk (.t 10), none, []⟩,
   ⟨(some 12), .fieldA 0 (.t 11), none, []⟩,
   ⟨(some 13), .load false 1 (.t 12), none, []⟩,
   ⟨(some 14), .bin .mul (.t 9) (.t 13), none, []⟩,
   ⟨(some 15), .mv (.t 2), none, []⟩,
   ⟨(some 16), .bin .add (.t 14) (.t 15), none, []⟩,
   ⟨(some 8), .mv (.t 16), none, []⟩])
 (.seq (.ops true [⟨(some 18), .mv (.t 0), none, []⟩,
   ⟨(some 19), .call (.f 64) [(.t 18)], none, []⟩,
   ⟨(some 17), .mv (.t 8), none, []⟩,
   ⟨(some 20), .bin .rem (.t 17) (.t 19), none, []⟩,
   ⟨(some 21), .mv (.t 0), none, []⟩,
   ⟨(some 22), .nilChk (.t 21), none, []⟩,
   ⟨(some 23), .fieldA 2 (.t 22), none, []⟩,
   ⟨(some 24), .load false 1 (.t 23), none, [0]⟩,
   ⟨(some 25), .mv (.t 8), none, []⟩,
   ⟨(some 26), .idxA 1 (.t 24) (.t 25), none, []⟩,
   ⟨(some 27), .load false 1 (.t 26), none, [0]⟩,
   ⟨(some 6), .mv (.t 20), none, []⟩,
   ⟨(some 7), .mv (.t 27), none, []⟩])
 .ret)))⟩
theorem code65 : acode Try.prog hints 65 = some L65 := by kernel_rfl


theorem VR.nat {st re : Int} {xs : List Int} (h : VR st re xs) : ∃ S w E : Nat, st = S ∧ (2 ≤ S ∧ S ≤ 3) ∧ 2 * re + 1 = w ∧ (1 ≤ w ∧ w ≤ 5) ∧ E = S ^ (w - 1) ∧ xs.length = E * S ∧ (1 ≤ E ∧ E ≤ 81) ∧ DG S xs := by
  obtain ⟨h1, h2, h3, h4⟩ := h
  obtain ⟨S, rfl⟩ : ∃ S : Nat, st = S := ⟨st.toNat, by omega⟩
  obtain ⟨w, hw⟩ : ∃ w : Nat, 2 * re + 1 = w := ⟨(2 * re + 1).toNat, by omega⟩
  have hw1 : 1 ≤ w ∧ w ≤ 5 := by omega
  have e1 : S ^ (w - 1) ≤ 3 ^ 4 := Nat.le_trans (Nat.pow_le_pow_left (by omega) _) (Nat.pow_le_pow_right (by omega) (by omega))
  have e2 : 0 < S ^ (w - 1) := Nat.pow_pos (by omega)
  have e3 : (3 : Nat) ^ 4 = 81 := by decide
  refine ⟨S, w, S ^ (w - 1), rfl, by omega, hw, hw1, rfl, ?_, by omega, h4⟩
  rw [h3, hw]
  simp only [Int.toNat_natCast]
  rw [← Nat.pow_succ, Nat.succ_eq_add_one, show w - 1 + 1 = w by omega]
theorem es_le {S E : Nat} (hS : 2 ≤ S ∧ S ≤ 3) (hE : 1 ≤ E ∧ E ≤ 81) : E * S ≤ 243 := Nat.mul_le_mul hE.2 hS.2
theorem c_cellsW {s : St} [Wf s] {st re : Int} {w : Nat} {v : AC} (hw : 2 * re + 1 = w) (h : 1 ≤ w ∧ w ≤ 5 := by omega) : FnV 81 [.agg [ic st, ic re, v]] s (iv w) := by
  rw [← hw]; exact c_cells
theorem c_ends {s : St} [Wf s] {S w E : Nat} {re : Int} {v : AC} (hE : E = S ^ (w - 1)) (hS : 2 ≤ S ∧ S ≤ 3 := by omega) (hw : 2 * re + 1 = w ∧ 1 ≤ w ∧ w ≤ 5 := by omega) : FnV 68 [.agg [ic S, ic re, v]] s (iv E) := by
  refine F_start code68 ?_
  repeat' (first
 | refine A_go rfl ?_ | refine A_ifT rfl rfl ?_ | refine A_ifF rfl rfl ?_
 | refine A_sub rfl rfl rfl (by omega) ?_
 | refine A_callV rfl rfl (fun s H => c_cells) ?_
 | refine A_callV rfl rfl (fun s H => c_raised) ?_
 | refine A_fld rfl rfl ?_ | refine A_p (by rfl) rfl ?_
 | refine A_ldI rfl (by first | omega | (simp; done) | (simp; omega)) rfl ?_ | refine A_ldB rfl (by first | omega | (simp; done) | (simp; omega)) rfl ?_ | refine A_ld rfl (by rfl) rfl ?_
 | refine A_ldW rfl (by simp) rfl ?_
 | ((first | refine A_box rfl rfl ?_ | refine A_boxC rfl rfl ?_) <;> intro pz hpz)
 | refine A_chk1 rfl rfl rfl ?_ | refine A_chk2 rfl rfl rfl rfl ?_ | refine A_chk3 rfl rfl rfl rfl rfl ?_ | refine A_chk4 rfl rfl rfl rfl rfl rfl ?_ | refine A_chkI rfl (by assumption) rfl (by simp) ?_
 | refine A_ret1 rfl (by exact (RP.t rfl RP.nil)) ?_)
  simp only [Int.toNat_natCast]
  rw [show (2 * re + 1 - 1).toNat = w - 1 by omega, ← hE]
  exact R_v rfl
theorem c_l03Wide {s : St} [Wf s] {q : Nat} {S w : Nat} {re : Int} {v : AC} [hq : Ref s q [ic S, ic re, v]] (hw : 2 * re + 1 = w ∧ 1 ≤ w ∧ w ≤ 5 := by omega) : FnV 109 [.c (.ptr q 0)] s (iv w) := by
  refine F_start code109 ?_
  repeat' (first
 | refine A_go rfl ?_ | refine A_ifT rfl rfl ?_ | refine A_ifF rfl rfl ?_
 | refine A_add rfl rfl rfl (by omega) ?_ | refine A_mul rfl rfl rfl (by omega) ?_
 | refine A_fld rfl rfl ?_ | refine A_p (by rfl) rfl ?_
 | refine A_ldI rfl (by first | omega | (simp; done) | (simp; omega)) rfl ?_ | refine A_ldB rfl (by first | omega | (simp; done) | (simp; omega)) rfl ?_ | refine A_ld rfl (by rfl) rfl ?_
 | refine A_ret1 rfl (by exact (RP.t rfl RP.nil)) ?_)
  exact R_v (by rw [hw.1])
theorem c_l03Ends {s : St} [Wf s] {q : Nat} {S w E : Nat} {re : Int} {v : AC} [hq : Ref s q [ic S, ic re, v]] (hE : E = S ^ (w - 1)) (hS : 2 ≤ S ∧ S ≤ 3 := by omega) (hw : 2 * re + 1 = w ∧ 1 ≤ w ∧ w ≤ 5 := by omega) : FnV 64 [.c (.ptr q 0)] s (iv E) := by
  refine F_start code64 ?_
  repeat' (first
 | refine A_go rfl ?_ | refine A_ifT rfl rfl ?_ | refine A_ifF rfl rfl ?_
 | refine A_sub rfl rfl rfl (by omega) ?_
 | refine A_callV rfl rfl (fun s H => c_l03Wide (w := w)) ?_
 | refine A_callV rfl rfl (fun s H => c_l03Power) ?_
 | refine A_fld rfl rfl ?_ | refine A_p (by rfl) rfl ?_
 | refine A_ldI rfl (by first | omega | (simp; done) | (simp; omega)) rfl ?_ | refine A_ldB rfl (by first | omega | (simp; done) | (simp; omega)) rfl ?_ | refine A_ld rfl (by rfl) rfl ?_
 | refine A_chk1 rfl rfl rfl ?_ | refine A_chk2 rfl rfl rfl rfl ?_ | refine A_chk3 rfl rfl rfl rfl rfl ?_ | refine A_chk4 rfl rfl rfl rfl rfl rfl ?_ | refine A_chkI rfl (by assumption) rfl (by simp) ?_
 | refine A_ret1 rfl (by exact (RP.t rfl RP.nil)) ?_)
  simp only [Int.toNat_natCast]
  rw [show ((w : Int) - 1).toNat = w - 1 by omega, ← hE]
  exact R_v rfl
theorem c_way {s : St} [Wf s] {S w E a d : Nat} {re : Int} {id_xs off_xs len_xs : Nat} {xs : List Int} [h_xs : ArgE ic s id_xs off_xs xs] (hl_xs : xs.length = len_xs := by first | rfl | simp | omega | (simp; omega)) (hE : E = S ^ (w - 1)) (hl : xs.length = E * S) (hS : 2 ≤ S ∧ S ≤ 3 := by omega) (hw : 2 * re + 1 = w ∧ 1 ≤ w ∧ w ≤ 5 := by omega) (hEb : 1 ≤ E ∧ E ≤ 81 := by omega) (ha : a < E := by omega) (hd : d < S := by omega) :
    FnV 69 [.agg [ic S, ic re, .sl id_xs off_xs len_xs], iv a, iv d] s (.tup [.c (ic (((a * S + d) % E : Nat) : Int)), .c (ic (xs.getD (a * S + d) 0))]) := by
  have h1 := lt_mul ha hd
  have h2 := es_le hS hEb
  have h3 : ((a * S + d : Nat) : Int) = (a : Int) * S + d := by push_cast; rfl
  refine F_start code69 ?_
  repeat' (first
 | refine A_go rfl ?_ | refine A_ifT rfl rfl ?_ | refine A_ifF rfl rfl ?_
 | refine A_add rfl rfl rfl (by omega) ?_ | refine A_mul rfl rfl rfl (by omega) ?_ | refine A_rem rfl rfl rfl (by omega) ?_ | refine A_remT rfl rfl rfl (by omega) ?_
 | refine A_idxN1 rfl rfl rfl (by omega) ?_ | refine A_idx1 rfl rfl rfl (by omega) ?_
 | refine A_callV rfl rfl (fun s H => c_ends (hE := hE)) ?_
 | refine A_fld rfl rfl ?_ | refine A_p (by rfl) rfl ?_
 | refine A_ldI rfl (by first | omega | (simp; done) | (simp; omega)) rfl ?_ | refine A_ldB rfl (by first | omega | (simp; done) | (simp; omega)) rfl ?_ | refine A_ld rfl (by rfl) rfl ?_
 | refine A_ldW rfl (by simp) rfl ?_
 | ((first | refine A_box rfl rfl ?_ | refine A_boxC rfl rfl ?_) <;> intro pz hpz)
 | refine A_chk1 rfl rfl rfl ?_ | refine A_chk2 rfl rfl rfl rfl ?_ | refine A_chk3 rfl rfl rfl rfl rfl ?_ | refine A_chk4 rfl rfl rfl rfl rfl rfl ?_ | refine A_chkI rfl (by assumption) rfl (by simp) ?_
 | refine A_ret rfl (by exact (RP.t rfl (RP.t rfl RP.nil))) ?_)
  exact R_v (by rw [← h3]; push_cast; rfl)
theorem c_l03Pairs {s : St} [Wf s] {q : Nat} {S w E a d : Nat} {re : Int} {id_xs off_xs len_xs : Nat} {xs : List Int} [hq : Ref s q [ic S, ic re, .sl id_xs off_xs len_xs]] [h_xs : ArgE ic s id_xs off_xs xs] (hl_xs : xs.length = len_xs := by first | rfl | simp | omega) (hE : E = S ^ (w - 1)) (hl : xs.length = E * S) (hS : 2 ≤ S ∧ S ≤ 3 := by omega) (hw : 2 * re + 1 = w ∧ 1 ≤ w ∧ w ≤ 5 := by omega) (hEb : 1 ≤ E ∧ E ≤ 81 := by omega) (ha : a < E := by omega) (hd : d < S := by omega) :
    FnV 65 [.c (.ptr q 0), iv a, iv d] s (.tup [.c (ic (((a * S + d) % E : Nat) : Int)), .c (ic (xs.getD (a * S + d) 0))]) := by
  have h1 := lt_mul ha hd
  have h2 := es_le hS hEb
  have h3 : ((a * S + d : Nat) : Int) = (a : Int) * S + d := by push_cast; rfl
  refine F_start code65 ?_
  repeat' (first
 | refine A_go rfl ?_ | refine A_ifT rfl rfl ?_ | refine A_ifF rfl rfl ?_
 | refine A_add rfl rfl rfl (by omega) ?_ | refine A_mul rfl rfl rfl (by omega) ?_ | refine A_rem rfl rfl rfl (by omega) ?_ | refine A_remT rfl rfl rfl (by omega) ?_
 | refine A_idxN1 rfl rfl rfl (by omega) ?_ | refine A_idx1 rfl rfl rfl (by omega) ?_
 | refine A_callV rfl rfl (fun s H => c_l03Ends (hE := hE)) ?_
 | refine A_fld rfl rfl ?_ | refine A_p (by rfl) rfl ?_
 | refine A_ldI rfl (by first | omega | (simp; done) | (simp; omega)) rfl ?_ | refine A_ldB rfl (by first | omega | (simp; done) | (simp; omega)) rfl ?_ | refine A_ld rfl (by rfl) rfl ?_
 | refine A_chk1 rfl rfl rfl ?_ | refine A_chk2 rfl rfl rfl rfl ?_ | refine A_chk3 rfl rfl rfl rfl rfl ?_ | refine A_chk4 rfl rfl rfl rfl rfl rfl ?_ | refine A_chkI rfl (by assumption) rfl (by simp) ?_
 | refine A_ret rfl (by exact (RP.t rfl (RP.t rfl RP.nil))) ?_)
  exact R_v (by rw [← h3]; push_cast; rfl)
/-- How many of the first 'm' neighbourhoods lead from each end to each end with a state. -/
def ptab (S E : Nat) (xs : List Int) (to : Int) : Nat → List Int
  | 0 => List.replicate (E * E) 0
  | m + 1 => if xs.getD m 0 = to then (ptab S E xs to m).set (m / S * E + m % E) ((ptab S E xs to m).getD (m / S * E + m % E) 0 + 1) else ptab S E xs to m
@[simp] theorem ptab_len {S E : Nat} {xs : List Int} {to : Int} : ∀ m, (ptab S E xs to m).length = E * E
  | 0 => by simp [ptab]
  | m + 1 => by rw [ptab]; split <;> simp [ptab_len m]
theorem ptab_in {S E : Nat} {xs : List Int} {to : Int} : ∀ m i, 0 ≤ (ptab S E xs to m).getD i 0 ∧ (ptab S E xs to m).getD i 0 ≤ m
  | 0, i => by rw [ptab, List.getD_eq_getElem?_getD, List.getElem?_replicate]; split <;> simp
  | m + 1, i => by
    have ih := ptab_in (S := S) (E := E) (xs := xs) (to := to) m
    rw [ptab]
    split
    · rename_i hT
      by_cases hlt : m / S * E + m % E < (ptab S E xs to m).length
      · rw [getD_set hlt]
        split
        · have := ih (m / S * E + m % E); omega
        · have := ih i; omega
      · rw [List.set_eq_of_length_le (by omega)]
        have := ih i; omega
    · have := ih i; omega
theorem am_div {S a d : Nat} (hd : d < S) : (a * S + d) / S = a := by
  rw [Nat.mul_comm, Nat.mul_add_div (by omega), Nat.div_eq_of_lt hd, Nat.add_zero]
theorem ptab_step {S E a d : Nat} {xs : List Int} {to : Int} (hd : d < S) : ptab S E xs to (a * S + (d + 1)) = if xs.getD (a * S + d) 0 = to then (ptab S E xs to (a * S + d)).set (a * E + (a * S + d) % E) ((ptab S E xs to (a * S + d)).getD (a * E + (a * S + d) % E) 0 + 1) else ptab S E xs to (a * S + d) := by
  rw [← Nat.add_assoc, ptab, am_div hd]
theorem mod_in {E m : Nat} (h : 1 ≤ E) : m % E < E := Nat.mod_lt _ h
def ptabR (st re : Int) (xs : List Int) (to : Int) : List Int := ptab st.toNat (st.toNat ^ (2 * re).toNat) xs to xs.length
end Go.Proofs.Ytkeabhhndcpejaa
