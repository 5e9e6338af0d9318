/- Ends of neighbourhoods, and how many lead from one to another. -/
import Derived.Test.YtlmbgaoeplffkaaXdigits
import Derived.Test.YtlmbgaoeplffkaaXringed
import Derived.Test.YtlmbgaoeplffkaaFB
namespace Go.Proofs.Ytlmbgaoeplffkaa
open Go Go.RowKit
set_option linter.unusedVariables false
set_option linter.unusedSimpArgs false
set_option maxRecDepth 100000
set_option maxHeartbeats 8000000
-- (impl.Rule).ends
def L44 : AFun := ⟨9, [.t 2],
 (.seq (.ops false [⟨(some 1), .box 27 (.t 0), none, []⟩,
   ⟨(some 2), .mv (.k (iv 0)), none, []⟩])
 (.seq (.ops true [⟨(some 5), .load true 3 (.t 1), none, []⟩,
   ⟨(some 6), .call (.f 61) [(.t 5)], none, []⟩,
   ⟨(some 3), .fieldA 0 (.t 1), none, []⟩,
   ⟨(some 4), .load false 1 (.t 3), none, [0]⟩,
   ⟨(some 7), .bin .sub (.t 6) (.k (iv 1)), none, []⟩,
   ⟨(some 8), .call (.f 67) [(.t 4), (.t 7)], none, []⟩,
   ⟨(some 2), .mv (.t 8), none, []⟩])
 .ret))⟩
theorem code44 : acode Try.prog hints 44 = some L44 := by kernel_rfl

-- (impl.Rule).way
def L45 : AFun := ⟨24, [.t 6, .t 7],
 (.seq (.ops false [⟨(some 3), .box 27 (.t 0), none, []⟩,
   ⟨(some 6), .mv (.k (iv 0)), none, []⟩,
   ⟨(some 7), .mv (.k (iv 0)), none, []⟩])
 (.seq (.ops false [⟨(some 9), .mv (.t 1), none, []⟩,
   ⟨(some 10), .fieldA 0 (.t 3), none, []⟩,
   ⟨(some 11), .load false 1 (.t 10), none, []⟩,
   ⟨(some 12), .bin .mul (.t 9) (.t 11), none, []⟩,
   ⟨(some 13), .mv (.t 2), none, []⟩,
   ⟨(some 14), .bin .add (.t 12) (.t 13), none, []⟩,
   ⟨(some 8), .mv (.t 14), none, []⟩])
 (.seq (.ops true [⟨(some 16), .load true 3 (.t 3), none, []⟩,
   ⟨(some 17), .call (.f 44) [(.t 16)], none, []⟩,
   ⟨(some 15), .mv (.t 8), none, []⟩,
   ⟨(some 18), .bin .rem (.t 15) (.t 17), none, []⟩,
   ⟨(some 19), .fieldA 2 (.t 3), none, []⟩,
   ⟨(some 20), .load false 1 (.t 19), none, [0]⟩,
   ⟨(some 21), .mv (.t 8), none, []⟩,
   ⟨(some 22), .idxA 1 (.t 20) (.t 21), none, []⟩,
   ⟨(some 23), .load false 1 (.t 22), none, [0]⟩,
   ⟨(some 6), .mv (.t 18), none, []⟩,
   ⟨(some 7), .mv (.t 23), none, []⟩])
 .ret)))⟩
theorem code45 : acode Try.prog hints 45 = some L45 := by kernel_rfl

-- spec.l03Ends
def L89 : AFun := ⟨11, [.t 2],
 (.seq (.ops false [⟨(some 2), .mv (.k (iv 0)), none, []⟩])
 (.seq (.ops true [⟨(some 7), .mv (.t 0), none, []⟩,
   ⟨(some 8), .call (.f 96) [(.t 7)], none, []⟩,
   ⟨(some 3), .mv (.t 0), none, []⟩,
   ⟨(some 4), .nilChk (.t 3), none, []⟩,
   ⟨(some 5), .fieldA 0 (.t 4), none, []⟩,
   ⟨(some 6), .load false 1 (.t 5), none, [0]⟩,
   ⟨(some 9), .bin .sub (.t 8) (.k (iv 1)), none, []⟩,
   ⟨(some 10), .call (.f 58) [(.t 6), (.t 9)], none, []⟩,
   ⟨(some 2), .mv (.t 10), none, []⟩])
 .ret))⟩
theorem code89 : acode Try.prog hints 89 = some L89 := by kernel_rfl

-- spec.l03Wide
def L96 : AFun := ⟨9, [.t 2],
 (.seq (.ops false [⟨(some 2), .mv (.k (iv 0)), none, []⟩])
 (.seq (.ops false [⟨(some 3), .mv (.t 0), none, []⟩,
   ⟨(some 4), .nilChk (.t 3), none, []⟩,
   ⟨(some 5), .fieldA 1 (.t 4), none, []⟩,
   ⟨(some 6), .load false 1 (.t 5), none, []⟩,
   ⟨(some 7), .bin .mul (.k (iv 2)) (.t 6), none, []⟩,
   ⟨(some 8), .bin .add (.t 7) (.k (iv 1)), none, []⟩,
   ⟨(some 2), .mv (.t 8), none, []⟩])
 .ret))⟩
theorem code96 : acode Try.prog hints 96 = some L96 := by kernel_rfl

-- spec.l03Pairs
def L90 : AFun := ⟨28, [.t 6, .t 7],
 (.seq (.ops false [⟨(some 6), .mv (.k (iv 0)), none, []⟩,
   ⟨(some 7), .mv (.k (iv 0)), none, []⟩])
 (.seq (.ops false [⟨(some 9), .mv (.t 1), none, []⟩,
   ⟨(some 10), .mv (.t 0), none, []⟩,
   ⟨(some 11), .nilChk (.t 10), none, []⟩,
   ⟨(some 12), .fieldA 0 (.t 11), none, []⟩,
   ⟨(some 13), .load false 1 (.t 12), none, []⟩,
   ⟨(some 14), .bin .mul (.t 9) (.t 13), none, []⟩,
   ⟨(some 15), .mv (.t 2), none, []⟩,
   ⟨(some 16), .bin .add (.t 14) (.t 15), none, []⟩,
   ⟨(some 8), .mv (.t 16), none, []⟩])
 (.seq (.ops true [⟨(some 18), .mv (.t 0), none, []⟩,
   ⟨(some 19), .call (.f 89) [(.t 18)], none, []⟩,
   ⟨(some 17), .mv (.t 8), none, []⟩,
   ⟨(some 20), .bin .rem (.t 17) (.t 19), none, []⟩,
   ⟨(some 21), .mv (.t 0), none, []⟩,
   ⟨(some 22), .nilChk (.t 21), none, []⟩,
   ⟨(some 23), .fieldA 2 (.t 22), none, []⟩,
   ⟨(some 24), .load false 1 (.t 23), none, [0]⟩,
   ⟨(some 25), .mv (.t 8), none, []⟩,
   ⟨(some 26), .idxA 1 (.t 24) (.t 25), none, []⟩,
   ⟨(some 27), .load false 1 (.t 26), none, [0]⟩,
   ⟨(some 6), .mv (.t 20), none, []⟩,
   ⟨(some 7), .mv (.t 27), none, []⟩])
 .ret)))⟩
theorem code90 : acode Try.prog hints 90 = some L90 := by kernel_rfl

-- impl.PairTable
def L16 : AFun := ⟨61, [.t 4, .t 5],
 (.seq (.ops false [⟨(some 2), .box 27 (.t 0), none, []⟩,
   ⟨(some 4), .mv (.k (.c (.sl 0 0 0))), none, []⟩,
   ⟨(some 5), .mv (.k (bv false)), none, []⟩])
 (.seq (.seq (.ops false [⟨(some 12), .load true 3 (.t 2), none, []⟩,
    ⟨(some 13), .call (.f 39) [(.t 12)], none, []⟩,
    ⟨(some 14), .un .not (.t 13), none, []⟩,
    ⟨(some 15), .mv (.t 14), none, []⟩,
    ⟨(some 16), .mv (.t 1), (some (15, false)), []⟩,
    ⟨(some 17), .fieldA 0 (.t 2), (some (15, false)), []⟩,
    ⟨(some 18), .load false 1 (.t 17), (some (15, false)), []⟩,
    ⟨(some 19), .bin .sub (.t 18) (.k (iv 1)), (some (15, false)), []⟩,
    ⟨(some 20), .call (.f 43) [(.t 16), (.k (iv 0)), (.t 19)], (some (15, false)), []⟩,
    ⟨(some 21), .un .not (.t 20), (some (15, false)), []⟩,
    ⟨(some 22), .pick (.t 15) (.k (bv true)) (.t 21), none, []⟩])
  (.cond (.t 22) (.seq (.ops false [⟨(some 4), .mv (.k (.c (.sl 0 0 0))), none, []⟩,
     ⟨(some 5), .mv (.k (bv false)), none, []⟩])
   .ret)
   .skip))
 (.seq (.ops false [⟨(some 23), .load true 3 (.t 2), none, []⟩,
   ⟨(some 24), .call (.f 44) [(.t 23)], none, []⟩,
   ⟨(some 6), .mv (.t 24), none, []⟩])
 (.seq (.ops false [⟨(some 25), .mv (.t 6), none, []⟩,
   ⟨(some 26), .mv (.t 6), none, []⟩,
   ⟨(some 27), .bin .mul (.t 25) (.t 26), none, []⟩,
   ⟨(some 28), .makeS 2 1 8 [.int .i64 0] (.t 27) (.t 27), none, []⟩,
   ⟨(some 7), .mv (.t 28), none, []⟩])
 (.seq (.seq (.ops false [⟨(some 29), .mv (.t 6), none, []⟩,
    ⟨(some 30), .mv (.k (iv 0)), none, []⟩])
  (.block 0 (.loop [1, 2, 6, 7, 29, 30] (.seq (.ops false [⟨(some 31), .bin .lss (.t 30) (.t 29), none, []⟩])
    (.seq (.cond (.t 31) .skip
      (.exit 0))
    (.seq (.block 1 (.seq (.ops false [⟨(some 32), .mv (.t 30), none, []⟩,
        ⟨(some 8), .mv (.t 32), none, []⟩])
      (.seq (.ops false [⟨(some 33), .fieldA 0 (.t 2), none, []⟩,
        ⟨(some 34), .load false 1 (.t 33), none, []⟩,
        ⟨(some 35), .mv (.k (iv 0)), none, []⟩])
      (.block 2 (.loop [1, 2, 6, 7, 8, 29, 30, 34, 35] (.seq (.ops false [⟨(some 36), .bin .lss (.t 35) (.t 34), none, []⟩])
        (.seq (.cond (.t 36) .skip
          (.exit 2))
        (.seq (.block 3 (.seq (.ops false [⟨(some 37), .mv (.t 35), none, []⟩,
            ⟨(some 9), .mv (.t 37), none, []⟩])
          (.seq (.ops false [⟨(some 39), .load true 3 (.t 2), none, []⟩,
            ⟨(some 40), .mv (.t 8), none, []⟩,
            ⟨(some 41), .mv (.t 9), none, []⟩,
            ⟨(some 42), .call (.f 45) [(.t 39), (.t 40), (.t 41)], none, []⟩,
            ⟨(some 38), .mv (.t 42), none, []⟩,
            ⟨(some 43), .ext (.t 38) 0, none, []⟩,
            ⟨(some 44), .ext (.t 38) 1, none, []⟩,
            ⟨(some 10), .mv (.t 43), none, []⟩,
            ⟨(some 11), .mv (.t 44), none, []⟩])
          (.seq (.ops false [⟨(some 45), .mv (.t 11), none, []⟩,
            ⟨(some 46), .mv (.t 1), none, []⟩,
            ⟨(some 47), .bin .eql (.t 45) (.t 46), none, []⟩])
          (.cond (.t 47) (.ops false [⟨(some 48), .mv (.t 7), none, []⟩,
            ⟨(some 49), .mv (.t 8), none, []⟩,
            ⟨(some 50), .mv (.t 6), none, []⟩,
            ⟨(some 51), .bin .mul (.t 49) (.t 50), none, []⟩,
            ⟨(some 52), .mv (.t 10), none, []⟩,
            ⟨(some 53), .bin .add (.t 51) (.t 52), none, []⟩,
            ⟨(some 54), .idxA 1 (.t 48) (.t 53), none, []⟩,
            ⟨(some 55), .load false 1 (.t 54), none, []⟩,
            ⟨(some 56), .bin .add (.t 55) (.k (iv 1)), none, []⟩,
            ⟨(some 57), .idxA 1 (.t 48) (.t 53), none, []⟩,
            ⟨none, .store 1 (.t 57) (.t 56), none, []⟩])
           .skip)))))
        (.ops false [⟨(some 58), .bin .add (.t 35) (.k (iv 1)), none, []⟩,
         ⟨(some 35), .mv (.t 58), none, []⟩])))))))))
    (.ops false [⟨(some 59), .bin .add (.t 30) (.k (iv 1)), none, []⟩,
     ⟨(some 30), .mv (.t 59), none, []⟩])))))))
 (.seq (.ops false [⟨(some 60), .mv (.t 7), none, []⟩,
   ⟨(some 4), .mv (.t 60), none, []⟩,
   ⟨(some 5), .mv (.k (bv true)), none, []⟩])
 .ret))))))⟩
theorem code16 : acode Try.prog hints 16 = some L16 := by kernel_rfl


theorem VR.nat {st re : Int} {xs : List Int} (h : VR st re xs) : ∃ S w E : Nat, st = S ∧ (2 ≤ S ∧ S ≤ 3) ∧ 2 * re + 1 = w ∧ (1 ≤ w ∧ w ≤ 5) ∧ E = S ^ (w - 1) ∧ xs.length = E * S ∧ (1 ≤ E ∧ E ≤ 81) ∧ DG S xs := by
  obtain ⟨h1, h2, h3, h4⟩ := h
  obtain ⟨S, rfl⟩ : ∃ S : Nat, st = S := ⟨st.toNat, by omega⟩
  obtain ⟨w, hw⟩ : ∃ w : Nat, 2 * re + 1 = w := ⟨(2 * re + 1).toNat, by omega⟩
  have hw1 : 1 ≤ w ∧ w ≤ 5 := by omega
  have e1 : S ^ (w - 1) ≤ 3 ^ 4 := Nat.le_trans (Nat.pow_le_pow_left (by omega) _) (Nat.pow_le_pow_right (by omega) (by omega))
  have e2 : 0 < S ^ (w - 1) := Nat.pow_pos (by omega)
  have e3 : (3 : Nat) ^ 4 = 81 := by decide
  refine ⟨S, w, S ^ (w - 1), rfl, by omega, hw, hw1, rfl, ?_, by omega, h4⟩
  rw [h3, hw]
  simp only [Int.toNat_natCast]
  rw [← Nat.pow_succ, Nat.succ_eq_add_one, show w - 1 + 1 = w by omega]
theorem es_le {S E : Nat} (hS : 2 ≤ S ∧ S ≤ 3) (hE : 1 ≤ E ∧ E ≤ 81) : E * S ≤ 243 := Nat.mul_le_mul hE.2 hS.2
theorem c_cellsW {s : St} [Wf s] {st re : Int} {w : Nat} {v : AC} (hw : 2 * re + 1 = w) (h : 1 ≤ w ∧ w ≤ 5 := by omega) : FnV 61 [.agg [ic st, ic re, v]] s (iv w) := by
  rw [← hw]; exact c_cells
theorem c_ends {s : St} [Wf s] {S w E : Nat} {re : Int} {v : AC} (hE : E = S ^ (w - 1)) (hS : 2 ≤ S ∧ S ≤ 3 := by omega) (hw : 2 * re + 1 = w ∧ 1 ≤ w ∧ w ≤ 5 := by omega) : FnV 44 [.agg [ic S, ic re, v]] s (iv E) := by
  refine F_start code44 ?_
  repeat' (first
 | refine A_go rfl ?_ | refine A_ifT rfl rfl ?_ | refine A_ifF rfl rfl ?_
 | refine A_sub rfl rfl rfl (by omega) ?_
 | refine A_callV rfl rfl (fun s H => c_cells) ?_
 | refine A_callV rfl rfl (fun s H => c_raised) ?_
 | refine A_fld rfl rfl ?_ | refine A_p (by rfl) rfl ?_
 | refine A_ldI rfl (by first | omega | (simp; done) | (simp; omega)) rfl ?_ | refine A_ldB rfl (by first | omega | (simp; done) | (simp; omega)) rfl ?_ | refine A_ld rfl (by rfl) rfl ?_
 | refine A_ldW rfl (by simp) rfl ?_
 | ((first | refine A_box rfl rfl ?_ | refine A_boxC rfl rfl ?_) <;> intro pz hpz)
 | refine A_chk1 rfl rfl rfl ?_ | refine A_chk2 rfl rfl rfl rfl ?_ | refine A_chk3 rfl rfl rfl rfl rfl ?_ | refine A_chk4 rfl rfl rfl rfl rfl rfl ?_ | refine A_chkI rfl (by assumption) rfl (by simp) ?_
 | refine A_ret1 rfl (by exact (RP.t rfl RP.nil)) ?_)
  simp only [Int.toNat_natCast]
  rw [show (2 * re + 1 - 1).toNat = w - 1 by omega, ← hE]
  exact R_v rfl
theorem c_l03Wide {s : St} [Wf s] {q : Nat} {S w : Nat} {re : Int} {v : AC} [hq : Ref s q [ic S, ic re, v]] (hw : 2 * re + 1 = w ∧ 1 ≤ w ∧ w ≤ 5 := by omega) : FnV 96 [.c (.ptr q 0)] s (iv w) := by
  refine F_start code96 ?_
  repeat' (first
 | refine A_go rfl ?_ | refine A_ifT rfl rfl ?_ | refine A_ifF rfl rfl ?_
 | refine A_add rfl rfl rfl (by omega) ?_ | refine A_mul rfl rfl rfl (by omega) ?_
 | refine A_fld rfl rfl ?_ | refine A_p (by rfl) rfl ?_
 | refine A_ldI rfl (by first | omega | (simp; done) | (simp; omega)) rfl ?_ | refine A_ldB rfl (by first | omega | (simp; done) | (simp; omega)) rfl ?_ | refine A_ld rfl (by rfl) rfl ?_
 | refine A_ret1 rfl (by exact (RP.t rfl RP.nil)) ?_)
  exact R_v (by rw [hw.1])
theorem c_l03Ends {s : St} [Wf s] {q : Nat} {S w E : Nat} {re : Int} {v : AC} [hq : Ref s q [ic S, ic re, v]] (hE : E = S ^ (w - 1)) (hS : 2 ≤ S ∧ S ≤ 3 := by omega) (hw : 2 * re + 1 = w ∧ 1 ≤ w ∧ w ≤ 5 := by omega) : FnV 89 [.c (.ptr q 0)] s (iv E) := by
  refine F_start code89 ?_
  repeat' (first
 | refine A_go rfl ?_ | refine A_ifT rfl rfl ?_ | refine A_ifF rfl rfl ?_
 | refine A_sub rfl rfl rfl (by omega) ?_
 | refine A_callV rfl rfl (fun s H => c_l03Wide (w := w)) ?_
 | refine A_callV rfl rfl (fun s H => c_l03Power) ?_
 | refine A_fld rfl rfl ?_ | refine A_p (by rfl) rfl ?_
 | refine A_ldI rfl (by first | omega | (simp; done) | (simp; omega)) rfl ?_ | refine A_ldB rfl (by first | omega | (simp; done) | (simp; omega)) rfl ?_ | refine A_ld rfl (by rfl) rfl ?_
 | refine A_chk1 rfl rfl rfl ?_ | refine A_chk2 rfl rfl rfl rfl ?_ | refine A_chk3 rfl rfl rfl rfl rfl ?_ | refine A_chk4 rfl rfl rfl rfl rfl rfl ?_ | refine A_chkI rfl (by assumption) rfl (by simp) ?_
 | refine A_ret1 rfl (by exact (RP.t rfl RP.nil)) ?_)
  simp only [Int.toNat_natCast]
  rw [show ((w : Int) - 1).toNat = w - 1 by omega, ← hE]
  exact R_v rfl
theorem c_way {s : St} [Wf s] {S w E a d : Nat} {re : Int} {id_xs off_xs len_xs : Nat} {xs : List Int} [h_xs : ArgE ic s id_xs off_xs xs] (hl_xs : xs.length = len_xs := by first | rfl | simp | omega | (simp; omega)) (hE : E = S ^ (w - 1)) (hl : xs.length = E * S) (hS : 2 ≤ S ∧ S ≤ 3 := by omega) (hw : 2 * re + 1 = w ∧ 1 ≤ w ∧ w ≤ 5 := by omega) (hEb : 1 ≤ E ∧ E ≤ 81 := by omega) (ha : a < E := by omega) (hd : d < S := by omega) :
    FnV 45 [.agg [ic S, ic re, .sl id_xs off_xs len_xs], iv a, iv d] s (.tup [.c (ic (((a * S + d) % E : Nat) : Int)), .c (ic (xs.getD (a * S + d) 0))]) := by
  have h1 := lt_mul ha hd
  have h2 := es_le hS hEb
  have h3 : ((a * S + d : Nat) : Int) = (a : Int) * S + d := by push_cast; rfl
  refine F_start code45 ?_
  repeat' (first
 | refine A_go rfl ?_ | refine A_ifT rfl rfl ?_ | refine A_ifF rfl rfl ?_
 | refine A_add rfl rfl rfl (by omega) ?_ | refine A_mul rfl rfl rfl (by omega) ?_ | refine A_rem rfl rfl rfl (by omega) ?_ | refine A_remT rfl rfl rfl (by omega) ?_
 | refine A_idxN1 rfl rfl rfl (by omega) ?_ | refine A_idx1 rfl rfl rfl (by omega) ?_
 | refine A_callV rfl rfl (fun s H => c_ends (hE := hE)) ?_
 | refine A_fld rfl rfl ?_ | refine A_p (by rfl) rfl ?_
 | refine A_ldI rfl (by first | omega | (simp; done) | (simp; omega)) rfl ?_ | refine A_ldB rfl (by first | omega | (simp; done) | (simp; omega)) rfl ?_ | refine A_ld rfl (by rfl) rfl ?_
 | refine A_ldW rfl (by simp) rfl ?_
 | ((first | refine A_box rfl rfl ?_ | refine A_boxC rfl rfl ?_) <;> intro pz hpz)
 | refine A_chk1 rfl rfl rfl ?_ | refine A_chk2 rfl rfl rfl rfl ?_ | refine A_chk3 rfl rfl rfl rfl rfl ?_ | refine A_chk4 rfl rfl rfl rfl rfl rfl ?_ | refine A_chkI rfl (by assumption) rfl (by simp) ?_
 | refine A_ret rfl (by exact (RP.t rfl (RP.t rfl RP.nil))) ?_)
  exact R_v (by rw [← h3]; push_cast; rfl)
theorem c_l03Pairs {s : St} [Wf s] {q : Nat} {S w E a d : Nat} {re : Int} {id_xs off_xs len_xs : Nat} {xs : List Int} [hq : Ref s q [ic S, ic re, .sl id_xs off_xs len_xs]] [h_xs : ArgE ic s id_xs off_xs xs] (hl_xs : xs.length = len_xs := by first | rfl | simp | omega) (hE : E = S ^ (w - 1)) (hl : xs.length = E * S) (hS : 2 ≤ S ∧ S ≤ 3 := by omega) (hw : 2 * re + 1 = w ∧ 1 ≤ w ∧ w ≤ 5 := by omega) (hEb : 1 ≤ E ∧ E ≤ 81 := by omega) (ha : a < E := by omega) (hd : d < S := by omega) :
    FnV 90 [.c (.ptr q 0), iv a, iv d] s (.tup [.c (ic (((a * S + d) % E : Nat) : Int)), .c (ic (xs.getD (a * S + d) 0))]) := by
  have h1 := lt_mul ha hd
  have h2 := es_le hS hEb
  have h3 : ((a * S + d : Nat) : Int) = (a : Int) * S + d := by push_cast; rfl
  refine F_start code90 ?_
  repeat' (first
 | refine A_go rfl ?_ | refine A_ifT rfl rfl ?_ | refine A_ifF rfl rfl ?_
 | refine A_add rfl rfl rfl (by omega) ?_ | refine A_mul rfl rfl rfl (by omega) ?_ | refine A_rem rfl rfl rfl (by omega) ?_ | refine A_remT rfl rfl rfl (by omega) ?_
 | refine A_idxN1 rfl rfl rfl (by omega) ?_ | refine A_idx1 rfl rfl rfl (by omega) ?_
 | refine A_callV rfl rfl (fun s H => c_l03Ends (hE := hE)) ?_
 | refine A_fld rfl rfl ?_ | refine A_p (by rfl) rfl ?_
 | refine A_ldI rfl (by first | omega | (simp; done) | (simp; omega)) rfl ?_ | refine A_ldB rfl (by first | omega | (simp; done) | (simp; omega)) rfl ?_ | refine A_ld rfl (by rfl) rfl ?_
 | refine A_chk1 rfl rfl rfl ?_ | refine A_chk2 rfl rfl rfl rfl ?_ | refine A_chk3 rfl rfl rfl rfl rfl ?_ | refine A_chk4 rfl rfl rfl rfl rfl rfl ?_ | refine A_chkI rfl (by assumption) rfl (by simp) ?_
 | refine A_ret rfl (by exact (RP.t rfl (RP.t rfl RP.nil))) ?_)
  exact R_v (by rw [← h3]; push_cast; rfl)
/-- How many of the first 'm' neighbourhoods lead from each end to each end with a state. -/
def ptab (S E : Nat) (xs : List Int) (to : Int) : Nat → List Int
  | 0 => List.replicate (E * E) 0
  | m + 1 => if xs.getD m 0 = to then (ptab S E xs to m).set (m / S * E + m % E) ((ptab S E xs to m).getD (m / S * E + m % E) 0 + 1) else ptab S E xs to m
@[simp] theorem ptab_len {S E : Nat} {xs : List Int} {to : Int} : ∀ m, (ptab S E xs to m).length = E * E
  | 0 => by simp [ptab]
  | m + 1 => by rw [ptab]; split <;> simp [ptab_len m]
theorem ptab_in {S E : Nat} {xs : List Int} {to : Int} : ∀ m i, 0 ≤ (ptab S E xs to m).getD i 0 ∧ (ptab S E xs to m).getD i 0 ≤ m
  | 0, i => by rw [ptab, List.getD_eq_getElem?_getD, List.getElem?_replicate]; split <;> simp
  | m + 1, i => by
    have ih := ptab_in (S := S) (E := E) (xs := xs) (to := to) m
    rw [ptab]
    split
    · rename_i hT
      by_cases hlt : m / S * E + m % E < (ptab S E xs to m).length
      · rw [getD_set hlt]
        split
        · have := ih (m / S * E + m % E); omega
        · have := ih i; omega
      · rw [List.set_eq_of_length_le (by omega)]
        have := ih i; omega
    · have := ih i; omega
theorem am_div {S a d : Nat} (hd : d < S) : (a * S + d) / S = a := by
  rw [Nat.mul_comm, Nat.mul_add_div (by omega), Nat.div_eq_of_lt hd, Nat.add_zero]
theorem ptab_step {S E a d : Nat} {xs : List Int} {to : Int} (hd : d < S) : ptab S E xs to (a * S + (d + 1)) = if xs.getD (a * S + d) 0 = to then (ptab S E xs to (a * S + d)).set (a * E + (a * S + d) % E) ((ptab S E xs to (a * S + d)).getD (a * E + (a * S + d) % E) 0 + 1) else ptab S E xs to (a * S + d) := by
  rw [← Nat.add_assoc, ptab, am_div hd]
theorem mod_in {E m : Nat} (h : 1 ≤ E) : m % E < E := Nat.mod_lt _ h
def ptabR (st re : Int) (xs : List Int) (to : Int) : List Int := ptab st.toNat (st.toNat ^ (2 * re).toNat) xs to xs.length
theorem c_implPairTable {s : St} [Wf s] {st re to : Int} {id_xs off_xs len_xs : Nat} {xs : List Int} [h_xs : ArgE ic s id_xs off_xs xs] (hl_xs : xs.length = len_xs := by first | rfl | simp | omega | (simp; omega)) (hb : len_xs ≤ 2000000 := by omega) :
    Fn [] 16 [.agg [ic st, ic re, .sl id_xs off_xs len_xs], iv to] s (IntsRes (VR st re xs ∧ 0 ≤ to ∧ to ≤ st - 1) (ptabR st re xs to)) := by
  refine F_start code16 ?_
  by_cases hv : VR st re xs
  case neg =>
    repeat' (first
 | refine A_go rfl ?_ | refine A_ifT rfl rfl ?_ | refine A_ifF rfl rfl ?_
 | refine A_offP rfl rfl ?_ | refine A_offH rfl rfl ?_ | refine A_off0 rfl rfl ?_
 | refine A_add rfl rfl rfl (by omega) ?_ | refine A_sub rfl rfl rfl (by omega) ?_ | refine A_mul rfl rfl rfl (by omega) ?_
 | ((first | refine A_lt rfl rfl rfl ?_ ?_ | refine A_eq rfl rfl rfl ?_ ?_) <;> intro hc <;> try first | contradiction | (exfalso; omega) | exact absurd rfl hc)
 | refine A_idxN1 rfl rfl rfl (by omega) ?_ | refine A_idx1 rfl rfl rfl (by omega) ?_
 | (refine A_callB rfl rfl (fun s H => c_ValidRule) ?_ ?_ <;> intro hc <;> try first | contradiction | (exfalso; omega) | exact absurd rfl hc | exact absurd (And.intro rfl rfl) hc | exact absurd (And.intro rfl (And.intro rfl rfl)) hc | exact absurd (Eq.trans (by assumption) (Eq.symm (by assumption))) hc)
 | refine A_fld rfl rfl ?_ | refine A_p (by rfl) rfl ?_
 | refine A_ldI rfl (by first | omega | (simp; done) | (simp; omega)) rfl ?_ | refine A_ldB rfl (by first | omega | (simp; done) | (simp; omega)) rfl ?_ | refine A_ld rfl (by rfl) rfl ?_
 | refine A_ldW rfl (by simp) rfl ?_
 | refine A_st rfl rfl rfl ?_ | refine A_stE rfl rfl (by first | omega | (simp; done) | (simp; omega)) rfl ?_
 | ((first | refine A_box rfl rfl ?_ | refine A_boxC rfl rfl ?_ | refine A_makeN rfl rfl rfl (by omega) ?_ | refine A_make rfl rfl rfl (by omega) ?_) <;> intro pz hpz)
 | refine A_ret rfl (by exact (RP.t rfl (RP.t rfl RP.nil))) ?_)
    exact R_intsN fun h => hv h.1
  have hv1 := hv.1
  by_cases hto : 0 ≤ to ∧ to ≤ st - 1
  case neg =>
    repeat' (first
 | refine A_go rfl ?_ | refine A_ifT rfl rfl ?_ | refine A_ifF rfl rfl ?_
 | refine A_offP rfl rfl ?_ | refine A_offH rfl rfl ?_ | refine A_off0 rfl rfl ?_
 | refine A_add rfl rfl rfl (by omega) ?_ | refine A_sub rfl rfl rfl (by omega) ?_ | refine A_mul rfl rfl rfl (by omega) ?_
 | ((first | refine A_lt rfl rfl rfl ?_ ?_ | refine A_eq rfl rfl rfl ?_ ?_) <;> intro hc <;> try first | contradiction | (exfalso; omega) | exact absurd rfl hc)
 | refine A_idxN1 rfl rfl rfl (by omega) ?_ | refine A_idx1 rfl rfl rfl (by omega) ?_
 | (refine A_callB rfl rfl (fun s H => c_ValidRule) ?_ ?_ <;> intro hc <;> try first | contradiction | (exfalso; omega) | exact absurd rfl hc | exact absurd (And.intro rfl rfl) hc | exact absurd (And.intro rfl (And.intro rfl rfl)) hc | exact absurd (Eq.trans (by assumption) (Eq.symm (by assumption))) hc)
 | (refine A_callB rfl rfl (fun s H => c_within) ?_ ?_ <;> intro hc <;> try first | contradiction | (exfalso; omega) | exact absurd rfl hc | exact absurd (And.intro rfl rfl) hc | exact absurd (And.intro rfl (And.intro rfl rfl)) hc | exact absurd (Eq.trans (by assumption) (Eq.symm (by assumption))) hc)
 | refine A_fld rfl rfl ?_ | refine A_p (by rfl) rfl ?_
 | refine A_ldI rfl (by first | omega | (simp; done) | (simp; omega)) rfl ?_ | refine A_ldB rfl (by first | omega | (simp; done) | (simp; omega)) rfl ?_ | refine A_ld rfl (by rfl) rfl ?_
 | refine A_ldW rfl (by simp) rfl ?_
 | refine A_st rfl rfl rfl ?_ | refine A_stE rfl rfl (by first | omega | (simp; done) | (simp; omega)) rfl ?_
 | ((first | refine A_box rfl rfl ?_ | refine A_boxC rfl rfl ?_ | refine A_makeN rfl rfl rfl (by omega) ?_ | refine A_make rfl rfl rfl (by omega) ?_) <;> intro pz hpz)
 | refine A_ret rfl (by exact (RP.t rfl (RP.t rfl RP.nil))) ?_)
    exact R_intsN fun h => hto h.2
  obtain ⟨S, w, E, rfl, hS, hw, hw1, hE, hl, hEb, hdg⟩ := hv.nat
  have hee : E * E ≤ 6561 := Nat.mul_le_mul hEb.2 hEb.2
  have hee2 : ((E * E : Nat) : Int) = (E : Int) * E := by push_cast; rfl
  have hee3 : ((E : Int) * E).toNat = E * E := by rw [← hee2]; rfl
  have hes := es_le hS hEb
  repeat' (first
 | refine A_go rfl ?_ | refine A_ifT rfl rfl ?_ | refine A_ifF rfl rfl ?_
 | refine A_offP rfl rfl ?_ | refine A_offH rfl rfl ?_ | refine A_off0 rfl rfl ?_
 | refine A_add rfl rfl rfl (by omega) ?_ | refine A_sub rfl rfl rfl (by omega) ?_ | refine A_mul rfl rfl rfl (by omega) ?_
 | ((first | refine A_lt rfl rfl rfl ?_ ?_ | refine A_eq rfl rfl rfl ?_ ?_) <;> intro hc <;> try first | contradiction | (exfalso; omega) | exact absurd rfl hc)
 | refine A_idxN1 rfl rfl rfl (by omega) ?_ | refine A_idx1 rfl rfl rfl (by omega) ?_
 | (refine A_callB rfl rfl (fun s H => c_ValidRule) ?_ ?_ <;> intro hc <;> try first | contradiction | (exfalso; omega) | exact absurd rfl hc | exact absurd (And.intro rfl rfl) hc | exact absurd (And.intro rfl (And.intro rfl rfl)) hc | exact absurd (Eq.trans (by assumption) (Eq.symm (by assumption))) hc)
 | (refine A_callB rfl rfl (fun s H => c_within) ?_ ?_ <;> intro hc <;> try first | contradiction | (exfalso; omega) | exact absurd rfl hc | exact absurd (And.intro rfl rfl) hc | exact absurd (And.intro rfl (And.intro rfl rfl)) hc | exact absurd (Eq.trans (by assumption) (Eq.symm (by assumption))) hc)
 | refine A_callV rfl rfl (fun s H => c_ends (hE := hE)) ?_
 | refine A_fld rfl rfl ?_ | refine A_p (by rfl) rfl ?_
 | refine A_ldI rfl (by first | omega | (simp; done) | (simp; omega)) rfl ?_ | refine A_ldB rfl (by first | omega | (simp; done) | (simp; omega)) rfl ?_ | refine A_ld rfl (by rfl) rfl ?_
 | refine A_ldW rfl (by simp) rfl ?_
 | refine A_st rfl rfl rfl ?_ | refine A_stE rfl rfl (by first | omega | (simp; done) | (simp; omega)) rfl ?_
 | ((first | refine A_box rfl rfl ?_ | refine A_boxC rfl rfl ?_ | refine A_makeN rfl rfl rfl (by omega) ?_ | refine A_make rfl rfl rfl (by omega) ?_) <;> intro pz hpz)
 | refine A_ret rfl (by exact (RP.t rfl (RP.t rfl RP.nil))) ?_)
  rename_i q2 _ _
  refine A_loop rfl [q2, pz] (fun m fr L => ∃ (a : Nat), m = E - a ∧ fr = [(1, iv to), (2, .c (.ptr q2 0)), (6, iv E), (7, .c (.sl pz 0 (E * E))), (29, iv E), (30, iv a)] ∧ L = [(q2, .rw 27 3 [ic S, ic re, .sl id_xs off_xs len_xs]), (pz, ints (ptab S E xs to (a * S)))] ∧ a ≤ E) E ⟨0, rfl, rfl, by simp only [Nat.zero_mul]; rfl, by omega⟩ ?_
  rintro m fr L ⟨a, rfl, rfl, rfl, ha⟩
  repeat' (first
 | refine A_go rfl ?_ | refine A_ifT rfl rfl ?_ | refine A_ifF rfl rfl ?_
 | refine A_offP rfl rfl ?_ | refine A_offH rfl rfl ?_ | refine A_off0 rfl rfl ?_
 | refine A_add rfl rfl rfl (by omega) ?_ | refine A_sub rfl rfl rfl (by omega) ?_ | refine A_mul rfl rfl rfl (by omega) ?_
 | ((first | refine A_lt rfl rfl rfl ?_ ?_ | refine A_eq rfl rfl rfl ?_ ?_) <;> intro hc <;> try first | contradiction | (exfalso; omega) | exact absurd rfl hc)
 | refine A_idxN1 rfl rfl rfl (by omega) ?_ | refine A_idx1 rfl rfl rfl (by omega) ?_
 | refine A_fld rfl rfl ?_ | refine A_p (by rfl) rfl ?_
 | refine A_ldI rfl (by first | omega | (simp; done) | (simp; omega)) rfl ?_ | refine A_ldB rfl (by first | omega | (simp; done) | (simp; omega)) rfl ?_ | refine A_ld rfl (by rfl) rfl ?_
 | refine A_ldW rfl (by simp) rfl ?_
 | refine A_st rfl rfl rfl ?_ | refine A_stE rfl rfl (by first | omega | (simp; done) | (simp; omega)) rfl ?_
 | ((first | refine A_box rfl rfl ?_ | refine A_boxC rfl rfl ?_ | refine A_makeN rfl rfl rfl (by omega) ?_ | refine A_make rfl rfl rfl (by omega) ?_) <;> intro pz hpz)
 | refine A_ret rfl (by exact (RP.t rfl (RP.t rfl RP.nil))) ?_)
  · refine A_loop rfl [q2, pz] (fun m fr L => ∃ (d : Nat), m = S - d ∧ fr = [(1, iv to), (2, .c (.ptr q2 0)), (6, iv E), (7, .c (.sl pz 0 (E * E))), (8, iv a), (29, iv E), (30, iv a), (34, iv S), (35, iv d)] ∧ L = [(q2, .rw 27 3 [ic S, ic re, .sl id_xs off_xs len_xs]), (pz, ints (ptab S E xs to (a * S + d)))] ∧ d ≤ S) S ⟨0, rfl, rfl, rfl, by omega⟩ ?_
    rintro m fr L ⟨d, rfl, rfl, rfl, hd⟩
    have ha' : a < E := by omega
    by_cases hd' : d < S
    · have h1 := lt_mul ha' hd'
      have h2 := mod_in (m := a * S + d) hEb.1
      have h3 := lt_mul ha' h2
      have h4 := ptab_in (S := S) (E := E) (xs := xs) (to := to) (a * S + d) (a * E + (a * S + d) % E)
      have h5 : (((a : Int) * E + (((a * S + d) % E : Nat) : Int))) = ((a * E + (a * S + d) % E : Nat) : Int) := by push_cast; rfl
      have h6 := ptab_len (S := S) (E := E) (xs := xs) (to := to) (a * S + d)
      have h7 : (a * E : Nat) ≤ 6561 := Nat.le_trans (Nat.mul_le_mul ha hEb.2) (by omega)
      have h8 : ((a * E : Nat) : Int) = (a : Int) * E := by push_cast; rfl
      have h9 := ptab_step (E := E) (a := a) (xs := xs) (to := to) hd'
      repeat' (first
 | refine A_go rfl ?_ | refine A_ifT rfl rfl ?_ | refine A_ifF rfl rfl ?_
 | refine A_offP rfl rfl ?_ | refine A_offH rfl rfl ?_ | refine A_off0 rfl rfl ?_
 | refine A_add rfl rfl rfl (by omega) ?_ | refine A_sub rfl rfl rfl (by omega) ?_ | refine A_mul rfl rfl rfl (by omega) ?_
 | ((first | refine A_lt rfl rfl rfl ?_ ?_ | refine A_eq rfl rfl rfl ?_ ?_) <;> intro hc <;> try first | contradiction | (exfalso; omega) | exact absurd rfl hc)
 | refine A_idxN1 rfl rfl rfl (by omega) ?_ | refine A_idx1 rfl rfl rfl (by omega) ?_
 | refine A_callV rfl rfl (fun s H => c_way (hE := hE) (hl := hl)) ?_
 | refine A_fld rfl rfl ?_ | refine A_p (by rfl) rfl ?_
 | refine A_ldI rfl (by first | omega | (simp; done) | (simp; omega)) rfl ?_ | refine A_ldB rfl (by first | omega | (simp; done) | (simp; omega)) rfl ?_ | refine A_ld rfl (by rfl) rfl ?_
 | refine A_ldW rfl (by simp) rfl ?_
 | refine A_st rfl rfl rfl ?_ | refine A_stE rfl rfl (by first | omega | (simp; done) | (simp; omega)) rfl ?_
 | ((first | refine A_box rfl rfl ?_ | refine A_boxC rfl rfl ?_ | refine A_makeN rfl rfl rfl (by omega) ?_ | refine A_make rfl rfl rfl (by omega) ?_) <;> intro pz hpz)
 | refine A_ret rfl (by exact (RP.t rfl (RP.t rfl RP.nil))) ?_)
      · refine A_round rfl [q2, pz] (S - (d + 1)) (by omega) ?_
        exact ⟨d + 1, rfl, rfl, by rw [h9, if_pos hc], by omega⟩
      · refine A_round rfl [q2, pz] (S - (d + 1)) (by omega) ?_
        exact ⟨d + 1, rfl, rfl, by rw [h9, if_neg hc], by omega⟩
    · obtain rfl : S = d := by omega
      have e1 : a * S + S = (a + 1) * S := by rw [Nat.add_mul]; omega
      repeat' (first
 | refine A_go rfl ?_ | refine A_ifT rfl rfl ?_ | refine A_ifF rfl rfl ?_
 | refine A_offP rfl rfl ?_ | refine A_offH rfl rfl ?_ | refine A_off0 rfl rfl ?_
 | refine A_add rfl rfl rfl (by omega) ?_ | refine A_sub rfl rfl rfl (by omega) ?_ | refine A_mul rfl rfl rfl (by omega) ?_
 | ((first | refine A_lt rfl rfl rfl ?_ ?_ | refine A_eq rfl rfl rfl ?_ ?_) <;> intro hc <;> try first | contradiction | (exfalso; omega) | exact absurd rfl hc)
 | refine A_idxN1 rfl rfl rfl (by omega) ?_ | refine A_idx1 rfl rfl rfl (by omega) ?_
 | refine A_fld rfl rfl ?_ | refine A_p (by rfl) rfl ?_
 | refine A_ldI rfl (by first | omega | (simp; done) | (simp; omega)) rfl ?_ | refine A_ldB rfl (by first | omega | (simp; done) | (simp; omega)) rfl ?_ | refine A_ld rfl (by rfl) rfl ?_
 | refine A_ldW rfl (by simp) rfl ?_
 | refine A_st rfl rfl rfl ?_ | refine A_stE rfl rfl (by first | omega | (simp; done) | (simp; omega)) rfl ?_
 | ((first | refine A_box rfl rfl ?_ | refine A_boxC rfl rfl ?_ | refine A_makeN rfl rfl rfl (by omega) ?_ | refine A_make rfl rfl rfl (by omega) ?_) <;> intro pz hpz)
 | refine A_ret rfl (by exact (RP.t rfl (RP.t rfl RP.nil))) ?_)
      refine A_round rfl [q2, pz] (E - (a + 1)) (by omega) ?_
      exact ⟨a + 1, rfl, rfl, by rw [e1], by omega⟩
  · obtain rfl : E = a := by omega
    have e : ptabR S re xs to = ptab S E xs to (E * S) := by rw [ptabR, hl, Int.toNat_natCast, show (2 * re).toNat = w - 1 by omega, ← hE]
    rw [e]
    exact R_ints ⟨hv, hto⟩ (by simp) (by omega)
end Go.Proofs.Ytlmbgaoeplffkaa
