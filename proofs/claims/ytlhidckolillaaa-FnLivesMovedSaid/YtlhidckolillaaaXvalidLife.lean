/- Which lives are valid. -/
import Derived.Test.YtlhidckolillaaaXvalid
import Derived.Test.YtlhidckolillaaaFB
namespace Go.Proofs.Ytlhidckolillaaa
open Go Go.RowKit
set_option linter.unusedVariables false
set_option linter.unusedSimpArgs false
set_option maxRecDepth 100000
set_option maxHeartbeats 8000000
-- impl.areCounts
def L58 : AFun := ⟨22, [.t 2],
 (.seq (.ops false [⟨(some 2), .mv (.k (bv false)), none, []⟩])
 (.seq (.seq (.ops false [⟨(some 3), .mv (.k (iv 1)), none, []⟩])
  (.block 0 (.loop [0, 3] (.seq (.seq (.ops false [⟨(some 4), .mv (.t 3), none, []⟩,
       ⟨(some 5), .mv (.t 0), none, []⟩,
       ⟨(some 6), .len false (.t 5), none, []⟩,
       ⟨(some 7), .bin .lss (.t 4) (.t 6), none, []⟩])
     (.cond (.t 7) .skip
      (.exit 0)))
    (.seq (.block 1 (.seq (.ops true [⟨(some 10), .mv (.t 0), none, []⟩,
        ⟨(some 11), .mv (.t 3), none, []⟩,
        ⟨(some 12), .idxA 1 (.t 10) (.t 11), none, []⟩,
        ⟨(some 13), .load false 1 (.t 12), none, []⟩,
        ⟨(some 14), .mv (.t 0), none, []⟩,
        ⟨(some 15), .mv (.t 3), none, []⟩,
        ⟨(some 16), .bin .sub (.t 15) (.k (iv 1)), none, []⟩,
        ⟨(some 17), .idxA 1 (.t 14) (.t 16), none, []⟩,
        ⟨(some 18), .load false 1 (.t 17), none, []⟩,
        ⟨(some 19), .bin .leq (.t 13) (.t 18), none, []⟩])
      (.cond (.t 19) (.seq (.ops false [⟨(some 2), .mv (.k (bv false)), none, []⟩])
       .ret)
       .skip)))
    (.ops false [⟨(some 8), .mv (.t 3), none, []⟩,
     ⟨(some 9), .bin .add (.t 8) (.k (iv 1)), none, []⟩,
     ⟨(some 3), .mv (.t 9), none, []⟩]))))))
 (.seq (.ops false [⟨(some 20), .mv (.t 0), none, []⟩,
   ⟨(some 21), .call (.f 60) [(.t 20), (.k (iv 0)), (.k (iv 8))], none, []⟩,
   ⟨(some 2), .mv (.t 21), none, []⟩])
 .ret)))⟩
theorem code58 : acode Try.prog hints 58 = some L58 := by kernel_rfl

-- impl.ValidLife
def L23 : AFun := ⟨11, [.t 2],
 (.seq (.ops false [⟨(some 1), .box 39 (.t 0), none, []⟩,
   ⟨(some 2), .mv (.k (bv false)), none, []⟩])
 (.seq (.ops false [⟨(some 3), .fieldA 0 (.t 1), none, []⟩,
   ⟨(some 4), .load false 1 (.t 3), none, []⟩,
   ⟨(some 5), .call (.f 58) [(.t 4)], none, []⟩,
   ⟨(some 6), .mv (.t 5), none, []⟩,
   ⟨(some 7), .fieldA 1 (.t 1), (some (6, true)), []⟩,
   ⟨(some 8), .load false 1 (.t 7), (some (6, true)), []⟩,
   ⟨(some 9), .call (.f 58) [(.t 8)], (some (6, true)), []⟩,
   ⟨(some 10), .pick (.t 6) (.t 9) (.k (bv false)), none, []⟩,
   ⟨(some 2), .mv (.t 10), none, []⟩])
 .ret))⟩
theorem code23 : acode Try.prog hints 23 = some L23 := by kernel_rfl


/-- Numbers of neighbours, rising. -/
def Rise (xs : List Int) (n : Nat) : Prop := ∀ i, i + 1 < n → xs.getD i 0 < xs.getD (i + 1) 0
def Cnts (xs : List Int) : Prop := Rise xs xs.length ∧ ∀ x ∈ xs, 0 ≤ x ∧ x ≤ 8
theorem Rise.succ {xs : List Int} {i : Nat} (h : Rise xs i) (hx : 0 < i → xs.getD (i - 1) 0 < xs.getD i 0) : Rise xs (i + 1) := by
  intro j hj
  by_cases e : j + 1 < i
  · exact h j e
  · have := hx (by omega)
    have e1 : i - 1 = j := by omega
    have e2 : i = j + 1 := by omega
    rw [e1] at this; rw [← e2]; exact this
theorem c_areCounts {s : St} [Wf s] {id_xs off_xs len_xs : Nat} {xs : List Int} [h_xs : ArgE ic s id_xs off_xs xs] (hl_xs : xs.length = len_xs := by first | rfl | simp | omega | (simp; omega)) (hb : len_xs ≤ 9223372036854775806 := by omega) : FnB 58 [.c (.sl id_xs off_xs len_xs)] s (Cnts xs) := by
  refine F_start code58 ?_
  repeat' (first
 | refine A_go rfl ?_ | refine A_ifT rfl rfl ?_ | refine A_ifF rfl rfl ?_
 | refine A_add rfl rfl rfl (by omega) ?_ | refine A_sub rfl rfl rfl (by omega) ?_
 | ((first | refine A_lt rfl rfl rfl ?_ ?_ | refine A_le rfl rfl rfl ?_ ?_) <;> intro hc <;> try first | contradiction | (exfalso; omega) | exact absurd rfl hc)
 | refine A_idxN1 rfl rfl rfl (by omega) ?_ | refine A_idx1 rfl rfl rfl (by omega) ?_
 | refine A_p (by rfl) rfl ?_
 | refine A_ldI rfl (by first | omega | (simp; done) | (simp; omega)) rfl ?_ | refine A_ldB rfl (by first | omega | (simp; done) | (simp; omega)) rfl ?_ | refine A_ld rfl (by rfl) rfl ?_
 | refine A_ret1 rfl (by exact (RP.t rfl RP.nil)) ?_)
  refine A_loop rfl [] (fun m fr L => ∃ i, m = len_xs + 1 - i ∧ fr = [(0, .c (.sl id_xs off_xs len_xs)), (3, iv ((i + 1 : Nat) : Int))] ∧ L = [] ∧ (i + 1 ≤ len_xs ∨ i = 0) ∧ Rise xs (i + 1)) (len_xs + 1) ⟨0, rfl, rfl, rfl, .inr rfl, fun j hj => by omega⟩ ?_
  rintro m fr L ⟨i, rfl, rfl, rfl, hi, ht⟩
  by_cases hin : i + 1 < len_xs
  · repeat' (first
 | refine A_go rfl ?_ | refine A_ifT rfl rfl ?_ | refine A_ifF rfl rfl ?_
 | refine A_add rfl rfl rfl (by omega) ?_ | refine A_sub rfl rfl rfl (by omega) ?_
 | ((first | refine A_lt rfl rfl rfl ?_ ?_ | refine A_le rfl rfl rfl ?_ ?_) <;> intro hc <;> try first | contradiction | (exfalso; omega) | exact absurd rfl hc)
 | refine A_idxN1 rfl rfl rfl (by omega) ?_ | refine A_idx1 rfl rfl rfl (by omega) ?_
 | refine A_p (by rfl) rfl ?_
 | refine A_ldI rfl (by first | omega | (simp; done) | (simp; omega)) rfl ?_ | refine A_ldB rfl (by first | omega | (simp; done) | (simp; omega)) rfl ?_ | refine A_ld rfl (by rfl) rfl ?_
 | refine A_ret1 rfl (by exact (RP.t rfl RP.nil)) ?_)
    all_goals have e2 : (((i + 1 : Nat) : Int) - 1).toNat = i := by omega
    all_goals rw [e2] at hc
    · exact R_f fun h => by have := h.1 i (by omega); omega
    · refine A_round rfl [] (len_xs + 1 - (i + 1)) (by omega) ?_
      exact ⟨i + 1, rfl, rfl, rfl, by omega, ht.succ fun _ => hc⟩
  · repeat' (first
 | refine A_go rfl ?_ | refine A_ifT rfl rfl ?_ | refine A_ifF rfl rfl ?_
 | refine A_add rfl rfl rfl (by omega) ?_ | refine A_sub rfl rfl rfl (by omega) ?_
 | ((first | refine A_lt rfl rfl rfl ?_ ?_ | refine A_le rfl rfl rfl ?_ ?_) <;> intro hc <;> try first | contradiction | (exfalso; omega) | exact absurd rfl hc)
 | refine A_idxN1 rfl rfl rfl (by omega) ?_ | refine A_idx1 rfl rfl rfl (by omega) ?_
 | (refine A_callB rfl rfl (fun s H => c_areWithin) ?_ ?_ <;> intro hc <;> try first | contradiction | (exfalso; omega) | exact absurd rfl hc | exact absurd (And.intro rfl rfl) hc | exact absurd (And.intro rfl (And.intro rfl rfl)) hc | exact absurd (Eq.trans (by assumption) (Eq.symm (by assumption))) hc)
 | refine A_p (by rfl) rfl ?_
 | refine A_ldI rfl (by first | omega | (simp; done) | (simp; omega)) rfl ?_ | refine A_ldB rfl (by first | omega | (simp; done) | (simp; omega)) rfl ?_ | refine A_ld rfl (by rfl) rfl ?_
 | refine A_ret1 rfl (by exact (RP.t rfl RP.nil)) ?_)
    · exact R_t ⟨by have e : xs.length ≤ i + 1 := by omega
                    exact fun j hj => ht j (by omega), by assumption⟩
    · exact R_f fun h => absurd h.2 (by assumption)
theorem c_implValidLife {s : St} [Wf s] {id_xs off_xs len_xs : Nat} {xs : List Int} [h_xs : ArgE ic s id_xs off_xs xs] (hl_xs : xs.length = len_xs := by first | rfl | simp | omega | (simp; omega)) {id_ys off_ys len_ys : Nat} {ys : List Int} [h_ys : ArgE ic s id_ys off_ys ys] (hl_ys : ys.length = len_ys := by first | rfl | simp | omega | (simp; omega)) (hb : len_xs ≤ 9223372036854775806 ∧ len_ys ≤ 9223372036854775806 := by omega) : FnB 23 [.agg [.sl id_xs off_xs len_xs, .sl id_ys off_ys len_ys]] s (Cnts xs ∧ Cnts ys) := by
  refine F_start code23 ?_
  repeat' (first
 | refine A_go rfl ?_ | refine A_ifT rfl rfl ?_ | refine A_ifF rfl rfl ?_
 | refine A_offP rfl rfl ?_ | refine A_offH rfl rfl ?_ | refine A_off0 rfl rfl ?_
 | (refine A_callB rfl rfl (fun s H => c_areCounts (xs := xs)) ?_ ?_ <;> intro hc <;> try first | contradiction | (exfalso; omega) | exact absurd rfl hc | exact absurd (And.intro rfl rfl) hc | exact absurd (And.intro rfl (And.intro rfl rfl)) hc | exact absurd (Eq.trans (by assumption) (Eq.symm (by assumption))) hc)
 | (refine A_callB rfl rfl (fun s H => c_areCounts (xs := ys)) ?_ ?_ <;> intro hc <;> try first | contradiction | (exfalso; omega) | exact absurd rfl hc | exact absurd (And.intro rfl rfl) hc | exact absurd (And.intro rfl (And.intro rfl rfl)) hc | exact absurd (Eq.trans (by assumption) (Eq.symm (by assumption))) hc)
 | refine A_fld rfl rfl ?_ | refine A_p (by rfl) rfl ?_
 | refine A_ldI rfl (by first | omega | (simp; done) | (simp; omega)) rfl ?_ | refine A_ldB rfl (by first | omega | (simp; done) | (simp; omega)) rfl ?_ | refine A_ld rfl (by rfl) rfl ?_
 | ((first | refine A_box rfl rfl ?_ | refine A_boxC rfl rfl ?_) <;> intro pz hpz)
 | refine A_ret1 rfl (by exact (RP.t rfl RP.nil)) ?_)
  all_goals first | exact R_t ⟨by assumption, by assumption⟩ | exact R_f (fun h => absurd h.1 (by assumption)) | exact R_f (fun h => absurd h.2 (by assumption))
end Go.Proofs.Ytlhidckolillaaa
