/- What toInt64S does. -/
import Derived.Test.YtlmbgaoeplffkaaFB
namespace Go.Proofs.Ytlmbgaoeplffkaa
open Go Go.RowKit
set_option linter.unusedVariables false
set_option linter.unusedSimpArgs false
set_option maxRecDepth 100000
set_option maxHeartbeats 8000000
-- laws.toInt64S
def L27 : AFun := ⟨22, [.t 2],
 (.seq (.ops false [⟨(some 2), .mv (.k (.c (.sl 0 0 0))), none, []⟩])
 (.seq (.ops false [⟨(some 5), .mv (.t 0), none, []⟩,
   ⟨(some 6), .len false (.t 5), none, []⟩,
   ⟨(some 7), .makeS 2 1 8 [.int .i64 0] (.t 6) (.t 6), none, []⟩,
   ⟨(some 3), .mv (.t 7), none, []⟩])
 (.seq (.seq (.ops false [⟨(some 4), .mv (.k (iv 0)), none, []⟩])
  (.block 0 (.loop [0, 3, 4] (.seq (.seq (.ops false [⟨(some 8), .mv (.t 4), none, []⟩,
       ⟨(some 9), .mv (.t 0), none, []⟩,
       ⟨(some 10), .len false (.t 9), none, []⟩,
       ⟨(some 11), .bin .lss (.t 8) (.t 10), none, []⟩])
     (.cond (.t 11) .skip
      (.exit 0)))
    (.seq (.block 1 (.ops false [⟨(some 14), .mv (.t 3), none, []⟩,
       ⟨(some 15), .mv (.t 4), none, []⟩,
       ⟨(some 16), .mv (.t 0), none, []⟩,
       ⟨(some 17), .mv (.t 4), none, []⟩,
       ⟨(some 18), .idxA 1 (.t 16) (.t 17), none, []⟩,
       ⟨(some 19), .load false 1 (.t 18), none, []⟩,
       ⟨(some 20), .idxA 1 (.t 14) (.t 15), none, []⟩,
       ⟨none, .store 1 (.t 20) (.t 19), none, []⟩]))
    (.ops false [⟨(some 12), .mv (.t 4), none, []⟩,
     ⟨(some 13), .bin .add (.t 12) (.k (iv 1)), none, []⟩,
     ⟨(some 4), .mv (.t 13), none, []⟩]))))))
 (.seq (.ops false [⟨(some 21), .mv (.t 3), none, []⟩,
   ⟨(some 2), .mv (.t 21), none, []⟩])
 .ret))))⟩
theorem code27 : acode Try.prog hints 27 = some L27 := by kernel_rfl


abbrev ints (xs : List Int) : AObj := .rw 2 1 (xs.map ic)
theorem take_set {α : Type} {ys xs : List α} {i : Nat} {d : α} (h : ys.take i = xs.take i) (hy : i < ys.length) (hx : i < xs.length) : (ys.set i (xs.getD i d)).take (i + 1) = xs.take (i + 1) := by
  rw [List.take_add_one, List.take_add_one, List.take_set_of_le (Nat.le_refl i), h]
  simp [hy, hx]
theorem take_end {α : Type} {ys xs : List α} {i : Nat} (h : ys.take i = xs.take i) (h1 : ys.length ≤ i) (h2 : xs.length ≤ i) : ys = xs := by
  rw [List.take_of_length_le h1, List.take_of_length_le h2] at h; exact h
theorem c_toInt64S {s : St} [Wf s] {id off len : Nat} {xs : List Int} [hx : ArgE ic s id off xs] (hl : xs.length = len := by first | rfl | simp | omega | (simp; omega)) (hb : len ≤ 2000000 := by omega) :
    Fn [] 27 [.c (.sl id off len)] s fun r N => ∃ p, r = .c (.sl p 0 len) ∧ N = [(p, ints xs)] := by
  refine F_start code27 ?_
  repeat' (first
 | refine A_go rfl ?_ | refine A_ifT rfl rfl ?_ | refine A_ifF rfl rfl ?_
 | refine A_add rfl rfl rfl (by omega) ?_
 | ((first | refine A_lt rfl rfl rfl ?_ ?_) <;> intro hc <;> try first | contradiction | (exfalso; omega) | exact absurd rfl hc)
 | refine A_idxN1 rfl rfl rfl (by omega) ?_ | refine A_idx1 rfl rfl rfl (by omega) ?_
 | refine A_p (by rfl) rfl ?_
 | refine A_ldI rfl (by first | omega | (simp; done) | (simp; omega)) rfl ?_ | refine A_ldB rfl (by first | omega | (simp; done) | (simp; omega)) rfl ?_ | refine A_ld rfl (by rfl) rfl ?_
 | refine A_st rfl rfl rfl ?_ | refine A_stE rfl rfl (by first | omega | (simp; done) | (simp; omega)) rfl ?_
 | ((first | refine A_makeN rfl rfl rfl (by omega) ?_ | refine A_make rfl rfl rfl (by omega) ?_) <;> intro pz hpz)
 | refine A_ret1 rfl (by exact (RP.t rfl RP.nil)) ?_)
  refine A_loop rfl [pz] (fun m fr L => ∃ i ys, i ≤ len ∧ m = len - i ∧ fr = [(0, .c (.sl id off len)), (3, .c (.sl pz 0 len)), (4, iv i)] ∧ L = [(pz, ints ys)] ∧ ys.length = len ∧ ys.take i = xs.take i) len ⟨0, _, by omega, rfl, rfl, rfl, by simp, by simp⟩ ?_
  rintro m fr L ⟨i, ys, hi, rfl, rfl, rfl, hy, ht⟩
  repeat' (first
 | refine A_go rfl ?_ | refine A_ifT rfl rfl ?_ | refine A_ifF rfl rfl ?_
 | refine A_add rfl rfl rfl (by omega) ?_
 | ((first | refine A_lt rfl rfl rfl ?_ ?_) <;> intro hc <;> try first | contradiction | (exfalso; omega) | exact absurd rfl hc)
 | refine A_idxN1 rfl rfl rfl (by omega) ?_ | refine A_idx1 rfl rfl rfl (by omega) ?_
 | refine A_p (by rfl) rfl ?_
 | refine A_ldI rfl (by first | omega | (simp; done) | (simp; omega)) rfl ?_ | refine A_ldB rfl (by first | omega | (simp; done) | (simp; omega)) rfl ?_ | refine A_ld rfl (by rfl) rfl ?_
 | refine A_st rfl rfl rfl ?_ | refine A_stE rfl rfl (by first | omega | (simp; done) | (simp; omega)) rfl ?_
 | ((first | refine A_makeN rfl rfl rfl (by omega) ?_ | refine A_make rfl rfl rfl (by omega) ?_) <;> intro pz hpz)
 | refine A_ret1 rfl (by exact (RP.t rfl RP.nil)) ?_)
  · refine A_round rfl [pz] (len - (i + 1)) (by omega) ?_
    exact ⟨i + 1, _, by omega, rfl, rfl, rfl, by simp [hy], take_set ht (by omega) (by omega)⟩
  · obtain rfl := take_end ht (by omega) (by omega)
    exact R_s ⟨pz, rfl, rfl⟩

end Go.Proofs.Ytlmbgaoeplffkaa
