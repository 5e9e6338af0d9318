/- What markInt64S and heldInt64S do. -/
import Derived.Test.YtlmbgaoeplffkaaXtoInts
import Derived.Test.YtlmbgaoeplffkaaFB
namespace Go.Proofs.Ytlmbgaoeplffkaa
open Go Go.RowKit
set_option linter.unusedVariables false
set_option linter.unusedSimpArgs false
set_option maxRecDepth 100000
set_option maxHeartbeats 8000000
-- laws.markInt64S
def L24 : AFun := ⟨19, [.t 4],
 (.seq (.ops false [⟨(some 4), .mv (.k (iv 0)), none, []⟩])
 (.seq (.seq (.ops false [⟨(some 5), .mv (.k (iv 0)), none, []⟩])
  (.block 0 (.loop [0, 1, 5] (.seq (.seq (.ops false [⟨(some 6), .mv (.t 5), none, []⟩,
       ⟨(some 7), .mv (.t 0), none, []⟩,
       ⟨(some 8), .len false (.t 7), none, []⟩,
       ⟨(some 9), .bin .lss (.t 6) (.t 8), none, []⟩])
     (.cond (.t 9) .skip
      (.exit 0)))
    (.seq (.block 1 (.seq (.ops false [⟨(some 12), .mv (.t 0), none, []⟩,
        ⟨(some 13), .mv (.t 5), none, []⟩,
        ⟨(some 14), .mv (.t 1), none, []⟩,
        ⟨(some 15), .idxA 1 (.t 12) (.t 13), none, []⟩,
        ⟨none, .store 1 (.t 15) (.t 14), none, []⟩])
      (.ops false [⟨(some 16), .mv (.t 1), none, []⟩,
       ⟨(some 17), .bin .add (.t 16) (.k (iv 1)), none, []⟩,
       ⟨(some 1), .mv (.t 17), none, []⟩])))
    (.ops false [⟨(some 10), .mv (.t 5), none, []⟩,
     ⟨(some 11), .bin .add (.t 10) (.k (iv 1)), none, []⟩,
     ⟨(some 5), .mv (.t 11), none, []⟩]))))))
 (.seq (.ops false [⟨(some 18), .mv (.t 1), none, []⟩,
   ⟨(some 4), .mv (.t 18), none, []⟩])
 .ret)))⟩
theorem code24 : acode Try.prog hints 24 = some L24 := by kernel_rfl

-- laws.heldInt64S
def L25 : AFun := ⟨21, [.t 4],
 (.seq (.ops false [⟨(some 4), .mv (.k (iv 0)), none, []⟩])
 (.seq (.seq (.ops false [⟨(some 5), .mv (.k (iv 0)), none, []⟩])
  (.block 0 (.loop [0, 1, 5] (.seq (.seq (.ops false [⟨(some 6), .mv (.t 5), none, []⟩,
       ⟨(some 7), .mv (.t 0), none, []⟩,
       ⟨(some 8), .len false (.t 7), none, []⟩,
       ⟨(some 9), .bin .lss (.t 6) (.t 8), none, []⟩])
     (.cond (.t 9) .skip
      (.exit 0)))
    (.seq (.block 1 (.seq (.seq (.ops false [⟨(some 12), .mv (.t 0), none, []⟩,
         ⟨(some 13), .mv (.t 5), none, []⟩,
         ⟨(some 14), .idxA 1 (.t 12) (.t 13), none, []⟩,
         ⟨(some 15), .load false 1 (.t 14), none, []⟩,
         ⟨(some 16), .mv (.t 1), none, []⟩,
         ⟨(some 17), .bin .neq (.t 15) (.t 16), none, []⟩])
       (.cond (.t 17) (.seq (.ops false [⟨(some 4), .mv (.k (iv (-1))), none, []⟩])
        .ret)
        .skip))
      (.ops false [⟨(some 18), .mv (.t 1), none, []⟩,
       ⟨(some 19), .bin .add (.t 18) (.k (iv 1)), none, []⟩,
       ⟨(some 1), .mv (.t 19), none, []⟩])))
    (.ops false [⟨(some 10), .mv (.t 5), none, []⟩,
     ⟨(some 11), .bin .add (.t 10) (.k (iv 1)), none, []⟩,
     ⟨(some 5), .mv (.t 11), none, []⟩]))))))
 (.seq (.ops false [⟨(some 20), .mv (.t 1), none, []⟩,
   ⟨(some 4), .mv (.t 20), none, []⟩])
 .ret)))⟩
theorem code25 : acode Try.prog hints 25 = some L25 := by kernel_rfl


/-- Numbers that rise by one. -/
def marks (k : Int) (n : Nat) : List Int := (List.range n).map fun i : Nat => k + (i : Int)
@[simp] theorem marks_len {k : Int} {n : Nat} : (marks k n).length = n := by simp [marks]
theorem marks_get {k : Int} {n i : Nat} (h : i < n) : (marks k n).getD i 0 = k + i := by simp [marks, List.getD_eq_getElem?_getD, h]
theorem c_markInt64S {s : St} [Wf s] {p len : Nat} {xs : List Int} {k : Int} [hx : Bor s p (ints xs)] (hl : xs.length = len := by first | rfl | simp | omega | (simp; omega)) (hb : 0 ≤ k ∧ k + len ≤ 9223372036854775807 := by omega) :
    Fn [p] 24 [.c (.sl p 0 len), iv k] s fun r N => r = iv (k + len) ∧ N = [(p, ints (marks k len))] := by
  refine F_start1 code24 ?_
  repeat' (first
 | refine A_go rfl ?_ | refine A_ifT rfl rfl ?_ | refine A_ifF rfl rfl ?_
 | refine A_add rfl rfl rfl (by omega) ?_
 | ((first | refine A_lt rfl rfl rfl ?_ ?_) <;> intro hc <;> try first | contradiction | (exfalso; omega) | exact absurd rfl hc)
 | refine A_idxN1 rfl rfl rfl (by omega) ?_ | refine A_idx1 rfl rfl rfl (by omega) ?_
 | refine A_p (by rfl) rfl ?_
 | refine A_st rfl rfl rfl ?_ | refine A_stE rfl rfl (by first | omega | (simp; done) | (simp; omega)) rfl ?_
 | refine A_ret1 rfl (by exact (RP.t rfl RP.nil)) ?_)
  refine A_loop rfl [p] (fun m fr L => ∃ i j ys, i ≤ len ∧ m = len - i ∧ fr = [(0, .c (.sl p 0 len)), (1, iv j), (5, iv i)] ∧ j = k + i ∧ L = [(p, ints ys)] ∧ ys.length = len ∧ ys.take i = (marks k len).take i) len ⟨0, _, _, by omega, rfl, rfl, by omega, rfl, by first | assumption | simp, by simp⟩ ?_
  rintro m fr L ⟨i, j, ys, hi, rfl, rfl, rfl, rfl, hy, ht⟩
  repeat' (first
 | refine A_go rfl ?_ | refine A_ifT rfl rfl ?_ | refine A_ifF rfl rfl ?_
 | refine A_add rfl rfl rfl (by omega) ?_
 | ((first | refine A_lt rfl rfl rfl ?_ ?_) <;> intro hc <;> try first | contradiction | (exfalso; omega) | exact absurd rfl hc)
 | refine A_idxN1 rfl rfl rfl (by omega) ?_ | refine A_idx1 rfl rfl rfl (by omega) ?_
 | refine A_p (by rfl) rfl ?_
 | refine A_st rfl rfl rfl ?_ | refine A_stE rfl rfl (by first | omega | (simp; done) | (simp; omega)) rfl ?_
 | refine A_ret1 rfl (by exact (RP.t rfl RP.nil)) ?_)
  · refine A_round rfl [p] (len - (i + 1)) (by omega) ?_
    refine ⟨i + 1, _, _, by omega, rfl, rfl, by omega, rfl, by simp [hy], ?_⟩
    · rw [← marks_get (n := len) (by omega)]; exact take_set ht (by omega) (by simp; omega)
  · have hi' : i = len := by omega
    subst hi'
    obtain rfl := take_end ht (by omega) (by simp)
    exact R_n [p] ⟨rfl, rfl⟩
theorem c_heldInt64S {s : St} [Wf s] {id off len n : Nat} {k k' : Int} [hx : ArgE ic s id off (marks k n)] (hl : n = len := by first | rfl | simp | omega) (hk : k' = k := by first | rfl | omega) (hb : 0 ≤ k ∧ k + n ≤ 9223372036854775807 := by omega) :
    FnV 25 [.c (.sl id off len), iv k'] s (iv (k + len)) := by
  subst hl; subst hk
  refine F_start code25 ?_
  repeat' (first
 | refine A_go rfl ?_ | refine A_ifT rfl rfl ?_ | refine A_ifF rfl rfl ?_
 | refine A_add rfl rfl rfl (by omega) ?_
 | ((first | refine A_lt rfl rfl rfl ?_ ?_ | refine A_ne rfl rfl rfl ?_ ?_) <;> intro hc <;> try first | contradiction | (exfalso; omega) | exact absurd rfl hc)
 | refine A_idxN1 rfl rfl rfl (by omega) ?_ | refine A_idx1 rfl rfl rfl (by omega) ?_
 | refine A_p (by rfl) rfl ?_
 | refine A_ldI rfl (by first | omega | (simp; done) | (simp; omega)) rfl ?_ | refine A_ldB rfl (by first | omega | (simp; done) | (simp; omega)) rfl ?_ | refine A_ld rfl (by rfl) rfl ?_
 | refine A_ret1 rfl (by exact (RP.t rfl RP.nil)) ?_)
  refine A_loop rfl [] (fun m fr L => ∃ i j, i ≤ n ∧ m = n - i ∧ fr = [(0, .c (.sl id off n)), (1, iv j), (5, iv i)] ∧ j = k' + i ∧ L = []) n ⟨0, _, by omega, rfl, rfl, by omega, rfl⟩ ?_
  rintro m fr L ⟨i, j, hi, rfl, rfl, rfl, rfl⟩
  by_cases hin : i < n
  · have hm := marks_get (k := k') hin
    repeat' (first
 | refine A_go rfl ?_ | refine A_ifT rfl rfl ?_ | refine A_ifF rfl rfl ?_
 | refine A_add rfl rfl rfl (by omega) ?_
 | ((first | refine A_lt rfl rfl rfl ?_ ?_ | refine A_ne rfl rfl rfl ?_ ?_) <;> intro hc <;> try first | contradiction | (exfalso; omega) | exact absurd rfl hc)
 | refine A_idxN1 rfl rfl rfl (by omega) ?_ | refine A_idx1 rfl rfl rfl (by omega) ?_
 | refine A_p (by rfl) rfl ?_
 | refine A_ldI rfl (by first | omega | (simp; done) | (simp; omega)) rfl ?_ | refine A_ldB rfl (by first | omega | (simp; done) | (simp; omega)) rfl ?_ | refine A_ld rfl (by rfl) rfl ?_
 | refine A_ret1 rfl (by exact (RP.t rfl RP.nil)) ?_)
    refine A_round rfl [] (n - (i + 1)) (by omega) ?_
    exact ⟨i + 1, _, by omega, rfl, rfl, by omega, rfl⟩
  · have hi' : i = n := by omega
    subst hi'
    repeat' (first
 | refine A_go rfl ?_ | refine A_ifT rfl rfl ?_ | refine A_ifF rfl rfl ?_
 | refine A_add rfl rfl rfl (by omega) ?_
 | ((first | refine A_lt rfl rfl rfl ?_ ?_ | refine A_ne rfl rfl rfl ?_ ?_) <;> intro hc <;> try first | contradiction | (exfalso; omega) | exact absurd rfl hc)
 | refine A_idxN1 rfl rfl rfl (by omega) ?_ | refine A_idx1 rfl rfl rfl (by omega) ?_
 | refine A_p (by rfl) rfl ?_
 | refine A_ldI rfl (by first | omega | (simp; done) | (simp; omega)) rfl ?_ | refine A_ldB rfl (by first | omega | (simp; done) | (simp; omega)) rfl ?_ | refine A_ld rfl (by rfl) rfl ?_
 | refine A_ret1 rfl (by exact (RP.t rfl RP.nil)) ?_)
    exact R_v rfl

end Go.Proofs.Ytlmbgaoeplffkaa
