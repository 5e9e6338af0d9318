/- How lists of numbers are searched. -/
import Derived.Test.YtlhidckolillaaaXlists
import Derived.Test.YtlhidckolillaaaXwithin
import Derived.Test.YtlhidckolillaaaFB
namespace Go.Proofs.Ytlhidckolillaaa
open Go Go.RowKit
set_option linter.unusedVariables false
set_option linter.unusedSimpArgs false
set_option maxRecDepth 100000
set_option maxHeartbeats 8000000
-- slices.Contains[[]int64,int64]
def L89 : AFun := ⟨9, [.t 4],
 (.seq (.ops false [⟨(some 4), .mv (.k (bv false)), none, []⟩])
 (.seq (.ops false [⟨(some 5), .mv (.t 0), none, []⟩,
   ⟨(some 6), .mv (.t 1), none, []⟩,
   ⟨(some 7), .call (.f 90) [(.t 5), (.t 6)], none, []⟩,
   ⟨(some 8), .bin .geq (.t 7) (.k (iv 0)), none, []⟩,
   ⟨(some 4), .mv (.t 8), none, []⟩])
 .ret))⟩
theorem code89 : acode Try.prog hints 89 = some L89 := by kernel_rfl

-- slices.Index[[]int64,int64]
def L90 : AFun := ⟨19, [.t 4],
 (.seq (.ops false [⟨(some 4), .mv (.k (iv 0)), none, []⟩])
 (.seq (.seq (.ops false [⟨(some 6), .mv (.t 0), none, []⟩,
    ⟨(some 7), .len false (.t 6), none, []⟩,
    ⟨(some 8), .mv (.k (iv 0)), none, []⟩])
  (.block 0 (.loop [0, 1, 7, 8] (.seq (.ops false [⟨(some 9), .bin .lss (.t 8) (.t 7), none, []⟩])
    (.seq (.cond (.t 9) .skip
      (.exit 0))
    (.seq (.block 1 (.seq (.ops false [⟨(some 10), .mv (.t 8), none, []⟩,
        ⟨(some 5), .mv (.t 10), none, []⟩])
      (.seq (.ops false [⟨(some 11), .mv (.t 1), none, []⟩,
        ⟨(some 12), .mv (.t 0), none, []⟩,
        ⟨(some 13), .mv (.t 5), none, []⟩,
        ⟨(some 14), .idxA 1 (.t 12) (.t 13), none, []⟩,
        ⟨(some 15), .load false 1 (.t 14), none, []⟩,
        ⟨(some 16), .bin .eql (.t 11) (.t 15), none, []⟩])
      (.cond (.t 16) (.seq (.ops false [⟨(some 17), .mv (.t 5), none, []⟩,
         ⟨(some 4), .mv (.t 17), none, []⟩])
       .ret)
       .skip))))
    (.ops false [⟨(some 18), .bin .add (.t 8) (.k (iv 1)), none, []⟩,
     ⟨(some 8), .mv (.t 18), none, []⟩])))))))
 (.seq (.ops false [⟨(some 4), .mv (.k (iv (-1))), none, []⟩])
 .ret)))⟩
theorem code90 : acode Try.prog hints 90 = some L90 := by kernel_rfl


theorem c_indexInt {s : St} [Wf s] {a : Int} {id_zs off_zs len_zs : Nat} {zs : List Int} [h_zs : ArgE ic s id_zs off_zs zs] (hl_zs : zs.length = len_zs := by first | rfl | simp | omega | (simp; omega)) (hb : len_zs ≤ 2000000 := by omega) :
    Fn [] 90 [.c (.sl id_zs off_zs len_zs), iv a] s fun r N => (∃ i : Int, r = iv i ∧ (0 ≤ i ↔ a ∈ zs)) ∧ N = [] := by
  refine F_start code90 ?_
  repeat' (first
 | refine A_go rfl ?_ | refine A_ifT rfl rfl ?_ | refine A_ifF rfl rfl ?_
 | refine A_add rfl rfl rfl (by omega) ?_
 | ((first | refine A_lt rfl rfl rfl ?_ ?_ | refine A_eq rfl rfl rfl ?_ ?_) <;> intro hc <;> try first | contradiction | (exfalso; omega) | exact absurd rfl hc)
 | refine A_idxN1 rfl rfl rfl (by omega) ?_ | refine A_idx1 rfl rfl rfl (by omega) ?_
 | refine A_p (by rfl) rfl ?_
 | refine A_ldI rfl (by first | omega | (simp; done) | (simp; omega)) rfl ?_ | refine A_ldB rfl (by first | omega | (simp; done) | (simp; omega)) rfl ?_ | refine A_ld rfl (by rfl) rfl ?_
 | refine A_ret1 rfl (by exact (RP.t rfl RP.nil)) ?_)
  refine A_loop rfl [] (fun m fr L => ∃ i : Nat, m = len_zs - i ∧ fr = [(0, .c (.sl id_zs off_zs len_zs)), (1, iv a), (7, iv len_zs), (8, iv i)] ∧ L = [] ∧ i ≤ len_zs ∧ a ∉ zs.take i) len_zs ⟨0, rfl, rfl, rfl, by omega, by simp⟩ ?_
  rintro m fr L ⟨i, rfl, rfl, rfl, hi, ht⟩
  repeat' (first
 | refine A_go rfl ?_ | refine A_ifT rfl rfl ?_ | refine A_ifF rfl rfl ?_
 | refine A_add rfl rfl rfl (by omega) ?_
 | ((first | refine A_lt rfl rfl rfl ?_ ?_ | refine A_eq rfl rfl rfl ?_ ?_) <;> intro hc <;> try first | contradiction | (exfalso; omega) | exact absurd rfl hc)
 | refine A_idxN1 rfl rfl rfl (by omega) ?_ | refine A_idx1 rfl rfl rfl (by omega) ?_
 | refine A_p (by rfl) rfl ?_
 | refine A_ldI rfl (by first | omega | (simp; done) | (simp; omega)) rfl ?_ | refine A_ldB rfl (by first | omega | (simp; done) | (simp; omega)) rfl ?_ | refine A_ld rfl (by rfl) rfl ?_
 | refine A_ret1 rfl (by exact (RP.t rfl RP.nil)) ?_)
  · exact R_n [] ⟨⟨i, rfl, ⟨fun _ => by first | (rw [← hc]; exact getD_mem (by omega)) | (rw [hc]; exact getD_mem (by omega)), fun _ => by omega⟩⟩, rfl⟩
  · refine A_round rfl [] (len_zs - (i + 1)) (by omega) ?_
    refine ⟨i + 1, rfl, rfl, rfl, by omega, ?_⟩
    rw [List.take_add_one, getD_some 0 (by omega)]
    simp only [Option.toList_some, List.mem_append, List.mem_singleton]
    rintro (h | h)
    · exact ht h
    · first | exact hc h.symm | exact hc h
  · obtain rfl : len_zs = i := by omega
    rw [List.take_of_length_le (by omega)] at ht
    exact R_n [] ⟨⟨-1, rfl, ⟨fun h => by omega, fun h => absurd h ht⟩⟩, rfl⟩
theorem c_containsInt {s : St} [Wf s] {a : Int} {id_zs off_zs len_zs : Nat} {zs : List Int} [h_zs : ArgE ic s id_zs off_zs zs] (hl_zs : zs.length = len_zs := by first | rfl | simp | omega | (simp; omega)) (hb : len_zs ≤ 2000000 := by omega) :
    FnB 89 [.c (.sl id_zs off_zs len_zs), iv a] s (a ∈ zs) := by
  refine F_start code89 ?_
  repeat' (first
 | refine A_go rfl ?_ | refine A_ifT rfl rfl ?_ | refine A_ifF rfl rfl ?_
 | ((first | refine A_ge rfl rfl rfl ?_ ?_) <;> intro hc <;> try first | contradiction | (exfalso; omega) | exact absurd rfl hc)
 | (refine A_callM rfl rfl (fun s H => c_indexInt) ?_; rintro _ _ ⟨⟨ix, rfl, hix⟩, rfl⟩) | (refine A_callM0 rfl rfl (fun s H => c_indexInt) ?_; rintro _ _ ⟨⟨ix, rfl, hix⟩, rfl⟩)
 | refine A_p (by rfl) rfl ?_
 | refine A_ret1 rfl (by exact (RP.t rfl RP.nil)) ?_)
  · exact R_t (hix.1 hc)
  · exact R_f fun h => by have := hix.2 h; omega

end Go.Proofs.Ytlhidckolillaaa
