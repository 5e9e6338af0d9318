/- Tables that lead back. -/
import Derived.Test.YtlhidckolillaaaXturn
import Derived.Test.YtlhidckolillaaaXmade
import Derived.Test.YtlhidckolillaaaFB
namespace Go.Proofs.Ytlhidckolillaaa
open Go Go.RowKit
set_option linter.unusedVariables false
set_option linter.unusedSimpArgs false
set_option maxRecDepth 100000
set_option maxHeartbeats 8000000
-- impl.BackTable
def L32 : AFun := ⟨24, [.t 2, .t 3],
 (.seq (.ops false [⟨(some 2), .mv (.k (.c (.sl 0 0 0))), none, []⟩,
   ⟨(some 3), .mv (.k (bv false)), none, []⟩])
 (.seq (.seq (.ops false [⟨(some 7), .mv (.t 0), none, []⟩,
    ⟨(some 8), .call (.f 33) [(.t 7)], none, []⟩,
    ⟨(some 9), .un .not (.t 8), none, []⟩])
  (.cond (.t 9) (.seq (.ops false [⟨(some 2), .mv (.k (.c (.sl 0 0 0))), none, []⟩,
     ⟨(some 3), .mv (.k (bv false)), none, []⟩])
   .ret)
   .skip))
 (.seq (.ops false [⟨(some 10), .makeS 2 1 8 [.int .i64 0] (.k (iv 16)) (.k (iv 16)), none, []⟩,
   ⟨(some 4), .mv (.t 10), none, []⟩])
 (.seq (.seq (.ops false [⟨(some 11), .mv (.t 0), none, []⟩,
    ⟨(some 12), .len false (.t 11), none, []⟩,
    ⟨(some 13), .mv (.k (iv 0)), none, []⟩])
  (.block 0 (.loop [4, 11, 12, 13] (.seq (.ops false [⟨(some 14), .bin .lss (.t 13) (.t 12), none, []⟩])
    (.seq (.cond (.t 14) .skip
      (.exit 0))
    (.seq (.block 1 (.seq (.ops false [⟨(some 15), .mv (.t 13), none, []⟩,
        ⟨(some 16), .idxA 1 (.t 11) (.t 13), none, []⟩,
        ⟨(some 17), .load false 1 (.t 16), none, []⟩,
        ⟨(some 5), .mv (.t 15), none, []⟩,
        ⟨(some 6), .mv (.t 17), none, []⟩])
      (.ops false [⟨(some 18), .mv (.t 4), none, []⟩,
       ⟨(some 19), .mv (.t 6), none, []⟩,
       ⟨(some 20), .mv (.t 5), none, []⟩,
       ⟨(some 21), .idxA 1 (.t 18) (.t 19), none, []⟩,
       ⟨none, .store 1 (.t 21) (.t 20), none, []⟩])))
    (.ops false [⟨(some 22), .bin .add (.t 13) (.k (iv 1)), none, []⟩,
     ⟨(some 13), .mv (.t 22), none, []⟩])))))))
 (.seq (.ops false [⟨(some 23), .mv (.t 4), none, []⟩,
   ⟨(some 2), .mv (.t 23), none, []⟩,
   ⟨(some 3), .mv (.k (bv true)), none, []⟩])
 .ret)))))⟩
theorem code32 : acode Try.prog hints 32 = some L32 := by kernel_rfl


/-- The first 'i' entries, led back. -/
def bak (xs : List Int) : Nat → List Int
  | 0 => List.replicate 16 0
  | i + 1 => (bak xs i).set (xs.getD i 0).toNat (i : Int)
@[simp] theorem bak_len {xs : List Int} : ∀ i, (bak xs i).length = 16
  | 0 => by simp [bak]
  | i + 1 => by simp [bak, bak_len i]
theorem c_implBackTable {s : St} [Wf s] {id_xs off_xs len_xs : Nat} {xs : List Int} [h_xs : ArgE ic s id_xs off_xs xs] (hl_xs : xs.length = len_xs := by first | rfl | simp | omega | (simp; omega)) (hb : len_xs ≤ 2000000 := by omega) : Fn [] 32 [.c (.sl id_xs off_xs len_xs)] s (IntsRes (Turn xs) (bak xs 16)) := by
  refine F_start code32 ?_
  by_cases hv : Turn xs
  case neg =>
    repeat' (first
 | refine A_go rfl ?_ | refine A_ifT rfl rfl ?_ | refine A_ifF rfl rfl ?_
 | refine A_add rfl rfl rfl (by omega) ?_
 | ((first | refine A_lt rfl rfl rfl ?_ ?_) <;> intro hc <;> try first | contradiction | (exfalso; omega) | exact absurd rfl hc)
 | refine A_idxN1 rfl rfl rfl (by omega) ?_ | refine A_idx1 rfl rfl rfl (by omega) ?_
 | (refine A_callB rfl rfl (fun s H => c_implTurn) ?_ ?_ <;> intro hc <;> try first | contradiction | (exfalso; omega) | exact absurd rfl hc | exact absurd (And.intro rfl rfl) hc | exact absurd (And.intro rfl (And.intro rfl rfl)) hc | exact absurd (Eq.trans (by assumption) (Eq.symm (by assumption))) hc)
 | refine A_p (by rfl) rfl ?_
 | refine A_ldI rfl (by first | omega | (simp; done) | (simp; omega)) rfl ?_ | refine A_ldB rfl (by first | omega | (simp; done) | (simp; omega)) rfl ?_ | refine A_ld rfl (by rfl) rfl ?_
 | refine A_st rfl rfl rfl ?_ | refine A_stE rfl rfl (by first | omega | (simp; done) | (simp; omega)) rfl ?_
 | ((first | refine A_makeN rfl rfl rfl (by omega) ?_ | refine A_make rfl rfl rfl (by omega) ?_) <;> intro pz hpz)
 | refine A_ret rfl (by exact (RP.t rfl (RP.t rfl RP.nil))) ?_)
    exact R_intsN hv
  have h16 := hv.1
  repeat' (first
 | refine A_go rfl ?_ | refine A_ifT rfl rfl ?_ | refine A_ifF rfl rfl ?_
 | refine A_add rfl rfl rfl (by omega) ?_
 | ((first | refine A_lt rfl rfl rfl ?_ ?_) <;> intro hc <;> try first | contradiction | (exfalso; omega) | exact absurd rfl hc)
 | refine A_idxN1 rfl rfl rfl (by omega) ?_ | refine A_idx1 rfl rfl rfl (by omega) ?_
 | (refine A_callB rfl rfl (fun s H => c_implTurn) ?_ ?_ <;> intro hc <;> try first | contradiction | (exfalso; omega) | exact absurd rfl hc | exact absurd (And.intro rfl rfl) hc | exact absurd (And.intro rfl (And.intro rfl rfl)) hc | exact absurd (Eq.trans (by assumption) (Eq.symm (by assumption))) hc)
 | refine A_p (by rfl) rfl ?_
 | refine A_ldI rfl (by first | omega | (simp; done) | (simp; omega)) rfl ?_ | refine A_ldB rfl (by first | omega | (simp; done) | (simp; omega)) rfl ?_ | refine A_ld rfl (by rfl) rfl ?_
 | refine A_st rfl rfl rfl ?_ | refine A_stE rfl rfl (by first | omega | (simp; done) | (simp; omega)) rfl ?_
 | ((first | refine A_makeN rfl rfl rfl (by omega) ?_ | refine A_make rfl rfl rfl (by omega) ?_) <;> intro pz hpz)
 | refine A_ret rfl (by exact (RP.t rfl (RP.t rfl RP.nil))) ?_)
  refine A_loop rfl [pz] (fun m fr L => ∃ (i : Nat) (ys : List Int), m = 16 - i ∧ fr = [(4, .c (.sl pz 0 16)), (11, .c (.sl id_xs off_xs len_xs)), (12, iv len_xs), (13, iv i)] ∧ L = [(pz, ints ys)] ∧ i ≤ 16 ∧ ys = bak xs i) 16 ⟨0, _, rfl, rfl, rfl, by omega, rfl⟩ ?_
  rintro m fr L ⟨i, ys, rfl, rfl, rfl, hi, rfl⟩
  have hbl := bak_len (xs := xs) i
  by_cases hin : i < 16
  · have hx := (hv.2 i (by omega)).1
    repeat' (first
 | refine A_go rfl ?_ | refine A_ifT rfl rfl ?_ | refine A_ifF rfl rfl ?_
 | refine A_add rfl rfl rfl (by omega) ?_
 | ((first | refine A_lt rfl rfl rfl ?_ ?_) <;> intro hc <;> try first | contradiction | (exfalso; omega) | exact absurd rfl hc)
 | refine A_idxN1 rfl rfl rfl (by omega) ?_ | refine A_idx1 rfl rfl rfl (by omega) ?_
 | refine A_p (by rfl) rfl ?_
 | refine A_ldI rfl (by first | omega | (simp; done) | (simp; omega)) rfl ?_ | refine A_ldB rfl (by first | omega | (simp; done) | (simp; omega)) rfl ?_ | refine A_ld rfl (by rfl) rfl ?_
 | refine A_st rfl rfl rfl ?_ | refine A_stE rfl rfl (by first | omega | (simp; done) | (simp; omega)) rfl ?_
 | ((first | refine A_makeN rfl rfl rfl (by omega) ?_ | refine A_make rfl rfl rfl (by omega) ?_) <;> intro pz hpz)
 | refine A_ret rfl (by exact (RP.t rfl (RP.t rfl RP.nil))) ?_)
    refine A_round rfl [pz] (16 - (i + 1)) (by omega) ?_
    exact ⟨i + 1, _, rfl, rfl, rfl, by omega, rfl⟩
  · obtain rfl : i = 16 := by omega
    repeat' (first
 | refine A_go rfl ?_ | refine A_ifT rfl rfl ?_ | refine A_ifF rfl rfl ?_
 | refine A_add rfl rfl rfl (by omega) ?_
 | ((first | refine A_lt rfl rfl rfl ?_ ?_) <;> intro hc <;> try first | contradiction | (exfalso; omega) | exact absurd rfl hc)
 | refine A_idxN1 rfl rfl rfl (by omega) ?_ | refine A_idx1 rfl rfl rfl (by omega) ?_
 | refine A_p (by rfl) rfl ?_
 | refine A_ldI rfl (by first | omega | (simp; done) | (simp; omega)) rfl ?_ | refine A_ldB rfl (by first | omega | (simp; done) | (simp; omega)) rfl ?_ | refine A_ld rfl (by rfl) rfl ?_
 | refine A_st rfl rfl rfl ?_ | refine A_stE rfl rfl (by first | omega | (simp; done) | (simp; omega)) rfl ?_
 | ((first | refine A_makeN rfl rfl rfl (by omega) ?_ | refine A_make rfl rfl rfl (by omega) ?_) <;> intro pz hpz)
 | refine A_ret rfl (by exact (RP.t rfl (RP.t rfl RP.nil))) ?_)
    exact R_ints hv (by simp) (by omega)

end Go.Proofs.Ytlhidckolillaaa
