/- Blocks of cells become other ones: the program. -/
import Derived.Test.YtlhidckolillaaaXblocksP
import Derived.Test.YtlhidckolillaaaXmadeField
import Derived.Test.YtlhidckolillaaaXlives
import Derived.Test.YtlhidckolillaaaFB
namespace Go.Proofs.Ytlhidckolillaaa
open Go Go.RowKit
set_option linter.unusedVariables false
set_option linter.unusedSimpArgs false
set_option maxRecDepth 100000
set_option maxHeartbeats 8000000
-- impl.BlockStep$1
def L45 : AFun := ⟨58, [.t 7],
 (.seq (.ops false [⟨(some 7), .mv (.k (iv 0)), none, []⟩])
 (.seq (.ops true [⟨(some 13), .mv (.t 0), none, []⟩,
   ⟨(some 14), .load false 1 (.t 2), none, []⟩,
   ⟨(some 15), .bin .sub (.t 13) (.t 14), none, []⟩,
   ⟨(some 16), .call (.f 46) [(.t 15), (.k (iv 2))], none, []⟩,
   ⟨(some 17), .mv (.t 1), none, []⟩,
   ⟨(some 18), .load false 1 (.t 2), none, [0]⟩,
   ⟨(some 19), .bin .sub (.t 17) (.t 18), none, []⟩,
   ⟨(some 20), .call (.f 46) [(.t 19), (.k (iv 2))], none, []⟩,
   ⟨(some 8), .mv (.t 16), none, []⟩,
   ⟨(some 9), .mv (.t 20), none, []⟩])
 (.seq (.ops false [⟨(some 10), .mv (.k (iv 0)), none, []⟩])
 (.seq (.seq (.ops false [⟨(some 21), .mv (.k (iv 0)), none, []⟩])
  (.block 0 (.loop [0, 1, 3, 4, 8, 9, 10, 21] (.seq (.ops false [⟨(some 22), .bin .lss (.t 21) (.k (iv 2)), none, []⟩])
    (.seq (.cond (.t 22) .skip
      (.exit 0))
    (.seq (.block 1 (.seq (.ops false [⟨(some 23), .mv (.t 21), none, []⟩,
        ⟨(some 11), .mv (.t 23), none, []⟩])
      (.seq (.ops false [⟨(some 24), .mv (.k (iv 0)), none, []⟩])
      (.block 2 (.loop [0, 1, 3, 4, 8, 9, 10, 11, 21, 24] (.seq (.ops false [⟨(some 25), .bin .lss (.t 24) (.k (iv 2)), none, []⟩])
        (.seq (.cond (.t 25) .skip
          (.exit 2))
        (.seq (.block 3 (.seq (.ops false [⟨(some 26), .mv (.t 24), none, []⟩,
            ⟨(some 12), .mv (.t 26), none, []⟩])
          (.ops false [⟨(some 27), .mv (.t 10), none, []⟩,
           ⟨(some 28), .load true 3 (.t 3), none, []⟩,
           ⟨(some 29), .mv (.t 0), none, []⟩,
           ⟨(some 30), .mv (.t 8), none, []⟩,
           ⟨(some 31), .bin .sub (.t 29) (.t 30), none, []⟩,
           ⟨(some 32), .mv (.t 11), none, []⟩,
           ⟨(some 33), .bin .add (.t 31) (.t 32), none, []⟩,
           ⟨(some 34), .mv (.t 1), none, []⟩,
           ⟨(some 35), .mv (.t 9), none, []⟩,
           ⟨(some 36), .bin .sub (.t 34) (.t 35), none, []⟩,
           ⟨(some 37), .mv (.t 12), none, []⟩,
           ⟨(some 38), .bin .add (.t 36) (.t 37), none, []⟩,
           ⟨(some 39), .call (.f 47) [(.t 28), (.t 33), (.t 38), (.k (bv true))], none, []⟩,
           ⟨(some 40), .mv (.t 11), none, []⟩,
           ⟨(some 41), .bin .mul (.k (iv 2)) (.t 40), none, []⟩,
           ⟨(some 42), .mv (.t 12), none, []⟩,
           ⟨(some 43), .bin .add (.t 41) (.t 42), none, []⟩,
           ⟨(some 44), .bin .shl (.t 39) (.t 43), none, []⟩,
           ⟨(some 45), .bin .or (.t 27) (.t 44), none, []⟩,
           ⟨(some 10), .mv (.t 45), none, []⟩])))
        (.ops false [⟨(some 46), .bin .add (.t 24) (.k (iv 1)), none, []⟩,
         ⟨(some 24), .mv (.t 46), none, []⟩])))))))))
    (.ops false [⟨(some 47), .bin .add (.t 21) (.k (iv 1)), none, []⟩,
     ⟨(some 21), .mv (.t 47), none, []⟩])))))))
 (.seq (.ops false [⟨(some 48), .load false 1 (.t 4), none, []⟩,
   ⟨(some 49), .mv (.t 10), none, []⟩,
   ⟨(some 50), .idxA 1 (.t 48) (.t 49), none, []⟩,
   ⟨(some 51), .load false 1 (.t 50), none, []⟩,
   ⟨(some 52), .mv (.t 8), none, []⟩,
   ⟨(some 53), .bin .mul (.k (iv 2)) (.t 52), none, []⟩,
   ⟨(some 54), .mv (.t 9), none, []⟩,
   ⟨(some 55), .bin .add (.t 53) (.t 54), none, []⟩,
   ⟨(some 56), .bin .shr (.t 51) (.t 55), none, []⟩,
   ⟨(some 57), .bin .and (.t 56) (.k (iv 1)), none, []⟩,
   ⟨(some 7), .mv (.t 57), none, []⟩])
 .ret)))))⟩
theorem code45 : acode Try.prog hints 45 = some L45 := by kernel_rfl

-- impl.BlockStep
def L10 : AFun := ⟨38, [.cell true 3 6, .t 7],
 (.seq (.ops false [⟨(some 3), .box 26 (.t 0), none, []⟩,
   ⟨(some 4), .box 22 (.t 1), none, []⟩,
   ⟨(some 6), .alloc 26 [.int .i64 0, .int .i64 0, .sl 0 0 0], none, []⟩,
   ⟨(some 7), .mv (.k (bv false)), none, []⟩])
 (.seq (.seq (.ops false [⟨(some 9), .load true 3 (.t 3), none, []⟩,
    ⟨(some 10), .call (.f 42) [(.t 9)], none, []⟩,
    ⟨(some 11), .un .not (.t 10), none, []⟩,
    ⟨(some 12), .mv (.t 11), none, []⟩,
    ⟨(some 13), .fieldA 0 (.t 3), (some (12, false)), []⟩,
    ⟨(some 14), .load false 1 (.t 13), (some (12, false)), []⟩,
    ⟨(some 15), .bin .rem (.t 14) (.k (iv 2)), (some (12, false)), []⟩,
    ⟨(some 16), .bin .neq (.t 15) (.k (iv 0)), (some (12, false)), []⟩,
    ⟨(some 17), .pick (.t 12) (.k (bv true)) (.t 16), none, []⟩,
    ⟨(some 18), .mv (.t 17), none, []⟩,
    ⟨(some 19), .fieldA 1 (.t 3), (some (18, false)), []⟩,
    ⟨(some 20), .load false 1 (.t 19), (some (18, false)), []⟩,
    ⟨(some 21), .bin .rem (.t 20) (.k (iv 2)), (some (18, false)), []⟩,
    ⟨(some 22), .bin .neq (.t 21) (.k (iv 0)), (some (18, false)), []⟩,
    ⟨(some 23), .pick (.t 18) (.k (bv true)) (.t 22), none, []⟩,
    ⟨(some 24), .mv (.t 23), none, []⟩,
    ⟨(some 25), .load false 1 (.t 4), (some (24, false)), []⟩,
    ⟨(some 26), .call (.f 33) [(.t 25)], (some (24, false)), []⟩,
    ⟨(some 27), .un .not (.t 26), (some (24, false)), []⟩,
    ⟨(some 28), .pick (.t 24) (.k (bv true)) (.t 27), none, []⟩])
  (.cond (.t 28) (.seq (.ops false [⟨(some 29), .build [.int .i64 0, .int .i64 0, .sl 0 0 0] [], none, []⟩,
     ⟨none, .store 3 (.t 6) (.t 29), none, []⟩,
     ⟨(some 7), .mv (.k (bv false)), none, []⟩])
   .ret)
   .skip))
 (.seq (.ops false [⟨(some 30), .mv (.t 2), none, []⟩,
   ⟨(some 31), .call (.f 43) [(.t 30)], none, []⟩,
   ⟨(some 8), .alloc 2 [.int .i64 0], none, []⟩,
   ⟨none, .store 1 (.t 8) (.t 31), none, []⟩])
 (.seq (.ops false [⟨(some 32), .fieldA 0 (.t 3), none, []⟩,
   ⟨(some 33), .load false 1 (.t 32), none, []⟩,
   ⟨(some 34), .fieldA 1 (.t 3), none, []⟩,
   ⟨(some 35), .load false 1 (.t 34), none, []⟩,
   ⟨(some 36), .mkFn 45 [(.t 8), (.t 3), (.t 4)], none, []⟩,
   ⟨(some 37), .call (.f 44) [(.t 33), (.t 35), (.t 36)], none, []⟩,
   ⟨none, .store 3 (.t 6) (.t 37), none, []⟩,
   ⟨(some 7), .mv (.k (bv true)), none, []⟩])
 .ret))))⟩
theorem code10 : acode Try.prog hints 10 = some L10 := by kernel_rfl


theorem c_block1 {s : St} [Wf s] {qo qf qt R C : Nat} {from_ : Int} {id_xs off_xs len_xs id_tb off_tb len_tb : Nat} {xs tab : List Int} [h1 : Ref s qo [ic from_]] [h2 : Ref s qf [ic R, ic C, .sl id_xs off_xs len_xs]] [h3 : Ref s qt [.sl id_tb off_tb len_tb]] [h_xs : ArgE ic s id_xs off_xs xs] [h_tb : ArgE ic s id_tb off_tb tab]
    (hl_xs : xs.length = len_xs) (hl_tb : tab.length = len_tb) (hp : PL R C xs) (ht : Turn tab) (hf : 0 ≤ from_ ∧ from_ ≤ 1) {i k : Nat} (hi : i < R) (hk : k < C) :
    FnV 45 [iv i, iv k, .c (.ptr qo 0), .c (.ptr qf 0), .c (.ptr qt 0)] s (iv (blkV xs tab R C from_ i k)) := by
  have g1 := hp.1.1
  have g2 := hp.1.2.1
  have m1 := emod_in (a := (i : Int) - from_) (b := 2) (by omega)
  have m2 := emod_in (a := (k : Int) - from_) (b := 2) (by omega)
  have hbe : blkV xs tab R C from_ i k = tab.getD (blkQ xs R C (i - ((i : Int) - from_) % 2) (k - ((k : Int) - from_) % 2)).toNat 0 / pw (2 * (((i : Int) - from_) % 2) + ((k : Int) - from_) % 2) % 2 := rfl
  rw [hbe]
  refine F_start code45 ?_
  repeat' (first
 | refine A_go rfl ?_ | refine A_ifT rfl rfl ?_ | refine A_ifF rfl rfl ?_
 | refine A_add rfl rfl rfl (by omega) ?_ | refine A_sub rfl rfl rfl (by omega) ?_ | refine A_mul rfl rfl rfl (by omega) ?_
 | ((first | refine A_lt rfl rfl rfl ?_ ?_) <;> intro hc <;> try first | contradiction | (exfalso; omega) | exact absurd rfl hc)
 | refine A_idxN1 rfl rfl rfl (by omega) ?_ | refine A_idx1 rfl rfl rfl (by omega) ?_
 | refine A_callV rfl rfl (fun s H => c_floorMod) ?_
 | refine A_p (by rfl) rfl ?_
 | refine A_ldI rfl (by first | omega | (simp; done) | (simp; omega)) rfl ?_ | refine A_ldB rfl (by first | omega | (simp; done) | (simp; omega)) rfl ?_ | refine A_ld rfl (by rfl) rfl ?_
 | refine A_ldW rfl (by simp) rfl ?_
 | refine A_chk1 rfl rfl rfl ?_ | refine A_chk2 rfl rfl rfl rfl ?_ | refine A_chk3 rfl rfl rfl rfl rfl ?_ | refine A_chk4 rfl rfl rfl rfl rfl rfl ?_ | refine A_chkI rfl (by assumption) rfl (by simp) ?_
 | refine A_ret1 rfl (by exact (RP.t rfl RP.nil)) ?_)
  obtain ⟨u, hu⟩ : ∃ u, ((i : Int) - from_) % 2 = u := ⟨_, rfl⟩
  obtain ⟨v, hv⟩ : ∃ u, ((k : Int) - from_) % 2 = u := ⟨_, rfl⟩
  rw [hu] at m1 ⊢
  rw [hv] at m2 ⊢
  have bn := blkQ_in hp ((i : Int) - u) ((k : Int) - v)
  have h16 := ht.1
  have htn := (ht.2 (blkQ xs R C ((i : Int) - u) ((k : Int) - v)).toNat (by omega)).1
  refine A_loop rfl [] (fun m fr L => ∃ r : Nat, m = 2 - r ∧ fr = [(0, iv i), (1, iv k), (3, .c (.ptr qf 0)), (4, .c (.ptr qt 0)), (8, iv u), (9, iv v), (10, iv (blkT xs R C ((i : Int) - u) ((k : Int) - v) (2 * r))), (21, iv r)] ∧ L = [] ∧ r ≤ 2) 2 ⟨0, rfl, rfl, rfl, by omega⟩ ?_
  rintro m fr L ⟨r, rfl, rfl, rfl, hr⟩
  by_cases hr' : r < 2
  · repeat' (first
 | refine A_go rfl ?_ | refine A_ifT rfl rfl ?_ | refine A_ifF rfl rfl ?_
 | refine A_add rfl rfl rfl (by omega) ?_ | refine A_sub rfl rfl rfl (by omega) ?_ | refine A_mul rfl rfl rfl (by omega) ?_
 | ((first | refine A_lt rfl rfl rfl ?_ ?_) <;> intro hc <;> try first | contradiction | (exfalso; omega) | exact absurd rfl hc)
 | refine A_idxN1 rfl rfl rfl (by omega) ?_ | refine A_idx1 rfl rfl rfl (by omega) ?_
 | refine A_p (by rfl) rfl ?_
 | refine A_ldI rfl (by first | omega | (simp; done) | (simp; omega)) rfl ?_ | refine A_ldB rfl (by first | omega | (simp; done) | (simp; omega)) rfl ?_ | refine A_ld rfl (by rfl) rfl ?_
 | refine A_ldW rfl (by simp) rfl ?_
 | refine A_chk1 rfl rfl rfl ?_ | refine A_chk2 rfl rfl rfl rfl ?_ | refine A_chk3 rfl rfl rfl rfl rfl ?_ | refine A_chk4 rfl rfl rfl rfl rfl rfl ?_ | refine A_chkI rfl (by assumption) rfl (by simp) ?_
 | refine A_ret1 rfl (by exact (RP.t rfl RP.nil)) ?_)
    refine A_loop rfl [] (fun m fr L => ∃ c : Nat, m = 2 - c ∧ fr = [(0, iv i), (1, iv k), (3, .c (.ptr qf 0)), (4, .c (.ptr qt 0)), (8, iv u), (9, iv v), (10, iv (blkT xs R C ((i : Int) - u) ((k : Int) - v) (2 * r + c))), (11, iv r), (21, iv r), (24, iv c)] ∧ L = [] ∧ c ≤ 2) 2 ⟨0, rfl, rfl, rfl, by omega⟩ ?_
    rintro m fr L ⟨c, rfl, rfl, rfl, hc⟩
    by_cases hc' : c < 2
    · have hsu := blkT_succ (R := R) (C := C) (xs := xs) ((i : Int) - u) ((k : Int) - v) (t := 2 * r + c) (by omega)
      have hin := blkT_in hp ((i : Int) - u) ((k : Int) - v) (t := 2 * r + c) (by omega)
      have hpw := pw_in ((2 * r + c : Nat) : Int) (by omega)
      rw [show ((2 * r + c : Nat) : Int) / 2 = r by omega, show ((2 * r + c : Nat) : Int) % 2 = c by omega] at hsu
      have hz := look_in hp ((i : Int) - u + r) ((k : Int) - v + c) true
      have hzp : lookV R C xs ((i : Int) - u + r) ((k : Int) - v + c) true * pw ((2 * r + c : Nat) : Int) = 0 ∨ lookV R C xs ((i : Int) - u + r) ((k : Int) - v + c) true * pw ((2 * r + c : Nat) : Int) = pw ((2 * r + c : Nat) : Int) := by
        obtain h | h : lookV R C xs ((i : Int) - u + r) ((k : Int) - v + c) true = 0 ∨ lookV R C xs ((i : Int) - u + r) ((k : Int) - v + c) true = 1 := by omega
        · rw [h]; exact .inl (Int.zero_mul _)
        · rw [h]; exact .inr (Int.one_mul _)
      generalize hpg : pw ((2 * r + c : Nat) : Int) = p at *
      repeat' (first
 | refine A_go rfl ?_ | refine A_ifT rfl rfl ?_ | refine A_ifF rfl rfl ?_
 | refine A_add rfl rfl rfl (by omega) ?_ | refine A_sub rfl rfl rfl (by omega) ?_ | refine A_mul rfl rfl rfl (by omega) ?_
 | ((first | refine A_lt rfl rfl rfl ?_ ?_) <;> intro hc <;> try first | contradiction | (exfalso; omega) | exact absurd rfl hc)
 | refine A_idxN1 rfl rfl rfl (by omega) ?_ | refine A_idx1 rfl rfl rfl (by omega) ?_
 | refine A_callV rfl rfl (fun s H => c_look (hv := hp.1)) ?_
 | refine A_shlB p rfl rfl rfl (by omega) (by omega) ?_
 | refine A_orB p rfl rfl rfl (by omega) (by omega) (by omega) ?_
 | refine A_p (by rfl) rfl ?_
 | refine A_ldI rfl (by first | omega | (simp; done) | (simp; omega)) rfl ?_ | refine A_ldB rfl (by first | omega | (simp; done) | (simp; omega)) rfl ?_ | refine A_ld rfl (by rfl) rfl ?_
 | refine A_ldW rfl (by simp) rfl ?_
 | refine A_chk1 rfl rfl rfl ?_ | refine A_chk2 rfl rfl rfl rfl ?_ | refine A_chk3 rfl rfl rfl rfl rfl ?_ | refine A_chk4 rfl rfl rfl rfl rfl rfl ?_ | refine A_chkI rfl (by assumption) rfl (by simp) ?_
 | refine A_ret1 rfl (by exact (RP.t rfl RP.nil)) ?_)
      refine A_round rfl [] (2 - (c + 1)) (by omega) ?_
      exact ⟨c + 1, rfl, by rw [show 2 * r + (c + 1) = 2 * r + c + 1 by omega, hsu]; rfl, rfl, by omega⟩
    · obtain rfl : c = 2 := by omega
      repeat' (first
 | refine A_go rfl ?_ | refine A_ifT rfl rfl ?_ | refine A_ifF rfl rfl ?_
 | refine A_add rfl rfl rfl (by omega) ?_ | refine A_sub rfl rfl rfl (by omega) ?_ | refine A_mul rfl rfl rfl (by omega) ?_
 | ((first | refine A_lt rfl rfl rfl ?_ ?_) <;> intro hc <;> try first | contradiction | (exfalso; omega) | exact absurd rfl hc)
 | refine A_idxN1 rfl rfl rfl (by omega) ?_ | refine A_idx1 rfl rfl rfl (by omega) ?_
 | refine A_p (by rfl) rfl ?_
 | refine A_ldI rfl (by first | omega | (simp; done) | (simp; omega)) rfl ?_ | refine A_ldB rfl (by first | omega | (simp; done) | (simp; omega)) rfl ?_ | refine A_ld rfl (by rfl) rfl ?_
 | refine A_ldW rfl (by simp) rfl ?_
 | refine A_chk1 rfl rfl rfl ?_ | refine A_chk2 rfl rfl rfl rfl ?_ | refine A_chk3 rfl rfl rfl rfl rfl ?_ | refine A_chk4 rfl rfl rfl rfl rfl rfl ?_ | refine A_chkI rfl (by assumption) rfl (by simp) ?_
 | refine A_ret1 rfl (by exact (RP.t rfl RP.nil)) ?_)
      refine A_round rfl [] (2 - (r + 1)) (by omega) ?_
      exact ⟨r + 1, rfl, rfl, rfl, by omega⟩
  · obtain rfl : r = 2 := by omega
    have e4 : blkT xs R C ((i : Int) - u) ((k : Int) - v) (2 * 2) = blkQ xs R C ((i : Int) - u) ((k : Int) - v) := rfl
    rw [e4]
    have hpw := pw_in (2 * u + v) (by omega)
    obtain ⟨z, hz⟩ : ∃ z, tab.getD (blkQ xs R C ((i : Int) - u) ((k : Int) - v)).toNat 0 = z := ⟨_, rfl⟩
    have hdv : 0 ≤ tab.getD (blkQ xs R C ((i : Int) - u) ((k : Int) - v)).toNat 0 / pw (2 * u + v) ∧ tab.getD (blkQ xs R C ((i : Int) - u) ((k : Int) - v)).toNat 0 / pw (2 * u + v) ≤ 15 := by
      refine ⟨Int.ediv_nonneg (by omega) (by omega), ?_⟩
      have := Int.ediv_le_self (pw (2 * u + v)) htn.1
      omega
    repeat' (first
 | refine A_go rfl ?_ | refine A_ifT rfl rfl ?_ | refine A_ifF rfl rfl ?_
 | refine A_add rfl rfl rfl (by omega) ?_ | refine A_sub rfl rfl rfl (by omega) ?_ | refine A_mul rfl rfl rfl (by omega) ?_
 | ((first | refine A_lt rfl rfl rfl ?_ ?_) <;> intro hc <;> try first | contradiction | (exfalso; omega) | exact absurd rfl hc)
 | refine A_idxN1 rfl rfl rfl (by omega) ?_ | refine A_idx1 rfl rfl rfl (by omega) ?_
 | refine A_shrB (pw (2 * u + v)) rfl rfl rfl (by omega) (by omega) ?_
 | refine A_and1 rfl rfl (by omega) ?_
 | refine A_p (by rfl) rfl ?_
 | refine A_ldI rfl (by first | omega | (simp; done) | (simp; omega)) rfl ?_ | refine A_ldB rfl (by first | omega | (simp; done) | (simp; omega)) rfl ?_ | refine A_ld rfl (by rfl) rfl ?_
 | refine A_ldW rfl (by simp) rfl ?_
 | refine A_chk1 rfl rfl rfl ?_ | refine A_chk2 rfl rfl rfl rfl ?_ | refine A_chk3 rfl rfl rfl rfl rfl ?_ | refine A_chk4 rfl rfl rfl rfl rfl rfl ?_ | refine A_chkI rfl (by assumption) rfl (by simp) ?_
 | refine A_ret1 rfl (by exact (RP.t rfl RP.nil)) ?_)
    exact R_v rfl
theorem c_bitO {s : St} [Wf s] {t : Bool} : FnV 43 [bv t] s (iv (if t = true then 1 else 0)) := by
  refine F_start code43 ?_
  cases t with
  | true =>
    repeat' (first
 | refine A_go rfl ?_ | refine A_ifT rfl rfl ?_ | refine A_ifF rfl rfl ?_
 | refine A_p (by rfl) rfl ?_
 | refine A_ret1 rfl (by exact (RP.t rfl RP.nil)) ?_)
    exact R_v rfl
  | false =>
    repeat' (first
 | refine A_go rfl ?_ | refine A_ifT rfl rfl ?_ | refine A_ifF rfl rfl ?_
 | refine A_p (by rfl) rfl ?_
 | refine A_ret1 rfl (by exact (RP.t rfl RP.nil)) ?_)
    exact R_v rfl
abbrev BlkP (r c : Int) (xs tab : List Int) : Prop := (PL r c xs ∧ Turn tab) ∧ r % 2 = 0 ∧ c % 2 = 0
theorem c_implBlockStep {s : St} [Wf s] {r c : Int} {odd : Bool} {id_xs off_xs len_xs : Nat} {xs : List Int} [h_xs : ArgE ic s id_xs off_xs xs] (hl_xs : xs.length = len_xs := by first | rfl | simp | omega | (simp; omega)) {id_tb off_tb len_tb : Nat} {tb : List Int} [h_tb : ArgE ic s id_tb off_tb tb] (hl_tb : tb.length = len_tb := by first | rfl | simp | omega | (simp; omega)) (hb : len_xs ≤ 2000000 ∧ len_tb ≤ 2000000 := by omega) :
    Fn [] 10 [.agg [ic r, ic c, .sl id_xs off_xs len_xs], .c (.sl id_tb off_tb len_tb), bv odd] s (FldRes (BlkP r c xs tb) r c (mk r.toNat c.toNat (blkV xs tb r c (if odd = true then 1 else 0)))) := by
  refine F_start code10 ?_
  by_cases h1 : PL r c xs
  case neg =>
    repeat' (first
 | refine A_go rfl ?_ | refine A_ifT rfl rfl ?_ | refine A_ifF rfl rfl ?_
 | refine A_offP rfl rfl ?_ | refine A_offH rfl rfl ?_ | refine A_off0 rfl rfl ?_
 | refine A_rem rfl rfl rfl (by omega) ?_ | refine A_remT rfl rfl rfl (by omega) ?_
 | ((first | refine A_ne rfl rfl rfl ?_ ?_) <;> intro hc <;> try first | contradiction | (exfalso; omega) | exact absurd rfl hc)
 | (refine A_callB rfl rfl (fun s H => c_isPlain) ?_ ?_ <;> intro hc <;> try first | contradiction | (exfalso; omega) | exact absurd rfl hc | exact absurd (And.intro rfl rfl) hc | exact absurd (And.intro rfl (And.intro rfl rfl)) hc | exact absurd (Eq.trans (by assumption) (Eq.symm (by assumption))) hc)
 | refine A_fld rfl rfl ?_ | refine A_mk3 rfl rfl rfl rfl ?_ | refine A_mk23 rfl rfl rfl ?_ | refine A_mk2 rfl rfl rfl ?_ | refine A_mk13 rfl rfl ?_ | refine A_p (by rfl) rfl ?_
 | refine A_ldI rfl (by first | omega | (simp; done) | (simp; omega)) rfl ?_ | refine A_ldB rfl (by first | omega | (simp; done) | (simp; omega)) rfl ?_ | refine A_ld rfl (by rfl) rfl ?_
 | refine A_ldW rfl (by simp) rfl ?_
 | refine A_st rfl rfl rfl ?_ | refine A_stE rfl rfl (by first | omega | (simp; done) | (simp; omega)) rfl ?_
 | refine A_stW rfl rfl (by simp) rfl ?_
 | ((first | refine A_alloc rfl ?_ | refine A_box rfl rfl ?_ | refine A_boxC rfl rfl ?_) <;> intro pz hpz)
 | refine A_ret rfl (by exact (RP.c rfl inferInstance rfl (by simp) (RP.t rfl RP.nil))) ?_)
    exact R_fldN fun h => h1 h.1.1
  obtain ⟨R, C, rfl, rfl, h2, h3, h4, h5⟩ := h1.1.nat
  simp only [Int.toNat_natCast]
  by_cases h6 : (R : Int) % 2 = 0 ∧ (C : Int) % 2 = 0
  case neg =>
    repeat' (first
 | refine A_go rfl ?_ | refine A_ifT rfl rfl ?_ | refine A_ifF rfl rfl ?_
 | refine A_offP rfl rfl ?_ | refine A_offH rfl rfl ?_ | refine A_off0 rfl rfl ?_
 | refine A_rem rfl rfl rfl (by omega) ?_ | refine A_remT rfl rfl rfl (by omega) ?_
 | ((first | refine A_ne rfl rfl rfl ?_ ?_) <;> intro hc <;> try first | contradiction | (exfalso; omega) | exact absurd rfl hc)
 | (refine A_callB rfl rfl (fun s H => c_isPlain) ?_ ?_ <;> intro hc <;> try first | contradiction | (exfalso; omega) | exact absurd rfl hc | exact absurd (And.intro rfl rfl) hc | exact absurd (And.intro rfl (And.intro rfl rfl)) hc | exact absurd (Eq.trans (by assumption) (Eq.symm (by assumption))) hc)
 | (refine A_callB rfl rfl (fun s H => c_implTurn) ?_ ?_ <;> intro hc <;> try first | contradiction | (exfalso; omega) | exact absurd rfl hc | exact absurd (And.intro rfl rfl) hc | exact absurd (And.intro rfl (And.intro rfl rfl)) hc | exact absurd (Eq.trans (by assumption) (Eq.symm (by assumption))) hc)
 | refine A_fld rfl rfl ?_ | refine A_mk3 rfl rfl rfl rfl ?_ | refine A_mk23 rfl rfl rfl ?_ | refine A_mk2 rfl rfl rfl ?_ | refine A_mk13 rfl rfl ?_ | refine A_p (by rfl) rfl ?_
 | refine A_ldI rfl (by first | omega | (simp; done) | (simp; omega)) rfl ?_ | refine A_ldB rfl (by first | omega | (simp; done) | (simp; omega)) rfl ?_ | refine A_ld rfl (by rfl) rfl ?_
 | refine A_ldW rfl (by simp) rfl ?_
 | refine A_st rfl rfl rfl ?_ | refine A_stE rfl rfl (by first | omega | (simp; done) | (simp; omega)) rfl ?_
 | refine A_stW rfl rfl (by simp) rfl ?_
 | ((first | refine A_alloc rfl ?_ | refine A_box rfl rfl ?_ | refine A_boxC rfl rfl ?_) <;> intro pz hpz)
 | refine A_ret rfl (by exact (RP.c rfl inferInstance rfl (by simp) (RP.t rfl RP.nil))) ?_)
    all_goals exact R_fldN fun h => h6 h.2
  have h7 := h6.1
  have h8 := h6.2
  by_cases h9 : Turn tb
  case neg =>
    repeat' (first
 | refine A_go rfl ?_ | refine A_ifT rfl rfl ?_ | refine A_ifF rfl rfl ?_
 | refine A_offP rfl rfl ?_ | refine A_offH rfl rfl ?_ | refine A_off0 rfl rfl ?_
 | refine A_rem rfl rfl rfl (by omega) ?_ | refine A_remT rfl rfl rfl (by omega) ?_
 | ((first | refine A_ne rfl rfl rfl ?_ ?_) <;> intro hc <;> try first | contradiction | (exfalso; omega) | exact absurd rfl hc)
 | (refine A_callB rfl rfl (fun s H => c_isPlain) ?_ ?_ <;> intro hc <;> try first | contradiction | (exfalso; omega) | exact absurd rfl hc | exact absurd (And.intro rfl rfl) hc | exact absurd (And.intro rfl (And.intro rfl rfl)) hc | exact absurd (Eq.trans (by assumption) (Eq.symm (by assumption))) hc)
 | (refine A_callB rfl rfl (fun s H => c_implTurn) ?_ ?_ <;> intro hc <;> try first | contradiction | (exfalso; omega) | exact absurd rfl hc | exact absurd (And.intro rfl rfl) hc | exact absurd (And.intro rfl (And.intro rfl rfl)) hc | exact absurd (Eq.trans (by assumption) (Eq.symm (by assumption))) hc)
 | refine A_fld rfl rfl ?_ | refine A_mk3 rfl rfl rfl rfl ?_ | refine A_mk23 rfl rfl rfl ?_ | refine A_mk2 rfl rfl rfl ?_ | refine A_mk13 rfl rfl ?_ | refine A_p (by rfl) rfl ?_
 | refine A_ldI rfl (by first | omega | (simp; done) | (simp; omega)) rfl ?_ | refine A_ldB rfl (by first | omega | (simp; done) | (simp; omega)) rfl ?_ | refine A_ld rfl (by rfl) rfl ?_
 | refine A_ldW rfl (by simp) rfl ?_
 | refine A_st rfl rfl rfl ?_ | refine A_stE rfl rfl (by first | omega | (simp; done) | (simp; omega)) rfl ?_
 | refine A_stW rfl rfl (by simp) rfl ?_
 | ((first | refine A_alloc rfl ?_ | refine A_box rfl rfl ?_ | refine A_boxC rfl rfl ?_) <;> intro pz hpz)
 | refine A_ret rfl (by exact (RP.c rfl inferInstance rfl (by simp) (RP.t rfl RP.nil))) ?_)
    all_goals exact R_fldN fun h => h9 h.1.2
  have hf : 0 ≤ (if odd = true then (1 : Int) else 0) ∧ (if odd = true then (1 : Int) else 0) ≤ 1 := by split <;> omega
  generalize hfg : (if odd = true then (1 : Int) else 0) = f at *
  repeat' (first
 | refine A_go rfl ?_ | refine A_ifT rfl rfl ?_ | refine A_ifF rfl rfl ?_
 | refine A_offP rfl rfl ?_ | refine A_offH rfl rfl ?_ | refine A_off0 rfl rfl ?_
 | refine A_rem rfl rfl rfl (by omega) ?_ | refine A_remT rfl rfl rfl (by omega) ?_
 | ((first | refine A_ne rfl rfl rfl ?_ ?_) <;> intro hc <;> try first | contradiction | (exfalso; omega) | exact absurd rfl hc)
 | (refine A_callB rfl rfl (fun s H => c_isPlain) ?_ ?_ <;> intro hc <;> try first | contradiction | (exfalso; omega) | exact absurd rfl hc | exact absurd (And.intro rfl rfl) hc | exact absurd (And.intro rfl (And.intro rfl rfl)) hc | exact absurd (Eq.trans (by assumption) (Eq.symm (by assumption))) hc)
 | (refine A_callB rfl rfl (fun s H => c_implTurn) ?_ ?_ <;> intro hc <;> try first | contradiction | (exfalso; omega) | exact absurd rfl hc | exact absurd (And.intro rfl rfl) hc | exact absurd (And.intro rfl (And.intro rfl rfl)) hc | exact absurd (Eq.trans (by assumption) (Eq.symm (by assumption))) hc)
 | refine A_callV rfl rfl (fun s H => c_bitO) ?_
 | rw [hfg]
 | (refine A_callM rfl rfl (fun s H => c_madeField (blkV xs tb R C f) (by omega) (fun s L H i k hi hk => c_block1 hl_xs hl_tb h1 h9 hf hi hk)) ?_; rintro _ _ ⟨pz, rfl, rfl⟩) | (refine A_callM0 rfl rfl (fun s H => c_madeField (blkV xs tb R C f) (by omega) (fun s L H i k hi hk => c_block1 hl_xs hl_tb h1 h9 hf hi hk)) ?_; rintro _ _ ⟨pz, rfl, rfl⟩)
 | refine A_fld rfl rfl ?_ | refine A_mk3 rfl rfl rfl rfl ?_ | refine A_mk23 rfl rfl rfl ?_ | refine A_mk2 rfl rfl rfl ?_ | refine A_mk13 rfl rfl ?_ | refine A_p (by rfl) rfl ?_
 | refine A_ldI rfl (by first | omega | (simp; done) | (simp; omega)) rfl ?_ | refine A_ldB rfl (by first | omega | (simp; done) | (simp; omega)) rfl ?_ | refine A_ld rfl (by rfl) rfl ?_
 | refine A_ldW rfl (by simp) rfl ?_
 | refine A_st rfl rfl rfl ?_ | refine A_stE rfl rfl (by first | omega | (simp; done) | (simp; omega)) rfl ?_
 | refine A_stW rfl rfl (by simp) rfl ?_
 | ((first | refine A_alloc rfl ?_ | refine A_box rfl rfl ?_ | refine A_boxC rfl rfl ?_) <;> intro pz hpz)
 | refine A_ret rfl (by exact (RP.c rfl inferInstance rfl (by simp) (RP.t rfl RP.nil))) ?_)
  exact R_fld ⟨⟨h1, h9⟩, h7, h8⟩ (by simp) (by omega)

end Go.Proofs.Ytlhidckolillaaa
