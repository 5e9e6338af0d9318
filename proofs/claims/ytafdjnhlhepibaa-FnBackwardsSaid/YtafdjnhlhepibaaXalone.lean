/- Single cells of rings, and steps of second order. -/
import Derived.Test.YtafdjnhlhepibaaXrun
import Derived.Test.YtafdjnhlhepibaaFB
namespace Go.Proofs.Ytafdjnhlhepibaa
open Go Go.RowKit
set_option linter.unusedVariables false
set_option linter.unusedSimpArgs false
set_option maxRecDepth 100000
set_option maxHeartbeats 8000000
-- impl.AloneSteps
def L50 : AFun := ⟨41, [.t 6, .t 7],
 (.seq (.ops false [⟨(some 3), .box 30 (.t 0), none, []⟩,
   ⟨(some 6), .mv (.k (.c (.sl 0 0 0))), none, []⟩,
   ⟨(some 7), .mv (.k (bv false)), none, []⟩])
 (.seq (.seq (.ops false [⟨(some 11), .load true 3 (.t 3), none, []⟩,
    ⟨(some 12), .mv (.t 1), none, []⟩,
    ⟨(some 13), .buildS 22 1 1 [.sl 0 0 0] [(0, 1, (.t 12))], none, []⟩,
    ⟨(some 14), .call (.f 99) [(.t 11), (.t 13)], none, []⟩,
    ⟨(some 15), .un .not (.t 14), none, []⟩,
    ⟨(some 16), .mv (.t 15), none, []⟩,
    ⟨(some 17), .mv (.t 2), (some (16, false)), []⟩,
    ⟨(some 18), .mv (.t 1), (some (16, false)), []⟩,
    ⟨(some 19), .len false (.t 18), (some (16, false)), []⟩,
    ⟨(some 20), .bin .sub (.t 19) (.k (iv 1)), (some (16, false)), []⟩,
    ⟨(some 21), .call (.f 100) [(.t 17), (.k (iv 0)), (.k (iv 1000)), (.k (iv 0)), (.t 20)], (some (16, false)), []⟩,
    ⟨(some 22), .un .not (.t 21), (some (16, false)), []⟩,
    ⟨(some 23), .pick (.t 16) (.k (bv true)) (.t 22), none, []⟩])
  (.cond (.t 23) (.seq (.ops false [⟨(some 6), .mv (.k (.c (.sl 0 0 0))), none, []⟩,
     ⟨(some 7), .mv (.k (bv false)), none, []⟩])
   .ret)
   .skip))
 (.seq (.ops false [⟨(some 24), .mv (.t 1), none, []⟩,
   ⟨(some 25), .call (.f 83) [(.t 24)], none, []⟩,
   ⟨(some 8), .mv (.t 25), none, []⟩])
 (.seq (.seq (.ops false [⟨(some 26), .mv (.t 2), none, []⟩,
    ⟨(some 27), .len false (.t 26), none, []⟩,
    ⟨(some 28), .mv (.k (iv 0)), none, []⟩])
  (.block 0 (.loop [3, 8, 26, 27, 28] (.seq (.ops false [⟨(some 29), .bin .lss (.t 28) (.t 27), none, []⟩])
    (.seq (.cond (.t 29) .skip
      (.exit 0))
    (.seq (.block 1 (.seq (.ops false [⟨(some 30), .idxA 1 (.t 26) (.t 28), none, []⟩,
        ⟨(some 31), .load false 1 (.t 30), none, []⟩,
        ⟨(some 10), .mv (.t 31), none, []⟩])
      (.ops false [⟨(some 32), .mv (.t 8), none, []⟩,
       ⟨(some 33), .mv (.t 10), none, []⟩,
       ⟨(some 34), .load true 3 (.t 3), none, []⟩,
       ⟨(some 35), .mv (.t 8), none, []⟩,
       ⟨(some 36), .mv (.t 10), none, []⟩,
       ⟨(some 37), .call (.f 101) [(.t 34), (.t 35), (.t 36)], none, []⟩,
       ⟨(some 38), .idxA 1 (.t 32) (.t 33), none, []⟩,
       ⟨none, .store 1 (.t 38) (.t 37), none, []⟩])))
    (.ops false [⟨(some 39), .bin .add (.t 28) (.k (iv 1)), none, []⟩,
     ⟨(some 28), .mv (.t 39), none, []⟩])))))))
 (.seq (.ops false [⟨(some 40), .mv (.t 8), none, []⟩,
   ⟨(some 6), .mv (.t 40), none, []⟩,
   ⟨(some 7), .mv (.k (bv true)), none, []⟩])
 .ret)))))⟩
theorem code50 : acode Try.prog hints 50 = some L50 := by kernel_rfl

-- impl.SecondStep
def L47 : AFun := ⟨44, [.t 6, .t 7],
 (.seq (.ops false [⟨(some 3), .box 30 (.t 0), none, []⟩,
   ⟨(some 6), .mv (.k (.c (.sl 0 0 0))), none, []⟩,
   ⟨(some 7), .mv (.k (bv false)), none, []⟩])
 (.seq (.seq (.ops false [⟨(some 10), .load true 3 (.t 3), none, []⟩,
    ⟨(some 11), .mv (.t 1), none, []⟩,
    ⟨(some 12), .mv (.t 2), none, []⟩,
    ⟨(some 13), .buildS 22 1 2 [.sl 0 0 0] [(0, 1, (.t 11)), (1, 1, (.t 12))], none, []⟩,
    ⟨(some 14), .call (.f 99) [(.t 10), (.t 13)], none, []⟩,
    ⟨(some 15), .un .not (.t 14), none, []⟩])
  (.cond (.t 15) (.seq (.ops false [⟨(some 6), .mv (.k (.c (.sl 0 0 0))), none, []⟩,
     ⟨(some 7), .mv (.k (bv false)), none, []⟩])
   .ret)
   .skip))
 (.seq (.ops false [⟨(some 16), .load true 3 (.t 3), none, []⟩,
   ⟨(some 17), .mv (.t 2), none, []⟩,
   ⟨(some 18), .call (.f 78) [(.t 16), (.t 17)], none, []⟩,
   ⟨(some 8), .mv (.t 18), none, []⟩])
 (.seq (.seq (.ops false [⟨(some 19), .mv (.t 8), none, []⟩,
    ⟨(some 20), .len false (.t 19), none, []⟩,
    ⟨(some 21), .mv (.k (iv 0)), none, []⟩])
  (.block 0 (.loop [1, 3, 8, 20, 21] (.seq (.ops false [⟨(some 22), .bin .lss (.t 21) (.t 20), none, []⟩])
    (.seq (.cond (.t 22) .skip
      (.exit 0))
    (.seq (.block 1 (.seq (.ops false [⟨(some 23), .mv (.t 21), none, []⟩,
        ⟨(some 9), .mv (.t 23), none, []⟩])
      (.ops true [⟨(some 24), .mv (.t 8), none, []⟩,
       ⟨(some 25), .mv (.t 9), none, []⟩,
       ⟨(some 26), .mv (.t 8), none, []⟩,
       ⟨(some 27), .mv (.t 9), none, []⟩,
       ⟨(some 28), .idxA 1 (.t 26) (.t 27), none, []⟩,
       ⟨(some 29), .load false 1 (.t 28), none, []⟩,
       ⟨(some 30), .fieldA 0 (.t 3), none, []⟩,
       ⟨(some 31), .load false 1 (.t 30), none, []⟩,
       ⟨(some 32), .bin .add (.t 29) (.t 31), none, []⟩,
       ⟨(some 33), .mv (.t 1), none, []⟩,
       ⟨(some 34), .mv (.t 9), none, []⟩,
       ⟨(some 35), .idxA 1 (.t 33) (.t 34), none, []⟩,
       ⟨(some 36), .load false 1 (.t 35), none, []⟩,
       ⟨(some 37), .bin .sub (.t 32) (.t 36), none, []⟩,
       ⟨(some 38), .fieldA 0 (.t 3), none, []⟩,
       ⟨(some 39), .load false 1 (.t 38), none, []⟩,
       ⟨(some 40), .bin .rem (.t 37) (.t 39), none, []⟩,
       ⟨(some 41), .idxA 1 (.t 24) (.t 25), none, []⟩,
       ⟨none, .store 1 (.t 41) (.t 40), none, []⟩])))
    (.ops false [⟨(some 42), .bin .add (.t 21) (.k (iv 1)), none, []⟩,
     ⟨(some 21), .mv (.t 42), none, []⟩])))))))
 (.seq (.ops false [⟨(some 43), .mv (.t 8), none, []⟩,
   ⟨(some 6), .mv (.t 43), none, []⟩,
   ⟨(some 7), .mv (.k (bv true)), none, []⟩])
 .ret)))))⟩
theorem code47 : acode Try.prog hints 47 = some L47 := by kernel_rfl


/-- The ring behind the first 'n' single cells. -/
def aloneR (st re : Int) (xs ys os : List Int) : Nat → List Int
  | 0 => ys
  | n + 1 => (aloneR st re xs ys os n).set (os.getD n 0).toNat (told st re xs (aloneR st re xs ys os n) (os.getD n 0))
theorem aloneR_len {st re : Int} {xs ys os : List Int} : ∀ n, (aloneR st re xs ys os n).length = ys.length
  | 0 => rfl
  | n + 1 => by simp [aloneR, aloneR_len n]
theorem mem_set {α : Type} {xs : List α} {i : Nat} {a x : α} (h : x ∈ xs.set i a) : x ∈ xs ∨ x = a := by
  obtain ⟨j, hj⟩ := List.mem_iff_getElem?.1 h
  rw [List.getElem?_set] at hj
  split at hj
  · split at hj
    · exact .inr (Option.some.inj hj).symm
    · cases hj
  · exact .inl (List.mem_of_getElem? hj)
theorem aloneR_rg {st re : Int} {xs ys os : List Int} (hv : VR st re xs) (hr : RG st ys) : ∀ n, RG st (aloneR st re xs ys os n)
  | 0 => hr
  | n + 1 => by
    have ih := aloneR_rg (os := os) hv hr n
    refine ⟨by rw [aloneR_len]; exact hr.1, fun x hx => ?_⟩
    rcases mem_set hx with h | rfl
    · exact ih.2 x h
    · exact (told_in hv ih _).2
/-- The numbers of cells. -/
def OrdP (os : List Int) (n : Nat) : Prop := os.length ≤ 1000 ∧ ∀ x ∈ os, 0 ≤ x ∧ x ≤ (n : Int) - 1
theorem c_implAloneSteps {s : St} [Wf s] {st re : Int} {id_xs off_xs len_xs : Nat} {xs : List Int} [h_xs : ArgE ic s id_xs off_xs xs] (hl_xs : xs.length = len_xs := by first | rfl | simp | omega | (simp; omega)) {id_ys off_ys len_ys : Nat} {ys : List Int} [h_ys : ArgE ic s id_ys off_ys ys] (hl_ys : ys.length = len_ys := by first | rfl | simp | omega | (simp; omega)) {id_os off_os len_os : Nat} {os : List Int} [h_os : ArgE ic s id_os off_os os] (hl_os : os.length = len_os := by first | rfl | simp | omega | (simp; omega)) (hb : len_xs ≤ 2000000 ∧ len_ys ≤ 2000000 ∧ len_os ≤ 2000000 := by omega) :
    Fn [] 50 [.agg [ic st, ic re, .sl id_xs off_xs len_xs], .c (.sl id_ys off_ys len_ys), .c (.sl id_os off_os len_os)] s (IntsRes ((VR st re xs ∧ RG st ys) ∧ OrdP os ys.length) (aloneR st re xs ys os os.length)) := by
  refine F_start code50 ?_
  by_cases hv : VR st re xs ∧ RG st ys
  case neg =>
    repeat' (first
 | refine A_go rfl ?_ | refine A_ifT rfl rfl ?_ | refine A_ifF rfl rfl ?_
 | refine A_offP rfl rfl ?_ | refine A_offH rfl rfl ?_ | refine A_off0 rfl rfl ?_
 | refine A_add rfl rfl rfl (by omega) ?_ | refine A_sub rfl rfl rfl (by omega) ?_
 | ((first | refine A_lt rfl rfl rfl ?_ ?_) <;> intro hc <;> try first | contradiction | (exfalso; omega) | exact absurd rfl hc)
 | refine A_idxN1 rfl rfl rfl (by omega) ?_ | refine A_idx1 rfl rfl rfl (by omega) ?_
 | (refine A_bld1 (enc := rc) (a := ⟨_, _, _, ys⟩) rfl rfl ?_ <;> intro pz hpz)
 | (refine A_callB rfl rfl (fun s H => c_ringed1 (ys := ys)) ?_ ?_ <;> intro hc <;> try first | contradiction | (exfalso; omega) | exact absurd rfl hc | exact absurd (And.intro rfl rfl) hc | exact absurd (And.intro rfl (And.intro rfl rfl)) hc | exact absurd (Eq.trans (by assumption) (Eq.symm (by assumption))) hc)
 | refine A_p (by rfl) rfl ?_
 | refine A_ldI rfl (by first | omega | (simp; done) | (simp; omega)) rfl ?_ | refine A_ldB rfl (by first | omega | (simp; done) | (simp; omega)) rfl ?_ | refine A_ld rfl (by rfl) rfl ?_
 | refine A_ldW rfl (by simp) rfl ?_
 | refine A_st rfl rfl rfl ?_ | refine A_stE rfl rfl (by first | omega | (simp; done) | (simp; omega)) rfl ?_
 | ((first | refine A_box rfl rfl ?_ | refine A_boxC rfl rfl ?_ | refine A_bld1 rfl rfl ?_ | refine A_bld2 rfl rfl rfl ?_ | refine A_bld4 rfl rfl rfl rfl rfl ?_) <;> intro pz hpz)
 | refine A_bld0 rfl ?_
 | refine A_ret rfl (by exact (RP.t rfl (RP.t rfl RP.nil))) ?_)
    exact R_intsN fun h => hv h.1
  by_cases hs : OrdP os ys.length
  case neg =>
    repeat' (first
 | refine A_go rfl ?_ | refine A_ifT rfl rfl ?_ | refine A_ifF rfl rfl ?_
 | refine A_offP rfl rfl ?_ | refine A_offH rfl rfl ?_ | refine A_off0 rfl rfl ?_
 | refine A_add rfl rfl rfl (by omega) ?_ | refine A_sub rfl rfl rfl (by omega) ?_
 | ((first | refine A_lt rfl rfl rfl ?_ ?_) <;> intro hc <;> try first | contradiction | (exfalso; omega) | exact absurd rfl hc)
 | refine A_idxN1 rfl rfl rfl (by omega) ?_ | refine A_idx1 rfl rfl rfl (by omega) ?_
 | (refine A_bld1 (enc := rc) (a := ⟨_, _, _, ys⟩) rfl rfl ?_ <;> intro pz hpz)
 | (refine A_callB rfl rfl (fun s H => c_ringed1 (ys := ys)) ?_ ?_ <;> intro hc <;> try first | contradiction | (exfalso; omega) | exact absurd rfl hc | exact absurd (And.intro rfl rfl) hc | exact absurd (And.intro rfl (And.intro rfl rfl)) hc | exact absurd (Eq.trans (by assumption) (Eq.symm (by assumption))) hc)
 | (refine A_callB rfl rfl (fun s H => c_areMany (xs := os)) ?_ ?_ <;> intro hc <;> try first | contradiction | (exfalso; omega) | exact absurd rfl hc | exact absurd (And.intro rfl rfl) hc | exact absurd (And.intro rfl (And.intro rfl rfl)) hc | exact absurd (Eq.trans (by assumption) (Eq.symm (by assumption))) hc)
 | refine A_p (by rfl) rfl ?_
 | refine A_ldI rfl (by first | omega | (simp; done) | (simp; omega)) rfl ?_ | refine A_ldB rfl (by first | omega | (simp; done) | (simp; omega)) rfl ?_ | refine A_ld rfl (by rfl) rfl ?_
 | refine A_ldW rfl (by simp) rfl ?_
 | refine A_st rfl rfl rfl ?_ | refine A_stE rfl rfl (by first | omega | (simp; done) | (simp; omega)) rfl ?_
 | ((first | refine A_box rfl rfl ?_ | refine A_boxC rfl rfl ?_ | refine A_bld1 rfl rfl ?_ | refine A_bld2 rfl rfl rfl ?_ | refine A_bld4 rfl rfl rfl rfl rfl ?_) <;> intro pz hpz)
 | refine A_bld0 rfl ?_
 | refine A_ret rfl (by exact (RP.t rfl (RP.t rfl RP.nil))) ?_)
    · exact absurd ⟨by omega, by rw [hl_ys]; exact hc.2⟩ hs
    · exact R_intsN fun h => hs h.2
  have hs1 := hs.1
  have hs2 := hs.2
  rw [hl_ys] at hs2
  have hs3 : ((0 : Int) ≤ len_os ∧ (len_os : Int) ≤ 1000) ∧ ∀ x ∈ os, 0 ≤ x ∧ x ≤ (len_ys : Int) - 1 := ⟨by omega, hs2⟩
  repeat' (first
 | refine A_go rfl ?_ | refine A_ifT rfl rfl ?_ | refine A_ifF rfl rfl ?_
 | refine A_offP rfl rfl ?_ | refine A_offH rfl rfl ?_ | refine A_off0 rfl rfl ?_
 | refine A_add rfl rfl rfl (by omega) ?_ | refine A_sub rfl rfl rfl (by omega) ?_
 | ((first | refine A_lt rfl rfl rfl ?_ ?_) <;> intro hc <;> try first | contradiction | (exfalso; omega) | exact absurd rfl hc)
 | refine A_idxN1 rfl rfl rfl (by omega) ?_ | refine A_idx1 rfl rfl rfl (by omega) ?_
 | (refine A_bld1 (enc := rc) (a := ⟨_, _, _, ys⟩) rfl rfl ?_ <;> intro pz hpz)
 | (refine A_callB rfl rfl (fun s H => c_ringed1 (ys := ys)) ?_ ?_ <;> intro hc <;> try first | contradiction | (exfalso; omega) | exact absurd rfl hc | exact absurd (And.intro rfl rfl) hc | exact absurd (And.intro rfl (And.intro rfl rfl)) hc | exact absurd (Eq.trans (by assumption) (Eq.symm (by assumption))) hc)
 | (refine A_callB rfl rfl (fun s H => c_areMany (xs := os)) ?_ ?_ <;> intro hc <;> try first | contradiction | (exfalso; omega) | exact absurd rfl hc | exact absurd (And.intro rfl rfl) hc | exact absurd (And.intro rfl (And.intro rfl rfl)) hc | exact absurd (Eq.trans (by assumption) (Eq.symm (by assumption))) hc)
 | (refine A_callM rfl rfl (fun s H => c_clone (xs := ys)) ?_; rintro _ _ ⟨pz, rfl, rfl⟩) | (refine A_callM0 rfl rfl (fun s H => c_clone (xs := ys)) ?_; rintro _ _ ⟨pz, rfl, rfl⟩)
 | refine A_p (by rfl) rfl ?_
 | refine A_ldI rfl (by first | omega | (simp; done) | (simp; omega)) rfl ?_ | refine A_ldB rfl (by first | omega | (simp; done) | (simp; omega)) rfl ?_ | refine A_ld rfl (by rfl) rfl ?_
 | refine A_ldW rfl (by simp) rfl ?_
 | refine A_st rfl rfl rfl ?_ | refine A_stE rfl rfl (by first | omega | (simp; done) | (simp; omega)) rfl ?_
 | ((first | refine A_box rfl rfl ?_ | refine A_boxC rfl rfl ?_ | refine A_bld1 rfl rfl ?_ | refine A_bld2 rfl rfl rfl ?_ | refine A_bld4 rfl rfl rfl rfl rfl ?_) <;> intro pz hpz)
 | refine A_bld0 rfl ?_
 | refine A_ret rfl (by exact (RP.t rfl (RP.t rfl RP.nil))) ?_)
  rename_i q3 _ _ _
  refine A_loop rfl [q3, pz] (fun m fr L => ∃ (i : Nat), m = len_os - i ∧ fr = [(3, .c (.ptr q3 0)), (8, .c (.sl pz 0 len_ys)), (26, .c (.sl id_os off_os len_os)), (27, iv len_os), (28, iv i)] ∧ L = [(q3, .rw 30 3 [ic st, ic re, .sl id_xs off_xs len_xs]), (pz, ints (aloneR st re xs ys os i))] ∧ i ≤ len_os) len_os ⟨0, rfl, rfl, rfl, by omega⟩ ?_
  rintro m fr L ⟨i, rfl, rfl, rfl, hi⟩
  have hr' := aloneR_rg (os := os) hv.1 hv.2 i
  have hl' := aloneR_len (st := st) (re := re) (xs := xs) (ys := ys) (os := os) i
  by_cases hin : i < len_os
  · have := hs2 _ (getD_mem (d := 0) (by omega : i < os.length))
    repeat' (first
 | refine A_go rfl ?_ | refine A_ifT rfl rfl ?_ | refine A_ifF rfl rfl ?_
 | refine A_offP rfl rfl ?_ | refine A_offH rfl rfl ?_ | refine A_off0 rfl rfl ?_
 | refine A_add rfl rfl rfl (by omega) ?_ | refine A_sub rfl rfl rfl (by omega) ?_
 | ((first | refine A_lt rfl rfl rfl ?_ ?_) <;> intro hc <;> try first | contradiction | (exfalso; omega) | exact absurd rfl hc)
 | refine A_idxN1 rfl rfl rfl (by omega) ?_ | refine A_idx1 rfl rfl rfl (by omega) ?_
 | refine A_callV rfl rfl (fun s H => c_rat (ys := aloneR st re xs ys os i) (hv := hv.1) (hr := hr')) ?_
 | refine A_p (by rfl) rfl ?_
 | refine A_ldI rfl (by first | omega | (simp; done) | (simp; omega)) rfl ?_ | refine A_ldB rfl (by first | omega | (simp; done) | (simp; omega)) rfl ?_ | refine A_ld rfl (by rfl) rfl ?_
 | refine A_ldW rfl (by simp) rfl ?_
 | refine A_st rfl rfl rfl ?_ | refine A_stE rfl rfl (by first | omega | (simp; done) | (simp; omega)) rfl ?_
 | ((first | refine A_box rfl rfl ?_ | refine A_boxC rfl rfl ?_ | refine A_bld1 rfl rfl ?_ | refine A_bld2 rfl rfl rfl ?_ | refine A_bld4 rfl rfl rfl rfl rfl ?_) <;> intro pz hpz)
 | refine A_bld0 rfl ?_
 | refine A_ret rfl (by exact (RP.t rfl (RP.t rfl RP.nil))) ?_)
    refine A_round rfl [q3, pz] (len_os - (i + 1)) (by omega) ?_
    exact ⟨i + 1, rfl, rfl, rfl, by omega⟩
  · obtain rfl : len_os = i := by omega
    repeat' (first
 | refine A_go rfl ?_ | refine A_ifT rfl rfl ?_ | refine A_ifF rfl rfl ?_
 | refine A_offP rfl rfl ?_ | refine A_offH rfl rfl ?_ | refine A_off0 rfl rfl ?_
 | refine A_add rfl rfl rfl (by omega) ?_ | refine A_sub rfl rfl rfl (by omega) ?_
 | ((first | refine A_lt rfl rfl rfl ?_ ?_) <;> intro hc <;> try first | contradiction | (exfalso; omega) | exact absurd rfl hc)
 | refine A_idxN1 rfl rfl rfl (by omega) ?_ | refine A_idx1 rfl rfl rfl (by omega) ?_
 | refine A_p (by rfl) rfl ?_
 | refine A_ldI rfl (by first | omega | (simp; done) | (simp; omega)) rfl ?_ | refine A_ldB rfl (by first | omega | (simp; done) | (simp; omega)) rfl ?_ | refine A_ld rfl (by rfl) rfl ?_
 | refine A_ldW rfl (by simp) rfl ?_
 | refine A_st rfl rfl rfl ?_ | refine A_stE rfl rfl (by first | omega | (simp; done) | (simp; omega)) rfl ?_
 | ((first | refine A_box rfl rfl ?_ | refine A_boxC rfl rfl ?_ | refine A_bld1 rfl rfl ?_ | refine A_bld2 rfl rfl rfl ?_ | refine A_bld4 rfl rfl rfl rfl rfl ?_) <;> intro pz hpz)
 | refine A_bld0 rfl ?_
 | refine A_ret rfl (by exact (RP.t rfl (RP.t rfl RP.nil))) ?_)
    have := hr'.1
    rw [hl_os]
    exact R_ints ⟨hv, hs⟩ (by omega) (by omega)
/-- The next ring less the one before. -/
def secondR (st re : Int) (xs bs ys : List Int) : List Int := (List.range ys.length).map fun i : Nat => ((stepR st re xs ys).getD i 0 + st - bs.getD i 0) % st
@[simp] theorem secondR_len {st re : Int} {xs bs ys : List Int} : (secondR st re xs bs ys).length = ys.length := by simp [secondR]
theorem secondR_get {st re : Int} {xs bs ys : List Int} {i : Nat} (h : i < ys.length) : (secondR st re xs bs ys).getD i 0 = ((stepR st re xs ys).getD i 0 + st - bs.getD i 0) % st := getD_map_range h
abbrev SecP (st re : Int) (xs bs ys : List Int) : Prop := VR st re xs ∧ RG st bs ∧ RG st ys ∧ bs.length = ys.length
theorem c_implSecondStep {s : St} [Wf s] {st re : Int} {id_xs off_xs len_xs : Nat} {xs : List Int} [h_xs : ArgE ic s id_xs off_xs xs] (hl_xs : xs.length = len_xs := by first | rfl | simp | omega | (simp; omega)) {id_bs off_bs len_bs : Nat} {bs : List Int} [h_bs : ArgE ic s id_bs off_bs bs] (hl_bs : bs.length = len_bs := by first | rfl | simp | omega | (simp; omega)) {id_ys off_ys len_ys : Nat} {ys : List Int} [h_ys : ArgE ic s id_ys off_ys ys] (hl_ys : ys.length = len_ys := by first | rfl | simp | omega | (simp; omega)) (hb : len_xs ≤ 2000000 ∧ len_bs ≤ 2000000 ∧ len_ys ≤ 2000000 := by omega) :
    Fn [] 47 [.agg [ic st, ic re, .sl id_xs off_xs len_xs], .c (.sl id_bs off_bs len_bs), .c (.sl id_ys off_ys len_ys)] s (IntsRes (SecP st re xs bs ys) (secondR st re xs bs ys)) := by
  refine F_start code47 ?_
  by_cases hv : SecP st re xs bs ys
  case neg =>
    repeat' (first
 | refine A_go rfl ?_ | refine A_ifT rfl rfl ?_ | refine A_ifF rfl rfl ?_
 | refine A_add rfl rfl rfl (by omega) ?_ | refine A_sub rfl rfl rfl (by omega) ?_ | refine A_rem rfl rfl rfl (by omega) ?_ | refine A_remT rfl rfl rfl (by omega) ?_
 | ((first | refine A_lt rfl rfl rfl ?_ ?_) <;> intro hc <;> try first | contradiction | (exfalso; omega) | exact absurd rfl hc)
 | refine A_idxN1 rfl rfl rfl (by omega) ?_ | refine A_idx1 rfl rfl rfl (by omega) ?_
 | (refine A_bld2 (enc := rc) (a := ⟨_, _, _, bs⟩) (c := ⟨_, _, _, ys⟩) rfl rfl rfl ?_ <;> intro pz hpz)
 | (refine A_callB rfl rfl (fun s H => c_ringed2 (ys := bs) (zs := ys)) ?_ ?_ <;> intro hc <;> try first | contradiction | (exfalso; omega) | exact absurd rfl hc | exact absurd (And.intro rfl rfl) hc | exact absurd (And.intro rfl (And.intro rfl rfl)) hc | exact absurd (Eq.trans (by assumption) (Eq.symm (by assumption))) hc)
 | refine A_fld rfl rfl ?_ | refine A_p (by rfl) rfl ?_
 | refine A_ldI rfl (by first | omega | (simp; done) | (simp; omega)) rfl ?_ | refine A_ldB rfl (by first | omega | (simp; done) | (simp; omega)) rfl ?_ | refine A_ld rfl (by rfl) rfl ?_
 | refine A_ldW rfl (by simp) rfl ?_
 | refine A_st rfl rfl rfl ?_ | refine A_stE rfl rfl (by first | omega | (simp; done) | (simp; omega)) rfl ?_
 | ((first | refine A_box rfl rfl ?_ | refine A_boxC rfl rfl ?_ | refine A_bld1 rfl rfl ?_ | refine A_bld2 rfl rfl rfl ?_ | refine A_bld4 rfl rfl rfl rfl rfl ?_) <;> intro pz hpz)
 | refine A_bld0 rfl ?_
 | refine A_ret rfl (by exact (RP.t rfl (RP.t rfl RP.nil))) ?_)
    exact R_intsN hv
  have hv' := hv
  obtain ⟨v1, v2, v3, v4⟩ := hv'
  have v1' := v1.1
  have v3' := v3.1
  repeat' (first
 | refine A_go rfl ?_ | refine A_ifT rfl rfl ?_ | refine A_ifF rfl rfl ?_
 | refine A_add rfl rfl rfl (by omega) ?_ | refine A_sub rfl rfl rfl (by omega) ?_ | refine A_rem rfl rfl rfl (by omega) ?_ | refine A_remT rfl rfl rfl (by omega) ?_
 | ((first | refine A_lt rfl rfl rfl ?_ ?_) <;> intro hc <;> try first | contradiction | (exfalso; omega) | exact absurd rfl hc)
 | refine A_idxN1 rfl rfl rfl (by omega) ?_ | refine A_idx1 rfl rfl rfl (by omega) ?_
 | (refine A_bld2 (enc := rc) (a := ⟨_, _, _, bs⟩) (c := ⟨_, _, _, ys⟩) rfl rfl rfl ?_ <;> intro pz hpz)
 | (refine A_callB rfl rfl (fun s H => c_ringed2 (ys := bs) (zs := ys)) ?_ ?_ <;> intro hc <;> try first | contradiction | (exfalso; omega) | exact absurd rfl hc | exact absurd (And.intro rfl rfl) hc | exact absurd (And.intro rfl (And.intro rfl rfl)) hc | exact absurd (Eq.trans (by assumption) (Eq.symm (by assumption))) hc)
 | (refine A_callM rfl rfl (fun s H => c_rstep (ys := ys) (hv := v1) (hr := v3)) ?_; rintro _ _ ⟨pz, rfl, rfl⟩) | (refine A_callM0 rfl rfl (fun s H => c_rstep (ys := ys) (hv := v1) (hr := v3)) ?_; rintro _ _ ⟨pz, rfl, rfl⟩)
 | refine A_fld rfl rfl ?_ | refine A_p (by rfl) rfl ?_
 | refine A_ldI rfl (by first | omega | (simp; done) | (simp; omega)) rfl ?_ | refine A_ldB rfl (by first | omega | (simp; done) | (simp; omega)) rfl ?_ | refine A_ld rfl (by rfl) rfl ?_
 | refine A_ldW rfl (by simp) rfl ?_
 | refine A_st rfl rfl rfl ?_ | refine A_stE rfl rfl (by first | omega | (simp; done) | (simp; omega)) rfl ?_
 | ((first | refine A_box rfl rfl ?_ | refine A_boxC rfl rfl ?_ | refine A_bld1 rfl rfl ?_ | refine A_bld2 rfl rfl rfl ?_ | refine A_bld4 rfl rfl rfl rfl rfl ?_) <;> intro pz hpz)
 | refine A_bld0 rfl ?_
 | refine A_ret rfl (by exact (RP.t rfl (RP.t rfl RP.nil))) ?_)
  rename_i q3 _ _
  refine A_loop rfl [q3, pz] (fun m fr L => ∃ (i : Nat) (zs : List Int), m = len_ys - i ∧ fr = [(1, .c (.sl id_bs off_bs len_bs)), (3, .c (.ptr q3 0)), (8, .c (.sl pz 0 len_ys)), (20, iv len_ys), (21, iv i)] ∧ L = [(q3, .rw 30 3 [ic st, ic re, .sl id_xs off_xs len_xs]), (pz, ints zs)] ∧ i ≤ len_ys ∧ zs.length = len_ys ∧ zs.take i = (secondR st re xs bs ys).take i ∧ ∀ j, i ≤ j → zs.getD j 0 = (stepR st re xs ys).getD j 0) len_ys ⟨0, _, rfl, rfl, rfl, by omega, by simp; omega, by simp, fun j _ => rfl⟩ ?_
  rintro m fr L ⟨i, zs, rfl, rfl, rfl, hi, hz, ht, hd⟩
  by_cases hin : i < len_ys
  · have h1 := hd i (Nat.le_refl i)
    have h2 := (stepR_rg v1 v3).2 _ (getD_mem (d := 0) (by simp; omega : i < (stepR st re xs ys).length))
    have h3 := v2.2 _ (getD_mem (d := 0) (by omega : i < bs.length))
    repeat' (first
 | refine A_go rfl ?_ | refine A_ifT rfl rfl ?_ | refine A_ifF rfl rfl ?_
 | refine A_add rfl rfl rfl (by omega) ?_ | refine A_sub rfl rfl rfl (by omega) ?_ | refine A_rem rfl rfl rfl (by omega) ?_ | refine A_remT rfl rfl rfl (by omega) ?_
 | ((first | refine A_lt rfl rfl rfl ?_ ?_) <;> intro hc <;> try first | contradiction | (exfalso; omega) | exact absurd rfl hc)
 | refine A_idxN1 rfl rfl rfl (by omega) ?_ | refine A_idx1 rfl rfl rfl (by omega) ?_
 | refine A_fld rfl rfl ?_ | refine A_p (by rfl) rfl ?_
 | refine A_ldI rfl (by first | omega | (simp; done) | (simp; omega)) rfl ?_ | refine A_ldB rfl (by first | omega | (simp; done) | (simp; omega)) rfl ?_ | refine A_ld rfl (by rfl) rfl ?_
 | refine A_ldW rfl (by simp) rfl ?_
 | refine A_st rfl rfl rfl ?_ | refine A_stE rfl rfl (by first | omega | (simp; done) | (simp; omega)) rfl ?_
 | ((first | refine A_box rfl rfl ?_ | refine A_boxC rfl rfl ?_ | refine A_bld1 rfl rfl ?_ | refine A_bld2 rfl rfl rfl ?_ | refine A_bld4 rfl rfl rfl rfl rfl ?_) <;> intro pz hpz)
 | refine A_bld0 rfl ?_
 | refine A_ret rfl (by exact (RP.t rfl (RP.t rfl RP.nil))) ?_)
    refine A_round rfl [q3, pz] (len_ys - (i + 1)) (by omega) ?_
    refine ⟨i + 1, _, rfl, rfl, rfl, by omega, by simp [hz], ?_, fun j hj => ?_⟩
    · rw [h1, ← secondR_get (by omega)]
      exact take_set ht (by omega) (by simp; omega)
    · rw [getD_set (by omega), if_neg (by omega)]; exact hd j (by omega)
  · obtain rfl : len_ys = i := by omega
    obtain rfl := take_end ht (by omega) (by simp; omega)
    repeat' (first
 | refine A_go rfl ?_ | refine A_ifT rfl rfl ?_ | refine A_ifF rfl rfl ?_
 | refine A_add rfl rfl rfl (by omega) ?_ | refine A_sub rfl rfl rfl (by omega) ?_ | refine A_rem rfl rfl rfl (by omega) ?_ | refine A_remT rfl rfl rfl (by omega) ?_
 | ((first | refine A_lt rfl rfl rfl ?_ ?_) <;> intro hc <;> try first | contradiction | (exfalso; omega) | exact absurd rfl hc)
 | refine A_idxN1 rfl rfl rfl (by omega) ?_ | refine A_idx1 rfl rfl rfl (by omega) ?_
 | refine A_fld rfl rfl ?_ | refine A_p (by rfl) rfl ?_
 | refine A_ldI rfl (by first | omega | (simp; done) | (simp; omega)) rfl ?_ | refine A_ldB rfl (by first | omega | (simp; done) | (simp; omega)) rfl ?_ | refine A_ld rfl (by rfl) rfl ?_
 | refine A_ldW rfl (by simp) rfl ?_
 | refine A_st rfl rfl rfl ?_ | refine A_stE rfl rfl (by first | omega | (simp; done) | (simp; omega)) rfl ?_
 | ((first | refine A_box rfl rfl ?_ | refine A_boxC rfl rfl ?_ | refine A_bld1 rfl rfl ?_ | refine A_bld2 rfl rfl rfl ?_ | refine A_bld4 rfl rfl rfl rfl rfl ?_) <;> intro pz hpz)
 | refine A_bld0 rfl ?_
 | refine A_ret rfl (by exact (RP.t rfl (RP.t rfl RP.nil))) ?_)
    exact R_ints ⟨v1, v2, v3, v4⟩ (by omega) (by omega)
end Go.Proofs.Ytafdjnhlhepibaa
