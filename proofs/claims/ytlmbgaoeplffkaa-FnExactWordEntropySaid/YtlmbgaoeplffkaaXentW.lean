/- How often words are in a ring. -/
import Derived.Test.YtlmbgaoeplffkaaXringed
import Derived.Test.YtlmbgaoeplffkaaFB
namespace Go.Proofs.Ytlmbgaoeplffkaa
open Go Go.RowKit
set_option linter.unusedVariables false
set_option linter.unusedSimpArgs false
set_option maxRecDepth 100000
set_option maxHeartbeats 8000000
-- impl.WordsOfRing
def L56 : AFun := ⟨56, [.t 6, .t 7],
 (.seq (.ops false [⟨(some 6), .mv (.k (.c (.sl 0 0 0))), none, []⟩,
   ⟨(some 7), .mv (.k (bv false)), none, []⟩])
 (.seq (.seq (.ops false [⟨(some 12), .mv (.t 0), none, []⟩,
    ⟨(some 13), .mv (.t 1), none, []⟩,
    ⟨(some 14), .call (.f 81) [(.t 12), (.t 13)], none, []⟩,
    ⟨(some 15), .un .not (.t 14), none, []⟩,
    ⟨(some 16), .mv (.t 15), none, []⟩,
    ⟨(some 17), .mv (.t 2), (some (16, false)), []⟩,
    ⟨(some 18), .call (.f 43) [(.t 17), (.k (iv 1)), (.k (iv 4))], (some (16, false)), []⟩,
    ⟨(some 19), .un .not (.t 18), (some (16, false)), []⟩,
    ⟨(some 20), .pick (.t 16) (.k (bv true)) (.t 19), none, []⟩])
  (.cond (.t 20) (.seq (.ops false [⟨(some 6), .mv (.k (.c (.sl 0 0 0))), none, []⟩,
     ⟨(some 7), .mv (.k (bv false)), none, []⟩])
   .ret)
   .skip))
 (.seq (.ops false [⟨(some 21), .mv (.t 1), none, []⟩,
   ⟨(some 22), .mv (.t 2), none, []⟩,
   ⟨(some 23), .call (.f 67) [(.t 21), (.t 22)], none, []⟩,
   ⟨(some 24), .makeS 2 1 8 [.int .i64 0] (.t 23) (.t 23), none, []⟩,
   ⟨(some 8), .mv (.t 24), none, []⟩])
 (.seq (.seq (.ops false [⟨(some 25), .mv (.t 0), none, []⟩,
    ⟨(some 26), .len false (.t 25), none, []⟩,
    ⟨(some 27), .mv (.k (iv 0)), none, []⟩])
  (.block 0 (.loop [0, 1, 2, 8, 26, 27] (.seq (.ops false [⟨(some 28), .bin .lss (.t 27) (.t 26), none, []⟩])
    (.seq (.cond (.t 28) .skip
      (.exit 0))
    (.seq (.block 1 (.seq (.ops false [⟨(some 29), .mv (.t 27), none, []⟩,
        ⟨(some 9), .mv (.t 29), none, []⟩])
      (.seq (.ops false [⟨(some 10), .mv (.k (iv 0)), none, []⟩])
      (.seq (.seq (.ops false [⟨(some 30), .mv (.t 2), none, []⟩,
         ⟨(some 31), .mv (.k (iv 0)), none, []⟩])
       (.block 2 (.loop [0, 1, 2, 8, 9, 10, 26, 27, 30, 31] (.seq (.ops false [⟨(some 32), .bin .lss (.t 31) (.t 30), none, []⟩])
         (.seq (.cond (.t 32) .skip
           (.exit 2))
         (.seq (.block 3 (.seq (.ops false [⟨(some 33), .mv (.t 31), none, []⟩,
             ⟨(some 11), .mv (.t 33), none, []⟩])
           (.ops false [⟨(some 34), .mv (.t 10), none, []⟩,
            ⟨(some 35), .mv (.t 1), none, []⟩,
            ⟨(some 36), .bin .mul (.t 34) (.t 35), none, []⟩,
            ⟨(some 37), .mv (.t 0), none, []⟩,
            ⟨(some 38), .mv (.t 9), none, []⟩,
            ⟨(some 39), .mv (.t 11), none, []⟩,
            ⟨(some 40), .bin .add (.t 38) (.t 39), none, []⟩,
            ⟨(some 41), .mv (.t 0), none, []⟩,
            ⟨(some 42), .len false (.t 41), none, []⟩,
            ⟨(some 43), .bin .rem (.t 40) (.t 42), none, []⟩,
            ⟨(some 44), .idxA 1 (.t 37) (.t 43), none, []⟩,
            ⟨(some 45), .load false 1 (.t 44), none, []⟩,
            ⟨(some 46), .bin .add (.t 36) (.t 45), none, []⟩,
            ⟨(some 10), .mv (.t 46), none, []⟩])))
         (.ops false [⟨(some 47), .bin .add (.t 31) (.k (iv 1)), none, []⟩,
          ⟨(some 31), .mv (.t 47), none, []⟩])))))))
      (.ops false [⟨(some 48), .mv (.t 8), none, []⟩,
       ⟨(some 49), .mv (.t 10), none, []⟩,
       ⟨(some 50), .idxA 1 (.t 48) (.t 49), none, []⟩,
       ⟨(some 51), .load false 1 (.t 50), none, []⟩,
       ⟨(some 52), .bin .add (.t 51) (.k (iv 1)), none, []⟩,
       ⟨(some 53), .idxA 1 (.t 48) (.t 49), none, []⟩,
       ⟨none, .store 1 (.t 53) (.t 52), none, []⟩])))))
    (.ops false [⟨(some 54), .bin .add (.t 27) (.k (iv 1)), none, []⟩,
     ⟨(some 27), .mv (.t 54), none, []⟩])))))))
 (.seq (.ops false [⟨(some 55), .mv (.t 8), none, []⟩,
   ⟨(some 6), .mv (.t 55), none, []⟩,
   ⟨(some 7), .mv (.k (bv true)), none, []⟩])
 .ret)))))⟩
theorem code56 : acode Try.prog hints 56 = some L56 := by kernel_rfl

-- spec.l02Words
def L53 : AFun := ⟨62, [.t 6, .t 7],
 (.seq (.ops false [⟨(some 6), .mv (.k (.c (.sl 0 0 0))), none, []⟩,
   ⟨(some 7), .mv (.k (bv false)), none, []⟩])
 (.seq (.seq (.ops false [⟨(some 13), .mv (.t 1), none, []⟩,
    ⟨(some 14), .call (.f 48) [(.t 13), (.k (iv 2)), (.k (iv 3))], none, []⟩,
    ⟨(some 15), .un .not (.t 14), none, []⟩,
    ⟨(some 16), .mv (.t 15), none, []⟩,
    ⟨(some 17), .mv (.t 0), (some (16, false)), []⟩,
    ⟨(some 18), .mv (.t 1), (some (16, false)), []⟩,
    ⟨(some 19), .call (.f 69) [(.t 17), (.t 18)], (some (16, false)), []⟩,
    ⟨(some 20), .un .not (.t 19), (some (16, false)), []⟩,
    ⟨(some 21), .pick (.t 16) (.k (bv true)) (.t 20), none, []⟩,
    ⟨(some 22), .mv (.t 21), none, []⟩,
    ⟨(some 23), .mv (.t 2), (some (22, false)), []⟩,
    ⟨(some 24), .call (.f 48) [(.t 23), (.k (iv 1)), (.k (iv 4))], (some (22, false)), []⟩,
    ⟨(some 25), .un .not (.t 24), (some (22, false)), []⟩,
    ⟨(some 26), .pick (.t 22) (.k (bv true)) (.t 25), none, []⟩])
  (.cond (.t 26) (.seq (.ops false [⟨(some 6), .mv (.k (.c (.sl 0 0 0))), none, []⟩,
     ⟨(some 7), .mv (.k (bv false)), none, []⟩])
   .ret)
   .skip))
 (.seq (.ops false [⟨(some 27), .mv (.t 1), none, []⟩,
   ⟨(some 28), .mv (.t 2), none, []⟩,
   ⟨(some 29), .call (.f 71) [(.t 27), (.t 28)], none, []⟩,
   ⟨(some 30), .makeS 2 1 8 [.int .i64 0] (.t 29) (.t 29), none, []⟩,
   ⟨(some 8), .mv (.t 30), none, []⟩])
 (.seq (.ops false [⟨(some 31), .mv (.t 0), none, []⟩,
   ⟨(some 32), .len false (.t 31), none, []⟩,
   ⟨(some 9), .mv (.t 32), none, []⟩])
 (.seq (.seq (.ops false [⟨(some 10), .mv (.k (iv 0)), none, []⟩])
  (.block 0 (.loop [0, 1, 2, 8, 9, 10] (.seq (.seq (.ops false [⟨(some 33), .mv (.t 10), none, []⟩,
       ⟨(some 34), .mv (.t 9), none, []⟩,
       ⟨(some 35), .bin .lss (.t 33) (.t 34), none, []⟩])
     (.cond (.t 35) .skip
      (.exit 0)))
    (.seq (.block 1 (.seq (.ops false [⟨(some 11), .mv (.k (iv 0)), none, []⟩])
      (.seq (.seq (.ops false [⟨(some 12), .mv (.k (iv 0)), none, []⟩])
       (.block 2 (.loop [0, 1, 2, 8, 9, 10, 11, 12] (.seq (.seq (.ops false [⟨(some 38), .mv (.t 12), none, []⟩,
            ⟨(some 39), .mv (.t 2), none, []⟩,
            ⟨(some 40), .bin .lss (.t 38) (.t 39), none, []⟩])
          (.cond (.t 40) .skip
           (.exit 2)))
         (.seq (.block 3 (.ops false [⟨(some 43), .mv (.t 11), none, []⟩,
            ⟨(some 44), .mv (.t 1), none, []⟩,
            ⟨(some 45), .bin .mul (.t 43) (.t 44), none, []⟩,
            ⟨(some 46), .mv (.t 0), none, []⟩,
            ⟨(some 47), .mv (.t 10), none, []⟩,
            ⟨(some 48), .mv (.t 12), none, []⟩,
            ⟨(some 49), .bin .add (.t 47) (.t 48), none, []⟩,
            ⟨(some 50), .mv (.t 9), none, []⟩,
            ⟨(some 51), .bin .rem (.t 49) (.t 50), none, []⟩,
            ⟨(some 52), .idxA 1 (.t 46) (.t 51), none, []⟩,
            ⟨(some 53), .load false 1 (.t 52), none, []⟩,
            ⟨(some 54), .bin .add (.t 45) (.t 53), none, []⟩,
            ⟨(some 11), .mv (.t 54), none, []⟩]))
         (.ops false [⟨(some 41), .mv (.t 12), none, []⟩,
          ⟨(some 42), .bin .add (.t 41) (.k (iv 1)), none, []⟩,
          ⟨(some 12), .mv (.t 42), none, []⟩]))))))
      (.ops false [⟨(some 55), .mv (.t 8), none, []⟩,
       ⟨(some 56), .mv (.t 11), none, []⟩,
       ⟨(some 57), .idxA 1 (.t 55) (.t 56), none, []⟩,
       ⟨(some 58), .load false 1 (.t 57), none, []⟩,
       ⟨(some 59), .bin .add (.t 58) (.k (iv 1)), none, []⟩,
       ⟨(some 60), .idxA 1 (.t 55) (.t 56), none, []⟩,
       ⟨none, .store 1 (.t 60) (.t 59), none, []⟩]))))
    (.ops false [⟨(some 36), .mv (.t 10), none, []⟩,
     ⟨(some 37), .bin .add (.t 36) (.k (iv 1)), none, []⟩,
     ⟨(some 10), .mv (.t 37), none, []⟩]))))))
 (.seq (.ops false [⟨(some 61), .mv (.t 8), none, []⟩,
   ⟨(some 6), .mv (.t 61), none, []⟩,
   ⟨(some 7), .mv (.k (bv true)), none, []⟩])
 .ret))))))⟩
theorem code53 : acode Try.prog hints 53 = some L53 := by kernel_rfl


/-- The number of the word of 'k' cells that begins at 'i'. -/
def wix (S : Nat) (xs : List Int) (i : Nat) : Nat → Int
  | 0 => 0
  | k + 1 => wix S xs i k * S + xs.getD ((i + k) % xs.length) 0
theorem wix_in {S : Nat} {xs : List Int} {i : Nat} (hr : ∀ n, 0 ≤ xs.getD n 0 ∧ xs.getD n 0 ≤ (S : Int) - 1) (hS : 1 ≤ S) : ∀ k, 0 ≤ wix S xs i k ∧ wix S xs i k < ((S ^ k : Nat) : Int)
  | 0 => by rw [wix]; simp
  | k + 1 => by
    have ih := wix_in (i := i) hr hS k
    have h := hr ((i + k) % xs.length)
    rw [wix, Nat.pow_succ]
    push_cast
    generalize wix S xs i k = a at *
    generalize xs.getD ((i + k) % xs.length) 0 = d at *
    have e1 : 0 ≤ a * (S : Int) := Int.mul_nonneg ih.1 (by omega)
    have e2 : (a + 1) * (S : Int) ≤ ((S ^ k : Nat) : Int) * S := Int.mul_le_mul_of_nonneg_right (by omega) (by omega)
    rw [Int.add_mul, Int.one_mul] at e2
    push_cast at e2
    omega
def wcn (S l : Nat) (xs : List Int) : Nat → List Int
  | 0 => List.replicate (S ^ l) 0
  | i + 1 => (wcn S l xs i).set (wix S xs i l).toNat ((wcn S l xs i).getD (wix S xs i l).toNat 0 + 1)
@[simp] theorem wcn_len {S l : Nat} {xs : List Int} : ∀ i, (wcn S l xs i).length = S ^ l
  | 0 => by simp [wcn]
  | i + 1 => by rw [wcn, List.length_set, wcn_len i]
theorem wcn_in {S l : Nat} {xs : List Int} : ∀ i n, 0 ≤ (wcn S l xs i).getD n 0 ∧ (wcn S l xs i).getD n 0 ≤ i
  | 0, n => by rw [wcn, List.getD_eq_getElem?_getD, List.getElem?_replicate]; split <;> simp
  | i + 1, n => by
    have ih := wcn_in (S := S) (l := l) (xs := xs) i
    rw [wcn]
    by_cases h : (wix S xs i l).toNat < (wcn S l xs i).length
    · rw [getD_set h]
      split
      · have := ih (wix S xs i l).toNat; omega
      · have := ih n; omega
    · rw [List.set_eq_of_length_le (by omega)]
      have := ih n; omega
abbrev WdP (st : Int) (xs : List Int) (lo : Int) : Prop := ((2 ≤ st ∧ st ≤ 3) ∧ RG st xs) ∧ 1 ≤ lo ∧ lo ≤ 4
def wcnR (st : Int) (xs : List Int) (lo : Int) : List Int := wcn st.toNat lo.toNat xs xs.length
theorem pow81 {S l : Nat} (hS : 2 ≤ S ∧ S ≤ 3) (hl : l ≤ 4) : 1 ≤ S ^ l ∧ S ^ l ≤ 81 := by
  refine ⟨Nat.pow_pos (by omega), Nat.le_trans (Nat.pow_le_pow_left hS.2 l) (Nat.le_trans (Nat.pow_le_pow_right (by omega) hl) (by decide))⟩
theorem WdP.nat {st lo : Int} {xs : List Int} (h : WdP st xs lo) : ∃ S l : Nat, st = S ∧ lo = l ∧ (2 ≤ S ∧ S ≤ 3) ∧ (1 ≤ l ∧ l ≤ 4) ∧ (1 ≤ xs.length ∧ xs.length ≤ 64) ∧ ∀ n, 0 ≤ xs.getD n 0 ∧ xs.getD n 0 ≤ (S : Int) - 1 := by
  obtain ⟨⟨h1, h2⟩, h3⟩ := h
  refine ⟨st.toNat, lo.toNat, by omega, by omega, by omega, by omega, ?_, fun n => ?_⟩
  · exact h2.1
  · by_cases hn : n < xs.length
    · have := h2.2 _ (getD_mem (d := 0) hn)
      omega
    · rw [List.getD_eq_getElem?_getD, List.getElem?_eq_none (by omega)]
      show (0 : Int) ≤ 0 ∧ (0 : Int) ≤ _
      omega
theorem c_IsRingN {s : St} [Wf s] {st : Int} {id off len : Nat} (h : ¬ (2 ≤ st ∧ st ≤ 3)) : FnV 81 [.c (.sl id off len), iv st] s (bv false) := by
  refine F_start code81 ?_
  repeat' (first
 | refine A_go rfl ?_ | refine A_ifT rfl rfl ?_ | refine A_ifF rfl rfl ?_
 | refine A_offP rfl rfl ?_ | refine A_offH rfl rfl ?_ | refine A_off0 rfl rfl ?_
 | refine A_sub rfl rfl rfl (by omega) ?_
 | (refine A_callB rfl rfl (fun s H => c_areStates) ?_ ?_ <;> intro hc <;> try first | contradiction | (exfalso; omega) | exact absurd rfl hc | exact absurd (And.intro rfl rfl) hc | exact absurd (And.intro rfl (And.intro rfl rfl)) hc | exact absurd (Eq.trans (by assumption) (Eq.symm (by assumption))) hc)
 | refine A_p (by rfl) rfl ?_
 | refine A_ret1 rfl (by exact (RP.t rfl RP.nil)) ?_)
  all_goals exact R_v rfl
theorem c_implWords {s : St} [Wf s] {st lo : Int} {id_xs off_xs len_xs : Nat} {xs : List Int} [h_xs : ArgE ic s id_xs off_xs xs] (hl_xs : xs.length = len_xs := by first | rfl | simp | omega | (simp; omega)) (hb : len_xs ≤ 2000000 := by omega) :
    Fn [] 56 [.c (.sl id_xs off_xs len_xs), iv st, iv lo] s (IntsRes (WdP st xs lo) (wcnR st xs lo)) := by
  refine F_start code56 ?_
  by_cases h0 : 2 ≤ st ∧ st ≤ 3
  case neg =>
    repeat' (first
 | refine A_go rfl ?_ | refine A_ifT rfl rfl ?_ | refine A_ifF rfl rfl ?_
 | refine A_offP rfl rfl ?_ | refine A_offH rfl rfl ?_ | refine A_off0 rfl rfl ?_
 | refine A_add rfl rfl rfl (by omega) ?_ | refine A_mul rfl rfl rfl (by omega) ?_ | refine A_rem rfl rfl rfl (by omega) ?_ | refine A_remT rfl rfl rfl (by omega) ?_
 | ((first | refine A_lt rfl rfl rfl ?_ ?_) <;> intro hc <;> try first | contradiction | (exfalso; omega) | exact absurd rfl hc)
 | refine A_idxN1 rfl rfl rfl (by omega) ?_ | refine A_idx1 rfl rfl rfl (by omega) ?_
 | refine A_callV rfl rfl (fun s H => c_IsRingN h0) ?_
 | refine A_p (by rfl) rfl ?_
 | refine A_ldI rfl (by first | omega | (simp; done) | (simp; omega)) rfl ?_ | refine A_ldB rfl (by first | omega | (simp; done) | (simp; omega)) rfl ?_ | refine A_ld rfl (by rfl) rfl ?_
 | refine A_st rfl rfl rfl ?_ | refine A_stE rfl rfl (by first | omega | (simp; done) | (simp; omega)) rfl ?_
 | ((first | refine A_makeN rfl rfl rfl (by omega) ?_ | refine A_make rfl rfl rfl (by omega) ?_) <;> intro pz hpz)
 | refine A_ret rfl (by exact (RP.t rfl (RP.t rfl RP.nil))) ?_)
    exact R_intsN fun h => h0 h.1.1
  by_cases h1 : (2 ≤ st ∧ st ≤ 3) ∧ RG st xs
  case neg =>
    repeat' (first
 | refine A_go rfl ?_ | refine A_ifT rfl rfl ?_ | refine A_ifF rfl rfl ?_
 | refine A_offP rfl rfl ?_ | refine A_offH rfl rfl ?_ | refine A_off0 rfl rfl ?_
 | refine A_add rfl rfl rfl (by omega) ?_ | refine A_mul rfl rfl rfl (by omega) ?_ | refine A_rem rfl rfl rfl (by omega) ?_ | refine A_remT rfl rfl rfl (by omega) ?_
 | ((first | refine A_lt rfl rfl rfl ?_ ?_) <;> intro hc <;> try first | contradiction | (exfalso; omega) | exact absurd rfl hc)
 | refine A_idxN1 rfl rfl rfl (by omega) ?_ | refine A_idx1 rfl rfl rfl (by omega) ?_
 | (refine A_callB rfl rfl (fun s H => c_IsRing) ?_ ?_ <;> intro hc <;> try first | contradiction | (exfalso; omega) | exact absurd rfl hc | exact absurd (And.intro rfl rfl) hc | exact absurd (And.intro rfl (And.intro rfl rfl)) hc | exact absurd (Eq.trans (by assumption) (Eq.symm (by assumption))) hc)
 | refine A_p (by rfl) rfl ?_
 | refine A_ldI rfl (by first | omega | (simp; done) | (simp; omega)) rfl ?_ | refine A_ldB rfl (by first | omega | (simp; done) | (simp; omega)) rfl ?_ | refine A_ld rfl (by rfl) rfl ?_
 | refine A_st rfl rfl rfl ?_ | refine A_stE rfl rfl (by first | omega | (simp; done) | (simp; omega)) rfl ?_
 | ((first | refine A_makeN rfl rfl rfl (by omega) ?_ | refine A_make rfl rfl rfl (by omega) ?_) <;> intro pz hpz)
 | refine A_ret rfl (by exact (RP.t rfl (RP.t rfl RP.nil))) ?_)
    exact R_intsN fun h => h1 h.1
  by_cases h2 : 1 ≤ lo ∧ lo ≤ 4
  case neg =>
    repeat' (first
 | refine A_go rfl ?_ | refine A_ifT rfl rfl ?_ | refine A_ifF rfl rfl ?_
 | refine A_offP rfl rfl ?_ | refine A_offH rfl rfl ?_ | refine A_off0 rfl rfl ?_
 | refine A_add rfl rfl rfl (by omega) ?_ | refine A_mul rfl rfl rfl (by omega) ?_ | refine A_rem rfl rfl rfl (by omega) ?_ | refine A_remT rfl rfl rfl (by omega) ?_
 | ((first | refine A_lt rfl rfl rfl ?_ ?_) <;> intro hc <;> try first | contradiction | (exfalso; omega) | exact absurd rfl hc)
 | refine A_idxN1 rfl rfl rfl (by omega) ?_ | refine A_idx1 rfl rfl rfl (by omega) ?_
 | (refine A_callB rfl rfl (fun s H => c_IsRing) ?_ ?_ <;> intro hc <;> try first | contradiction | (exfalso; omega) | exact absurd rfl hc | exact absurd (And.intro rfl rfl) hc | exact absurd (And.intro rfl (And.intro rfl rfl)) hc | exact absurd (Eq.trans (by assumption) (Eq.symm (by assumption))) hc)
 | (refine A_callB rfl rfl (fun s H => c_within) ?_ ?_ <;> intro hc <;> try first | contradiction | (exfalso; omega) | exact absurd rfl hc | exact absurd (And.intro rfl rfl) hc | exact absurd (And.intro rfl (And.intro rfl rfl)) hc | exact absurd (Eq.trans (by assumption) (Eq.symm (by assumption))) hc)
 | refine A_p (by rfl) rfl ?_
 | refine A_ldI rfl (by first | omega | (simp; done) | (simp; omega)) rfl ?_ | refine A_ldB rfl (by first | omega | (simp; done) | (simp; omega)) rfl ?_ | refine A_ld rfl (by rfl) rfl ?_
 | refine A_st rfl rfl rfl ?_ | refine A_stE rfl rfl (by first | omega | (simp; done) | (simp; omega)) rfl ?_
 | ((first | refine A_makeN rfl rfl rfl (by omega) ?_ | refine A_make rfl rfl rfl (by omega) ?_) <;> intro pz hpz)
 | refine A_ret rfl (by exact (RP.t rfl (RP.t rfl RP.nil))) ?_)
    exact R_intsN fun h => h2 h.2
  have hP : WdP st xs lo := ⟨h1, h2⟩
  obtain ⟨S, l, rfl, rfl, hS, hl, hn, hr⟩ := hP.nat
  have hpw := pow81 (l := l) hS hl.2
  have eR : wcnR S xs l = wcn S l xs len_xs := by rw [wcnR, hl_xs]; rfl
  rw [eR]
  generalize hN : S ^ l = N at *
  repeat' (first
 | refine A_go rfl ?_ | refine A_ifT rfl rfl ?_ | refine A_ifF rfl rfl ?_
 | refine A_offP rfl rfl ?_ | refine A_offH rfl rfl ?_ | refine A_off0 rfl rfl ?_
 | refine A_add rfl rfl rfl (by omega) ?_ | refine A_mul rfl rfl rfl (by omega) ?_ | refine A_rem rfl rfl rfl (by omega) ?_ | refine A_remT rfl rfl rfl (by omega) ?_
 | ((first | refine A_lt rfl rfl rfl ?_ ?_) <;> intro hc <;> try first | contradiction | (exfalso; omega) | exact absurd rfl hc)
 | refine A_idxN1 rfl rfl rfl (by omega) ?_ | refine A_idx1 rfl rfl rfl (by omega) ?_
 | (refine A_callB rfl rfl (fun s H => c_IsRing) ?_ ?_ <;> intro hc <;> try first | contradiction | (exfalso; omega) | exact absurd rfl hc | exact absurd (And.intro rfl rfl) hc | exact absurd (And.intro rfl (And.intro rfl rfl)) hc | exact absurd (Eq.trans (by assumption) (Eq.symm (by assumption))) hc)
 | (refine A_callB rfl rfl (fun s H => c_within) ?_ ?_ <;> intro hc <;> try first | contradiction | (exfalso; omega) | exact absurd rfl hc | exact absurd (And.intro rfl rfl) hc | exact absurd (And.intro rfl (And.intro rfl rfl)) hc | exact absurd (Eq.trans (by assumption) (Eq.symm (by assumption))) hc)
 | refine A_callV rfl rfl (fun s H => c_raised) ?_
 | simp only [Int.toNat_natCast, hN]
 | refine A_p (by rfl) rfl ?_
 | refine A_ldI rfl (by first | omega | (simp; done) | (simp; omega)) rfl ?_ | refine A_ldB rfl (by first | omega | (simp; done) | (simp; omega)) rfl ?_ | refine A_ld rfl (by rfl) rfl ?_
 | refine A_st rfl rfl rfl ?_ | refine A_stE rfl rfl (by first | omega | (simp; done) | (simp; omega)) rfl ?_
 | ((first | refine A_makeN rfl rfl rfl (by omega) ?_ | refine A_make rfl rfl rfl (by omega) ?_) <;> intro pz hpz)
 | refine A_ret rfl (by exact (RP.t rfl (RP.t rfl RP.nil))) ?_)
  refine A_loop rfl [pz] (fun m fr L => ∃ i : Nat, m = len_xs - i ∧ fr = [(0, .c (.sl id_xs off_xs len_xs)), (1, iv S), (2, iv l), (8, .c (.sl pz 0 N)), (26, iv len_xs), (27, iv i)] ∧ L = [(pz, ints (wcn S l xs i))] ∧ i ≤ len_xs) len_xs ⟨0, rfl, rfl, by rw [wcn, hN], by omega⟩ ?_
  rintro m fr L ⟨i, rfl, rfl, rfl, hi⟩
  have hwl : (wcn S l xs i).length = N := by rw [wcn_len, hN]
  by_cases hi' : i < len_xs
  case neg =>
    obtain rfl : len_xs = i := by omega
    repeat' (first
 | refine A_go rfl ?_ | refine A_ifT rfl rfl ?_ | refine A_ifF rfl rfl ?_
 | refine A_offP rfl rfl ?_ | refine A_offH rfl rfl ?_ | refine A_off0 rfl rfl ?_
 | refine A_add rfl rfl rfl (by omega) ?_ | refine A_mul rfl rfl rfl (by omega) ?_ | refine A_rem rfl rfl rfl (by omega) ?_ | refine A_remT rfl rfl rfl (by omega) ?_
 | ((first | refine A_lt rfl rfl rfl ?_ ?_) <;> intro hc <;> try first | contradiction | (exfalso; omega) | exact absurd rfl hc)
 | refine A_idxN1 rfl rfl rfl (by omega) ?_ | refine A_idx1 rfl rfl rfl (by omega) ?_
 | refine A_p (by rfl) rfl ?_
 | refine A_ldI rfl (by first | omega | (simp; done) | (simp; omega)) rfl ?_ | refine A_ldB rfl (by first | omega | (simp; done) | (simp; omega)) rfl ?_ | refine A_ld rfl (by rfl) rfl ?_
 | refine A_st rfl rfl rfl ?_ | refine A_stE rfl rfl (by first | omega | (simp; done) | (simp; omega)) rfl ?_
 | ((first | refine A_makeN rfl rfl rfl (by omega) ?_ | refine A_make rfl rfl rfl (by omega) ?_) <;> intro pz hpz)
 | refine A_ret rfl (by exact (RP.t rfl (RP.t rfl RP.nil))) ?_)
    exact R_ints hP hwl (by omega)
  repeat' (first
 | refine A_go rfl ?_ | refine A_ifT rfl rfl ?_ | refine A_ifF rfl rfl ?_
 | refine A_offP rfl rfl ?_ | refine A_offH rfl rfl ?_ | refine A_off0 rfl rfl ?_
 | refine A_add rfl rfl rfl (by omega) ?_ | refine A_mul rfl rfl rfl (by omega) ?_ | refine A_rem rfl rfl rfl (by omega) ?_ | refine A_remT rfl rfl rfl (by omega) ?_
 | ((first | refine A_lt rfl rfl rfl ?_ ?_) <;> intro hc <;> try first | contradiction | (exfalso; omega) | exact absurd rfl hc)
 | refine A_idxN1 rfl rfl rfl (by omega) ?_ | refine A_idx1 rfl rfl rfl (by omega) ?_
 | refine A_p (by rfl) rfl ?_
 | refine A_ldI rfl (by first | omega | (simp; done) | (simp; omega)) rfl ?_ | refine A_ldB rfl (by first | omega | (simp; done) | (simp; omega)) rfl ?_ | refine A_ld rfl (by rfl) rfl ?_
 | refine A_st rfl rfl rfl ?_ | refine A_stE rfl rfl (by first | omega | (simp; done) | (simp; omega)) rfl ?_
 | ((first | refine A_makeN rfl rfl rfl (by omega) ?_ | refine A_make rfl rfl rfl (by omega) ?_) <;> intro pz hpz)
 | refine A_ret rfl (by exact (RP.t rfl (RP.t rfl RP.nil))) ?_)
  refine A_loop rfl [pz] (fun m fr L => ∃ k : Nat, m = l - k ∧ fr = [(0, .c (.sl id_xs off_xs len_xs)), (1, iv S), (2, iv l), (8, .c (.sl pz 0 N)), (9, iv i), (10, iv (wix S xs i k)), (26, iv len_xs), (27, iv i), (30, iv l), (31, iv k)] ∧ L = [(pz, ints (wcn S l xs i))] ∧ k ≤ l) l ⟨0, rfl, rfl, rfl, by omega⟩ ?_
  rintro m fr L ⟨k, rfl, rfl, rfl, hk⟩
  have hw := wix_in (xs := xs) (i := i) hr (by omega) k
  by_cases hk' : k < l
  · have hw1 := wix_in (xs := xs) (i := i) hr (by omega) (k + 1)
    have hp1 := pow81 (l := k + 1) hS (by omega)
    have hpk := pow81 (l := k) hS (by omega)
    have hx := hr ((i + k) % len_xs)
    have hmod : (i + k) % len_xs < len_xs := Nat.mod_lt _ (by omega)
    have hmodI : ((i : Int) + k) % (len_xs : Int) = (((i + k) % len_xs : Nat) : Int) := by push_cast; rfl
    have hwx : wix S xs i (k + 1) = wix S xs i k * S + xs.getD ((i + k) % len_xs) 0 := by rw [wix, hl_xs]
    rw [hwx] at hw1
    have hx2 : 0 ≤ xs.getD (((i + k) % len_xs : Nat) : Int).toNat 0 ∧ xs.getD (((i + k) % len_xs : Nat) : Int).toNat 0 ≤ (S : Int) - 1 := hx
    have hw2 : 0 ≤ wix S xs i k * S + xs.getD (((i + k) % len_xs : Nat) : Int).toNat 0 ∧ wix S xs i k * S + xs.getD (((i + k) % len_xs : Nat) : Int).toNat 0 < ((S ^ (k + 1) : Nat) : Int) := hw1
    repeat' (first
 | refine A_go rfl ?_ | refine A_ifT rfl rfl ?_ | refine A_ifF rfl rfl ?_
 | refine A_offP rfl rfl ?_ | refine A_offH rfl rfl ?_ | refine A_off0 rfl rfl ?_
 | refine A_add rfl rfl rfl (by omega) ?_ | refine A_mul rfl rfl rfl (by omega) ?_ | refine A_rem rfl rfl rfl (by omega) ?_ | refine A_remT rfl rfl rfl (by omega) ?_
 | ((first | refine A_lt rfl rfl rfl ?_ ?_) <;> intro hc <;> try first | contradiction | (exfalso; omega) | exact absurd rfl hc)
 | refine A_idxN1 rfl rfl rfl (by omega) ?_ | refine A_idx1 rfl rfl rfl (by omega) ?_
 | rw [hmodI]
 | refine A_p (by rfl) rfl ?_
 | refine A_ldI rfl (by first | omega | (simp; done) | (simp; omega)) rfl ?_ | refine A_ldB rfl (by first | omega | (simp; done) | (simp; omega)) rfl ?_ | refine A_ld rfl (by rfl) rfl ?_
 | refine A_st rfl rfl rfl ?_ | refine A_stE rfl rfl (by first | omega | (simp; done) | (simp; omega)) rfl ?_
 | ((first | refine A_makeN rfl rfl rfl (by omega) ?_ | refine A_make rfl rfl rfl (by omega) ?_) <;> intro pz hpz)
 | refine A_ret rfl (by exact (RP.t rfl (RP.t rfl RP.nil))) ?_)
    refine A_round rfl [pz] (l - (k + 1)) (by omega) ?_
    exact ⟨k + 1, rfl, by rw [hwx]; rfl, rfl, by omega⟩
  obtain rfl : l = k := by omega
  have hin := wcn_in (S := S) (l := l) (xs := xs) i (wix S xs i l).toNat
  rw [hN] at hw
  repeat' (first
 | refine A_go rfl ?_ | refine A_ifT rfl rfl ?_ | refine A_ifF rfl rfl ?_
 | refine A_offP rfl rfl ?_ | refine A_offH rfl rfl ?_ | refine A_off0 rfl rfl ?_
 | refine A_add rfl rfl rfl (by omega) ?_ | refine A_mul rfl rfl rfl (by omega) ?_ | refine A_rem rfl rfl rfl (by omega) ?_ | refine A_remT rfl rfl rfl (by omega) ?_
 | ((first | refine A_lt rfl rfl rfl ?_ ?_) <;> intro hc <;> try first | contradiction | (exfalso; omega) | exact absurd rfl hc)
 | refine A_idxN1 rfl rfl rfl (by omega) ?_ | refine A_idx1 rfl rfl rfl (by omega) ?_
 | refine A_p (by rfl) rfl ?_
 | refine A_ldI rfl (by first | omega | (simp; done) | (simp; omega)) rfl ?_ | refine A_ldB rfl (by first | omega | (simp; done) | (simp; omega)) rfl ?_ | refine A_ld rfl (by rfl) rfl ?_
 | refine A_st rfl rfl rfl ?_ | refine A_stE rfl rfl (by first | omega | (simp; done) | (simp; omega)) rfl ?_
 | ((first | refine A_makeN rfl rfl rfl (by omega) ?_ | refine A_make rfl rfl rfl (by omega) ?_) <;> intro pz hpz)
 | refine A_ret rfl (by exact (RP.t rfl (RP.t rfl RP.nil))) ?_)
  refine A_round rfl [pz] (len_xs - (i + 1)) (by omega) ?_
  exact ⟨i + 1, rfl, rfl, rfl, by omega⟩
theorem c_specWords {s : St} [Wf s] {st lo : Int} {id_xs off_xs len_xs : Nat} {xs : List Int} [h_xs : ArgE ic s id_xs off_xs xs] (hl_xs : xs.length = len_xs := by first | rfl | simp | omega | (simp; omega)) (hb : len_xs ≤ 2000000 := by omega) :
    Fn [] 53 [.c (.sl id_xs off_xs len_xs), iv st, iv lo] s (IntsRes (WdP st xs lo) (wcnR st xs lo)) := by
  refine F_start code53 ?_
  by_cases h0 : 2 ≤ st ∧ st ≤ 3
  case neg =>
    repeat' (first
 | refine A_go rfl ?_ | refine A_ifT rfl rfl ?_ | refine A_ifF rfl rfl ?_
 | refine A_offP rfl rfl ?_ | refine A_offH rfl rfl ?_ | refine A_off0 rfl rfl ?_
 | refine A_add rfl rfl rfl (by omega) ?_ | refine A_mul rfl rfl rfl (by omega) ?_ | refine A_rem rfl rfl rfl (by omega) ?_ | refine A_remT rfl rfl rfl (by omega) ?_
 | ((first | refine A_lt rfl rfl rfl ?_ ?_) <;> intro hc <;> try first | contradiction | (exfalso; omega) | exact absurd rfl hc)
 | refine A_idxN1 rfl rfl rfl (by omega) ?_ | refine A_idx1 rfl rfl rfl (by omega) ?_
 | (refine A_callB rfl rfl (fun s H => c_l00In) ?_ ?_ <;> intro hc <;> try first | contradiction | (exfalso; omega) | exact absurd rfl hc | exact absurd (And.intro rfl rfl) hc | exact absurd (And.intro rfl (And.intro rfl rfl)) hc | exact absurd (Eq.trans (by assumption) (Eq.symm (by assumption))) hc)
 | refine A_p (by rfl) rfl ?_
 | refine A_ldI rfl (by first | omega | (simp; done) | (simp; omega)) rfl ?_ | refine A_ldB rfl (by first | omega | (simp; done) | (simp; omega)) rfl ?_ | refine A_ld rfl (by rfl) rfl ?_
 | refine A_st rfl rfl rfl ?_ | refine A_stE rfl rfl (by first | omega | (simp; done) | (simp; omega)) rfl ?_
 | ((first | refine A_makeN rfl rfl rfl (by omega) ?_ | refine A_make rfl rfl rfl (by omega) ?_) <;> intro pz hpz)
 | refine A_ret rfl (by exact (RP.t rfl (RP.t rfl RP.nil))) ?_)
    exact R_intsN fun h => h0 h.1.1
  by_cases h3 : RG st xs
  case neg =>
    repeat' (first
 | refine A_go rfl ?_ | refine A_ifT rfl rfl ?_ | refine A_ifF rfl rfl ?_
 | refine A_offP rfl rfl ?_ | refine A_offH rfl rfl ?_ | refine A_off0 rfl rfl ?_
 | refine A_add rfl rfl rfl (by omega) ?_ | refine A_mul rfl rfl rfl (by omega) ?_ | refine A_rem rfl rfl rfl (by omega) ?_ | refine A_remT rfl rfl rfl (by omega) ?_
 | ((first | refine A_lt rfl rfl rfl ?_ ?_) <;> intro hc <;> try first | contradiction | (exfalso; omega) | exact absurd rfl hc)
 | refine A_idxN1 rfl rfl rfl (by omega) ?_ | refine A_idx1 rfl rfl rfl (by omega) ?_
 | (refine A_callB rfl rfl (fun s H => c_l00In) ?_ ?_ <;> intro hc <;> try first | contradiction | (exfalso; omega) | exact absurd rfl hc | exact absurd (And.intro rfl rfl) hc | exact absurd (And.intro rfl (And.intro rfl rfl)) hc | exact absurd (Eq.trans (by assumption) (Eq.symm (by assumption))) hc)
 | (refine A_callB rfl rfl (fun s H => c_l02Ring) ?_ ?_ <;> intro hc <;> try first | contradiction | (exfalso; omega) | exact absurd rfl hc | exact absurd (And.intro rfl rfl) hc | exact absurd (And.intro rfl (And.intro rfl rfl)) hc | exact absurd (Eq.trans (by assumption) (Eq.symm (by assumption))) hc)
 | refine A_p (by rfl) rfl ?_
 | refine A_ldI rfl (by first | omega | (simp; done) | (simp; omega)) rfl ?_ | refine A_ldB rfl (by first | omega | (simp; done) | (simp; omega)) rfl ?_ | refine A_ld rfl (by rfl) rfl ?_
 | refine A_st rfl rfl rfl ?_ | refine A_stE rfl rfl (by first | omega | (simp; done) | (simp; omega)) rfl ?_
 | ((first | refine A_makeN rfl rfl rfl (by omega) ?_ | refine A_make rfl rfl rfl (by omega) ?_) <;> intro pz hpz)
 | refine A_ret rfl (by exact (RP.t rfl (RP.t rfl RP.nil))) ?_)
    exact R_intsN fun h => h3 h.1.2
  have h1 : (2 ≤ st ∧ st ≤ 3) ∧ RG st xs := ⟨h0, h3⟩
  by_cases h2 : 1 ≤ lo ∧ lo ≤ 4
  case neg =>
    repeat' (first
 | refine A_go rfl ?_ | refine A_ifT rfl rfl ?_ | refine A_ifF rfl rfl ?_
 | refine A_offP rfl rfl ?_ | refine A_offH rfl rfl ?_ | refine A_off0 rfl rfl ?_
 | refine A_add rfl rfl rfl (by omega) ?_ | refine A_mul rfl rfl rfl (by omega) ?_ | refine A_rem rfl rfl rfl (by omega) ?_ | refine A_remT rfl rfl rfl (by omega) ?_
 | ((first | refine A_lt rfl rfl rfl ?_ ?_) <;> intro hc <;> try first | contradiction | (exfalso; omega) | exact absurd rfl hc)
 | refine A_idxN1 rfl rfl rfl (by omega) ?_ | refine A_idx1 rfl rfl rfl (by omega) ?_
 | (refine A_callB rfl rfl (fun s H => c_l00In) ?_ ?_ <;> intro hc <;> try first | contradiction | (exfalso; omega) | exact absurd rfl hc | exact absurd (And.intro rfl rfl) hc | exact absurd (And.intro rfl (And.intro rfl rfl)) hc | exact absurd (Eq.trans (by assumption) (Eq.symm (by assumption))) hc)
 | (refine A_callB rfl rfl (fun s H => c_l02Ring) ?_ ?_ <;> intro hc <;> try first | contradiction | (exfalso; omega) | exact absurd rfl hc | exact absurd (And.intro rfl rfl) hc | exact absurd (And.intro rfl (And.intro rfl rfl)) hc | exact absurd (Eq.trans (by assumption) (Eq.symm (by assumption))) hc)
 | refine A_p (by rfl) rfl ?_
 | refine A_ldI rfl (by first | omega | (simp; done) | (simp; omega)) rfl ?_ | refine A_ldB rfl (by first | omega | (simp; done) | (simp; omega)) rfl ?_ | refine A_ld rfl (by rfl) rfl ?_
 | refine A_st rfl rfl rfl ?_ | refine A_stE rfl rfl (by first | omega | (simp; done) | (simp; omega)) rfl ?_
 | ((first | refine A_makeN rfl rfl rfl (by omega) ?_ | refine A_make rfl rfl rfl (by omega) ?_) <;> intro pz hpz)
 | refine A_ret rfl (by exact (RP.t rfl (RP.t rfl RP.nil))) ?_)
    exact R_intsN fun h => h2 h.2
  have hP : WdP st xs lo := ⟨h1, h2⟩
  obtain ⟨S, l, rfl, rfl, hS, hl, hn, hr⟩ := hP.nat
  have hpw := pow81 (l := l) hS hl.2
  have eR : wcnR S xs l = wcn S l xs len_xs := by rw [wcnR, hl_xs]; rfl
  rw [eR]
  generalize hN : S ^ l = N at *
  repeat' (first
 | refine A_go rfl ?_ | refine A_ifT rfl rfl ?_ | refine A_ifF rfl rfl ?_
 | refine A_offP rfl rfl ?_ | refine A_offH rfl rfl ?_ | refine A_off0 rfl rfl ?_
 | refine A_add rfl rfl rfl (by omega) ?_ | refine A_mul rfl rfl rfl (by omega) ?_ | refine A_rem rfl rfl rfl (by omega) ?_ | refine A_remT rfl rfl rfl (by omega) ?_
 | ((first | refine A_lt rfl rfl rfl ?_ ?_) <;> intro hc <;> try first | contradiction | (exfalso; omega) | exact absurd rfl hc)
 | refine A_idxN1 rfl rfl rfl (by omega) ?_ | refine A_idx1 rfl rfl rfl (by omega) ?_
 | (refine A_callB rfl rfl (fun s H => c_l00In) ?_ ?_ <;> intro hc <;> try first | contradiction | (exfalso; omega) | exact absurd rfl hc | exact absurd (And.intro rfl rfl) hc | exact absurd (And.intro rfl (And.intro rfl rfl)) hc | exact absurd (Eq.trans (by assumption) (Eq.symm (by assumption))) hc)
 | (refine A_callB rfl rfl (fun s H => c_l02Ring) ?_ ?_ <;> intro hc <;> try first | contradiction | (exfalso; omega) | exact absurd rfl hc | exact absurd (And.intro rfl rfl) hc | exact absurd (And.intro rfl (And.intro rfl rfl)) hc | exact absurd (Eq.trans (by assumption) (Eq.symm (by assumption))) hc)
 | refine A_callV rfl rfl (fun s H => c_l02Powers) ?_
 | simp only [Int.toNat_natCast, hN]
 | refine A_p (by rfl) rfl ?_
 | refine A_ldI rfl (by first | omega | (simp; done) | (simp; omega)) rfl ?_ | refine A_ldB rfl (by first | omega | (simp; done) | (simp; omega)) rfl ?_ | refine A_ld rfl (by rfl) rfl ?_
 | refine A_st rfl rfl rfl ?_ | refine A_stE rfl rfl (by first | omega | (simp; done) | (simp; omega)) rfl ?_
 | ((first | refine A_makeN rfl rfl rfl (by omega) ?_ | refine A_make rfl rfl rfl (by omega) ?_) <;> intro pz hpz)
 | refine A_ret rfl (by exact (RP.t rfl (RP.t rfl RP.nil))) ?_)
  refine A_loop rfl [pz] (fun m fr L => ∃ i : Nat, m = len_xs - i ∧ fr = [(0, .c (.sl id_xs off_xs len_xs)), (1, iv S), (2, iv l), (8, .c (.sl pz 0 N)), (9, iv len_xs), (10, iv i)] ∧ L = [(pz, ints (wcn S l xs i))] ∧ i ≤ len_xs) len_xs ⟨0, rfl, rfl, by rw [wcn, hN], by omega⟩ ?_
  rintro m fr L ⟨i, rfl, rfl, rfl, hi⟩
  have hwl : (wcn S l xs i).length = N := by rw [wcn_len, hN]
  by_cases hi' : i < len_xs
  case neg =>
    obtain rfl : len_xs = i := by omega
    repeat' (first
 | refine A_go rfl ?_ | refine A_ifT rfl rfl ?_ | refine A_ifF rfl rfl ?_
 | refine A_offP rfl rfl ?_ | refine A_offH rfl rfl ?_ | refine A_off0 rfl rfl ?_
 | refine A_add rfl rfl rfl (by omega) ?_ | refine A_mul rfl rfl rfl (by omega) ?_ | refine A_rem rfl rfl rfl (by omega) ?_ | refine A_remT rfl rfl rfl (by omega) ?_
 | ((first | refine A_lt rfl rfl rfl ?_ ?_) <;> intro hc <;> try first | contradiction | (exfalso; omega) | exact absurd rfl hc)
 | refine A_idxN1 rfl rfl rfl (by omega) ?_ | refine A_idx1 rfl rfl rfl (by omega) ?_
 | refine A_p (by rfl) rfl ?_
 | refine A_ldI rfl (by first | omega | (simp; done) | (simp; omega)) rfl ?_ | refine A_ldB rfl (by first | omega | (simp; done) | (simp; omega)) rfl ?_ | refine A_ld rfl (by rfl) rfl ?_
 | refine A_st rfl rfl rfl ?_ | refine A_stE rfl rfl (by first | omega | (simp; done) | (simp; omega)) rfl ?_
 | ((first | refine A_makeN rfl rfl rfl (by omega) ?_ | refine A_make rfl rfl rfl (by omega) ?_) <;> intro pz hpz)
 | refine A_ret rfl (by exact (RP.t rfl (RP.t rfl RP.nil))) ?_)
    exact R_ints hP hwl (by omega)
  repeat' (first
 | refine A_go rfl ?_ | refine A_ifT rfl rfl ?_ | refine A_ifF rfl rfl ?_
 | refine A_offP rfl rfl ?_ | refine A_offH rfl rfl ?_ | refine A_off0 rfl rfl ?_
 | refine A_add rfl rfl rfl (by omega) ?_ | refine A_mul rfl rfl rfl (by omega) ?_ | refine A_rem rfl rfl rfl (by omega) ?_ | refine A_remT rfl rfl rfl (by omega) ?_
 | ((first | refine A_lt rfl rfl rfl ?_ ?_) <;> intro hc <;> try first | contradiction | (exfalso; omega) | exact absurd rfl hc)
 | refine A_idxN1 rfl rfl rfl (by omega) ?_ | refine A_idx1 rfl rfl rfl (by omega) ?_
 | refine A_p (by rfl) rfl ?_
 | refine A_ldI rfl (by first | omega | (simp; done) | (simp; omega)) rfl ?_ | refine A_ldB rfl (by first | omega | (simp; done) | (simp; omega)) rfl ?_ | refine A_ld rfl (by rfl) rfl ?_
 | refine A_st rfl rfl rfl ?_ | refine A_stE rfl rfl (by first | omega | (simp; done) | (simp; omega)) rfl ?_
 | ((first | refine A_makeN rfl rfl rfl (by omega) ?_ | refine A_make rfl rfl rfl (by omega) ?_) <;> intro pz hpz)
 | refine A_ret rfl (by exact (RP.t rfl (RP.t rfl RP.nil))) ?_)
  refine A_loop rfl [pz] (fun m fr L => ∃ k : Nat, m = l - k ∧ fr = [(0, .c (.sl id_xs off_xs len_xs)), (1, iv S), (2, iv l), (8, .c (.sl pz 0 N)), (9, iv len_xs), (10, iv i), (11, iv (wix S xs i k)), (12, iv k)] ∧ L = [(pz, ints (wcn S l xs i))] ∧ k ≤ l) l ⟨0, rfl, rfl, rfl, by omega⟩ ?_
  rintro m fr L ⟨k, rfl, rfl, rfl, hk⟩
  have hw := wix_in (xs := xs) (i := i) hr (by omega) k
  by_cases hk' : k < l
  · have hw1 := wix_in (xs := xs) (i := i) hr (by omega) (k + 1)
    have hp1 := pow81 (l := k + 1) hS (by omega)
    have hpk := pow81 (l := k) hS (by omega)
    have hx := hr ((i + k) % len_xs)
    have hmod : (i + k) % len_xs < len_xs := Nat.mod_lt _ (by omega)
    have hmodI : ((i : Int) + k) % (len_xs : Int) = (((i + k) % len_xs : Nat) : Int) := by push_cast; rfl
    have hwx : wix S xs i (k + 1) = wix S xs i k * S + xs.getD ((i + k) % len_xs) 0 := by rw [wix, hl_xs]
    rw [hwx] at hw1
    have hx2 : 0 ≤ xs.getD (((i + k) % len_xs : Nat) : Int).toNat 0 ∧ xs.getD (((i + k) % len_xs : Nat) : Int).toNat 0 ≤ (S : Int) - 1 := hx
    have hw2 : 0 ≤ wix S xs i k * S + xs.getD (((i + k) % len_xs : Nat) : Int).toNat 0 ∧ wix S xs i k * S + xs.getD (((i + k) % len_xs : Nat) : Int).toNat 0 < ((S ^ (k + 1) : Nat) : Int) := hw1
    repeat' (first
 | refine A_go rfl ?_ | refine A_ifT rfl rfl ?_ | refine A_ifF rfl rfl ?_
 | refine A_offP rfl rfl ?_ | refine A_offH rfl rfl ?_ | refine A_off0 rfl rfl ?_
 | refine A_add rfl rfl rfl (by omega) ?_ | refine A_mul rfl rfl rfl (by omega) ?_ | refine A_rem rfl rfl rfl (by omega) ?_ | refine A_remT rfl rfl rfl (by omega) ?_
 | ((first | refine A_lt rfl rfl rfl ?_ ?_) <;> intro hc <;> try first | contradiction | (exfalso; omega) | exact absurd rfl hc)
 | refine A_idxN1 rfl rfl rfl (by omega) ?_ | refine A_idx1 rfl rfl rfl (by omega) ?_
 | rw [hmodI]
 | refine A_p (by rfl) rfl ?_
 | refine A_ldI rfl (by first | omega | (simp; done) | (simp; omega)) rfl ?_ | refine A_ldB rfl (by first | omega | (simp; done) | (simp; omega)) rfl ?_ | refine A_ld rfl (by rfl) rfl ?_
 | refine A_st rfl rfl rfl ?_ | refine A_stE rfl rfl (by first | omega | (simp; done) | (simp; omega)) rfl ?_
 | ((first | refine A_makeN rfl rfl rfl (by omega) ?_ | refine A_make rfl rfl rfl (by omega) ?_) <;> intro pz hpz)
 | refine A_ret rfl (by exact (RP.t rfl (RP.t rfl RP.nil))) ?_)
    refine A_round rfl [pz] (l - (k + 1)) (by omega) ?_
    exact ⟨k + 1, rfl, by rw [hwx]; rfl, rfl, by omega⟩
  obtain rfl : l = k := by omega
  have hin := wcn_in (S := S) (l := l) (xs := xs) i (wix S xs i l).toNat
  rw [hN] at hw
  repeat' (first
 | refine A_go rfl ?_ | refine A_ifT rfl rfl ?_ | refine A_ifF rfl rfl ?_
 | refine A_offP rfl rfl ?_ | refine A_offH rfl rfl ?_ | refine A_off0 rfl rfl ?_
 | refine A_add rfl rfl rfl (by omega) ?_ | refine A_mul rfl rfl rfl (by omega) ?_ | refine A_rem rfl rfl rfl (by omega) ?_ | refine A_remT rfl rfl rfl (by omega) ?_
 | ((first | refine A_lt rfl rfl rfl ?_ ?_) <;> intro hc <;> try first | contradiction | (exfalso; omega) | exact absurd rfl hc)
 | refine A_idxN1 rfl rfl rfl (by omega) ?_ | refine A_idx1 rfl rfl rfl (by omega) ?_
 | refine A_p (by rfl) rfl ?_
 | refine A_ldI rfl (by first | omega | (simp; done) | (simp; omega)) rfl ?_ | refine A_ldB rfl (by first | omega | (simp; done) | (simp; omega)) rfl ?_ | refine A_ld rfl (by rfl) rfl ?_
 | refine A_st rfl rfl rfl ?_ | refine A_stE rfl rfl (by first | omega | (simp; done) | (simp; omega)) rfl ?_
 | ((first | refine A_makeN rfl rfl rfl (by omega) ?_ | refine A_make rfl rfl rfl (by omega) ?_) <;> intro pz hpz)
 | refine A_ret rfl (by exact (RP.t rfl (RP.t rfl RP.nil))) ?_)
  refine A_round rfl [pz] (len_xs - (i + 1)) (by omega) ?_
  exact ⟨i + 1, rfl, rfl, rfl, by omega⟩

end Go.Proofs.Ytlmbgaoeplffkaa
