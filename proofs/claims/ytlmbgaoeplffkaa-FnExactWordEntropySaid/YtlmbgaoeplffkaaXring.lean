/- Rings and their next ones. -/
import Derived.Test.YtlmbgaoeplffkaaXrule
import Derived.Test.YtlmbgaoeplffkaaXfieldAt
import Derived.Test.YtlmbgaoeplffkaaFB
namespace Go.Proofs.Ytlmbgaoeplffkaa
open Go Go.RowKit
set_option linter.unusedVariables false
set_option linter.unusedSimpArgs false
set_option maxRecDepth 100000
set_option maxHeartbeats 8000000
-- spec.l02Told
def L70 : AFun := ⟨52, [.t 6],
 (.seq (.ops false [⟨(some 6), .mv (.k (iv 0)), none, []⟩])
 (.seq (.ops false [⟨(some 10), .mv (.t 1), none, []⟩,
   ⟨(some 11), .len false (.t 10), none, []⟩,
   ⟨(some 7), .mv (.t 11), none, []⟩])
 (.seq (.ops false [⟨(some 8), .mv (.k (iv 0)), none, []⟩])
 (.seq (.seq (.ops false [⟨(some 12), .mv (.t 2), none, []⟩,
    ⟨(some 13), .mv (.t 0), none, []⟩,
    ⟨(some 14), .nilChk (.t 13), none, []⟩,
    ⟨(some 15), .fieldA 1 (.t 14), none, []⟩,
    ⟨(some 16), .load false 1 (.t 15), none, []⟩,
    ⟨(some 17), .bin .sub (.t 12) (.t 16), none, []⟩,
    ⟨(some 9), .mv (.t 17), none, []⟩])
  (.block 0 (.loop [0, 1, 2, 7, 8, 9] (.seq (.seq (.ops false [⟨(some 18), .mv (.t 9), none, []⟩,
       ⟨(some 19), .mv (.t 2), none, []⟩,
       ⟨(some 20), .mv (.t 0), none, []⟩,
       ⟨(some 21), .nilChk (.t 20), none, []⟩,
       ⟨(some 22), .fieldA 1 (.t 21), none, []⟩,
       ⟨(some 23), .load false 1 (.t 22), none, []⟩,
       ⟨(some 24), .bin .add (.t 19) (.t 23), none, []⟩,
       ⟨(some 25), .bin .leq (.t 18) (.t 24), none, []⟩])
     (.cond (.t 25) .skip
      (.exit 0)))
    (.seq (.block 1 (.ops true [⟨(some 28), .mv (.t 8), none, []⟩,
       ⟨(some 29), .mv (.t 0), none, []⟩,
       ⟨(some 30), .nilChk (.t 29), none, []⟩,
       ⟨(some 31), .fieldA 0 (.t 30), none, []⟩,
       ⟨(some 32), .load false 1 (.t 31), none, []⟩,
       ⟨(some 33), .bin .mul (.t 28) (.t 32), none, []⟩,
       ⟨(some 34), .mv (.t 1), none, []⟩,
       ⟨(some 35), .mv (.t 9), none, []⟩,
       ⟨(some 36), .mv (.t 7), none, []⟩,
       ⟨(some 37), .bin .rem (.t 35) (.t 36), none, []⟩,
       ⟨(some 38), .mv (.t 7), none, []⟩,
       ⟨(some 39), .bin .add (.t 37) (.t 38), none, []⟩,
       ⟨(some 40), .mv (.t 7), none, []⟩,
       ⟨(some 41), .bin .rem (.t 39) (.t 40), none, []⟩,
       ⟨(some 42), .idxA 1 (.t 34) (.t 41), none, []⟩,
       ⟨(some 43), .load false 1 (.t 42), none, []⟩,
       ⟨(some 44), .bin .add (.t 33) (.t 43), none, []⟩,
       ⟨(some 8), .mv (.t 44), none, []⟩]))
    (.ops false [⟨(some 26), .mv (.t 9), none, []⟩,
     ⟨(some 27), .bin .add (.t 26) (.k (iv 1)), none, []⟩,
     ⟨(some 9), .mv (.t 27), none, []⟩]))))))
 (.seq (.ops false [⟨(some 45), .mv (.t 0), none, []⟩,
   ⟨(some 46), .nilChk (.t 45), none, []⟩,
   ⟨(some 47), .fieldA 2 (.t 46), none, []⟩,
   ⟨(some 48), .load false 1 (.t 47), none, []⟩,
   ⟨(some 49), .mv (.t 8), none, []⟩,
   ⟨(some 50), .idxA 1 (.t 48) (.t 49), none, []⟩,
   ⟨(some 51), .load false 1 (.t 50), none, []⟩,
   ⟨(some 6), .mv (.t 51), none, []⟩])
 .ret)))))⟩
theorem code70 : acode Try.prog hints 70 = some L70 := by kernel_rfl

-- spec.l02Step
def L42 : AFun := ⟨22, [.t 4],
 (.seq (.ops false [⟨(some 4), .mv (.k (.c (.sl 0 0 0))), none, []⟩])
 (.seq (.ops false [⟨(some 7), .buildS 2 1 0 [.int .i64 0] [], none, []⟩,
   ⟨(some 5), .mv (.t 7), none, []⟩])
 (.seq (.seq (.ops false [⟨(some 6), .mv (.k (iv 0)), none, []⟩])
  (.block 0 (.loop [0, 1, 5, 6] (.seq (.seq (.ops false [⟨(some 8), .mv (.t 6), none, []⟩,
       ⟨(some 9), .mv (.t 1), none, []⟩,
       ⟨(some 10), .len false (.t 9), none, []⟩,
       ⟨(some 11), .bin .lss (.t 8) (.t 10), none, []⟩])
     (.cond (.t 11) .skip
      (.exit 0)))
    (.seq (.block 1 (.ops false [⟨(some 14), .mv (.t 5), none, []⟩,
       ⟨(some 15), .mv (.t 0), none, []⟩,
       ⟨(some 16), .mv (.t 1), none, []⟩,
       ⟨(some 17), .mv (.t 6), none, []⟩,
       ⟨(some 18), .call (.f 70) [(.t 15), (.t 16), (.t 17)], none, []⟩,
       ⟨(some 19), .buildS 2 1 1 [.int .i64 0] [(0, 1, (.t 18))], none, []⟩,
       ⟨(some 20), .append 2 1 8 (.t 14) (.t 19), none, []⟩,
       ⟨(some 5), .mv (.t 20), none, []⟩]))
    (.ops false [⟨(some 12), .mv (.t 6), none, []⟩,
     ⟨(some 13), .bin .add (.t 12) (.k (iv 1)), none, []⟩,
     ⟨(some 6), .mv (.t 13), none, []⟩]))))))
 (.seq (.ops false [⟨(some 21), .mv (.t 5), none, []⟩,
   ⟨(some 4), .mv (.t 21), none, []⟩])
 .ret))))⟩
theorem code42 : acode Try.prog hints 42 = some L42 := by kernel_rfl


/-- The number of the first 'm' cells from 'a' on, round and round. -/
def hoodN (S : Int) (ys : List Int) (a : Int) : Nat → Int
  | 0 => 0
  | m + 1 => hoodN S ys a m * S + ys.getD ((a + m) % ys.length).toNat 0
/-- A ring. -/
def RG (st : Int) (ys : List Int) : Prop := (1 ≤ ys.length ∧ ys.length ≤ 64) ∧ ∀ x ∈ ys, 0 ≤ x ∧ x ≤ st - 1
theorem RG.cell {st : Int} {ys : List Int} (h : RG st ys) (a : Int) : 0 ≤ ys.getD (a % ys.length).toNat 0 ∧ ys.getD (a % ys.length).toNat 0 ≤ st - 1 := by
  have h1 := emod_in (a := a) (b := ys.length) (by have := h.1; omega)
  exact h.2 _ (getD_mem (by omega))
theorem hood_in {st : Int} {ys : List Int} {a : Int} (hs : 2 ≤ st ∧ st ≤ 3) (h : RG st ys) : ∀ m, 0 ≤ hoodN st ys a m ∧ hoodN st ys a m < ((st.toNat ^ m : Nat) : Int)
  | 0 => by simp [hoodN]
  | m + 1 => by
    have ih := hood_in (a := a) hs h m
    have hc := h.cell (a + m)
    have e : ((st.toNat ^ (m + 1) : Nat) : Int) = ((st.toNat ^ m : Nat) : Int) * st := by
      rw [Nat.pow_succ]; push_cast; rw [Int.toNat_of_nonneg (by omega)]
    have h1 := Int.mul_nonneg ih.1 (show 0 ≤ st by omega)
    have h2 := Int.mul_le_mul_of_nonneg_right (show hoodN st ys a m + 1 ≤ ((st.toNat ^ m : Nat) : Int) by omega) (show 0 ≤ st by omega)
    rw [Int.add_mul] at h2
    rw [e, hoodN]
    omega
theorem hood_small {st : Int} {ys : List Int} {a : Int} (hs : 2 ≤ st ∧ st ≤ 3) (h : RG st ys) {m : Nat} (hm : m ≤ 5) : 0 ≤ hoodN st ys a m ∧ hoodN st ys a m ≤ 242 := by
  have h1 := hood_in (a := a) hs h m
  have h2 : st.toNat ^ m ≤ 3 ^ 5 := Nat.le_trans (Nat.pow_le_pow_left (by omega) m) (Nat.pow_le_pow_right (by omega) hm)
  have h3 : (3 : Nat) ^ 5 = 243 := by decide
  omega
def told (st re : Int) (xs ys : List Int) (i : Int) : Int := xs.getD (hoodN st ys (i - re) (2 * re + 1).toNat).toNat 0
theorem told_in {st re : Int} {xs ys : List Int} (hv : VR st re xs) (hr : RG st ys) (i : Int) : (hoodN st ys (i - re) (2 * re + 1).toNat).toNat < xs.length ∧ 0 ≤ told st re xs ys i ∧ told st re xs ys i ≤ st - 1 := by
  have h1 := hood_in (a := i - re) hv.1 hr (2 * re + 1).toNat
  have h2 := hv.2.2.1
  have h3 : (hoodN st ys (i - re) (2 * re + 1).toNat).toNat < xs.length := by omega
  exact ⟨h3, hv.2.2.2 _ (getD_mem h3)⟩
/-- The next ring. -/
def stepR (st re : Int) (xs ys : List Int) : List Int := (List.range ys.length).map fun i : Nat => told st re xs ys (i : Int)
@[simp] theorem stepR_len {st re : Int} {xs ys : List Int} : (stepR st re xs ys).length = ys.length := by simp [stepR]
theorem stepR_get {st re : Int} {xs ys : List Int} {i : Nat} (h : i < ys.length) : (stepR st re xs ys).getD i 0 = told st re xs ys i := getD_map_range h
theorem stepR_rg {st re : Int} {xs ys : List Int} (hv : VR st re xs) (hr : RG st ys) : RG st (stepR st re xs ys) := by
  refine ⟨by simp [hr.1], fun x hx => ?_⟩
  obtain ⟨i, hi, rfl⟩ := mem_get (d := 0) hx
  rw [stepR_get (by simpa using hi)]
  exact (told_in hv hr i).2
theorem c_l02Told {s : St} [Wf s] {q : Nat} {st re i : Int} {id_xs off_xs len_xs : Nat} {xs : List Int} [hq : Ref s q [ic st, ic re, .sl id_xs off_xs len_xs]] [h_xs : ArgE ic s id_xs off_xs xs] {id_ys off_ys len_ys : Nat} {ys : List Int} [h_ys : ArgE ic s id_ys off_ys ys] (hl_xs : xs.length = len_xs := by first | rfl | simp | omega) (hl_ys : ys.length = len_ys := by first | rfl | simp | omega) (hv : VR st re xs) (hr : RG st ys) (hi : 0 ≤ i ∧ i < len_ys := by omega) :
    FnV 70 [.c (.ptr q 0), .c (.sl id_ys off_ys len_ys), iv i] s (iv (told st re xs ys i)) := by
  obtain ⟨W, hW⟩ : ∃ n : Nat, 2 * re + 1 = n := ⟨(2 * re + 1).toNat, by have := hv.2.1; omega⟩
  have g1 := hv.1
  have g2 := hv.2.1
  have g3 := hr.1
  refine F_start code70 ?_
  repeat' (first
 | refine A_go rfl ?_ | refine A_ifT rfl rfl ?_ | refine A_ifF rfl rfl ?_
 | refine A_add rfl rfl rfl (by omega) ?_ | refine A_sub rfl rfl rfl (by omega) ?_ | refine A_mul rfl rfl rfl (by omega) ?_ | refine A_rem rfl rfl rfl (by omega) ?_ | refine A_remT rfl rfl rfl (by omega) ?_
 | ((first | refine A_le rfl rfl rfl ?_ ?_) <;> intro hc <;> try first | contradiction | (exfalso; omega) | exact absurd rfl hc)
 | refine A_idxN1 rfl rfl rfl (by omega) ?_ | refine A_idx1 rfl rfl rfl (by omega) ?_
 | refine A_fld rfl rfl ?_ | refine A_p (by rfl) rfl ?_
 | refine A_ldI rfl (by first | omega | (simp; done) | (simp; omega)) rfl ?_ | refine A_ldB rfl (by first | omega | (simp; done) | (simp; omega)) rfl ?_ | refine A_ld rfl (by rfl) rfl ?_
 | refine A_ret1 rfl (by exact (RP.t rfl RP.nil)) ?_)
  refine A_loop rfl [] (fun m fr L => ∃ (n : Nat) (k x : Int), m = W - n ∧ fr = [(0, .c (.ptr q 0)), (1, .c (.sl id_ys off_ys len_ys)), (2, iv i), (7, iv len_ys), (8, iv x), (9, iv k)] ∧ L = [] ∧ n ≤ W ∧ k = i - re + n ∧ x = hoodN st ys (i - re) n) W ⟨0, _, _, rfl, rfl, rfl, by omega, by omega, rfl⟩ ?_
  rintro m fr L ⟨n, k, x, rfl, rfl, rfl, hn, hk, hx⟩
  have a1 := hood_small (a := i - re) g1 hr (m := n) (by omega)
  rw [← hx] at a1
  by_cases hin : n < W
  · have a2 := hr.cell k
    have a3 := emod_in (a := k) (b := len_ys) (by omega)
    obtain ⟨b1, b2, b3⟩ := tmod_facts (a := k) (b := len_ys) (by omega)
    have a4 := Int.mul_nonneg a1.1 (show 0 ≤ st by omega)
    have a5 := Int.mul_le_mul a1.2 g1.2 (by omega) (by omega)
    rw [hl_ys, ← b3] at a2
    rw [← b3] at a3
    repeat' (first
 | refine A_go rfl ?_ | refine A_ifT rfl rfl ?_ | refine A_ifF rfl rfl ?_
 | refine A_add rfl rfl rfl (by omega) ?_ | refine A_sub rfl rfl rfl (by omega) ?_ | refine A_mul rfl rfl rfl (by omega) ?_ | refine A_rem rfl rfl rfl (by omega) ?_ | refine A_remT rfl rfl rfl (by omega) ?_
 | ((first | refine A_le rfl rfl rfl ?_ ?_) <;> intro hc <;> try first | contradiction | (exfalso; omega) | exact absurd rfl hc)
 | refine A_idxN1 rfl rfl rfl (by omega) ?_ | refine A_idx1 rfl rfl rfl (by omega) ?_
 | refine A_fld rfl rfl ?_ | refine A_p (by rfl) rfl ?_
 | refine A_ldI rfl (by first | omega | (simp; done) | (simp; omega)) rfl ?_ | refine A_ldB rfl (by first | omega | (simp; done) | (simp; omega)) rfl ?_ | refine A_ld rfl (by rfl) rfl ?_
 | refine A_ret1 rfl (by exact (RP.t rfl RP.nil)) ?_)
    refine A_round rfl [] (W - (n + 1)) (by omega) ?_
    exact ⟨n + 1, _, _, rfl, rfl, rfl, by omega, by omega, by rw [b3, hx, hk, hoodN, hl_ys]⟩
  · obtain rfl : W = n := by omega
    have a6 := told_in hv hr i
    rw [show (2 * re + 1).toNat = W by omega, ← hx] at a6
    repeat' (first
 | refine A_go rfl ?_ | refine A_ifT rfl rfl ?_ | refine A_ifF rfl rfl ?_
 | refine A_add rfl rfl rfl (by omega) ?_ | refine A_sub rfl rfl rfl (by omega) ?_ | refine A_mul rfl rfl rfl (by omega) ?_ | refine A_rem rfl rfl rfl (by omega) ?_ | refine A_remT rfl rfl rfl (by omega) ?_
 | ((first | refine A_le rfl rfl rfl ?_ ?_) <;> intro hc <;> try first | contradiction | (exfalso; omega) | exact absurd rfl hc)
 | refine A_idxN1 rfl rfl rfl (by omega) ?_ | refine A_idx1 rfl rfl rfl (by omega) ?_
 | refine A_fld rfl rfl ?_ | refine A_p (by rfl) rfl ?_
 | refine A_ldI rfl (by first | omega | (simp; done) | (simp; omega)) rfl ?_ | refine A_ldB rfl (by first | omega | (simp; done) | (simp; omega)) rfl ?_ | refine A_ld rfl (by rfl) rfl ?_
 | refine A_ret1 rfl (by exact (RP.t rfl RP.nil)) ?_)
    exact R_v (by rw [told, show (2 * re + 1).toNat = W by omega, ← hx])
theorem c_l02Step {s : St} [Wf s] {q : Nat} {st re : Int} {id_xs off_xs len_xs : Nat} {xs : List Int} [hq : Ref s q [ic st, ic re, .sl id_xs off_xs len_xs]] [h_xs : ArgE ic s id_xs off_xs xs] {id_ys off_ys len_ys : Nat} {ys : List Int} [h_ys : ArgE ic s id_ys off_ys ys] (hl_xs : xs.length = len_xs := by first | rfl | simp | omega) (hl_ys : ys.length = len_ys := by first | rfl | simp | omega) (hv : VR st re xs) (hr : RG st ys) :
    Fn [] 42 [.c (.ptr q 0), .c (.sl id_ys off_ys len_ys)] s fun R N => ∃ p, R = .c (.sl p 0 len_ys) ∧ N = [(p, ints (stepR st re xs ys))] := by
  have g3 := hr.1
  refine F_start code42 ?_
  repeat' (first
 | refine A_go rfl ?_ | refine A_ifT rfl rfl ?_ | refine A_ifF rfl rfl ?_
 | refine A_add rfl rfl rfl (by omega) ?_
 | ((first | refine A_lt rfl rfl rfl ?_ ?_) <;> intro hc <;> try first | contradiction | (exfalso; omega) | exact absurd rfl hc)
 | refine A_p (by rfl) rfl ?_
 | ((first | refine A_bld1 rfl rfl ?_ | refine A_bld2 rfl rfl rfl ?_ | refine A_bld4 rfl rfl rfl rfl rfl ?_) <;> intro pz hpz)
 | refine A_bld0 rfl ?_
 | (refine A_app rfl rfl rfl (by first | omega | (simp; done) | (simp; omega)) (by first | omega | (simp; done) | (simp; omega)) (by omega) ?_; intro pz) | (refine A_appN (enc := ic) rfl (by decide) rfl rfl (by first | omega | (simp; done) | (simp; omega)) (by omega) ?_; intro pz)
 | refine A_ret1 rfl (by exact (RP.t rfl RP.nil)) ?_)
  refine A_loopX rfl (fun m fr L => ∃ (i p : Nat) (zs : List Int), m = len_ys - i ∧ fr = [(0, .c (.ptr q 0)), (1, .c (.sl id_ys off_ys len_ys)), (5, .c (.sl p 0 i)), (6, iv i)] ∧ L = [(p, ints zs)] ∧ i ≤ len_ys ∧ zs = (stepR st re xs ys).take i) (n := len_ys) ⟨[(1, ints [])], ⟨0, 1, [], rfl, rfl, rfl, by omega, by simp⟩, inferInstance⟩ ?_
  rintro m fr L ⟨i, p, zs, rfl, rfl, rfl, hi, hz⟩
  have hl : zs.length = i := by rw [hz]; simp; omega
  repeat' (first
 | refine A_go rfl ?_ | refine A_ifT rfl rfl ?_ | refine A_ifF rfl rfl ?_
 | refine A_add rfl rfl rfl (by omega) ?_
 | ((first | refine A_lt rfl rfl rfl ?_ ?_) <;> intro hc <;> try first | contradiction | (exfalso; omega) | exact absurd rfl hc)
 | refine A_callV rfl rfl (fun s H => c_l02Told (hv := hv) (hr := hr)) ?_
 | refine A_p (by rfl) rfl ?_
 | ((first | refine A_bld1 rfl rfl ?_ | refine A_bld2 rfl rfl rfl ?_ | refine A_bld4 rfl rfl rfl rfl rfl ?_) <;> intro pz hpz)
 | refine A_bld0 rfl ?_
 | (refine A_app rfl rfl rfl (by first | omega | (simp; done) | (simp; omega)) (by first | omega | (simp; done) | (simp; omega)) (by omega) ?_; intro pz) | (refine A_appN (enc := ic) rfl (by decide) rfl rfl (by first | omega | (simp; done) | (simp; omega)) (by omega) ?_; intro pz)
 | refine A_ret1 rfl (by exact (RP.t rfl RP.nil)) ?_)
  · refine A_round rfl [pz] (len_ys - (i + 1)) (by omega) ?_
    refine ⟨i + 1, pz, _, rfl, rfl, rfl, by omega, ?_⟩
    rw [hz, ← stepR_get (st := st) (re := re) (xs := xs) (by omega : i < ys.length), List.take_add_one, getD_some 0 (by simp; omega)]; rfl
  · obtain rfl : len_ys = i := by omega
    rw [List.take_of_length_le (by simp; omega)] at hz
    subst hz
    exact R_s ⟨_, rfl, rfl⟩

end Go.Proofs.Ytlmbgaoeplffkaa
