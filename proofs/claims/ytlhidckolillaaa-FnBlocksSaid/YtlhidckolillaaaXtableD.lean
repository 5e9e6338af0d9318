/- Tables that turn, drawn out of bytes. -/
import Derived.Test.YtlhidckolillaaaXsrc
import Derived.Test.YtlhidckolillaaaXlend
import Derived.Test.YtlhidckolillaaaXblocksL
import Derived.Test.YtlhidckolillaaaFB
namespace Go.Proofs.Ytlhidckolillaaa
open Go Go.RowKit
set_option linter.unusedVariables false
set_option linter.unusedSimpArgs false
set_option maxRecDepth 100000
set_option maxHeartbeats 8000000
-- spec.R8Table
def L31 : AFun := ⟨44, [.t 2],
 (.seq (.ops false [⟨(some 2), .mv (.k (.c (.sl 0 0 0))), none, []⟩])
 (.seq (.ops false [⟨(some 9), .mv (.t 0), none, []⟩,
   ⟨(some 10), .call (.f 49) [(.t 9)], none, []⟩,
   ⟨(some 3), .mv (.t 10), none, []⟩])
 (.seq (.ops false [⟨(some 11), .buildS 2 1 0 [.int .i64 0] [], none, []⟩,
   ⟨(some 4), .mv (.t 11), none, []⟩])
 (.seq (.seq (.ops false [⟨(some 5), .mv (.k (iv 0)), none, []⟩])
  (.block 0 (.loop [3, 4, 5] (.seq (.seq (.ops false [⟨(some 12), .mv (.t 5), none, []⟩,
       ⟨(some 13), .bin .lss (.t 12) (.k (iv 16)), none, []⟩])
     (.cond (.t 13) .skip
      (.exit 0)))
    (.seq (.block 1 (.ops false [⟨(some 16), .mv (.t 4), none, []⟩,
       ⟨(some 17), .mv (.t 5), none, []⟩,
       ⟨(some 18), .buildS 2 1 1 [.int .i64 0] [(0, 1, (.t 17))], none, []⟩,
       ⟨(some 19), .append 2 1 8 (.t 16) (.t 18), none, []⟩,
       ⟨(some 4), .mv (.t 19), none, []⟩]))
    (.ops false [⟨(some 14), .mv (.t 5), none, []⟩,
     ⟨(some 15), .bin .add (.t 14) (.k (iv 1)), none, []⟩,
     ⟨(some 5), .mv (.t 15), none, []⟩]))))))
 (.seq (.seq (.ops false [⟨(some 6), .mv (.k (iv 15)), none, []⟩])
  (.block 2 (.loop [3, 4, 6] (.seq (.seq (.ops false [⟨(some 20), .mv (.t 6), none, []⟩,
       ⟨(some 21), .bin .gtr (.t 20) (.k (iv 0)), none, []⟩])
     (.cond (.t 21) .skip
      (.exit 2)))
    (.seq (.block 3 (.seq (.ops false [⟨(some 24), .mv (.t 3), none, []⟩,
        ⟨(some 25), .mv (.t 6), none, []⟩,
        ⟨(some 26), .bin .add (.t 25) (.k (iv 1)), none, []⟩,
        ⟨(some 27), .call (.f 67) [(.t 24), (.t 26)], none, []⟩,
        ⟨(some 7), .mv (.t 27), none, []⟩])
      (.seq (.ops false [⟨(some 28), .mv (.t 4), none, []⟩,
        ⟨(some 29), .mv (.t 6), none, []⟩,
        ⟨(some 30), .idxA 1 (.t 28) (.t 29), none, []⟩,
        ⟨(some 31), .load false 1 (.t 30), none, []⟩,
        ⟨(some 8), .mv (.t 31), none, []⟩])
      (.seq (.ops false [⟨(some 32), .mv (.t 4), none, []⟩,
        ⟨(some 33), .mv (.t 6), none, []⟩,
        ⟨(some 34), .mv (.t 4), none, []⟩,
        ⟨(some 35), .mv (.t 7), none, []⟩,
        ⟨(some 36), .idxA 1 (.t 34) (.t 35), none, []⟩,
        ⟨(some 37), .load false 1 (.t 36), none, []⟩,
        ⟨(some 38), .idxA 1 (.t 32) (.t 33), none, []⟩,
        ⟨none, .store 1 (.t 38) (.t 37), none, []⟩])
      (.ops false [⟨(some 39), .mv (.t 4), none, []⟩,
       ⟨(some 40), .mv (.t 7), none, []⟩,
       ⟨(some 41), .mv (.t 8), none, []⟩,
       ⟨(some 42), .idxA 1 (.t 39) (.t 40), none, []⟩,
       ⟨none, .store 1 (.t 42) (.t 41), none, []⟩])))))
    (.ops false [⟨(some 22), .mv (.t 6), none, []⟩,
     ⟨(some 23), .bin .sub (.t 22) (.k (iv 1)), none, []⟩,
     ⟨(some 6), .mv (.t 23), none, []⟩]))))))
 (.seq (.ops false [⟨(some 43), .mv (.t 4), none, []⟩,
   ⟨(some 2), .mv (.t 43), none, []⟩])
 .ret))))))⟩
theorem code31 : acode Try.prog hints 31 = some L31 := by kernel_rfl


def cntI (n : Nat) : List Int := (List.range n).map fun i : Nat => (i : Int)
@[simp] theorem cntI_len {n : Nat} : (cntI n).length = n := by simp [cntI]
theorem cntI_get {n i : Nat} (h : i < n) : (cntI n).getD i 0 = i := getD_map_range h
theorem cntI_snoc {n : Nat} : cntI n ++ [(n : Int)] = cntI (n + 1) := by simp [cntI, List.range_succ]
structure Prm (xs : List Int) : Prop where
  len : xs.length = 16
  rng : ∀ i, i < 16 → 0 ≤ xs.getD i 0 ∧ xs.getD i 0 ≤ 15
  inj : ∀ i j, i < 16 → j < 16 → xs.getD i 0 = xs.getD j 0 → i = j
theorem Prm.start : Prm (cntI 16) := ⟨by simp, fun i hi => by rw [cntI_get hi]; omega, fun i j hi hj e => by rw [cntI_get hi, cntI_get hj] at e; omega⟩
theorem Prm.swap {xs : List Int} (h : Prm xs) {i k : Nat} (hi : i < 16) (hk : k < 16) : Prm ((xs.set i (xs.getD k 0)).set k (xs.getD i 0)) := by
  have hl := h.len
  have hg : ∀ j, ((xs.set i (xs.getD k 0)).set k (xs.getD i 0)).getD j 0 = if k = j then xs.getD i 0 else if i = j then xs.getD k 0 else xs.getD j 0 := fun j => by
    rw [getD_set (by simp; omega), getD_set (by omega)]
  refine ⟨by simp [hl], fun j hj => ?_, fun a b ha hb e => ?_⟩
  · rw [hg]; have := h.rng i hi; have := h.rng k hk; have := h.rng j hj
    split
    · assumption
    · split <;> assumption
  · rw [hg, hg] at e
    by_cases q1 : k = a
    · rw [if_pos q1] at e
      by_cases q2 : k = b
      · omega
      · rw [if_neg q2] at e
        by_cases q3 : i = b
        · rw [if_pos q3] at e; have := h.inj i k hi hk e; omega
        · rw [if_neg q3] at e; have := h.inj i b hi hb e; omega
    · rw [if_neg q1] at e
      by_cases q4 : i = a
      · rw [if_pos q4] at e
        by_cases q2 : k = b
        · rw [if_pos q2] at e; have := h.inj k i hk hi e; omega
        · rw [if_neg q2] at e
          by_cases q3 : i = b
          · omega
          · rw [if_neg q3] at e; have := h.inj k b hk hb e; omega
      · rw [if_neg q4] at e
        by_cases q2 : k = b
        · rw [if_pos q2] at e; have := h.inj a i ha hi e; omega
        · rw [if_neg q2] at e
          by_cases q3 : i = b
          · rw [if_pos q3] at e; have := h.inj a k ha hk e; omega
          · rw [if_neg q3] at e; exact h.inj a b ha hb e
theorem c_R8Table {s : St} [Wf s] {id off len : Nat} {ys : List Int} [hy : ArgE ub s id off ys] (hl : ys.length = len) (hr : ∀ n ∈ ys, 0 ≤ n ∧ n ≤ 255) (hlen : len ≤ 1000000000000 := by omega) :
    Fn [] 31 [.c (.sl id off len)] s fun V N => ∃ q tab, V = .c (.sl q 0 16) ∧ Turn tab ∧ N = [(q, ints tab)] := by
  refine F_start code31 ?_
  repeat' (first
 | refine A_go rfl ?_ | refine A_ifT rfl rfl ?_ | refine A_ifF rfl rfl ?_
 | refine A_add rfl rfl rfl (by omega) ?_ | refine A_sub rfl rfl rfl (by omega) ?_
 | ((first | refine A_lt rfl rfl rfl ?_ ?_ | refine A_gt rfl rfl rfl ?_ ?_) <;> intro hc <;> try first | contradiction | (exfalso; omega) | exact absurd rfl hc)
 | refine A_idxN1 rfl rfl rfl (by omega) ?_ | refine A_idx1 rfl rfl rfl (by omega) ?_
 | (refine A_callM rfl rfl (fun s H => c_l00From) ?_; rintro _ _ ⟨pz, rfl, hpz, rfl⟩) | (refine A_callM0 rfl rfl (fun s H => c_l00From) ?_; rintro _ _ ⟨pz, rfl, hpz, rfl⟩)
 | refine A_p (by rfl) rfl ?_
 | refine A_ldI rfl (by first | omega | (simp; done) | (simp; omega)) rfl ?_ | refine A_ldB rfl (by first | omega | (simp; done) | (simp; omega)) rfl ?_ | refine A_ld rfl (by rfl) rfl ?_
 | refine A_st rfl rfl rfl ?_ | refine A_stE rfl rfl (by first | omega | (simp; done) | (simp; omega)) rfl ?_
 | ((first | refine A_bld1 rfl rfl ?_ | refine A_bld2 rfl rfl rfl ?_ | refine A_bld4 rfl rfl rfl rfl rfl ?_) <;> intro pz hpz)
 | refine A_bld0 rfl ?_
 | (refine A_app rfl rfl rfl (by first | omega | (simp; done) | (simp; omega)) (by first | omega | (simp; done) | (simp; omega)) (by omega) ?_; intro pz) | (refine A_appN (enc := ic) rfl (by decide) rfl rfl (by first | omega | (simp; done) | (simp; omega)) (by omega) ?_; intro pz)
 | refine A_ret1 rfl (by exact (RP.t rfl RP.nil)) ?_)
  obtain ⟨p3, hEq⟩ : ∃ p, p = pz := ⟨_, rfl⟩; subst hEq
  refine A_loopX rfl (fun m fr L => ∃ (i q : Nat), m = 16 - i ∧ fr = [(3, .c (.ptr p3 0)), (4, .c (.sl q 0 i)), (5, iv i)] ∧ L = [(p3, srcO id off len 0 0), (q, ints (cntI i))] ∧ i ≤ 16) (n := 16) ⟨[(p3, srcO id off len 0 0), (1, ints [])], ⟨0, 1, rfl, rfl, rfl, by omega⟩, inferInstance⟩ ?_
  rintro m fr L ⟨i, q, rfl, rfl, rfl, hi⟩
  by_cases hi' : i < 16
  · repeat' (first
 | refine A_go rfl ?_ | refine A_ifT rfl rfl ?_ | refine A_ifF rfl rfl ?_
 | refine A_add rfl rfl rfl (by omega) ?_ | refine A_sub rfl rfl rfl (by omega) ?_
 | ((first | refine A_lt rfl rfl rfl ?_ ?_ | refine A_gt rfl rfl rfl ?_ ?_) <;> intro hc <;> try first | contradiction | (exfalso; omega) | exact absurd rfl hc)
 | refine A_idxN1 rfl rfl rfl (by omega) ?_ | refine A_idx1 rfl rfl rfl (by omega) ?_
 | refine A_p (by rfl) rfl ?_
 | refine A_ldI rfl (by first | omega | (simp; done) | (simp; omega)) rfl ?_ | refine A_ldB rfl (by first | omega | (simp; done) | (simp; omega)) rfl ?_ | refine A_ld rfl (by rfl) rfl ?_
 | refine A_st rfl rfl rfl ?_ | refine A_stE rfl rfl (by first | omega | (simp; done) | (simp; omega)) rfl ?_
 | ((first | refine A_bld1 rfl rfl ?_ | refine A_bld2 rfl rfl rfl ?_ | refine A_bld4 rfl rfl rfl rfl rfl ?_) <;> intro pz hpz)
 | refine A_bld0 rfl ?_
 | (refine A_app rfl rfl rfl (by first | omega | (simp; done) | (simp; omega)) (by first | omega | (simp; done) | (simp; omega)) (by omega) ?_; intro pz) | (refine A_appN (enc := ic) rfl (by decide) rfl rfl (by first | omega | (simp; done) | (simp; omega)) (by omega) ?_; intro pz)
 | refine A_ret1 rfl (by exact (RP.t rfl RP.nil)) ?_)
    refine A_roundX rfl ⟨16 - (i + 1), [(p3, srcO id off len 0 0), (pz, ints (cntI (i + 1)))], by omega, ⟨i + 1, pz, rfl, rfl, rfl, by omega⟩, ?_⟩
    rw [← cntI_snoc]; exact inferInstance
  obtain rfl : i = 16 := by omega
  repeat' (first
 | refine A_go rfl ?_ | refine A_ifT rfl rfl ?_ | refine A_ifF rfl rfl ?_
 | refine A_add rfl rfl rfl (by omega) ?_ | refine A_sub rfl rfl rfl (by omega) ?_
 | ((first | refine A_lt rfl rfl rfl ?_ ?_ | refine A_gt rfl rfl rfl ?_ ?_) <;> intro hc <;> try first | contradiction | (exfalso; omega) | exact absurd rfl hc)
 | refine A_idxN1 rfl rfl rfl (by omega) ?_ | refine A_idx1 rfl rfl rfl (by omega) ?_
 | refine A_p (by rfl) rfl ?_
 | refine A_ldI rfl (by first | omega | (simp; done) | (simp; omega)) rfl ?_ | refine A_ldB rfl (by first | omega | (simp; done) | (simp; omega)) rfl ?_ | refine A_ld rfl (by rfl) rfl ?_
 | refine A_st rfl rfl rfl ?_ | refine A_stE rfl rfl (by first | omega | (simp; done) | (simp; omega)) rfl ?_
 | ((first | refine A_bld1 rfl rfl ?_ | refine A_bld2 rfl rfl rfl ?_ | refine A_bld4 rfl rfl rfl rfl rfl ?_) <;> intro pz hpz)
 | refine A_bld0 rfl ?_
 | (refine A_app rfl rfl rfl (by first | omega | (simp; done) | (simp; omega)) (by first | omega | (simp; done) | (simp; omega)) (by omega) ?_; intro pz) | (refine A_appN (enc := ic) rfl (by decide) rfl rfl (by first | omega | (simp; done) | (simp; omega)) (by omega) ?_; intro pz)
 | refine A_ret1 rfl (by exact (RP.t rfl RP.nil)) ?_)
  refine A_loop rfl [p3, q] (fun m fr L => ∃ (i : Nat) (xs : List Int) (at' sd' : Int), m = i ∧ fr = [(3, .c (.ptr p3 0)), (4, .c (.sl q 0 16)), (6, iv i)] ∧ L = [(p3, srcO id off len at' sd'), (q, ints xs)] ∧ i ≤ 15 ∧ Prm xs ∧ 0 ≤ at' ∧ at' ≤ 2 * (15 - i)) 15 ⟨15, cntI 16, 0, 0, rfl, rfl, rfl, by omega, Prm.start, by omega, by omega⟩ ?_
  rintro i fr L ⟨_, xs, at', sd', rfl, rfl, rfl, hi, hP, ha1, ha2⟩
  have hxl := hP.len
  by_cases hi' : 0 < i
  · repeat' (first
 | refine A_go rfl ?_ | refine A_ifT rfl rfl ?_ | refine A_ifF rfl rfl ?_
 | refine A_add rfl rfl rfl (by omega) ?_ | refine A_sub rfl rfl rfl (by omega) ?_
 | ((first | refine A_lt rfl rfl rfl ?_ ?_ | refine A_gt rfl rfl rfl ?_ ?_) <;> intro hc <;> try first | contradiction | (exfalso; omega) | exact absurd rfl hc)
 | refine A_idxN1 rfl rfl rfl (by omega) ?_ | refine A_idx1 rfl rfl rfl (by omega) ?_
 | (refine A_callM rfl rfl (fun s H => c_pick (hl := hl) (hr := hr) (hne := H.neB hy.lt) (hat := by omega) (hlen := hlen) (hn := by omega)) ?_; rintro _ _ ⟨x, at', sd, rfl, hxb, hat, rfl⟩) | (refine A_callM0 rfl rfl (fun s H => c_pick (hl := hl) (hr := hr) (hne := H.neB hy.lt) (hat := by omega) (hlen := hlen) (hn := by omega)) ?_; rintro _ _ ⟨x, at', sd, rfl, hxb, hat, rfl⟩)
 | refine A_p (by rfl) rfl ?_
 | refine A_ldI rfl (by first | omega | (simp; done) | (simp; omega)) rfl ?_ | refine A_ldB rfl (by first | omega | (simp; done) | (simp; omega)) rfl ?_ | refine A_ld rfl (by rfl) rfl ?_
 | refine A_st rfl rfl rfl ?_ | refine A_stE rfl rfl (by first | omega | (simp; done) | (simp; omega)) rfl ?_
 | ((first | refine A_bld1 rfl rfl ?_ | refine A_bld2 rfl rfl rfl ?_ | refine A_bld4 rfl rfl rfl rfl rfl ?_) <;> intro pz hpz)
 | refine A_bld0 rfl ?_
 | (refine A_app rfl rfl rfl (by first | omega | (simp; done) | (simp; omega)) (by first | omega | (simp; done) | (simp; omega)) (by omega) ?_; intro pz) | (refine A_appN (enc := ic) rfl (by decide) rfl rfl (by first | omega | (simp; done) | (simp; omega)) (by omega) ?_; intro pz)
 | refine A_ret1 rfl (by exact (RP.t rfl RP.nil)) ?_)
    obtain ⟨k, rfl⟩ : ∃ k : Nat, x = k := ⟨x.toNat, by omega⟩
    have hPs := hP.swap (i := i) (k := k) (by omega) (by omega)
    refine A_round rfl [p3, q] (i - 1) (by omega) ?_
    refine ⟨i - 1, _, _, _, rfl, ?_, rfl, by omega, ?_, by omega, by omega⟩
    · rw [show (i : Int) - 1 = ((i - 1 : Nat) : Int) by omega]; rfl
    · simp only [Int.toNat_natCast]; exact hPs
  obtain rfl : i = 0 := by omega
  repeat' (first
 | refine A_go rfl ?_ | refine A_ifT rfl rfl ?_ | refine A_ifF rfl rfl ?_
 | refine A_add rfl rfl rfl (by omega) ?_ | refine A_sub rfl rfl rfl (by omega) ?_
 | ((first | refine A_lt rfl rfl rfl ?_ ?_ | refine A_gt rfl rfl rfl ?_ ?_) <;> intro hc <;> try first | contradiction | (exfalso; omega) | exact absurd rfl hc)
 | refine A_idxN1 rfl rfl rfl (by omega) ?_ | refine A_idx1 rfl rfl rfl (by omega) ?_
 | refine A_p (by rfl) rfl ?_
 | refine A_ldI rfl (by first | omega | (simp; done) | (simp; omega)) rfl ?_ | refine A_ldB rfl (by first | omega | (simp; done) | (simp; omega)) rfl ?_ | refine A_ld rfl (by rfl) rfl ?_
 | refine A_st rfl rfl rfl ?_ | refine A_stE rfl rfl (by first | omega | (simp; done) | (simp; omega)) rfl ?_
 | ((first | refine A_bld1 rfl rfl ?_ | refine A_bld2 rfl rfl rfl ?_ | refine A_bld4 rfl rfl rfl rfl rfl ?_) <;> intro pz hpz)
 | refine A_bld0 rfl ?_
 | (refine A_app rfl rfl rfl (by first | omega | (simp; done) | (simp; omega)) (by first | omega | (simp; done) | (simp; omega)) (by omega) ?_; intro pz) | (refine A_appN (enc := ic) rfl (by decide) rfl rfl (by first | omega | (simp; done) | (simp; omega)) (by omega) ?_; intro pz)
 | refine A_ret1 rfl (by exact (RP.t rfl RP.nil)) ?_)
  exact R_s ⟨q, xs, rfl, Turn.of hP.len hP.rng hP.inj, rfl⟩

end Go.Proofs.Ytlhidckolillaaa
