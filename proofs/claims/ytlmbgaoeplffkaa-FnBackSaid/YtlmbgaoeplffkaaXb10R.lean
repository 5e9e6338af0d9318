/- Rules of two states and any reach that are drawn out of bytes. -/
import Derived.Test.YtlmbgaoeplffkaaXb10
import Derived.Test.YtlmbgaoeplffkaaFB
namespace Go.Proofs.Ytlmbgaoeplffkaa
open Go Go.RowKit
set_option linter.unusedVariables false
set_option linter.unusedSimpArgs false
set_option maxRecDepth 100000
set_option maxHeartbeats 8000000
-- laws.b10Ints
def L15 : AFun := ⟨26, [.t 4],
 (.seq (.ops false [⟨(some 4), .mv (.k (bv false)), none, []⟩])
 (.seq (.seq (.ops false [⟨(some 6), .mv (.t 0), none, []⟩,
    ⟨(some 7), .len false (.t 6), none, []⟩,
    ⟨(some 8), .mv (.t 1), none, []⟩,
    ⟨(some 9), .len false (.t 8), none, []⟩,
    ⟨(some 10), .bin .neq (.t 7) (.t 9), none, []⟩])
  (.cond (.t 10) (.seq (.ops false [⟨(some 4), .mv (.k (bv false)), none, []⟩])
   .ret)
   .skip))
 (.seq (.seq (.ops false [⟨(some 11), .mv (.t 0), none, []⟩,
    ⟨(some 12), .len false (.t 11), none, []⟩,
    ⟨(some 13), .mv (.k (iv 0)), none, []⟩])
  (.block 0 (.loop [0, 1, 12, 13] (.seq (.ops false [⟨(some 14), .bin .lss (.t 13) (.t 12), none, []⟩])
    (.seq (.cond (.t 14) .skip
      (.exit 0))
    (.seq (.block 1 (.seq (.ops false [⟨(some 15), .mv (.t 13), none, []⟩,
        ⟨(some 5), .mv (.t 15), none, []⟩])
      (.seq (.ops true [⟨(some 16), .mv (.t 0), none, []⟩,
        ⟨(some 17), .mv (.t 5), none, []⟩,
        ⟨(some 18), .idxA 1 (.t 16) (.t 17), none, []⟩,
        ⟨(some 19), .load false 1 (.t 18), none, []⟩,
        ⟨(some 20), .mv (.t 1), none, []⟩,
        ⟨(some 21), .mv (.t 5), none, []⟩,
        ⟨(some 22), .idxA 1 (.t 20) (.t 21), none, []⟩,
        ⟨(some 23), .load false 1 (.t 22), none, []⟩,
        ⟨(some 24), .bin .neq (.t 19) (.t 23), none, []⟩])
      (.cond (.t 24) (.seq (.ops false [⟨(some 4), .mv (.k (bv false)), none, []⟩])
       .ret)
       .skip))))
    (.ops false [⟨(some 25), .bin .add (.t 13) (.k (iv 1)), none, []⟩,
     ⟨(some 13), .mv (.t 25), none, []⟩])))))))
 (.seq (.ops false [⟨(some 4), .mv (.k (bv true)), none, []⟩])
 .ret))))⟩
theorem code15 : acode Try.prog hints 15 = some L15 := by kernel_rfl


theorem c_drawTwoR {s : St} [Wf s] {p id off len K : Nat} {at_ sd re : Int} {ys : List Int} [hb : Bor s p (srcO id off len at_ sd)] [hy : ArgE ub s id off ys] (hl : ys.length = len) (hr : ∀ n ∈ ys, 0 ≤ n ∧ n ≤ 255) (hne : id ≠ p ∨ id ≤ 1) (hat : 0 ≤ at_ ∧ at_ ≤ 1000000) (hlen : len ≤ 1000000000000) (hre : 0 ≤ re ∧ re ≤ 2) (hK : K = 2 ^ (2 * re + 1).toNat) :
    Fn [p] 31 [.c (.ptr p 0), iv re] s fun V N => ∃ q xs at' sd', V = .agg [ic 2, ic re, .sl q 0 K] ∧ xs.length = K ∧ (∀ x ∈ xs, 0 ≤ x ∧ x < 2) ∧ N = [(q, ints xs), (p, srcO id off len at' sd')] := by
  haveI hni : NotIn id [p] := ⟨by rcases hne with h | h; exact .inl (by simpa using h); exact .inr h⟩
  refine F_start1 code31 ?_
  have hK32 : K ≤ 32 := by
    rw [hK]; exact Nat.le_trans (Nat.pow_le_pow_right (by omega) (show (2 * re + 1).toNat ≤ 5 by omega)) (by decide)
  have eK : (((2 : Int).toNat ^ (2 * re + 1).toNat : Nat) : Int) = (K : Int) := by rw [hK]; rfl
  repeat' (first
 | refine A_go rfl ?_ | refine A_ifT rfl rfl ?_ | refine A_ifF rfl rfl ?_
 | refine A_add rfl rfl rfl (by omega) ?_ | refine A_sub rfl rfl rfl (by omega) ?_ | refine A_mul rfl rfl rfl (by omega) ?_
 | ((first | refine A_gt rfl rfl rfl ?_ ?_) <;> intro hc <;> try first | contradiction | (exfalso; omega) | exact absurd rfl hc)
 | refine A_callV rfl rfl (fun s H => c_l03Power (b0 := 2) (n0 := 2 * re + 1)) ?_
 | refine A_fld rfl rfl ?_ | refine A_mk3 rfl rfl rfl rfl ?_ | refine A_mk23 rfl rfl rfl ?_ | refine A_mk2 rfl rfl rfl ?_ | refine A_mk13 rfl rfl ?_ | refine A_p (by rfl) rfl ?_
 | refine A_ldI rfl (by first | omega | (simp; done) | (simp; omega)) rfl ?_ | refine A_ldB rfl (by first | omega | (simp; done) | (simp; omega)) rfl ?_ | refine A_ld rfl (by rfl) rfl ?_
 | refine A_ldW rfl (by simp) rfl ?_
 | refine A_st rfl rfl rfl ?_ | refine A_stE rfl rfl (by first | omega | (simp; done) | (simp; omega)) rfl ?_
 | refine A_stW rfl rfl (by simp) rfl ?_
 | ((first | refine A_alloc rfl ?_ | refine A_bld1 rfl rfl ?_ | refine A_bld2 rfl rfl rfl ?_ | refine A_bld4 rfl rfl rfl rfl rfl ?_) <;> intro pz hpz)
 | refine A_bld0 rfl ?_
 | (refine A_app rfl rfl rfl (by first | omega | (simp; done) | (simp; omega)) (by first | omega | (simp; done) | (simp; omega)) (by omega) ?_; intro pz) | (refine A_appN (enc := ic) rfl (by decide) rfl rfl (by first | omega | (simp; done) | (simp; omega)) (by omega) ?_; intro pz)
 | refine A_chk1 rfl rfl rfl ?_ | refine A_chk2 rfl rfl rfl rfl ?_ | refine A_chk3 rfl rfl rfl rfl rfl ?_ | refine A_chk4 rfl rfl rfl rfl rfl rfl ?_ | refine A_chkI rfl (by assumption) rfl (by simp) ?_
 | refine A_ret1 rfl (by exact (RP.c rfl inferInstance rfl (by simp) RP.nil)) ?_)
  rw [eK]
  rename_i p6 h6
  obtain ⟨p7, hEq⟩ : ∃ p, p = pz := ⟨_, rfl⟩; subst hEq
  refine A_loopX rfl (fun m fr L => ∃ (i q : Nat) (xs : List Int) (at' sd' : Int), m = K - i ∧ fr = [(0, .c (.ptr p 0)), (4, .c (.ptr p6 0)), (5, .c (.ptr p7 0)), (6, iv ((K : Int) - i))] ∧ L = [(p7, .rw 27 3 [ic 2, ic re, .sl q 0 i]), (p6, .rw 27 3 [ic 0, ic 0, .sl 0 0 0]), (p, srcO id off len at' sd'), (q, ints xs)] ∧ i ≤ K ∧ xs.length = i ∧ (∀ x ∈ xs, 0 ≤ x ∧ x < 2) ∧ 0 ≤ at' ∧ at' ≤ 1000000 + 2 * i) (n := K) ⟨[(p7, .rw 27 3 [ic 2, ic re, .sl 0 0 0]), (p6, .rw 27 3 [ic 0, ic 0, .sl 0 0 0]), (p, srcO id off len at_ sd), (0, ints [])], ⟨0, 0, [], at_, sd, rfl, by simp only [Int.ofNat_zero, Int.sub_zero]; rfl, rfl, by omega, rfl, by simp, by omega, by omega⟩, inferInstance⟩ ?_
  rintro m fr L ⟨i, q, xs, at', sd', rfl, rfl, rfl, hi, hxl, hxm, ha1, ha2⟩
  by_cases hi' : i < K
  · repeat' (first
 | refine A_go rfl ?_ | refine A_ifT rfl rfl ?_ | refine A_ifF rfl rfl ?_
 | refine A_add rfl rfl rfl (by omega) ?_ | refine A_sub rfl rfl rfl (by omega) ?_ | refine A_mul rfl rfl rfl (by omega) ?_
 | ((first | refine A_gt rfl rfl rfl ?_ ?_) <;> intro hc <;> try first | contradiction | (exfalso; omega) | exact absurd rfl hc)
 | (refine A_callM rfl rfl (fun s H => c_pick (hl := hl) (hr := hr) (hne := hne) (hat := by omega) (hlen := hlen) (hn := by omega)) ?_; rintro _ _ ⟨x, at', sd, rfl, hxb, hat, rfl⟩) | (refine A_callM0 rfl rfl (fun s H => c_pick (hl := hl) (hr := hr) (hne := hne) (hat := by omega) (hlen := hlen) (hn := by omega)) ?_; rintro _ _ ⟨x, at', sd, rfl, hxb, hat, rfl⟩)
 | refine A_fld rfl rfl ?_ | refine A_mk3 rfl rfl rfl rfl ?_ | refine A_mk23 rfl rfl rfl ?_ | refine A_mk2 rfl rfl rfl ?_ | refine A_mk13 rfl rfl ?_ | refine A_p (by rfl) rfl ?_
 | refine A_ldI rfl (by first | omega | (simp; done) | (simp; omega)) rfl ?_ | refine A_ldB rfl (by first | omega | (simp; done) | (simp; omega)) rfl ?_ | refine A_ld rfl (by rfl) rfl ?_
 | refine A_ldW rfl (by simp) rfl ?_
 | refine A_st rfl rfl rfl ?_ | refine A_stE rfl rfl (by first | omega | (simp; done) | (simp; omega)) rfl ?_
 | refine A_stW rfl rfl (by simp) rfl ?_
 | ((first | refine A_alloc rfl ?_ | refine A_bld1 rfl rfl ?_ | refine A_bld2 rfl rfl rfl ?_ | refine A_bld4 rfl rfl rfl rfl rfl ?_) <;> intro pz hpz)
 | refine A_bld0 rfl ?_
 | (refine A_app rfl rfl rfl (by first | omega | (simp; done) | (simp; omega)) (by first | omega | (simp; done) | (simp; omega)) (by omega) ?_; intro pz) | (refine A_appN (enc := ic) rfl (by decide) rfl rfl (by first | omega | (simp; done) | (simp; omega)) (by omega) ?_; intro pz)
 | refine A_chk1 rfl rfl rfl ?_ | refine A_chk2 rfl rfl rfl rfl ?_ | refine A_chk3 rfl rfl rfl rfl rfl ?_ | refine A_chk4 rfl rfl rfl rfl rfl rfl ?_ | refine A_chkI rfl (by assumption) rfl (by simp) ?_
 | refine A_ret1 rfl (by exact (RP.c rfl inferInstance rfl (by simp) RP.nil)) ?_)
    refine A_roundX rfl ⟨K - (i + 1), [(p7, .rw 27 3 [ic 2, ic re, .sl pz 0 (i + 1)]), (p6, .rw 27 3 [ic 0, ic 0, .sl 0 0 0]), (p, srcO id off len at' sd), (pz, ints (xs ++ [x]))], by omega, ⟨i + 1, pz, _, _, _, rfl, ?_, rfl, by omega, by simp [hxl], ?_, by omega, by omega⟩, inferInstance⟩
    · rw [show (K : Int) - i - 1 = (K : Int) - ((i + 1 : Nat) : Int) by omega]; rfl
    · intro a ha
      rcases List.mem_append.1 ha with g | g
      · exact hxm a g
      · obtain rfl := List.mem_singleton.1 g; omega
  · obtain rfl : K = i := by omega
    repeat' (first
 | refine A_go rfl ?_ | refine A_ifT rfl rfl ?_ | refine A_ifF rfl rfl ?_
 | refine A_add rfl rfl rfl (by omega) ?_ | refine A_sub rfl rfl rfl (by omega) ?_ | refine A_mul rfl rfl rfl (by omega) ?_
 | ((first | refine A_gt rfl rfl rfl ?_ ?_) <;> intro hc <;> try first | contradiction | (exfalso; omega) | exact absurd rfl hc)
 | refine A_fld rfl rfl ?_ | refine A_mk3 rfl rfl rfl rfl ?_ | refine A_mk23 rfl rfl rfl ?_ | refine A_mk2 rfl rfl rfl ?_ | refine A_mk13 rfl rfl ?_ | refine A_p (by rfl) rfl ?_
 | refine A_ldI rfl (by first | omega | (simp; done) | (simp; omega)) rfl ?_ | refine A_ldB rfl (by first | omega | (simp; done) | (simp; omega)) rfl ?_ | refine A_ld rfl (by rfl) rfl ?_
 | refine A_ldW rfl (by simp) rfl ?_
 | refine A_st rfl rfl rfl ?_ | refine A_stE rfl rfl (by first | omega | (simp; done) | (simp; omega)) rfl ?_
 | refine A_stW rfl rfl (by simp) rfl ?_
 | ((first | refine A_alloc rfl ?_ | refine A_bld1 rfl rfl ?_ | refine A_bld2 rfl rfl rfl ?_ | refine A_bld4 rfl rfl rfl rfl rfl ?_) <;> intro pz hpz)
 | refine A_bld0 rfl ?_
 | (refine A_app rfl rfl rfl (by first | omega | (simp; done) | (simp; omega)) (by first | omega | (simp; done) | (simp; omega)) (by omega) ?_; intro pz) | (refine A_appN (enc := ic) rfl (by decide) rfl rfl (by first | omega | (simp; done) | (simp; omega)) (by omega) ?_; intro pz)
 | refine A_chk1 rfl rfl rfl ?_ | refine A_chk2 rfl rfl rfl rfl ?_ | refine A_chk3 rfl rfl rfl rfl rfl ?_ | refine A_chk4 rfl rfl rfl rfl rfl rfl ?_ | refine A_chkI rfl (by assumption) rfl (by simp) ?_
 | refine A_ret1 rfl (by exact (RP.c rfl inferInstance rfl (by simp) RP.nil)) ?_)
    exact R_n [q, p] ⟨q, xs, _, _, rfl, hxl, hxm, rfl⟩
theorem c_B10RuleR {s : St} [Wf s] {id off len K : Nat} {re : Int} {ys : List Int} [hy : ArgE ub s id off ys] (hl : ys.length = len) (hr : ∀ n ∈ ys, 0 ≤ n ∧ n ≤ 255) (hre : 0 ≤ re ∧ re ≤ 2) (hK : K = 2 ^ (2 * re + 1).toNat) (hlen : len ≤ 1000000000000 := by omega) :
    Fn [] 8 [.c (.sl id off len), iv re] s fun V N => ∃ q xs, V = .agg [ic 2, ic re, .sl q 0 K] ∧ VR 2 re xs ∧ xs.length = K ∧ N = [(q, ints xs)] := by
  refine F_start code8 ?_
  repeat' (first
 | refine A_go rfl ?_ | refine A_ifT rfl rfl ?_ | refine A_ifF rfl rfl ?_
 | (refine A_callM rfl rfl (fun s H => c_l00From) ?_; rintro _ _ ⟨pz, rfl, hpz, rfl⟩) | (refine A_callM0 rfl rfl (fun s H => c_l00From) ?_; rintro _ _ ⟨pz, rfl, hpz, rfl⟩)
 | (refine A_callM rfl rfl (fun s H => c_drawTwoR (hre := hre) (hK := hK) (hl := hl) (hr := hr) (hne := H.neB hy.lt) (hat := by omega) (hlen := hlen)) ?_; rintro _ _ ⟨pz, xs, at', sd, rfl, hxl, hxm, rfl⟩) | (refine A_callM0 rfl rfl (fun s H => c_drawTwoR (hre := hre) (hK := hK) (hl := hl) (hr := hr) (hne := H.neB hy.lt) (hat := by omega) (hlen := hlen)) ?_; rintro _ _ ⟨pz, xs, at', sd, rfl, hxl, hxm, rfl⟩)
 | refine A_p (by rfl) rfl ?_
 | refine A_stW rfl rfl (by simp) rfl ?_
 | ((first | refine A_alloc rfl ?_) <;> intro pz hpz)
 | refine A_ret1 rfl (by exact (RP.c rfl inferInstance rfl (by simp) RP.nil)) ?_)
  exact R_s ⟨pz, xs, rfl, ⟨by omega, by omega, by rw [hxl, hK]; rfl, fun x hx => by have := hxm x hx; omega⟩, hxl, rfl⟩
theorem c_b10Ints {s : St} [Wf s] {id_xs off_xs len_xs : Nat} {xs : List Int} [h_xs : ArgE ic s id_xs off_xs xs] (hl_xs : xs.length = len_xs := by first | rfl | simp | omega | (simp; omega)) {id_ys off_ys len_ys : Nat} {ys : List Int} [h_ys : ArgE ic s id_ys off_ys ys] (hl_ys : ys.length = len_ys := by first | rfl | simp | omega | (simp; omega)) (hb : len_xs ≤ 2000000 := by omega) : FnB 15 [.c (.sl id_xs off_xs len_xs), .c (.sl id_ys off_ys len_ys)] s (xs = ys) := by
  refine F_start code15 ?_
  by_cases hl : len_xs = len_ys
  case neg =>
    repeat' (first
 | refine A_go rfl ?_ | refine A_ifT rfl rfl ?_ | refine A_ifF rfl rfl ?_
 | refine A_add rfl rfl rfl (by omega) ?_
 | ((first | refine A_lt rfl rfl rfl ?_ ?_ | refine A_ne rfl rfl rfl ?_ ?_) <;> intro hc <;> try first | contradiction | (exfalso; omega) | exact absurd rfl hc)
 | refine A_idxN1 rfl rfl rfl (by omega) ?_ | refine A_idx1 rfl rfl rfl (by omega) ?_
 | refine A_p (by rfl) rfl ?_
 | refine A_ldI rfl (by first | omega | (simp; done) | (simp; omega)) rfl ?_ | refine A_ldB rfl (by first | omega | (simp; done) | (simp; omega)) rfl ?_ | refine A_ld rfl (by rfl) rfl ?_
 | refine A_ret1 rfl (by exact (RP.t rfl RP.nil)) ?_)
    exact R_f fun h => hl (by rw [← hl_xs, h]; exact hl_ys)
  repeat' (first
 | refine A_go rfl ?_ | refine A_ifT rfl rfl ?_ | refine A_ifF rfl rfl ?_
 | refine A_add rfl rfl rfl (by omega) ?_
 | ((first | refine A_lt rfl rfl rfl ?_ ?_ | refine A_ne rfl rfl rfl ?_ ?_) <;> intro hc <;> try first | contradiction | (exfalso; omega) | exact absurd rfl hc)
 | refine A_idxN1 rfl rfl rfl (by omega) ?_ | refine A_idx1 rfl rfl rfl (by omega) ?_
 | refine A_p (by rfl) rfl ?_
 | refine A_ldI rfl (by first | omega | (simp; done) | (simp; omega)) rfl ?_ | refine A_ldB rfl (by first | omega | (simp; done) | (simp; omega)) rfl ?_ | refine A_ld rfl (by rfl) rfl ?_
 | refine A_ret1 rfl (by exact (RP.t rfl RP.nil)) ?_)
  refine A_loop rfl [] (fun m fr L => ∃ i : Nat, m = len_xs - i ∧ fr = [(0, .c (.sl id_xs off_xs len_xs)), (1, .c (.sl id_ys off_ys len_ys)), (12, iv len_xs), (13, iv i)] ∧ L = [] ∧ i ≤ len_xs ∧ ∀ j, j < i → xs.getD j 0 = ys.getD j 0) len_xs ⟨0, rfl, rfl, rfl, by omega, fun j h => by omega⟩ ?_
  rintro m fr L ⟨i, rfl, rfl, rfl, hi, ht⟩
  by_cases hi' : i < len_xs
  · repeat' (first
 | refine A_go rfl ?_ | refine A_ifT rfl rfl ?_ | refine A_ifF rfl rfl ?_
 | refine A_add rfl rfl rfl (by omega) ?_
 | ((first | refine A_lt rfl rfl rfl ?_ ?_ | refine A_ne rfl rfl rfl ?_ ?_) <;> intro hc <;> try first | contradiction | (exfalso; omega) | exact absurd rfl hc)
 | refine A_idxN1 rfl rfl rfl (by omega) ?_ | refine A_idx1 rfl rfl rfl (by omega) ?_
 | refine A_p (by rfl) rfl ?_
 | refine A_ldI rfl (by first | omega | (simp; done) | (simp; omega)) rfl ?_ | refine A_ldB rfl (by first | omega | (simp; done) | (simp; omega)) rfl ?_ | refine A_ld rfl (by rfl) rfl ?_
 | refine A_ret1 rfl (by exact (RP.t rfl RP.nil)) ?_)
    · exact R_f fun h => by subst h; exact hc rfl
    · refine A_round rfl [] (len_xs - (i + 1)) (by omega) ?_
      refine ⟨i + 1, rfl, rfl, rfl, by omega, fun j hj => ?_⟩
      by_cases e : j = i
      · subst e; exact hc
      · exact ht j (by omega)
  · obtain rfl : len_xs = i := by omega
    repeat' (first
 | refine A_go rfl ?_ | refine A_ifT rfl rfl ?_ | refine A_ifF rfl rfl ?_
 | refine A_add rfl rfl rfl (by omega) ?_
 | ((first | refine A_lt rfl rfl rfl ?_ ?_ | refine A_ne rfl rfl rfl ?_ ?_) <;> intro hc <;> try first | contradiction | (exfalso; omega) | exact absurd rfl hc)
 | refine A_idxN1 rfl rfl rfl (by omega) ?_ | refine A_idx1 rfl rfl rfl (by omega) ?_
 | refine A_p (by rfl) rfl ?_
 | refine A_ldI rfl (by first | omega | (simp; done) | (simp; omega)) rfl ?_ | refine A_ldB rfl (by first | omega | (simp; done) | (simp; omega)) rfl ?_ | refine A_ld rfl (by rfl) rfl ?_
 | refine A_ret1 rfl (by exact (RP.t rfl RP.nil)) ?_)
    exact R_t (ext_getD 0 (by omega) fun j hj => ht j (by omega))

end Go.Proofs.Ytlmbgaoeplffkaa
