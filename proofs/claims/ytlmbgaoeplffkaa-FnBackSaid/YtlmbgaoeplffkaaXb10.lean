/- Rings and rules that are drawn out of bytes: the second set of laws. -/
import Derived.Test.YtlmbgaoeplffkaaXsrc
import Derived.Test.YtlmbgaoeplffkaaXlend
import Derived.Test.YtlmbgaoeplffkaaXcomesC
import Derived.Test.YtlmbgaoeplffkaaFB
namespace Go.Proofs.Ytlmbgaoeplffkaa
open Go Go.RowKit
set_option linter.unusedVariables false
set_option linter.unusedSimpArgs false
set_option maxRecDepth 100000
set_option maxHeartbeats 8000000
-- spec.l07DrawTwo
def L31 : AFun := ⟨25, [.cell true 3 4],
 (.seq (.ops false [⟨(some 4), .alloc 27 [.int .i64 0, .int .i64 0, .sl 0 0 0], none, []⟩])
 (.seq (.ops false [⟨(some 7), .mv (.t 1), none, []⟩,
   ⟨(some 8), .build [.int .i64 0, .int .i64 0, .sl 0 0 0] [(0, 1, (.k (iv 2))), (1, 1, (.t 7))], none, []⟩,
   ⟨(some 5), .alloc 27 [.int .i64 0, .int .i64 0, .sl 0 0 0], none, []⟩,
   ⟨none, .store 3 (.t 5) (.t 8), none, []⟩])
 (.seq (.seq (.ops false [⟨(some 9), .mv (.t 1), none, []⟩,
    ⟨(some 10), .bin .mul (.k (iv 2)) (.t 9), none, []⟩,
    ⟨(some 11), .bin .add (.t 10) (.k (iv 1)), none, []⟩,
    ⟨(some 12), .call (.f 58) [(.k (iv 2)), (.t 11)], none, []⟩,
    ⟨(some 6), .mv (.t 12), none, []⟩])
  (.block 0 (.loop [0, 4, 5, 6] (.seq (.seq (.ops false [⟨(some 13), .mv (.t 6), none, []⟩,
       ⟨(some 14), .bin .gtr (.t 13) (.k (iv 0)), none, []⟩])
     (.cond (.t 14) .skip
      (.exit 0)))
    (.seq (.block 1 (.ops true [⟨(some 19), .mv (.t 0), none, []⟩,
       ⟨(some 20), .call (.f 32) [(.t 19), (.k (iv 2))], none, []⟩,
       ⟨(some 17), .fieldA 2 (.t 5), none, []⟩,
       ⟨(some 18), .load false 1 (.t 17), none, [0]⟩,
       ⟨(some 21), .buildS 2 1 1 [.int .i64 0] [(0, 1, (.t 20))], none, []⟩,
       ⟨(some 22), .append 2 1 8 (.t 18) (.t 21), none, []⟩,
       ⟨(some 23), .fieldA 2 (.t 5), none, []⟩,
       ⟨none, .store 1 (.t 23) (.t 22), none, []⟩]))
    (.ops false [⟨(some 15), .mv (.t 6), none, []⟩,
     ⟨(some 16), .bin .sub (.t 15) (.k (iv 1)), none, []⟩,
     ⟨(some 6), .mv (.t 16), none, []⟩]))))))
 (.seq (.ops false [⟨(some 24), .load true 3 (.t 5), none, []⟩,
   ⟨none, .store 3 (.t 4) (.t 24), none, []⟩])
 .ret))))⟩
theorem code31 : acode Try.prog hints 31 = some L31 := by kernel_rfl

-- spec.B10Rule
def L8 : AFun := ⟨11, [.cell true 3 4],
 (.seq (.ops false [⟨(some 4), .alloc 27 [.int .i64 0, .int .i64 0, .sl 0 0 0], none, []⟩])
 (.seq (.ops false [⟨(some 6), .mv (.t 0), none, []⟩,
   ⟨(some 7), .call (.f 30) [(.t 6)], none, []⟩,
   ⟨(some 5), .mv (.t 7), none, []⟩])
 (.seq (.ops false [⟨(some 8), .mv (.t 5), none, []⟩,
   ⟨(some 9), .mv (.t 1), none, []⟩,
   ⟨(some 10), .call (.f 31) [(.t 8), (.t 9)], none, []⟩,
   ⟨none, .store 3 (.t 4) (.t 10), none, []⟩])
 .ret)))⟩
theorem code8 : acode Try.prog hints 8 = some L8 := by kernel_rfl

-- spec.B10Ring
def L9 : AFun := ⟨23, [.t 6],
 (.seq (.ops false [⟨(some 6), .mv (.k (.c (.sl 0 0 0))), none, []⟩])
 (.seq (.ops false [⟨(some 9), .mv (.t 0), none, []⟩,
   ⟨(some 10), .call (.f 30) [(.t 9)], none, []⟩,
   ⟨(some 7), .mv (.t 10), none, []⟩])
 (.seq (.ops false [⟨(some 11), .buildS 2 1 0 [.int .i64 0] [], none, []⟩,
   ⟨(some 8), .mv (.t 11), none, []⟩])
 (.seq (.block 0 (.loop [1, 2, 7, 8] (.seq (.seq (.ops false [⟨(some 12), .mv (.t 2), none, []⟩,
       ⟨(some 13), .bin .gtr (.t 12) (.k (iv 0)), none, []⟩])
     (.cond (.t 13) .skip
      (.exit 0)))
    (.seq (.block 1 (.ops false [⟨(some 16), .mv (.t 8), none, []⟩,
       ⟨(some 17), .mv (.t 7), none, []⟩,
       ⟨(some 18), .mv (.t 1), none, []⟩,
       ⟨(some 19), .call (.f 32) [(.t 17), (.t 18)], none, []⟩,
       ⟨(some 20), .buildS 2 1 1 [.int .i64 0] [(0, 1, (.t 19))], none, []⟩,
       ⟨(some 21), .append 2 1 8 (.t 16) (.t 20), none, []⟩,
       ⟨(some 8), .mv (.t 21), none, []⟩]))
    (.ops false [⟨(some 14), .mv (.t 2), none, []⟩,
     ⟨(some 15), .bin .sub (.t 14) (.k (iv 1)), none, []⟩,
     ⟨(some 2), .mv (.t 15), none, []⟩])))))
 (.seq (.ops false [⟨(some 22), .mv (.t 8), none, []⟩,
   ⟨(some 6), .mv (.t 22), none, []⟩])
 .ret)))))⟩
theorem code9 : acode Try.prog hints 9 = some L9 := by kernel_rfl

-- laws.b10At
def L7 : AFun := ⟨25, [.t 6],
 (.seq (.ops false [⟨(some 6), .mv (.k (iv 0)), none, []⟩])
 (.seq (.seq (.ops false [⟨(some 7), .mv (.t 2), none, []⟩,
    ⟨(some 8), .bin .leq (.t 7) (.k (iv 1)), none, []⟩])
  (.cond (.t 8) (.seq (.ops false [⟨(some 6), .mv (.k (iv 0)), none, []⟩])
   .ret)
   .skip))
 (.seq (.seq (.ops false [⟨(some 9), .mv (.t 1), none, []⟩,
    ⟨(some 10), .mv (.t 0), none, []⟩,
    ⟨(some 11), .len false (.t 10), none, []⟩,
    ⟨(some 12), .bin .lss (.t 9) (.t 11), none, []⟩])
  (.cond (.t 12) (.seq (.ops false [⟨(some 13), .mv (.t 0), none, []⟩,
     ⟨(some 14), .mv (.t 1), none, []⟩,
     ⟨(some 15), .idxA 1 (.t 13) (.t 14), none, []⟩,
     ⟨(some 16), .load false 1 (.t 15), none, []⟩,
     ⟨(some 17), .conv .i64 (.t 16), none, []⟩,
     ⟨(some 18), .mv (.t 2), none, []⟩,
     ⟨(some 19), .bin .rem (.t 17) (.t 18), none, []⟩,
     ⟨(some 6), .mv (.t 19), none, []⟩])
   .ret)
   .skip))
 (.seq (.ops false [⟨(some 20), .mv (.t 1), none, []⟩,
   ⟨(some 21), .bin .mul (.t 20) (.k (iv 37)), none, []⟩,
   ⟨(some 22), .bin .add (.t 21) (.k (iv 11)), none, []⟩,
   ⟨(some 23), .mv (.t 2), none, []⟩,
   ⟨(some 24), .bin .rem (.t 22) (.t 23), none, []⟩,
   ⟨(some 6), .mv (.t 24), none, []⟩])
 .ret))))⟩
theorem code7 : acode Try.prog hints 7 = some L7 := by kernel_rfl

-- laws.b10Long
def L6 : AFun := ⟨13, [.t 4],
 (.seq (.ops false [⟨(some 4), .mv (.k (bv false)), none, []⟩])
 (.seq (.ops false [⟨(some 5), .mv (.t 0), none, []⟩,
   ⟨(some 6), .len false (.t 5), none, []⟩,
   ⟨(some 7), .bin .gtr (.t 6) (.k (iv 1048576)), none, []⟩,
   ⟨(some 8), .mv (.t 7), none, []⟩,
   ⟨(some 9), .mv (.t 1), (some (8, false)), []⟩,
   ⟨(some 10), .len false (.t 9), (some (8, false)), []⟩,
   ⟨(some 11), .bin .gtr (.t 10) (.k (iv 1048576)), (some (8, false)), []⟩,
   ⟨(some 12), .pick (.t 8) (.k (bv true)) (.t 11), none, []⟩,
   ⟨(some 4), .mv (.t 12), none, []⟩])
 .ret))⟩
theorem code6 : acode Try.prog hints 6 = some L6 := by kernel_rfl


theorem c_b10Long {s : St} [Wf s] {i0 o0 n0 i1 o1 n1 : Nat} : FnB 6 [.c (.sl i0 o0 n0), .c (.sl i1 o1 n1)] s (1048576 < n0 ∨ 1048576 < n1) := by
  refine F_start code6 ?_
  repeat' (first
 | refine A_go rfl ?_ | refine A_ifT rfl rfl ?_ | refine A_ifF rfl rfl ?_
 | refine A_offP rfl rfl ?_ | refine A_offH rfl rfl ?_ | refine A_off0 rfl rfl ?_
 | ((first | refine A_gt rfl rfl rfl ?_ ?_) <;> intro hc <;> try first | contradiction | (exfalso; omega) | exact absurd rfl hc)
 | refine A_p (by rfl) rfl ?_
 | refine A_ret1 rfl (by exact (RP.t rfl RP.nil)) ?_)
  all_goals first | exact R_t (by omega) | exact R_f (by omega)
theorem c_b10At {s : St} [Wf s] {id off len : Nat} {k n : Int} {ys : List Int} [hy : ArgE ub s id off ys] (hl : ys.length = len) (hr : ∀ n ∈ ys, 0 ≤ n ∧ n ≤ 255) (hk : 0 ≤ k ∧ k ≤ 1000 := by omega) (hn : n ≤ 1000000 := by omega) :
    Fn [] 7 [.c (.sl id off len), iv k, iv n] s fun R N => (∃ x, R = iv x ∧ 0 ≤ x ∧ (1 ≤ n → x < n) ∧ (n ≤ 1 → x = 0)) ∧ N = [] := by
  refine F_start code7 ?_
  by_cases h1 : n ≤ 1
  · repeat' (first
 | refine A_go rfl ?_ | refine A_ifT rfl rfl ?_ | refine A_ifF rfl rfl ?_
 | refine A_add rfl rfl rfl (by omega) ?_ | refine A_mul rfl rfl rfl (by omega) ?_ | refine A_rem rfl rfl rfl (by omega) ?_ | refine A_remT rfl rfl rfl (by omega) ?_
 | ((first | refine A_lt rfl rfl rfl ?_ ?_ | refine A_le rfl rfl rfl ?_ ?_) <;> intro hc <;> try first | contradiction | (exfalso; omega) | exact absurd rfl hc)
 | refine A_idxN1 rfl rfl rfl (by omega) ?_ | refine A_idx1 rfl rfl rfl (by omega) ?_
 | refine A_p (by rfl) rfl ?_
 | refine A_ldI rfl (by first | omega | (simp; done) | (simp; omega)) rfl ?_ | refine A_ldB rfl (by first | omega | (simp; done) | (simp; omega)) rfl ?_ | refine A_ld rfl (by rfl) rfl ?_
 | refine A_ret1 rfl (by exact (RP.t rfl RP.nil)) ?_)
    exact R_s ⟨⟨0, rfl, by omega, by omega, by omega⟩, rfl⟩
  by_cases h2 : k < len
  · obtain ⟨j, rfl⟩ : ∃ j : Nat, k = j := ⟨k.toNat, by omega⟩
    have hb := hr _ (getD_mem (d := 0) (by omega : j < ys.length))
    repeat' (first
 | refine A_go rfl ?_ | refine A_ifT rfl rfl ?_ | refine A_ifF rfl rfl ?_
 | refine A_add rfl rfl rfl (by omega) ?_ | refine A_mul rfl rfl rfl (by omega) ?_ | refine A_rem rfl rfl rfl (by omega) ?_ | refine A_remT rfl rfl rfl (by omega) ?_
 | ((first | refine A_lt rfl rfl rfl ?_ ?_ | refine A_le rfl rfl rfl ?_ ?_) <;> intro hc <;> try first | contradiction | (exfalso; omega) | exact absurd rfl hc)
 | refine A_idxN1 rfl rfl rfl (by omega) ?_ | refine A_idx1 rfl rfl rfl (by omega) ?_
 | refine A_ldU rfl (by omega) rfl ?_
 | refine A_convW rfl rfl (by omega) ?_
 | refine A_p (by rfl) rfl ?_
 | refine A_ldI rfl (by first | omega | (simp; done) | (simp; omega)) rfl ?_ | refine A_ldB rfl (by first | omega | (simp; done) | (simp; omega)) rfl ?_ | refine A_ld rfl (by rfl) rfl ?_
 | refine A_ret1 rfl (by exact (RP.t rfl RP.nil)) ?_)
    exact R_s ⟨⟨_, rfl, Int.emod_nonneg _ (by omega), fun _ => Int.emod_lt_of_pos _ (by omega), by omega⟩, rfl⟩
  · repeat' (first
 | refine A_go rfl ?_ | refine A_ifT rfl rfl ?_ | refine A_ifF rfl rfl ?_
 | refine A_add rfl rfl rfl (by omega) ?_ | refine A_mul rfl rfl rfl (by omega) ?_ | refine A_rem rfl rfl rfl (by omega) ?_ | refine A_remT rfl rfl rfl (by omega) ?_
 | ((first | refine A_lt rfl rfl rfl ?_ ?_ | refine A_le rfl rfl rfl ?_ ?_) <;> intro hc <;> try first | contradiction | (exfalso; omega) | exact absurd rfl hc)
 | refine A_idxN1 rfl rfl rfl (by omega) ?_ | refine A_idx1 rfl rfl rfl (by omega) ?_
 | refine A_p (by rfl) rfl ?_
 | refine A_ldI rfl (by first | omega | (simp; done) | (simp; omega)) rfl ?_ | refine A_ldB rfl (by first | omega | (simp; done) | (simp; omega)) rfl ?_ | refine A_ld rfl (by rfl) rfl ?_
 | refine A_ret1 rfl (by exact (RP.t rfl RP.nil)) ?_)
    exact R_s ⟨⟨_, rfl, Int.emod_nonneg _ (by omega), fun _ => Int.emod_lt_of_pos _ (by omega), by omega⟩, rfl⟩
theorem c_drawTwo {s : St} [Wf s] {p id off len : Nat} {at_ sd : Int} {ys : List Int} [hb : Bor s p (srcO id off len at_ sd)] [hy : ArgE ub s id off ys] (hl : ys.length = len) (hr : ∀ n ∈ ys, 0 ≤ n ∧ n ≤ 255) (hne : id ≠ p ∨ id ≤ 1) (hat : 0 ≤ at_ ∧ at_ ≤ 1000000) (hlen : len ≤ 1000000000000) :
    Fn [p] 31 [.c (.ptr p 0), iv 1] s fun V N => ∃ q xs at' sd', V = .agg [ic 2, ic 1, .sl q 0 8] ∧ xs.length = 8 ∧ (∀ x ∈ xs, 0 ≤ x ∧ x < 2) ∧ N = [(q, ints xs), (p, srcO id off len at' sd')] := by
  haveI hni : NotIn id [p] := ⟨by rcases hne with h | h; exact .inl (by simpa using h); exact .inr h⟩
  refine F_start1 code31 ?_
  repeat' (first
 | refine A_go rfl ?_ | refine A_ifT rfl rfl ?_ | refine A_ifF rfl rfl ?_
 | refine A_add rfl rfl rfl (by omega) ?_ | refine A_sub rfl rfl rfl (by omega) ?_ | refine A_mul rfl rfl rfl (by omega) ?_
 | ((first | refine A_gt rfl rfl rfl ?_ ?_) <;> intro hc <;> try first | contradiction | (exfalso; omega) | exact absurd rfl hc)
 | refine A_callV rfl rfl (fun s H => c_l03Power (b0 := 2) (n0 := 2 * 1 + 1)) ?_
 | refine A_fld rfl rfl ?_ | refine A_mk3 rfl rfl rfl rfl ?_ | refine A_mk23 rfl rfl rfl ?_ | refine A_mk2 rfl rfl rfl ?_ | refine A_mk13 rfl rfl ?_ | refine A_p (by rfl) rfl ?_
 | refine A_ldI rfl (by first | omega | (simp; done) | (simp; omega)) rfl ?_ | refine A_ldB rfl (by first | omega | (simp; done) | (simp; omega)) rfl ?_ | refine A_ld rfl (by rfl) rfl ?_
 | refine A_ldW rfl (by simp) rfl ?_
 | refine A_st rfl rfl rfl ?_ | refine A_stE rfl rfl (by first | omega | (simp; done) | (simp; omega)) rfl ?_
 | refine A_stW rfl rfl (by simp) rfl ?_
 | ((first | refine A_alloc rfl ?_ | refine A_bld1 rfl rfl ?_ | refine A_bld2 rfl rfl rfl ?_ | refine A_bld4 rfl rfl rfl rfl rfl ?_) <;> intro pz hpz)
 | refine A_bld0 rfl ?_
 | (refine A_app rfl rfl rfl (by first | omega | (simp; done) | (simp; omega)) (by first | omega | (simp; done) | (simp; omega)) (by omega) ?_; intro pz) | (refine A_appN (enc := ic) rfl (by decide) rfl rfl (by first | omega | (simp; done) | (simp; omega)) (by omega) ?_; intro pz)
 | refine A_chk1 rfl rfl rfl ?_ | refine A_chk2 rfl rfl rfl rfl ?_ | refine A_chk3 rfl rfl rfl rfl rfl ?_ | refine A_chk4 rfl rfl rfl rfl rfl rfl ?_ | refine A_chkI rfl (by assumption) rfl (by simp) ?_
 | refine A_ret1 rfl (by exact (RP.c rfl inferInstance rfl (by simp) RP.nil)) ?_)
  rw [show (((2 : Int).toNat ^ (2 * 1 + 1 : Int).toNat : Nat) : Int) = ((8 : Nat) : Int) from rfl]
  rename_i p6 h6
  obtain ⟨p7, hEq⟩ : ∃ p, p = pz := ⟨_, rfl⟩; subst hEq
  refine A_loopX rfl (fun m fr L => ∃ (i q : Nat) (xs : List Int) (at' sd' : Int), m = 8 - i ∧ fr = [(0, .c (.ptr p 0)), (4, .c (.ptr p6 0)), (5, .c (.ptr p7 0)), (6, iv (((8 : Nat) : Int) - i))] ∧ L = [(p7, .rw 27 3 [ic 2, ic 1, .sl q 0 i]), (p6, .rw 27 3 [ic 0, ic 0, .sl 0 0 0]), (p, srcO id off len at' sd'), (q, ints xs)] ∧ i ≤ 8 ∧ xs.length = i ∧ (∀ x ∈ xs, 0 ≤ x ∧ x < 2) ∧ 0 ≤ at' ∧ at' ≤ 1000000 + 2 * i) (n := 8) ⟨[(p7, .rw 27 3 [ic 2, ic 1, .sl 0 0 0]), (p6, .rw 27 3 [ic 0, ic 0, .sl 0 0 0]), (p, srcO id off len at_ sd), (0, ints [])], ⟨0, 0, [], at_, sd, rfl, by simp only [Int.ofNat_zero, Int.sub_zero]; rfl, rfl, by omega, rfl, by simp, by omega, by omega⟩, inferInstance⟩ ?_
  rintro m fr L ⟨i, q, xs, at', sd', rfl, rfl, rfl, hi, hxl, hxm, ha1, ha2⟩
  by_cases hi' : i < 8
  · repeat' (first
 | refine A_go rfl ?_ | refine A_ifT rfl rfl ?_ | refine A_ifF rfl rfl ?_
 | refine A_add rfl rfl rfl (by omega) ?_ | refine A_sub rfl rfl rfl (by omega) ?_ | refine A_mul rfl rfl rfl (by omega) ?_
 | ((first | refine A_gt rfl rfl rfl ?_ ?_) <;> intro hc <;> try first | contradiction | (exfalso; omega) | exact absurd rfl hc)
 | (refine A_callM rfl rfl (fun s H => c_pick (hl := hl) (hr := hr) (hne := hne) (hat := by omega) (hlen := hlen) (hn := by omega)) ?_; rintro _ _ ⟨x, at', sd, rfl, hxb, hat, rfl⟩) | (refine A_callM0 rfl rfl (fun s H => c_pick (hl := hl) (hr := hr) (hne := hne) (hat := by omega) (hlen := hlen) (hn := by omega)) ?_; rintro _ _ ⟨x, at', sd, rfl, hxb, hat, rfl⟩)
 | refine A_fld rfl rfl ?_ | refine A_mk3 rfl rfl rfl rfl ?_ | refine A_mk23 rfl rfl rfl ?_ | refine A_mk2 rfl rfl rfl ?_ | refine A_mk13 rfl rfl ?_ | refine A_p (by rfl) rfl ?_
 | refine A_ldI rfl (by first | omega | (simp; done) | (simp; omega)) rfl ?_ | refine A_ldB rfl (by first | omega | (simp; done) | (simp; omega)) rfl ?_ | refine A_ld rfl (by rfl) rfl ?_
 | refine A_ldW rfl (by simp) rfl ?_
 | refine A_st rfl rfl rfl ?_ | refine A_stE rfl rfl (by first | omega | (simp; done) | (simp; omega)) rfl ?_
 | refine A_stW rfl rfl (by simp) rfl ?_
 | ((first | refine A_alloc rfl ?_ | refine A_bld1 rfl rfl ?_ | refine A_bld2 rfl rfl rfl ?_ | refine A_bld4 rfl rfl rfl rfl rfl ?_) <;> intro pz hpz)
 | refine A_bld0 rfl ?_
 | (refine A_app rfl rfl rfl (by first | omega | (simp; done) | (simp; omega)) (by first | omega | (simp; done) | (simp; omega)) (by omega) ?_; intro pz) | (refine A_appN (enc := ic) rfl (by decide) rfl rfl (by first | omega | (simp; done) | (simp; omega)) (by omega) ?_; intro pz)
 | refine A_chk1 rfl rfl rfl ?_ | refine A_chk2 rfl rfl rfl rfl ?_ | refine A_chk3 rfl rfl rfl rfl rfl ?_ | refine A_chk4 rfl rfl rfl rfl rfl rfl ?_ | refine A_chkI rfl (by assumption) rfl (by simp) ?_
 | refine A_ret1 rfl (by exact (RP.c rfl inferInstance rfl (by simp) RP.nil)) ?_)
    refine A_roundX rfl ⟨8 - (i + 1), [(p7, .rw 27 3 [ic 2, ic 1, .sl pz 0 (i + 1)]), (p6, .rw 27 3 [ic 0, ic 0, .sl 0 0 0]), (p, srcO id off len at' sd), (pz, ints (xs ++ [x]))], by omega, ⟨i + 1, pz, _, _, _, rfl, ?_, rfl, by omega, by simp [hxl], ?_, by omega, by omega⟩, inferInstance⟩
    · rw [show ((8 : Nat) : Int) - i - 1 = ((8 : Nat) : Int) - ((i + 1 : Nat) : Int) by omega]; rfl
    · intro a ha
      rcases List.mem_append.1 ha with g | g
      · exact hxm a g
      · obtain rfl := List.mem_singleton.1 g; omega
  · obtain rfl : 8 = i := by omega
    repeat' (first
 | refine A_go rfl ?_ | refine A_ifT rfl rfl ?_ | refine A_ifF rfl rfl ?_
 | refine A_add rfl rfl rfl (by omega) ?_ | refine A_sub rfl rfl rfl (by omega) ?_ | refine A_mul rfl rfl rfl (by omega) ?_
 | ((first | refine A_gt rfl rfl rfl ?_ ?_) <;> intro hc <;> try first | contradiction | (exfalso; omega) | exact absurd rfl hc)
 | refine A_fld rfl rfl ?_ | refine A_mk3 rfl rfl rfl rfl ?_ | refine A_mk23 rfl rfl rfl ?_ | refine A_mk2 rfl rfl rfl ?_ | refine A_mk13 rfl rfl ?_ | refine A_p (by rfl) rfl ?_
 | refine A_ldI rfl (by first | omega | (simp; done) | (simp; omega)) rfl ?_ | refine A_ldB rfl (by first | omega | (simp; done) | (simp; omega)) rfl ?_ | refine A_ld rfl (by rfl) rfl ?_
 | refine A_ldW rfl (by simp) rfl ?_
 | refine A_st rfl rfl rfl ?_ | refine A_stE rfl rfl (by first | omega | (simp; done) | (simp; omega)) rfl ?_
 | refine A_stW rfl rfl (by simp) rfl ?_
 | ((first | refine A_alloc rfl ?_ | refine A_bld1 rfl rfl ?_ | refine A_bld2 rfl rfl rfl ?_ | refine A_bld4 rfl rfl rfl rfl rfl ?_) <;> intro pz hpz)
 | refine A_bld0 rfl ?_
 | (refine A_app rfl rfl rfl (by first | omega | (simp; done) | (simp; omega)) (by first | omega | (simp; done) | (simp; omega)) (by omega) ?_; intro pz) | (refine A_appN (enc := ic) rfl (by decide) rfl rfl (by first | omega | (simp; done) | (simp; omega)) (by omega) ?_; intro pz)
 | refine A_chk1 rfl rfl rfl ?_ | refine A_chk2 rfl rfl rfl rfl ?_ | refine A_chk3 rfl rfl rfl rfl rfl ?_ | refine A_chk4 rfl rfl rfl rfl rfl rfl ?_ | refine A_chkI rfl (by assumption) rfl (by simp) ?_
 | refine A_ret1 rfl (by exact (RP.c rfl inferInstance rfl (by simp) RP.nil)) ?_)
    exact R_n [q, p] ⟨q, xs, _, _, rfl, hxl, hxm, rfl⟩
theorem c_B10Rule {s : St} [Wf s] {id off len : Nat} {ys : List Int} [hy : ArgE ub s id off ys] (hl : ys.length = len) (hr : ∀ n ∈ ys, 0 ≤ n ∧ n ≤ 255) (hlen : len ≤ 1000000000000 := by omega) :
    Fn [] 8 [.c (.sl id off len), iv 1] s fun V N => ∃ q xs, V = .agg [ic 2, ic 1, .sl q 0 8] ∧ VR 2 1 xs ∧ xs.length = 8 ∧ N = [(q, ints xs)] := by
  refine F_start code8 ?_
  repeat' (first
 | refine A_go rfl ?_ | refine A_ifT rfl rfl ?_ | refine A_ifF rfl rfl ?_
 | (refine A_callM rfl rfl (fun s H => c_l00From) ?_; rintro _ _ ⟨pz, rfl, hpz, rfl⟩) | (refine A_callM0 rfl rfl (fun s H => c_l00From) ?_; rintro _ _ ⟨pz, rfl, hpz, rfl⟩)
 | (refine A_callM rfl rfl (fun s H => c_drawTwo (hl := hl) (hr := hr) (hne := H.neB hy.lt) (hat := by omega) (hlen := hlen)) ?_; rintro _ _ ⟨pz, xs, at', sd, rfl, hxl, hxm, rfl⟩) | (refine A_callM0 rfl rfl (fun s H => c_drawTwo (hl := hl) (hr := hr) (hne := H.neB hy.lt) (hat := by omega) (hlen := hlen)) ?_; rintro _ _ ⟨pz, xs, at', sd, rfl, hxl, hxm, rfl⟩)
 | refine A_p (by rfl) rfl ?_
 | refine A_stW rfl rfl (by simp) rfl ?_
 | ((first | refine A_alloc rfl ?_) <;> intro pz hpz)
 | refine A_ret1 rfl (by exact (RP.c rfl inferInstance rfl (by simp) RP.nil)) ?_)
  exact R_s ⟨pz, xs, rfl, ⟨by omega, by omega, hxl, fun x hx => by have := hxm x hx; omega⟩, hxl, rfl⟩
theorem c_B10Ring {s : St} [Wf s] {id off len n : Nat} {S : Int} {ys : List Int} [hy : ArgE ub s id off ys] (hl : ys.length = len) (hr : ∀ n ∈ ys, 0 ≤ n ∧ n ≤ 255) (hlen : len ≤ 1000000000000 := by omega) (hS : 2 ≤ S ∧ S ≤ 3 := by omega) (hn : 1 ≤ n ∧ n ≤ 64 := by omega) :
    Fn [] 9 [.c (.sl id off len), iv S, iv n] s fun V N => ∃ q xs, V = .c (.sl q 0 n) ∧ RG S xs ∧ xs.length = n ∧ N = [(q, ints xs)] := by
  refine F_start code9 ?_
  repeat' (first
 | refine A_go rfl ?_ | refine A_ifT rfl rfl ?_ | refine A_ifF rfl rfl ?_
 | refine A_sub rfl rfl rfl (by omega) ?_
 | ((first | refine A_gt rfl rfl rfl ?_ ?_) <;> intro hc <;> try first | contradiction | (exfalso; omega) | exact absurd rfl hc)
 | (refine A_callM rfl rfl (fun s H => c_l00From) ?_; rintro _ _ ⟨pz, rfl, hpz, rfl⟩) | (refine A_callM0 rfl rfl (fun s H => c_l00From) ?_; rintro _ _ ⟨pz, rfl, hpz, rfl⟩)
 | refine A_p (by rfl) rfl ?_
 | ((first | refine A_bld1 rfl rfl ?_ | refine A_bld2 rfl rfl rfl ?_ | refine A_bld4 rfl rfl rfl rfl rfl ?_) <;> intro pz hpz)
 | refine A_bld0 rfl ?_
 | (refine A_app rfl rfl rfl (by first | omega | (simp; done) | (simp; omega)) (by first | omega | (simp; done) | (simp; omega)) (by omega) ?_; intro pz) | (refine A_appN (enc := ic) rfl (by decide) rfl rfl (by first | omega | (simp; done) | (simp; omega)) (by omega) ?_; intro pz)
 | refine A_ret1 rfl (by exact (RP.t rfl RP.nil)) ?_)
  obtain ⟨p, hEq⟩ : ∃ p, p = pz := ⟨_, rfl⟩; subst hEq
  refine A_loopX rfl (fun m fr L => ∃ (i q : Nat) (xs : List Int) (at' sd' : Int), m = n - i ∧ fr = [(1, iv S), (2, iv ((n : Int) - i)), (7, .c (.ptr p 0)), (8, .c (.sl q 0 i))] ∧ L = [(p, srcO id off len at' sd'), (q, ints xs)] ∧ i ≤ n ∧ xs.length = i ∧ (∀ x ∈ xs, 0 ≤ x ∧ x < S) ∧ 0 ≤ at' ∧ at' ≤ 2 * i) (n := n) ⟨[(p, srcO id off len 0 0), (1, ints [])], ⟨0, 1, [], 0, 0, rfl, by simp only [Int.ofNat_zero, Int.sub_zero]; rfl, rfl, by omega, rfl, by simp, by omega, by omega⟩, inferInstance⟩ ?_
  rintro m fr L ⟨i, q, xs, at', sd', rfl, rfl, rfl, hi, hxl, hxm, ha1, ha2⟩
  by_cases hi' : i < n
  · repeat' (first
 | refine A_go rfl ?_ | refine A_ifT rfl rfl ?_ | refine A_ifF rfl rfl ?_
 | refine A_sub rfl rfl rfl (by omega) ?_
 | ((first | refine A_gt rfl rfl rfl ?_ ?_) <;> intro hc <;> try first | contradiction | (exfalso; omega) | exact absurd rfl hc)
 | (refine A_callM rfl rfl (fun s H => c_pick (hl := hl) (hr := hr) (hne := H.neB hy.lt) (hat := by omega) (hlen := hlen) (hn := by omega)) ?_; rintro _ _ ⟨x, at', sd, rfl, hxb, hat, rfl⟩) | (refine A_callM0 rfl rfl (fun s H => c_pick (hl := hl) (hr := hr) (hne := H.neB hy.lt) (hat := by omega) (hlen := hlen) (hn := by omega)) ?_; rintro _ _ ⟨x, at', sd, rfl, hxb, hat, rfl⟩)
 | refine A_p (by rfl) rfl ?_
 | ((first | refine A_bld1 rfl rfl ?_ | refine A_bld2 rfl rfl rfl ?_ | refine A_bld4 rfl rfl rfl rfl rfl ?_) <;> intro pz hpz)
 | refine A_bld0 rfl ?_
 | (refine A_app rfl rfl rfl (by first | omega | (simp; done) | (simp; omega)) (by first | omega | (simp; done) | (simp; omega)) (by omega) ?_; intro pz) | (refine A_appN (enc := ic) rfl (by decide) rfl rfl (by first | omega | (simp; done) | (simp; omega)) (by omega) ?_; intro pz)
 | refine A_ret1 rfl (by exact (RP.t rfl RP.nil)) ?_)
    refine A_roundX rfl ⟨n - (i + 1), [(p, srcO id off len at' sd), (pz, ints (xs ++ [x]))], by omega, ⟨i + 1, pz, _, _, _, rfl, ?_, rfl, by omega, by simp [hxl], ?_, by omega, by omega⟩, inferInstance⟩
    · rw [show (n : Int) - i - 1 = (n : Int) - ((i + 1 : Nat) : Int) by omega]; rfl
    · intro a ha
      rcases List.mem_append.1 ha with g | g
      · exact hxm a g
      · obtain rfl := List.mem_singleton.1 g; omega
  · obtain rfl : n = i := by omega
    repeat' (first
 | refine A_go rfl ?_ | refine A_ifT rfl rfl ?_ | refine A_ifF rfl rfl ?_
 | refine A_sub rfl rfl rfl (by omega) ?_
 | ((first | refine A_gt rfl rfl rfl ?_ ?_) <;> intro hc <;> try first | contradiction | (exfalso; omega) | exact absurd rfl hc)
 | refine A_p (by rfl) rfl ?_
 | ((first | refine A_bld1 rfl rfl ?_ | refine A_bld2 rfl rfl rfl ?_ | refine A_bld4 rfl rfl rfl rfl rfl ?_) <;> intro pz hpz)
 | refine A_bld0 rfl ?_
 | (refine A_app rfl rfl rfl (by first | omega | (simp; done) | (simp; omega)) (by first | omega | (simp; done) | (simp; omega)) (by omega) ?_; intro pz) | (refine A_appN (enc := ic) rfl (by decide) rfl rfl (by first | omega | (simp; done) | (simp; omega)) (by omega) ?_; intro pz)
 | refine A_ret1 rfl (by exact (RP.t rfl RP.nil)) ?_)
    exact R_n [q] ⟨q, xs, rfl, ⟨by omega, fun x hx => by have := hxm x hx; omega⟩, hxl, rfl⟩

end Go.Proofs.Ytlmbgaoeplffkaa
