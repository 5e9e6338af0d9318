/- Fields that are drawn out of bytes. -/
import Derived.Test.YtlhidckolillaaaXsrc
import Derived.Test.YtlhidckolillaaaXlend
import Derived.Test.YtlhidckolillaaaXvalid
import Derived.Test.YtlhidckolillaaaXfieldG
import Derived.Test.YtlhidckolillaaaFB
namespace Go.Proofs.Ytlhidckolillaaa
open Go Go.RowKit
set_option linter.unusedVariables false
set_option linter.unusedSimpArgs false
set_option maxRecDepth 100000
set_option maxHeartbeats 8000000
-- spec.l04DrawStates
def L51 : AFun := ⟨30, [.cell true 3 8],
 (.seq (.ops false [⟨(some 8), .alloc 26 [.int .i64 0, .int .i64 0, .sl 0 0 0], none, []⟩])
 (.seq (.ops false [⟨(some 11), .mv (.t 1), none, []⟩,
   ⟨(some 12), .mv (.t 2), none, []⟩,
   ⟨(some 13), .build [.int .i64 0, .int .i64 0, .sl 0 0 0] [(0, 1, (.t 11)), (1, 1, (.t 12))], none, []⟩,
   ⟨(some 9), .alloc 26 [.int .i64 0, .int .i64 0, .sl 0 0 0], none, []⟩,
   ⟨none, .store 3 (.t 9) (.t 13), none, []⟩])
 (.seq (.seq (.ops false [⟨(some 14), .mv (.t 1), none, []⟩,
    ⟨(some 15), .mv (.t 2), none, []⟩,
    ⟨(some 16), .bin .mul (.t 14) (.t 15), none, []⟩,
    ⟨(some 10), .mv (.t 16), none, []⟩])
  (.block 0 (.loop [0, 3, 8, 9, 10] (.seq (.seq (.ops false [⟨(some 17), .mv (.t 10), none, []⟩,
       ⟨(some 18), .bin .gtr (.t 17) (.k (iv 0)), none, []⟩])
     (.cond (.t 18) .skip
      (.exit 0)))
    (.seq (.block 1 (.ops true [⟨(some 23), .mv (.t 0), none, []⟩,
       ⟨(some 24), .mv (.t 3), none, []⟩,
       ⟨(some 25), .call (.f 67) [(.t 23), (.t 24)], none, []⟩,
       ⟨(some 21), .fieldA 2 (.t 9), none, []⟩,
       ⟨(some 22), .load false 1 (.t 21), none, [0]⟩,
       ⟨(some 26), .buildS 2 1 1 [.int .i64 0] [(0, 1, (.t 25))], none, []⟩,
       ⟨(some 27), .append 2 1 8 (.t 22) (.t 26), none, []⟩,
       ⟨(some 28), .fieldA 2 (.t 9), none, []⟩,
       ⟨none, .store 1 (.t 28) (.t 27), none, []⟩]))
    (.ops false [⟨(some 19), .mv (.t 10), none, []⟩,
     ⟨(some 20), .bin .sub (.t 19) (.k (iv 1)), none, []⟩,
     ⟨(some 10), .mv (.t 20), none, []⟩]))))))
 (.seq (.ops false [⟨(some 29), .load true 3 (.t 9), none, []⟩,
   ⟨none, .store 3 (.t 8) (.t 29), none, []⟩])
 .ret))))⟩
theorem code51 : acode Try.prog hints 51 = some L51 := by kernel_rfl

-- spec.R8Field
def L18 : AFun := ⟨17, [.cell true 3 8],
 (.seq (.ops false [⟨(some 8), .alloc 26 [.int .i64 0, .int .i64 0, .sl 0 0 0], none, []⟩])
 (.seq (.ops false [⟨(some 10), .mv (.t 0), none, []⟩,
   ⟨(some 11), .call (.f 49) [(.t 10)], none, []⟩,
   ⟨(some 9), .mv (.t 11), none, []⟩])
 (.seq (.ops false [⟨(some 12), .mv (.t 9), none, []⟩,
   ⟨(some 13), .mv (.t 1), none, []⟩,
   ⟨(some 14), .mv (.t 2), none, []⟩,
   ⟨(some 15), .mv (.t 3), none, []⟩,
   ⟨(some 16), .call (.f 51) [(.t 12), (.t 13), (.t 14), (.t 15)], none, []⟩,
   ⟨none, .store 3 (.t 8) (.t 16), none, []⟩])
 .ret)))⟩
theorem code18 : acode Try.prog hints 18 = some L18 := by kernel_rfl


theorem c_drawStates {s : St} [Wf s] {p id off len : Nat} {at_ sd : Int} {ys : List Int} {R C : Nat} {most : Int} [hb : Bor s p (srcO id off len at_ sd)] [hy : ArgE ub s id off ys] (hl : ys.length = len) (hr : ∀ n ∈ ys, 0 ≤ n ∧ n ≤ 255) (hne : id ≠ p ∨ id ≤ 1) (hat : 0 ≤ at_ ∧ at_ ≤ 1000000) (hlen : len ≤ 1000000000000) (hR : (1 ≤ R ∧ R ≤ 24) ∧ 1 ≤ C ∧ C ≤ 24) (hm : 1 ≤ most ∧ most ≤ 100) :
    Fn [p] 51 [.c (.ptr p 0), iv R, iv C, iv most] s fun V N => ∃ q xs at' sd', V = .agg (fld R C q (R * C)) ∧ xs.length = R * C ∧ (∀ x ∈ xs, 0 ≤ x ∧ x < most) ∧ N = [(q, ints xs), (p, srcO id off len at' sd')] := by
  haveI hni : NotIn id [p] := ⟨by rcases hne with h | h; exact .inl (by simpa using h); exact .inr h⟩
  have hcc : R * C ≤ 576 := Nat.mul_le_mul hR.1.2 hR.2.2
  have e : (R : Int) * C = ((R * C : Nat) : Int) := by push_cast; rfl
  refine F_start1 code51 ?_
  repeat' (first
 | refine A_go rfl ?_ | refine A_ifT rfl rfl ?_ | refine A_ifF rfl rfl ?_
 | refine A_sub rfl rfl rfl (by omega) ?_ | refine A_mul rfl rfl rfl (by omega) ?_
 | ((first | refine A_gt rfl rfl rfl ?_ ?_) <;> intro hc <;> try first | contradiction | (exfalso; omega) | exact absurd rfl hc)
 | refine A_fld rfl rfl ?_ | refine A_mk3 rfl rfl rfl rfl ?_ | refine A_mk23 rfl rfl rfl ?_ | refine A_mk2 rfl rfl rfl ?_ | refine A_mk13 rfl rfl ?_ | refine A_p (by rfl) rfl ?_
 | refine A_ldI rfl (by first | omega | (simp; done) | (simp; omega)) rfl ?_ | refine A_ldB rfl (by first | omega | (simp; done) | (simp; omega)) rfl ?_ | refine A_ld rfl (by rfl) rfl ?_
 | refine A_ldW rfl (by simp) rfl ?_
 | refine A_st rfl rfl rfl ?_ | refine A_stE rfl rfl (by first | omega | (simp; done) | (simp; omega)) rfl ?_
 | refine A_stW rfl rfl (by simp) rfl ?_
 | ((first | refine A_alloc rfl ?_ | refine A_bld1 rfl rfl ?_ | refine A_bld2 rfl rfl rfl ?_ | refine A_bld4 rfl rfl rfl rfl rfl ?_) <;> intro pz hpz)
 | refine A_bld0 rfl ?_
 | (refine A_app rfl rfl rfl (by first | omega | (simp; done) | (simp; omega)) (by first | omega | (simp; done) | (simp; omega)) (by omega) ?_; intro pz) | (refine A_appN (enc := ic) rfl (by decide) rfl rfl (by first | omega | (simp; done) | (simp; omega)) (by omega) ?_; intro pz)
 | refine A_chk1 rfl rfl rfl ?_ | refine A_chk2 rfl rfl rfl rfl ?_ | refine A_chk3 rfl rfl rfl rfl rfl ?_ | refine A_chk4 rfl rfl rfl rfl rfl rfl ?_ | refine A_chkI rfl (by assumption) rfl (by simp) ?_
 | refine A_ret1 rfl (by exact (RP.c rfl inferInstance rfl (by simp) RP.nil)) ?_)
  rw [e]
  generalize hT : R * C = T at *
  rename_i p8 h8
  obtain ⟨p9, hEq⟩ : ∃ p, p = pz := ⟨_, rfl⟩; subst hEq
  refine A_loopX rfl (fun m fr L => ∃ (i q : Nat) (xs : List Int) (at' sd' : Int), m = T - i ∧ fr = [(0, .c (.ptr p 0)), (3, iv most), (8, .c (.ptr p8 0)), (9, .c (.ptr p9 0)), (10, iv ((T : Int) - i))] ∧ L = [(p9, .rw 26 3 [ic R, ic C, .sl q 0 i]), (p8, .rw 26 3 [ic 0, ic 0, .sl 0 0 0]), (p, srcO id off len at' sd'), (q, ints xs)] ∧ i ≤ T ∧ xs.length = i ∧ (∀ x ∈ xs, 0 ≤ x ∧ x < most) ∧ 0 ≤ at' ∧ at' ≤ 1000000 + 2 * i) (n := T) ⟨[(p9, .rw 26 3 [ic R, ic C, .sl 0 0 0]), (p8, .rw 26 3 [ic 0, ic 0, .sl 0 0 0]), (p, srcO id off len at_ sd), (0, ints [])], ⟨0, 0, [], at_, sd, rfl, by simp only [Int.ofNat_zero, Int.sub_zero]; rfl, rfl, by omega, rfl, by simp, by omega, by omega⟩, inferInstance⟩ ?_
  rintro m fr L ⟨i, q, xs, at', sd', rfl, rfl, rfl, hi, hxl, hxm, ha1, ha2⟩
  by_cases hi' : i < T
  · repeat' (first
 | refine A_go rfl ?_ | refine A_ifT rfl rfl ?_ | refine A_ifF rfl rfl ?_
 | refine A_sub rfl rfl rfl (by omega) ?_ | refine A_mul rfl rfl rfl (by omega) ?_
 | ((first | refine A_gt rfl rfl rfl ?_ ?_) <;> intro hc <;> try first | contradiction | (exfalso; omega) | exact absurd rfl hc)
 | (refine A_callM rfl rfl (fun s H => c_pick (hl := hl) (hr := hr) (hne := hne) (hat := by omega) (hlen := hlen) (hn := by omega)) ?_; rintro _ _ ⟨x, at', sd, rfl, hxb, hat, rfl⟩) | (refine A_callM0 rfl rfl (fun s H => c_pick (hl := hl) (hr := hr) (hne := hne) (hat := by omega) (hlen := hlen) (hn := by omega)) ?_; rintro _ _ ⟨x, at', sd, rfl, hxb, hat, rfl⟩)
 | refine A_fld rfl rfl ?_ | refine A_mk3 rfl rfl rfl rfl ?_ | refine A_mk23 rfl rfl rfl ?_ | refine A_mk2 rfl rfl rfl ?_ | refine A_mk13 rfl rfl ?_ | refine A_p (by rfl) rfl ?_
 | refine A_ldI rfl (by first | omega | (simp; done) | (simp; omega)) rfl ?_ | refine A_ldB rfl (by first | omega | (simp; done) | (simp; omega)) rfl ?_ | refine A_ld rfl (by rfl) rfl ?_
 | refine A_ldW rfl (by simp) rfl ?_
 | refine A_st rfl rfl rfl ?_ | refine A_stE rfl rfl (by first | omega | (simp; done) | (simp; omega)) rfl ?_
 | refine A_stW rfl rfl (by simp) rfl ?_
 | ((first | refine A_alloc rfl ?_ | refine A_bld1 rfl rfl ?_ | refine A_bld2 rfl rfl rfl ?_ | refine A_bld4 rfl rfl rfl rfl rfl ?_) <;> intro pz hpz)
 | refine A_bld0 rfl ?_
 | (refine A_app rfl rfl rfl (by first | omega | (simp; done) | (simp; omega)) (by first | omega | (simp; done) | (simp; omega)) (by omega) ?_; intro pz) | (refine A_appN (enc := ic) rfl (by decide) rfl rfl (by first | omega | (simp; done) | (simp; omega)) (by omega) ?_; intro pz)
 | refine A_chk1 rfl rfl rfl ?_ | refine A_chk2 rfl rfl rfl rfl ?_ | refine A_chk3 rfl rfl rfl rfl rfl ?_ | refine A_chk4 rfl rfl rfl rfl rfl rfl ?_ | refine A_chkI rfl (by assumption) rfl (by simp) ?_
 | refine A_ret1 rfl (by exact (RP.c rfl inferInstance rfl (by simp) RP.nil)) ?_)
    refine A_roundX rfl ⟨T - (i + 1), [(p9, .rw 26 3 [ic R, ic C, .sl pz 0 (i + 1)]), (p8, .rw 26 3 [ic 0, ic 0, .sl 0 0 0]), (p, srcO id off len at' sd), (pz, ints (xs ++ [x]))], by omega, ⟨i + 1, pz, _, _, _, rfl, ?_, rfl, by omega, by simp [hxl], ?_, by omega, by omega⟩, inferInstance⟩
    · rw [show (T : Int) - i - 1 = (T : Int) - ((i + 1 : Nat) : Int) by omega]; rfl
    · intro a ha
      rcases List.mem_append.1 ha with g | g
      · exact hxm a g
      · obtain rfl := List.mem_singleton.1 g; omega
  · obtain rfl : T = i := by omega
    repeat' (first
 | refine A_go rfl ?_ | refine A_ifT rfl rfl ?_ | refine A_ifF rfl rfl ?_
 | refine A_sub rfl rfl rfl (by omega) ?_ | refine A_mul rfl rfl rfl (by omega) ?_
 | ((first | refine A_gt rfl rfl rfl ?_ ?_) <;> intro hc <;> try first | contradiction | (exfalso; omega) | exact absurd rfl hc)
 | refine A_fld rfl rfl ?_ | refine A_mk3 rfl rfl rfl rfl ?_ | refine A_mk23 rfl rfl rfl ?_ | refine A_mk2 rfl rfl rfl ?_ | refine A_mk13 rfl rfl ?_ | refine A_p (by rfl) rfl ?_
 | refine A_ldI rfl (by first | omega | (simp; done) | (simp; omega)) rfl ?_ | refine A_ldB rfl (by first | omega | (simp; done) | (simp; omega)) rfl ?_ | refine A_ld rfl (by rfl) rfl ?_
 | refine A_ldW rfl (by simp) rfl ?_
 | refine A_st rfl rfl rfl ?_ | refine A_stE rfl rfl (by first | omega | (simp; done) | (simp; omega)) rfl ?_
 | refine A_stW rfl rfl (by simp) rfl ?_
 | ((first | refine A_alloc rfl ?_ | refine A_bld1 rfl rfl ?_ | refine A_bld2 rfl rfl rfl ?_ | refine A_bld4 rfl rfl rfl rfl rfl ?_) <;> intro pz hpz)
 | refine A_bld0 rfl ?_
 | (refine A_app rfl rfl rfl (by first | omega | (simp; done) | (simp; omega)) (by first | omega | (simp; done) | (simp; omega)) (by omega) ?_; intro pz) | (refine A_appN (enc := ic) rfl (by decide) rfl rfl (by first | omega | (simp; done) | (simp; omega)) (by omega) ?_; intro pz)
 | refine A_chk1 rfl rfl rfl ?_ | refine A_chk2 rfl rfl rfl rfl ?_ | refine A_chk3 rfl rfl rfl rfl rfl ?_ | refine A_chk4 rfl rfl rfl rfl rfl rfl ?_ | refine A_chkI rfl (by assumption) rfl (by simp) ?_
 | refine A_ret1 rfl (by exact (RP.c rfl inferInstance rfl (by simp) RP.nil)) ?_)
    exact R_n [q, p] ⟨q, xs, _, _, rfl, hxl, hxm, rfl⟩
theorem c_R8Field {s : St} [Wf s] {id off len : Nat} {ys : List Int} {R C : Nat} {most : Int} [hy : ArgE ub s id off ys] (hl : ys.length = len) (hr : ∀ n ∈ ys, 0 ≤ n ∧ n ≤ 255) (hlen : len ≤ 1000000000000 := by omega) (hR : (1 ≤ R ∧ R ≤ 24) ∧ 1 ≤ C ∧ C ≤ 24 := by omega) (hm : 1 ≤ most ∧ most ≤ 10 := by omega) :
    Fn [] 18 [.c (.sl id off len), iv R, iv C, iv most] s fun V N => ∃ q xs, V = .agg (fld R C q (R * C)) ∧ VF R C xs ∧ (∀ x ∈ xs, 0 ≤ x ∧ x < most) ∧ N = [(q, ints xs)] := by
  refine F_start code18 ?_
  repeat' (first
 | refine A_go rfl ?_ | refine A_ifT rfl rfl ?_ | refine A_ifF rfl rfl ?_
 | (refine A_callM rfl rfl (fun s H => c_l00From) ?_; rintro _ _ ⟨pz, rfl, hpz, rfl⟩) | (refine A_callM0 rfl rfl (fun s H => c_l00From) ?_; rintro _ _ ⟨pz, rfl, hpz, rfl⟩)
 | (refine A_callM rfl rfl (fun s H => c_drawStates (hl := hl) (hr := hr) (hne := H.neB hy.lt) (hat := by omega) (hlen := hlen) (hR := hR) (hm := by omega)) ?_; rintro _ _ ⟨pz, xs, at', sd, rfl, hxl, hxm, rfl⟩) | (refine A_callM0 rfl rfl (fun s H => c_drawStates (hl := hl) (hr := hr) (hne := H.neB hy.lt) (hat := by omega) (hlen := hlen) (hR := hR) (hm := by omega)) ?_; rintro _ _ ⟨pz, xs, at', sd, rfl, hxl, hxm, rfl⟩)
 | refine A_p (by rfl) rfl ?_
 | refine A_stW rfl rfl (by simp) rfl ?_
 | ((first | refine A_alloc rfl ?_) <;> intro pz hpz)
 | refine A_ret1 rfl (by exact (RP.c rfl inferInstance rfl (by simp) RP.nil)) ?_)
  exact R_s ⟨pz, xs, rfl, ⟨by omega, by omega, by rw [hxl]; push_cast; rfl, fun x hx => by have := hxm x hx; omega⟩, hxm, rfl⟩

end Go.Proofs.Ytlhidckolillaaa
