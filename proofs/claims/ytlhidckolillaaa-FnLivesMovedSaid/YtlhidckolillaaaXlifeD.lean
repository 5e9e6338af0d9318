/- Lives that are drawn out of bytes. -/
import Derived.Test.YtlhidckolillaaaXmoveL
import Derived.Test.YtlhidckolillaaaXsrc
import Derived.Test.YtlhidckolillaaaXframeM
import Derived.Test.YtlhidckolillaaaFB
namespace Go.Proofs.Ytlhidckolillaaa
open Go Go.RowKit
set_option linter.unusedVariables false
set_option linter.unusedSimpArgs false
set_option maxRecDepth 100000
set_option maxHeartbeats 8000000
-- (*spec.l00Src).one
def L76 : AFun := ⟨9, [.t 4],
 (.seq (.ops false [⟨(some 4), .mv (.k (bv false)), none, []⟩])
 (.seq (.ops false [⟨(some 5), .mv (.t 0), none, []⟩,
   ⟨(some 6), .mv (.t 1), none, []⟩,
   ⟨(some 7), .call (.f 67) [(.t 5), (.t 6)], none, []⟩,
   ⟨(some 8), .bin .eql (.t 7) (.k (iv 0)), none, []⟩,
   ⟨(some 4), .mv (.t 8), none, []⟩])
 .ret))⟩
theorem code76 : acode Try.prog hints 76 = some L76 := by kernel_rfl

-- spec.l04DrawLifeOk
def L50 : AFun := ⟨34, [.cell true 2 2],
 (.seq (.ops false [⟨(some 2), .alloc 39 [.sl 0 0 0, .sl 0 0 0], none, []⟩])
 (.seq (.ops false [⟨(some 5), .buildS 2 1 1 [.int .i64 0] [(0, 1, (.k (iv 3)))], none, []⟩,
   ⟨(some 6), .buildS 2 1 2 [.int .i64 0] [(0, 1, (.k (iv 2))), (1, 1, (.k (iv 3)))], none, []⟩,
   ⟨(some 7), .build [.sl 0 0 0, .sl 0 0 0] [(0, 1, (.t 5)), (1, 1, (.t 6))], none, []⟩,
   ⟨(some 3), .alloc 39 [.sl 0 0 0, .sl 0 0 0], none, []⟩,
   ⟨none, .store 2 (.t 3) (.t 7), none, []⟩])
 (.seq (.seq (.ops false [⟨(some 8), .mv (.t 0), none, []⟩,
    ⟨(some 9), .call (.f 76) [(.t 8), (.k (iv 2))], none, []⟩])
  (.cond (.t 9) (.seq (.ops false [⟨(some 10), .buildS 2 1 0 [.int .i64 0] [], none, []⟩,
     ⟨(some 11), .buildS 2 1 0 [.int .i64 0] [], none, []⟩,
     ⟨(some 12), .build [.sl 0 0 0, .sl 0 0 0] [(0, 1, (.t 10)), (1, 1, (.t 11))], none, []⟩,
     ⟨none, .store 2 (.t 3) (.t 12), none, []⟩])
   (.seq (.ops false [⟨(some 4), .mv (.k (iv 1)), none, []⟩])
   (.block 0 (.loop [0, 2, 3, 4] (.seq (.seq (.ops false [⟨(some 13), .mv (.t 4), none, []⟩,
        ⟨(some 14), .bin .lss (.t 13) (.k (iv 9)), none, []⟩])
      (.cond (.t 14) .skip
       (.exit 0)))
     (.seq (.block 1 (.seq (.seq (.ops false [⟨(some 17), .mv (.t 0), none, []⟩,
          ⟨(some 18), .call (.f 76) [(.t 17), (.k (iv 3))], none, []⟩])
        (.cond (.t 18) (.ops false [⟨(some 19), .fieldA 0 (.t 3), none, []⟩,
          ⟨(some 20), .load false 1 (.t 19), none, []⟩,
          ⟨(some 21), .mv (.t 4), none, []⟩,
          ⟨(some 22), .buildS 2 1 1 [.int .i64 0] [(0, 1, (.t 21))], none, []⟩,
          ⟨(some 23), .append 2 1 8 (.t 20) (.t 22), none, []⟩,
          ⟨(some 24), .fieldA 0 (.t 3), none, []⟩,
          ⟨none, .store 1 (.t 24) (.t 23), none, []⟩])
         .skip))
       (.seq (.ops false [⟨(some 25), .mv (.t 0), none, []⟩,
         ⟨(some 26), .call (.f 76) [(.t 25), (.k (iv 3))], none, []⟩])
       (.cond (.t 26) (.ops false [⟨(some 27), .fieldA 1 (.t 3), none, []⟩,
         ⟨(some 28), .load false 1 (.t 27), none, []⟩,
         ⟨(some 29), .mv (.t 4), none, []⟩,
         ⟨(some 30), .buildS 2 1 1 [.int .i64 0] [(0, 1, (.t 29))], none, []⟩,
         ⟨(some 31), .append 2 1 8 (.t 28) (.t 30), none, []⟩,
         ⟨(some 32), .fieldA 1 (.t 3), none, []⟩,
         ⟨none, .store 1 (.t 32) (.t 31), none, []⟩])
        .skip))))
     (.ops false [⟨(some 15), .mv (.t 4), none, []⟩,
      ⟨(some 16), .bin .add (.t 15) (.k (iv 1)), none, []⟩,
      ⟨(some 4), .mv (.t 16), none, []⟩])))))))
   .skip))
 (.seq (.ops false [⟨(some 33), .load true 2 (.t 3), none, []⟩,
   ⟨none, .store 2 (.t 2) (.t 33), none, []⟩])
 .ret))))⟩
theorem code50 : acode Try.prog hints 50 = some L50 := by kernel_rfl

-- spec.R8Life
def L17 : AFun := ⟨8, [.cell true 2 2],
 (.seq (.ops false [⟨(some 2), .alloc 39 [.sl 0 0 0, .sl 0 0 0], none, []⟩])
 (.seq (.ops false [⟨(some 4), .mv (.t 0), none, []⟩,
   ⟨(some 5), .call (.f 49) [(.t 4)], none, []⟩,
   ⟨(some 3), .mv (.t 5), none, []⟩])
 (.seq (.ops false [⟨(some 6), .mv (.t 3), none, []⟩,
   ⟨(some 7), .call (.f 50) [(.t 6)], none, []⟩,
   ⟨none, .store 2 (.t 2) (.t 7), none, []⟩])
 .ret)))⟩
theorem code17 : acode Try.prog hints 17 = some L17 := by kernel_rfl


theorem cL23 : Cnts [2, 3] := ⟨fun i hi => by
  obtain rfl : i = 0 := by simp at hi; omega
  decide, by decide⟩
theorem cL3 : Cnts [3] := ⟨fun i hi => by simp at hi, by decide⟩
theorem c_one {s : St} [Wf s] {p id off len : Nat} {at_ sd n : Int} {ys : List Int} [hb : Bor s p (srcO id off len at_ sd)] [hy : ArgE ub s id off ys] (hl : ys.length = len) (hr : ∀ n ∈ ys, 0 ≤ n ∧ n ≤ 255) (hne : id ≠ p ∨ id ≤ 1) (hat : 0 ≤ at_ ∧ at_ ≤ 100000000000) (hlen : len ≤ 1000000000000) (hn : 1 ≤ n ∧ n ≤ 1000000) :
    Fn [p] 76 [.c (.ptr p 0), iv n] s fun R N => ∃ t at' sd', R = bv t ∧ (at_ ≤ at' ∧ at' ≤ at_ + 2) ∧ N = [(p, srcO id off len at' sd')] := by
  haveI : NotIn id [p] := ⟨by rcases hne with h | h; exact .inl (by simpa using h); exact .inr h⟩
  refine F_start1 code76 ?_
  repeat' (first
 | refine A_go rfl ?_ | refine A_ifT rfl rfl ?_ | refine A_ifF rfl rfl ?_
 | ((first | refine A_eq rfl rfl rfl ?_ ?_) <;> intro hc <;> try first | contradiction | (exfalso; omega) | exact absurd rfl hc)
 | (refine A_callM rfl rfl (fun s H => c_pick (hl := hl) (hr := hr) (hne := hne) (hat := hat) (hlen := hlen) (hn := hn)) ?_; rintro _ _ ⟨x, at', sd, rfl, hxb, hat, rfl⟩) | (refine A_callM0 rfl rfl (fun s H => c_pick (hl := hl) (hr := hr) (hne := hne) (hat := hat) (hlen := hlen) (hn := hn)) ?_; rintro _ _ ⟨x, at', sd, rfl, hxb, hat, rfl⟩)
 | refine A_p (by rfl) rfl ?_
 | refine A_ret1 rfl (by exact (RP.t rfl RP.nil)) ?_)
  all_goals exact R_n [p] ⟨_, _, _, rfl, by omega, rfl⟩
theorem Cnts.app {bo : List Int} {k : Nat} (h : Cnts bo) (hb : ∀ x ∈ bo, x < k) (hk : k ≤ 8) : Cnts (bo ++ [(k : Int)]) := by
  refine ⟨fun i hi => ?_, fun x hx => ?_⟩
  · rw [List.length_append, List.length_singleton] at hi
    have e1 : (bo ++ [(k : Int)]).getD i 0 = bo.getD i 0 := by
      rw [List.getD_eq_getElem?_getD, List.getElem?_append_left (by omega), ← List.getD_eq_getElem?_getD]
    rw [e1]
    by_cases e : i + 1 < bo.length
    · have e2 : (bo ++ [(k : Int)]).getD (i + 1) 0 = bo.getD (i + 1) 0 := by
        rw [List.getD_eq_getElem?_getD, List.getElem?_append_left (by omega), ← List.getD_eq_getElem?_getD]
      rw [e2]; exact h.1 i e
    · have e2 : (bo ++ [(k : Int)]).getD (i + 1) 0 = k := by
        rw [List.getD_eq_getElem?_getD, List.getElem?_append_right (by omega), show i + 1 - bo.length = 0 by omega]; rfl
      rw [e2]; exact hb _ (getD_mem (by omega))
  · rcases List.mem_append.1 hx with g | g
    · exact h.2 x g
    · rw [List.mem_singleton] at g; subst g; omega
theorem mem_app1 {bo : List Int} {k : Nat} (h : ∀ x ∈ bo, x < k) : ∀ x ∈ bo ++ [(k : Int)], x < ((k + 1 : Nat) : Int) := fun x hx => by
  rcases List.mem_append.1 hx with g | g
  · have := h x g; omega
  · rw [List.mem_singleton] at g; omega
theorem mem_up {bo : List Int} {k : Nat} (h : ∀ x ∈ bo, x < k) : ∀ x ∈ bo, x < ((k + 1 : Nat) : Int) := fun x hx => by have := h x hx; omega
abbrev LfL (p q2 q3 pb ps id off len : Nat) (at' sd' : Int) (bo sy : List Int) : Objs := [(q2, .rw 39 2 [.sl 0 0 0, .sl 0 0 0]), (q3, .rw 39 2 [.sl pb 0 bo.length, .sl ps 0 sy.length]), (pb, ints bo), (ps, ints sy), (p, srcO id off len at' sd')]
theorem c_drawLife {s : St} [Wf s] {p id off len : Nat} {at_ sd : Int} {ys : List Int} [hb : Bor s p (srcO id off len at_ sd)] [hy : ArgE ub s id off ys] (hl : ys.length = len) (hr : ∀ n ∈ ys, 0 ≤ n ∧ n ≤ 255) (hne : id ≠ p ∨ id ≤ 1) (hat : 0 ≤ at_ ∧ at_ ≤ 1000000) (hlen : len ≤ 1000000000000) :
    Fn [p] 50 [.c (.ptr p 0)] s fun V N => ∃ pb ps bo sy at' sd', V = .agg [.sl pb 0 bo.length, .sl ps 0 sy.length] ∧ bo.length ≤ 8 ∧ sy.length ≤ 8 ∧ Cnts bo ∧ Cnts sy ∧ N = [(pb, ints bo), (ps, ints sy), (p, srcO id off len at' sd')] := by
  haveI hni : NotIn id [p] := ⟨by rcases hne with h | h; exact .inl (by simpa using h); exact .inr h⟩
  refine F_start1 code50 ?_
  repeat' (first
 | refine A_go rfl ?_ | refine A_ifT rfl rfl ?_ | refine A_ifF rfl rfl ?_
 | refine A_add rfl rfl rfl (by omega) ?_
 | ((first | refine A_lt rfl rfl rfl ?_ ?_) <;> intro hc <;> try first | contradiction | (exfalso; omega) | exact absurd rfl hc)
 | (refine A_callM rfl rfl (fun s H => c_one (hl := hl) (hr := hr) (hne := hne) (hat := by omega) (hlen := hlen) (hn := by omega)) ?_; rintro _ _ ⟨t, at', sd, rfl, hat, rfl⟩) | (refine A_callM0 rfl rfl (fun s H => c_one (hl := hl) (hr := hr) (hne := hne) (hat := by omega) (hlen := hlen) (hn := by omega)) ?_; rintro _ _ ⟨t, at', sd, rfl, hat, rfl⟩)
 | refine A_fld rfl rfl ?_ | refine A_mk3 rfl rfl rfl rfl ?_ | refine A_mk23 rfl rfl rfl ?_ | refine A_mk2 rfl rfl rfl ?_ | refine A_mk13 rfl rfl ?_ | refine A_p (by rfl) rfl ?_
 | refine A_ldI rfl (by first | omega | (simp; done) | (simp; omega)) rfl ?_ | refine A_ldB rfl (by first | omega | (simp; done) | (simp; omega)) rfl ?_ | refine A_ld rfl (by rfl) rfl ?_
 | refine A_ldW rfl (by simp) rfl ?_
 | refine A_st rfl rfl rfl ?_ | refine A_stE rfl rfl (by first | omega | (simp; done) | (simp; omega)) rfl ?_
 | refine A_stW rfl rfl (by simp) rfl ?_
 | ((first | refine A_alloc rfl ?_ | refine A_bld1 rfl rfl ?_ | refine A_bld2 rfl rfl rfl ?_ | refine A_bld4 rfl rfl rfl rfl rfl ?_) <;> intro pz hpz)
 | refine A_bld0 rfl ?_
 | (refine A_app rfl rfl rfl (by first | omega | (simp; done) | (simp; omega)) (by first | omega | (simp; done) | (simp; omega)) (by omega) ?_; intro pz) | (refine A_appN (enc := ic) rfl (by decide) rfl rfl (by first | omega | (simp; done) | (simp; omega)) (by omega) ?_; intro pz)
 | refine A_ret1 rfl (by exact (RP.c rfl inferInstance rfl (by simp) RP.nil)) ?_)
  obtain ⟨q3, hEq⟩ : ∃ p, p = pz := ⟨_, rfl⟩; subst hEq
  obtain ⟨p3, hEq⟩ : ∃ p, p = pz := ⟨_, rfl⟩; subst hEq
  obtain ⟨p2, hEq⟩ : ∃ p, p = pz := ⟨_, rfl⟩; subst hEq
  obtain ⟨q2, hEq⟩ : ∃ p, p = pz := ⟨_, rfl⟩; subst hEq
  refine A_ifB rfl rfl ?_ ?_
  case refine_2 =>
    intro _
    repeat' (first
 | refine A_go rfl ?_ | refine A_ifT rfl rfl ?_ | refine A_ifF rfl rfl ?_
 | refine A_add rfl rfl rfl (by omega) ?_
 | ((first | refine A_lt rfl rfl rfl ?_ ?_) <;> intro hc <;> try first | contradiction | (exfalso; omega) | exact absurd rfl hc)
 | refine A_fld rfl rfl ?_ | refine A_mk3 rfl rfl rfl rfl ?_ | refine A_mk23 rfl rfl rfl ?_ | refine A_mk2 rfl rfl rfl ?_ | refine A_mk13 rfl rfl ?_ | refine A_p (by rfl) rfl ?_
 | refine A_ldI rfl (by first | omega | (simp; done) | (simp; omega)) rfl ?_ | refine A_ldB rfl (by first | omega | (simp; done) | (simp; omega)) rfl ?_ | refine A_ld rfl (by rfl) rfl ?_
 | refine A_ldW rfl (by simp) rfl ?_
 | refine A_st rfl rfl rfl ?_ | refine A_stE rfl rfl (by first | omega | (simp; done) | (simp; omega)) rfl ?_
 | refine A_stW rfl rfl (by simp) rfl ?_
 | ((first | refine A_alloc rfl ?_ | refine A_bld1 rfl rfl ?_ | refine A_bld2 rfl rfl rfl ?_ | refine A_bld4 rfl rfl rfl rfl rfl ?_) <;> intro pz hpz)
 | refine A_bld0 rfl ?_
 | (refine A_app rfl rfl rfl (by first | omega | (simp; done) | (simp; omega)) (by first | omega | (simp; done) | (simp; omega)) (by omega) ?_; intro pz) | (refine A_appN (enc := ic) rfl (by decide) rfl rfl (by first | omega | (simp; done) | (simp; omega)) (by omega) ?_; intro pz)
 | refine A_ret1 rfl (by exact (RP.c rfl inferInstance rfl (by simp) RP.nil)) ?_)
    exact R_n [p2, p3, p] ⟨p2, p3, [3], [2, 3], _, _, rfl, by decide, by decide, cL3, cL23, rfl⟩
  intro _
  refine A_subL (L' := [(q2, .rw 39 2 [.sl 0 0 0, .sl 0 0 0]), (q3, .rw 39 2 [.sl p2 0 1, .sl p3 0 2]), (p, srcO id off len at' sd)]) ?_
  repeat' (first
 | refine A_go rfl ?_ | refine A_ifT rfl rfl ?_ | refine A_ifF rfl rfl ?_
 | refine A_add rfl rfl rfl (by omega) ?_
 | ((first | refine A_lt rfl rfl rfl ?_ ?_) <;> intro hc <;> try first | contradiction | (exfalso; omega) | exact absurd rfl hc)
 | refine A_fld rfl rfl ?_ | refine A_mk3 rfl rfl rfl rfl ?_ | refine A_mk23 rfl rfl rfl ?_ | refine A_mk2 rfl rfl rfl ?_ | refine A_mk13 rfl rfl ?_ | refine A_p (by rfl) rfl ?_
 | refine A_ldI rfl (by first | omega | (simp; done) | (simp; omega)) rfl ?_ | refine A_ldB rfl (by first | omega | (simp; done) | (simp; omega)) rfl ?_ | refine A_ld rfl (by rfl) rfl ?_
 | refine A_ldW rfl (by simp) rfl ?_
 | refine A_st rfl rfl rfl ?_ | refine A_stE rfl rfl (by first | omega | (simp; done) | (simp; omega)) rfl ?_
 | refine A_stW rfl rfl (by simp) rfl ?_
 | ((first | refine A_alloc rfl ?_ | refine A_bld1 rfl rfl ?_ | refine A_bld2 rfl rfl rfl ?_ | refine A_bld4 rfl rfl rfl rfl rfl ?_) <;> intro pz hpz)
 | refine A_bld0 rfl ?_
 | (refine A_app rfl rfl rfl (by first | omega | (simp; done) | (simp; omega)) (by first | omega | (simp; done) | (simp; omega)) (by omega) ?_; intro pz) | (refine A_appN (enc := ic) rfl (by decide) rfl rfl (by first | omega | (simp; done) | (simp; omega)) (by omega) ?_; intro pz)
 | refine A_ret1 rfl (by exact (RP.c rfl inferInstance rfl (by simp) RP.nil)) ?_)
  refine A_loopX rfl (fun m fr L => ∃ (k pb ps : Nat) (bo sy : List Int) (at' sd' : Int), m = 9 - k ∧ fr = [(0, .c (.ptr p 0)), (2, .c (.ptr q2 0)), (3, .c (.ptr q3 0)), (4, iv k)] ∧ L = LfL p q2 q3 pb ps id off len at' sd' bo sy ∧ (1 ≤ k ∧ k ≤ 9) ∧ (bo.length < k ∧ sy.length < k) ∧ (Cnts bo ∧ Cnts sy) ∧ ((∀ x ∈ bo, x < k) ∧ ∀ x ∈ sy, x < k) ∧ 0 ≤ at' ∧ at' ≤ 1000002 + 4 * k) (n := 8) ⟨LfL p q2 q3 1 1 id off len at' sd [] [], ⟨1, 1, 1, [], [], at', sd, rfl, rfl, rfl, by omega, by simp, ⟨⟨fun i hi => by simp at hi, by simp⟩, ⟨fun i hi => by simp at hi, by simp⟩⟩, by simp, by omega, by omega⟩, inferInstance⟩ ?_
  rintro m fr L ⟨k, pb, ps, bo, sy, at2, sd2, rfl, rfl, rfl, hk, hln, hcn, hmx, ha1, ha2⟩
  by_cases hk' : k < 9
  case neg =>
    obtain rfl : k = 9 := by omega
    repeat' (first
 | refine A_go rfl ?_ | refine A_ifT rfl rfl ?_ | refine A_ifF rfl rfl ?_
 | refine A_add rfl rfl rfl (by omega) ?_
 | ((first | refine A_lt rfl rfl rfl ?_ ?_) <;> intro hc <;> try first | contradiction | (exfalso; omega) | exact absurd rfl hc)
 | refine A_fld rfl rfl ?_ | refine A_mk3 rfl rfl rfl rfl ?_ | refine A_mk23 rfl rfl rfl ?_ | refine A_mk2 rfl rfl rfl ?_ | refine A_mk13 rfl rfl ?_ | refine A_p (by rfl) rfl ?_
 | refine A_ldI rfl (by first | omega | (simp; done) | (simp; omega)) rfl ?_ | refine A_ldB rfl (by first | omega | (simp; done) | (simp; omega)) rfl ?_ | refine A_ld rfl (by rfl) rfl ?_
 | refine A_ldW rfl (by simp) rfl ?_
 | refine A_st rfl rfl rfl ?_ | refine A_stE rfl rfl (by first | omega | (simp; done) | (simp; omega)) rfl ?_
 | refine A_stW rfl rfl (by simp) rfl ?_
 | ((first | refine A_alloc rfl ?_ | refine A_bld1 rfl rfl ?_ | refine A_bld2 rfl rfl rfl ?_ | refine A_bld4 rfl rfl rfl rfl rfl ?_) <;> intro pz hpz)
 | refine A_bld0 rfl ?_
 | (refine A_app rfl rfl rfl (by first | omega | (simp; done) | (simp; omega)) (by first | omega | (simp; done) | (simp; omega)) (by omega) ?_; intro pz) | (refine A_appN (enc := ic) rfl (by decide) rfl rfl (by first | omega | (simp; done) | (simp; omega)) (by omega) ?_; intro pz)
 | refine A_ret1 rfl (by exact (RP.c rfl inferInstance rfl (by simp) RP.nil)) ?_)
    exact R_n [pb, ps, p] ⟨pb, ps, bo, sy, _, _, rfl, by omega, by omega, hcn.1, hcn.2, rfl⟩
  have up := hcn.1.app hmx.1 (by omega)
  have us := hcn.2.app hmx.2 (by omega)
  have mp := mem_app1 hmx.1
  have ms := mem_app1 hmx.2
  have nb := mem_up hmx.1
  have ns := mem_up hmx.2
  have lb : (bo ++ [(k : Int)]).length = bo.length + 1 := by simp
  have ls : (sy ++ [(k : Int)]).length = sy.length + 1 := by simp
  repeat' (first
 | refine A_go rfl ?_ | refine A_ifT rfl rfl ?_ | refine A_ifF rfl rfl ?_
 | refine A_add rfl rfl rfl (by omega) ?_
 | ((first | refine A_lt rfl rfl rfl ?_ ?_) <;> intro hc <;> try first | contradiction | (exfalso; omega) | exact absurd rfl hc)
 | (refine A_callM rfl rfl (fun s H => c_one (hl := hl) (hr := hr) (hne := hne) (hat := by omega) (hlen := hlen) (hn := by omega)) ?_; rintro _ _ ⟨t, at', sd, rfl, hat, rfl⟩) | (refine A_callM0 rfl rfl (fun s H => c_one (hl := hl) (hr := hr) (hne := hne) (hat := by omega) (hlen := hlen) (hn := by omega)) ?_; rintro _ _ ⟨t, at', sd, rfl, hat, rfl⟩)
 | (refine A_ifB rfl rfl ?_ ?_ <;> intro hc)
 | refine A_fld rfl rfl ?_ | refine A_mk3 rfl rfl rfl rfl ?_ | refine A_mk23 rfl rfl rfl ?_ | refine A_mk2 rfl rfl rfl ?_ | refine A_mk13 rfl rfl ?_ | refine A_p (by rfl) rfl ?_
 | refine A_ldI rfl (by first | omega | (simp; done) | (simp; omega)) rfl ?_ | refine A_ldB rfl (by first | omega | (simp; done) | (simp; omega)) rfl ?_ | refine A_ld rfl (by rfl) rfl ?_
 | refine A_ldW rfl (by simp) rfl ?_
 | refine A_st rfl rfl rfl ?_ | refine A_stE rfl rfl (by first | omega | (simp; done) | (simp; omega)) rfl ?_
 | refine A_stW rfl rfl (by simp) rfl ?_
 | ((first | refine A_alloc rfl ?_ | refine A_bld1 rfl rfl ?_ | refine A_bld2 rfl rfl rfl ?_ | refine A_bld4 rfl rfl rfl rfl rfl ?_) <;> intro pz hpz)
 | refine A_bld0 rfl ?_
 | (refine A_app rfl rfl rfl (by first | omega | (simp; done) | (simp; omega)) (by first | omega | (simp; done) | (simp; omega)) (by omega) ?_; intro pz) | (refine A_appN (enc := ic) rfl (by decide) rfl rfl (by first | omega | (simp; done) | (simp; omega)) (by omega) ?_; intro pz)
 | refine A_ret1 rfl (by exact (RP.c rfl inferInstance rfl (by simp) RP.nil)) ?_)
  · obtain ⟨ps2, hEq⟩ : ∃ p, p = pz := ⟨_, rfl⟩; subst hEq
    obtain ⟨pt, hEq⟩ : ∃ p, p = pz := ⟨_, rfl⟩; subst hEq
    obtain ⟨pb2, hEq⟩ : ∃ p, p = pz := ⟨_, rfl⟩; subst hEq
    refine A_roundX rfl ⟨9 - (k + 1), [(q2, .rw 39 2 [.sl 0 0 0, .sl 0 0 0]), (q3, .rw 39 2 [.sl pb2 0 (bo.length + 1), .sl ps2 0 (sy.length + 1)]), (pb2, ints (bo ++ [(k : Int)])), (ps2, ints (sy ++ [(k : Int)])), (p, srcO id off len at' sd)], by omega, ⟨k + 1, pb2, ps2, (bo ++ [(k : Int)]), (sy ++ [(k : Int)]), at', sd, rfl, rfl, by simp only [LfL, lb, ls], by omega, ⟨by rw [lb]; omega, by rw [ls]; omega⟩, ⟨up, us⟩, ⟨mp, ms⟩, by omega, by omega⟩, inferInstance⟩
  · obtain ⟨pb2, hEq⟩ : ∃ p, p = pz := ⟨_, rfl⟩; subst hEq
    refine A_roundX rfl ⟨9 - (k + 1), [(q2, .rw 39 2 [.sl 0 0 0, .sl 0 0 0]), (q3, .rw 39 2 [.sl pb2 0 (bo.length + 1), .sl ps 0 (sy.length)]), (pb2, ints (bo ++ [(k : Int)])), (ps, ints sy), (p, srcO id off len at' sd)], by omega, ⟨k + 1, pb2, ps, (bo ++ [(k : Int)]), sy, at', sd, rfl, rfl, by simp only [LfL, lb, ls], by omega, ⟨by rw [lb]; omega, by omega⟩, ⟨up, hcn.2⟩, ⟨mp, ns⟩, by omega, by omega⟩, inferInstance⟩
  · obtain ⟨ps2, hEq⟩ : ∃ p, p = pz := ⟨_, rfl⟩; subst hEq
    refine A_roundX rfl ⟨9 - (k + 1), [(q2, .rw 39 2 [.sl 0 0 0, .sl 0 0 0]), (q3, .rw 39 2 [.sl pb 0 (bo.length), .sl ps2 0 (sy.length + 1)]), (pb, ints bo), (ps2, ints (sy ++ [(k : Int)])), (p, srcO id off len at' sd)], by omega, ⟨k + 1, pb, ps2, bo, (sy ++ [(k : Int)]), at', sd, rfl, rfl, by simp only [LfL, lb, ls], by omega, ⟨by omega, by rw [ls]; omega⟩, ⟨hcn.1, us⟩, ⟨nb, ms⟩, by omega, by omega⟩, inferInstance⟩
  · refine A_roundX rfl ⟨9 - (k + 1), [(q2, .rw 39 2 [.sl 0 0 0, .sl 0 0 0]), (q3, .rw 39 2 [.sl pb 0 (bo.length), .sl ps 0 (sy.length)]), (pb, ints bo), (ps, ints sy), (p, srcO id off len at' sd)], by omega, ⟨k + 1, pb, ps, bo, sy, at', sd, rfl, rfl, by simp only [LfL, lb, ls], by omega, ⟨by omega, by omega⟩, ⟨hcn.1, hcn.2⟩, ⟨nb, ns⟩, by omega, by omega⟩, inferInstance⟩
theorem c_R8Life {s : St} [Wf s] {id off len : Nat} {ys : List Int} [hy : ArgE ub s id off ys] (hl : ys.length = len) (hr : ∀ n ∈ ys, 0 ≤ n ∧ n ≤ 255) (hlen : len ≤ 1000000000000) :
    Fn [] 17 [.c (.sl id off len)] s fun V N => ∃ pb ps bo sy, V = .agg [.sl pb 0 bo.length, .sl ps 0 sy.length] ∧ bo.length ≤ 8 ∧ sy.length ≤ 8 ∧ Cnts bo ∧ Cnts sy ∧ N = [(pb, ints bo), (ps, ints sy)] := by
  refine F_start code17 ?_
  repeat' (first
 | refine A_go rfl ?_ | refine A_ifT rfl rfl ?_ | refine A_ifF rfl rfl ?_
 | (refine A_callM rfl rfl (fun s H => c_l00From) ?_; rintro _ _ ⟨pz, rfl, hpz, rfl⟩) | (refine A_callM0 rfl rfl (fun s H => c_l00From) ?_; rintro _ _ ⟨pz, rfl, hpz, rfl⟩)
 | (refine A_callM rfl rfl (fun s H => c_drawLife (hl := hl) (hr := hr) (hne := H.neB hy.lt) (hat := by omega) (hlen := hlen)) ?_; rintro _ _ ⟨pb, ps, bo, sy, at', sd, rfl, hbl, hsl, hbo, hsy, rfl⟩) | (refine A_callM0 rfl rfl (fun s H => c_drawLife (hl := hl) (hr := hr) (hne := H.neB hy.lt) (hat := by omega) (hlen := hlen)) ?_; rintro _ _ ⟨pb, ps, bo, sy, at', sd, rfl, hbl, hsl, hbo, hsy, rfl⟩)
 | refine A_p (by rfl) rfl ?_
 | refine A_stW rfl rfl (by simp) rfl ?_
 | ((first | refine A_alloc rfl ?_) <;> intro pz hpz)
 | refine A_ret1 rfl (by exact (RP.c rfl inferInstance rfl (by simp) RP.nil)) ?_)
  exact R_s ⟨pb, ps, bo, sy, rfl, hbl, hsl, hbo, hsy, rfl⟩

end Go.Proofs.Ytlhidckolillaaa
