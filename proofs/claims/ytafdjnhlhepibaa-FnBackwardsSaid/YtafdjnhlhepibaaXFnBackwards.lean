/- The law FnBackwards runs to true. -/
import Derived.Test.YtafdjnhlhepibaaXbackTail
import Derived.Test.YtafdjnhlhepibaaFB
namespace Go.Proofs.Ytafdjnhlhepibaa
open Go Go.RowKit
set_option linter.unusedVariables false
set_option linter.unusedSimpArgs false
set_option maxRecDepth 100000
set_option maxHeartbeats 8000000


theorem secondR_rg {st re : Int} {xs bs ys : List Int} (h : SecP st re xs bs ys) : RG st (secondR st re xs bs ys) := by
  have hs := h.1.1
  refine ⟨by rw [secondR_len]; exact h.2.2.1.1, fun x hx => ?_⟩
  obtain ⟨i, hi, rfl⟩ := mem_get (d := 0) hx
  rw [secondR_get (by simpa using hi)]
  have h1 := Int.emod_nonneg ((stepR st re xs ys).getD i 0 + st - bs.getD i 0) (show st ≠ 0 by omega)
  have h2 := Int.emod_lt_of_pos ((stepR st re xs ys).getD i 0 + st - bs.getD i 0) (show 0 < st by omega)
  omega
theorem c_secondBack {s : St} [Wf s] {st re : Int} {bs0 : List Int} {id_xs off_xs len_xs : Nat} {xs : List Int} [h_xs : ArgE ic s id_xs off_xs xs] (hl_xs : xs.length = len_xs := by first | rfl | simp | omega | (simp; omega)) {id_bs off_bs len_bs : Nat} {bs : List Int} [h_bs : ArgE ic s id_bs off_bs bs] (hl_bs : bs.length = len_bs := by first | rfl | simp | omega | (simp; omega)) {id_ys off_ys len_ys : Nat} {ys : List Int} [h_ys : ArgE ic s id_ys off_ys ys] (hl_ys : ys.length = len_ys := by first | rfl | simp | omega | (simp; omega)) (hq : bs = secondR st re xs bs0 ys) (hp : SecP st re xs bs0 ys) (hb : len_xs ≤ 2000000 ∧ len_bs ≤ 2000000 ∧ len_ys ≤ 2000000 := by omega) :
    Fn [] 47 [.agg [ic st, ic re, .sl id_xs off_xs len_xs], .c (.sl id_bs off_bs len_bs), .c (.sl id_ys off_ys len_ys)] s fun V N => ∃ p, V = .tup [.c (.sl p 0 ys.length), .c (.bool true)] ∧ N = [(p, ints bs0)] := by
  have hp2 : SecP st re xs bs ys := by rw [hq]; exact ⟨hp.1, secondR_rg hp, hp.2.2.1, by simp⟩
  refine (c_secondOk (xs := xs) (bs := bs) (ys := ys) (hp := hp2)).mono fun V N h => ?_
  obtain ⟨p, h1, h2⟩ := h
  exact ⟨p, h1, by rw [h2, hq, second_back hp]⟩
theorem c_FnBackwards {s : St} [Wf s] {i0 o0 n0 i1 o1 n1 : Nat} {x0 x1 : List Int} (h0 : ArgE ub s i0 o0 x0) (l0 : x0.length = n0) (b0 : ∀ n ∈ x0, (Lit.int .u8 n).wf = true) (u0 : n0 ≤ 9223372036854775807) (h1 : ArgE ub s i1 o1 x1) (l1 : x1.length = n1) (b1 : ∀ n ∈ x1, (Lit.int .u8 n).wf = true) (u1 : n1 ≤ 9223372036854775807) :
    FnV 9 [.c (.sl i0 o0 n0), .c (.sl i1 o1 n1)] s (bv true) := by
  have c0 := wfU8 b0
  have c1 := wfU8 b1
  refine F_start code9 ?_
  by_cases hlong : 48 < n0 ∨ 48 < n1
  · repeat' (first
 | refine A_go rfl ?_ | refine A_ifT rfl rfl ?_ | refine A_ifF rfl rfl ?_
 | refine A_offP rfl rfl ?_ | refine A_offH rfl rfl ?_ | refine A_off0 rfl rfl ?_
 | refine A_add rfl rfl rfl (by omega) ?_ | refine A_sub rfl rfl rfl (by omega) ?_
 | ((first | refine A_lt rfl rfl rfl ?_ ?_ | refine A_le rfl rfl rfl ?_ ?_ | refine A_gt rfl rfl rfl ?_ ?_ | refine A_eq rfl rfl rfl ?_ ?_ | refine A_ne rfl rfl rfl ?_ ?_ | refine A_beq rfl rfl rfl ?_ ?_) <;> intro hc <;> try first | contradiction | (exfalso; omega) | exact absurd rfl hc)
 | refine A_idxN1 rfl rfl rfl (by omega) ?_ | refine A_idx1 rfl rfl rfl (by omega) ?_
 | (refine A_callB rfl rfl (fun s H => c_r8Long) ?_ ?_ <;> intro hc <;> try first | contradiction | (exfalso; omega) | exact absurd rfl hc | exact absurd (And.intro rfl rfl) hc | exact absurd (And.intro rfl (And.intro rfl rfl)) hc | exact absurd (Eq.trans (by assumption) (Eq.symm (by assumption))) hc)
 | refine A_p (by rfl) rfl ?_
 | refine A_ldI rfl (by first | omega | (simp; done) | (simp; omega)) rfl ?_ | refine A_ldB rfl (by first | omega | (simp; done) | (simp; omega)) rfl ?_ | refine A_ld rfl (by rfl) rfl ?_
 | refine A_ldW rfl (by simp) rfl ?_
 | refine A_stW rfl rfl (by simp) rfl ?_
 | ((first | refine A_alloc rfl ?_ | refine A_bld1 rfl rfl ?_ | refine A_bld2 rfl rfl rfl ?_ | refine A_bld4 rfl rfl rfl rfl rfl ?_) <;> intro pz hpz)
 | refine A_bld0 rfl ?_
 | refine A_ret1 rfl (by exact (RP.t rfl RP.nil)) ?_)
    exact R_v rfl
  repeat' (first
 | refine A_go rfl ?_ | refine A_ifT rfl rfl ?_ | refine A_ifF rfl rfl ?_
 | refine A_offP rfl rfl ?_ | refine A_offH rfl rfl ?_ | refine A_off0 rfl rfl ?_
 | refine A_add rfl rfl rfl (by omega) ?_ | refine A_sub rfl rfl rfl (by omega) ?_
 | ((first | refine A_lt rfl rfl rfl ?_ ?_ | refine A_le rfl rfl rfl ?_ ?_ | refine A_gt rfl rfl rfl ?_ ?_ | refine A_eq rfl rfl rfl ?_ ?_ | refine A_ne rfl rfl rfl ?_ ?_ | refine A_beq rfl rfl rfl ?_ ?_) <;> intro hc <;> try first | contradiction | (exfalso; omega) | exact absurd rfl hc)
 | refine A_idxN1 rfl rfl rfl (by omega) ?_ | refine A_idx1 rfl rfl rfl (by omega) ?_
 | (refine A_callB rfl rfl (fun s H => c_r8Long) ?_ ?_ <;> intro hc <;> try first | contradiction | (exfalso; omega) | exact absurd rfl hc | exact absurd (And.intro rfl rfl) hc | exact absurd (And.intro rfl (And.intro rfl rfl)) hc | exact absurd (Eq.trans (by assumption) (Eq.symm (by assumption))) hc)
 | (refine A_callM rfl rfl (fun s H => c_r8At (hl := l1) (hr := c1)) ?_; rintro _ _ ⟨⟨x, rfl, hx⟩, rfl⟩) | (refine A_callM0 rfl rfl (fun s H => c_r8At (hl := l1) (hr := c1)) ?_; rintro _ _ ⟨⟨x, rfl, hx⟩, rfl⟩)
 | refine A_p (by rfl) rfl ?_
 | refine A_ldI rfl (by first | omega | (simp; done) | (simp; omega)) rfl ?_ | refine A_ldB rfl (by first | omega | (simp; done) | (simp; omega)) rfl ?_ | refine A_ld rfl (by rfl) rfl ?_
 | refine A_ldW rfl (by simp) rfl ?_
 | refine A_stW rfl rfl (by simp) rfl ?_
 | ((first | refine A_alloc rfl ?_ | refine A_bld1 rfl rfl ?_ | refine A_bld2 rfl rfl rfl ?_ | refine A_bld4 rfl rfl rfl rfl rfl ?_) <;> intro pz hpz)
 | refine A_bld0 rfl ?_
 | refine A_ret1 rfl (by exact (RP.t rfl RP.nil)) ?_)
  rename_i xst hxst
  obtain ⟨S, hSx⟩ : ∃ S : Nat, 2 + xst = S := ⟨(2 + xst).toNat, by omega⟩
  rw [hSx]
  have hS : 2 ≤ S ∧ S ≤ 3 := by omega
  repeat' (first
 | refine A_go rfl ?_ | refine A_ifT rfl rfl ?_ | refine A_ifF rfl rfl ?_
 | refine A_offP rfl rfl ?_ | refine A_offH rfl rfl ?_ | refine A_off0 rfl rfl ?_
 | refine A_add rfl rfl rfl (by omega) ?_ | refine A_sub rfl rfl rfl (by omega) ?_
 | ((first | refine A_lt rfl rfl rfl ?_ ?_ | refine A_le rfl rfl rfl ?_ ?_ | refine A_gt rfl rfl rfl ?_ ?_ | refine A_eq rfl rfl rfl ?_ ?_ | refine A_ne rfl rfl rfl ?_ ?_ | refine A_beq rfl rfl rfl ?_ ?_) <;> intro hc <;> try first | contradiction | (exfalso; omega) | exact absurd rfl hc)
 | refine A_idxN1 rfl rfl rfl (by omega) ?_ | refine A_idx1 rfl rfl rfl (by omega) ?_
 | (refine A_callM rfl rfl (fun s H => c_R8Rule (hl := l0) (hr := c0)) ?_; rintro _ _ ⟨pz, xs, rfl, hvr, hxl, rfl⟩) | (refine A_callM0 rfl rfl (fun s H => c_R8Rule (hl := l0) (hr := c0)) ?_; rintro _ _ ⟨pz, xs, rfl, hvr, hxl, rfl⟩)
 | (refine A_callM rfl rfl (fun s H => c_r8At (hl := l1) (hr := c1)) ?_; rintro _ _ ⟨⟨x, rfl, hx⟩, rfl⟩) | (refine A_callM0 rfl rfl (fun s H => c_r8At (hl := l1) (hr := c1)) ?_; rintro _ _ ⟨⟨x, rfl, hx⟩, rfl⟩)
 | refine A_p (by rfl) rfl ?_
 | refine A_ldI rfl (by first | omega | (simp; done) | (simp; omega)) rfl ?_ | refine A_ldB rfl (by first | omega | (simp; done) | (simp; omega)) rfl ?_ | refine A_ld rfl (by rfl) rfl ?_
 | refine A_ldW rfl (by simp) rfl ?_
 | refine A_stW rfl rfl (by simp) rfl ?_
 | ((first | refine A_alloc rfl ?_ | refine A_bld1 rfl rfl ?_ | refine A_bld2 rfl rfl rfl ?_ | refine A_bld4 rfl rfl rfl rfl rfl ?_) <;> intro pz hpz)
 | refine A_bld0 rfl ?_
 | refine A_ret1 rfl (by exact (RP.t rfl RP.nil)) ?_)
  rename_i re hre ptb
  have hre1 : 0 ≤ re ∧ re ≤ 1 := by omega
  obtain ⟨n, hn⟩ : ∃ n : Nat, 1 + x = n := ⟨(1 + x).toNat, by omega⟩
  rw [hn]
  have hn12 : 1 ≤ n ∧ n ≤ 12 := by omega
  clear hx hn
  repeat' (first
 | refine A_go rfl ?_ | refine A_ifT rfl rfl ?_ | refine A_ifF rfl rfl ?_
 | refine A_offP rfl rfl ?_ | refine A_offH rfl rfl ?_ | refine A_off0 rfl rfl ?_
 | refine A_add rfl rfl rfl (by omega) ?_ | refine A_sub rfl rfl rfl (by omega) ?_
 | ((first | refine A_lt rfl rfl rfl ?_ ?_ | refine A_le rfl rfl rfl ?_ ?_ | refine A_gt rfl rfl rfl ?_ ?_ | refine A_eq rfl rfl rfl ?_ ?_ | refine A_ne rfl rfl rfl ?_ ?_ | refine A_beq rfl rfl rfl ?_ ?_) <;> intro hc <;> try first | contradiction | (exfalso; omega) | exact absurd rfl hc)
 | refine A_idxN1 rfl rfl rfl (by omega) ?_ | refine A_idx1 rfl rfl rfl (by omega) ?_
 | (refine A_callM rfl rfl (fun s H => c_R8Ring (hl := l0) (hr := c0)) ?_; rintro _ _ ⟨pz, ys, rfl, hrg, hyl, rfl⟩) | (refine A_callM0 rfl rfl (fun s H => c_R8Ring (hl := l0) (hr := c0)) ?_; rintro _ _ ⟨pz, ys, rfl, hrg, hyl, rfl⟩)
 | (refine A_callM rfl rfl (fun s H => c_R8Ring (hl := l1) (hr := c1)) ?_; rintro _ _ ⟨pz, ys, rfl, hrg, hyl, rfl⟩) | (refine A_callM0 rfl rfl (fun s H => c_R8Ring (hl := l1) (hr := c1)) ?_; rintro _ _ ⟨pz, ys, rfl, hrg, hyl, rfl⟩)
 | refine A_p (by rfl) rfl ?_
 | refine A_ldI rfl (by first | omega | (simp; done) | (simp; omega)) rfl ?_ | refine A_ldB rfl (by first | omega | (simp; done) | (simp; omega)) rfl ?_ | refine A_ld rfl (by rfl) rfl ?_
 | refine A_ldW rfl (by simp) rfl ?_
 | refine A_stW rfl rfl (by simp) rfl ?_
 | ((first | refine A_alloc rfl ?_ | refine A_bld1 rfl rfl ?_ | refine A_bld2 rfl rfl rfl ?_ | refine A_bld4 rfl rfl rfl rfl rfl ?_) <;> intro pz hpz)
 | refine A_bld0 rfl ?_
 | refine A_ret1 rfl (by exact (RP.t rfl RP.nil)) ?_)
  subst hyl
  rename_i p6 pb bs hrb
  have hbl : bs.length = ys.length := hyl
  obtain ⟨py, hEq⟩ : ∃ p, p = pz := ⟨_, rfl⟩; subst hEq
  have hsec : SecP S re xs bs ys := ⟨hvr, hrb, hrg, hbl⟩
  have hsec2 : SecP S re xs ys ys := ⟨hvr, hrg, hrg, rfl⟩
  have hylen := hrg.1
  repeat' (first
 | refine A_go rfl ?_ | refine A_ifT rfl rfl ?_ | refine A_ifF rfl rfl ?_
 | refine A_offP rfl rfl ?_ | refine A_offH rfl rfl ?_ | refine A_off0 rfl rfl ?_
 | refine A_add rfl rfl rfl (by omega) ?_ | refine A_sub rfl rfl rfl (by omega) ?_
 | ((first | refine A_lt rfl rfl rfl ?_ ?_ | refine A_le rfl rfl rfl ?_ ?_ | refine A_gt rfl rfl rfl ?_ ?_ | refine A_eq rfl rfl rfl ?_ ?_ | refine A_ne rfl rfl rfl ?_ ?_ | refine A_beq rfl rfl rfl ?_ ?_) <;> intro hc <;> try first | contradiction | (exfalso; omega) | exact absurd rfl hc)
 | refine A_idxN1 rfl rfl rfl (by omega) ?_ | refine A_idx1 rfl rfl rfl (by omega) ?_
 | (refine A_callM rfl rfl (fun s H => c_secondOk (bs := bs) (ys := ys) (hp := hsec)) ?_; rintro _ _ ⟨pz, rfl, rfl⟩) | (refine A_callM0 rfl rfl (fun s H => c_secondOk (bs := bs) (ys := ys) (hp := hsec)) ?_; rintro _ _ ⟨pz, rfl, rfl⟩)
 | (refine A_callM rfl rfl (fun s H => c_secondBack (bs := secondR S re xs bs ys) (ys := ys) (bs0 := bs) (hq := rfl) (hp := hsec)) ?_; rintro _ _ ⟨pz, rfl, rfl⟩) | (refine A_callM0 rfl rfl (fun s H => c_secondBack (bs := secondR S re xs bs ys) (ys := ys) (bs0 := bs) (hq := rfl) (hp := hsec)) ?_; rintro _ _ ⟨pz, rfl, rfl⟩)
 | (refine A_callB rfl rfl (fun s H => c_r8Same (xs := bs) (ys := bs)) ?_ ?_ <;> intro hc <;> try first | contradiction | (exfalso; omega) | exact absurd rfl hc | exact absurd (And.intro rfl rfl) hc | exact absurd (And.intro rfl (And.intro rfl rfl)) hc | exact absurd (Eq.trans (by assumption) (Eq.symm (by assumption))) hc)
 | (refine A_callM rfl rfl (fun s H => c_stepOk (ys := ys) (hv := hvr) (hr := hrg)) ?_; rintro _ _ ⟨pz, rfl, rfl⟩) | (refine A_callM0 rfl rfl (fun s H => c_stepOk (ys := ys) (hv := hvr) (hr := hrg)) ?_; rintro _ _ ⟨pz, rfl, rfl⟩)
 | (refine A_callM rfl rfl (fun s H => c_r8At (hl := l1) (hr := c1)) ?_; rintro _ _ ⟨⟨x, rfl, hx⟩, rfl⟩) | (refine A_callM0 rfl rfl (fun s H => c_r8At (hl := l1) (hr := c1)) ?_; rintro _ _ ⟨⟨x, rfl, hx⟩, rfl⟩)
 | refine A_p (by rfl) rfl ?_
 | refine A_ldI rfl (by first | omega | (simp; done) | (simp; omega)) rfl ?_ | refine A_ldB rfl (by first | omega | (simp; done) | (simp; omega)) rfl ?_ | refine A_ld rfl (by rfl) rfl ?_
 | refine A_ldW rfl (by simp) rfl ?_
 | refine A_stW rfl rfl (by simp) rfl ?_
 | ((first | refine A_alloc rfl ?_ | refine A_bld1 rfl rfl ?_ | refine A_bld2 rfl rfl rfl ?_ | refine A_bld4 rfl rfl rfl rfl rfl ?_) <;> intro pz hpz)
 | refine A_bld0 rfl ?_
 | refine A_ret1 rfl (by exact (RP.t rfl RP.nil)) ?_)
  obtain ⟨a, rfl⟩ : ∃ a : Nat, x = a := ⟨x.toNat, by omega⟩
  have ha : a < ys.length := by omega
  have ho1 : OrdP [(a : Int)] ys.length := ⟨by simp, fun z hz => by obtain rfl := List.mem_singleton.1 hz; omega⟩
  have ho0 : OrdP [] ys.length := ⟨by simp, fun z hz => by cases hz⟩
  obtain ⟨pas, hEq⟩ : ∃ p, p = pz := ⟨_, rfl⟩; subst hEq
  obtain ⟨pst, hEq⟩ : ∃ p, p = pz := ⟨_, rfl⟩; subst hEq
  repeat' (first
 | refine A_go rfl ?_ | refine A_ifT rfl rfl ?_ | refine A_ifF rfl rfl ?_
 | refine A_offP rfl rfl ?_ | refine A_offH rfl rfl ?_ | refine A_off0 rfl rfl ?_
 | refine A_add rfl rfl rfl (by omega) ?_ | refine A_sub rfl rfl rfl (by omega) ?_
 | ((first | refine A_lt rfl rfl rfl ?_ ?_ | refine A_le rfl rfl rfl ?_ ?_ | refine A_gt rfl rfl rfl ?_ ?_ | refine A_eq rfl rfl rfl ?_ ?_ | refine A_ne rfl rfl rfl ?_ ?_ | refine A_beq rfl rfl rfl ?_ ?_) <;> intro hc <;> try first | contradiction | (exfalso; omega) | exact absurd rfl hc)
 | refine A_idxN1 rfl rfl rfl (by omega) ?_ | refine A_idx1 rfl rfl rfl (by omega) ?_
 | (refine A_callM rfl rfl (fun s H => c_aloneOk (ys := ys) (os := [(a : Int)]) (hp := ho1) (hv := hvr) (hr := hrg)) ?_; rintro _ _ ⟨pz, rfl, rfl⟩) | (refine A_callM0 rfl rfl (fun s H => c_aloneOk (ys := ys) (os := [(a : Int)]) (hp := ho1) (hv := hvr) (hr := hrg)) ?_; rintro _ _ ⟨pz, rfl, rfl⟩)
 | refine A_p (by rfl) rfl ?_
 | refine A_ldI rfl (by first | omega | (simp; done) | (simp; omega)) rfl ?_ | refine A_ldB rfl (by first | omega | (simp; done) | (simp; omega)) rfl ?_ | refine A_ld rfl (by rfl) rfl ?_
 | refine A_ldW rfl (by simp) rfl ?_
 | refine A_stW rfl rfl (by simp) rfl ?_
 | ((first | refine A_alloc rfl ?_ | refine A_bld1 rfl rfl ?_ | refine A_bld2 rfl rfl rfl ?_ | refine A_bld4 rfl rfl rfl rfl rfl ?_) <;> intro pz hpz)
 | refine A_bld0 rfl ?_
 | refine A_ret1 rfl (by exact (RP.t rfl RP.nil)) ?_)
  obtain ⟨pal, hEq⟩ : ∃ p, p = pz := ⟨_, rfl⟩; subst hEq
  have e0 : aloneR S re xs ys [] ([] : List Int).length = ys := rfl
  change At [] s ((1, ints []) :: _) _ _ _ _
  repeat' (first
 | refine A_go rfl ?_ | refine A_ifT rfl rfl ?_ | refine A_ifF rfl rfl ?_
 | refine A_offP rfl rfl ?_ | refine A_offH rfl rfl ?_ | refine A_off0 rfl rfl ?_
 | refine A_add rfl rfl rfl (by omega) ?_ | refine A_sub rfl rfl rfl (by omega) ?_
 | ((first | refine A_lt rfl rfl rfl ?_ ?_ | refine A_le rfl rfl rfl ?_ ?_ | refine A_gt rfl rfl rfl ?_ ?_ | refine A_eq rfl rfl rfl ?_ ?_ | refine A_ne rfl rfl rfl ?_ ?_ | refine A_beq rfl rfl rfl ?_ ?_) <;> intro hc <;> try first | contradiction | (exfalso; omega) | exact absurd rfl hc)
 | refine A_idxN1 rfl rfl rfl (by omega) ?_ | refine A_idx1 rfl rfl rfl (by omega) ?_
 | (refine A_callM rfl rfl (fun s H => c_aloneOk (ys := ys) (os := []) (hp := ho0) (hv := hvr) (hr := hrg)) ?_; rintro _ _ ⟨pz, rfl, rfl⟩) | (refine A_callM0 rfl rfl (fun s H => c_aloneOk (ys := ys) (os := []) (hp := ho0) (hv := hvr) (hr := hrg)) ?_; rintro _ _ ⟨pz, rfl, rfl⟩)
 | (refine A_callB rfl rfl (fun s H => c_r8Same (xs := aloneR S re xs ys [] ([] : List Int).length) (ys := ys)) ?_ ?_ <;> intro hc <;> try first | contradiction | (exfalso; omega) | exact absurd rfl hc | exact absurd (And.intro rfl rfl) hc | exact absurd (And.intro rfl (And.intro rfl rfl)) hc | exact absurd (Eq.trans (by assumption) (Eq.symm (by assumption))) hc)
 | refine A_p (by rfl) rfl ?_
 | refine A_ldI rfl (by first | omega | (simp; done) | (simp; omega)) rfl ?_ | refine A_ldB rfl (by first | omega | (simp; done) | (simp; omega)) rfl ?_ | refine A_ld rfl (by rfl) rfl ?_
 | refine A_ldW rfl (by simp) rfl ?_
 | refine A_stW rfl rfl (by simp) rfl ?_
 | ((first | refine A_alloc rfl ?_ | refine A_bld1 rfl rfl ?_ | refine A_bld2 rfl rfl rfl ?_ | refine A_bld4 rfl rfl rfl rfl rfl ?_) <;> intro pz hpz)
 | refine A_bld0 rfl ?_
 | refine A_ret1 rfl (by exact (RP.t rfl RP.nil)) ?_)
  have hall : (aloneR S re xs ys [(a : Int)] 1).length = ys.length := aloneR_len 1
  have hstl : (stepR S re xs ys).length = ys.length := by simp
  refine A_loop rfl [p6, ptb, pb, py, pst, pal] (fun m fr L => ∃ (i : Nat), m = ys.length - i ∧ fr = [(1, .c (.sl i1 o1 n1)), (5, iv S), (6, .c (.ptr p6 0)), (7, iv ys.length), (8, .c (.sl pb 0 ys.length)), (9, .c (.sl py 0 ys.length)), (14, .c (.sl pst 0 ys.length)), (16, iv a), (17, .c (.sl pal 0 ys.length)), (21, iv i)] ∧ L = [(p6, .rw 30 3 [ic S, ic re, .sl ptb 0 xs.length]), (ptb, ints xs), (pb, ints bs), (py, ints ys), (pst, ints (stepR S re xs ys)), (pal, ints (aloneR S re xs ys [(a : Int)] 1))] ∧ i ≤ ys.length) ys.length ⟨0, rfl, rfl, rfl, by omega⟩ ?_
  rintro m fr L ⟨i, rfl, rfl, rfl, hi⟩
  by_cases hi' : i < ys.length
  · have q1 := alone_one (st := S) (re := re) (xs := xs) (ys := ys) (a := a) ha (i := i)
    have q2 := stepR_get (st := S) (re := re) (xs := xs) (ys := ys) hi'
    by_cases hia : i = a
    · subst hia
      rw [if_pos rfl, ← q2] at q1
      repeat' (first
 | refine A_go rfl ?_ | refine A_ifT rfl rfl ?_ | refine A_ifF rfl rfl ?_
 | refine A_offP rfl rfl ?_ | refine A_offH rfl rfl ?_ | refine A_off0 rfl rfl ?_
 | refine A_add rfl rfl rfl (by omega) ?_ | refine A_sub rfl rfl rfl (by omega) ?_
 | ((first | refine A_lt rfl rfl rfl ?_ ?_ | refine A_le rfl rfl rfl ?_ ?_ | refine A_gt rfl rfl rfl ?_ ?_ | refine A_eq rfl rfl rfl ?_ ?_ | refine A_ne rfl rfl rfl ?_ ?_ | refine A_beq rfl rfl rfl ?_ ?_) <;> intro hc <;> try first | contradiction | (exfalso; omega) | exact absurd rfl hc)
 | refine A_idxN1 rfl rfl rfl (by omega) ?_ | refine A_idx1 rfl rfl rfl (by omega) ?_
 | refine A_p (by rfl) rfl ?_
 | refine A_ldI rfl (by first | omega | (simp; done) | (simp; omega)) rfl ?_ | refine A_ldB rfl (by first | omega | (simp; done) | (simp; omega)) rfl ?_ | refine A_ld rfl (by rfl) rfl ?_
 | refine A_ldW rfl (by simp) rfl ?_
 | refine A_stW rfl rfl (by simp) rfl ?_
 | ((first | refine A_alloc rfl ?_ | refine A_bld1 rfl rfl ?_ | refine A_bld2 rfl rfl rfl ?_ | refine A_bld4 rfl rfl rfl rfl rfl ?_) <;> intro pz hpz)
 | refine A_bld0 rfl ?_
 | refine A_ret1 rfl (by exact (RP.t rfl RP.nil)) ?_)
      refine A_round rfl [p6, ptb, pb, py, pst, pal] (ys.length - (i + 1)) (by omega) ?_
      exact ⟨i + 1, rfl, rfl, rfl, by omega⟩
    · rw [if_neg hia] at q1
      repeat' (first
 | refine A_go rfl ?_ | refine A_ifT rfl rfl ?_ | refine A_ifF rfl rfl ?_
 | refine A_offP rfl rfl ?_ | refine A_offH rfl rfl ?_ | refine A_off0 rfl rfl ?_
 | refine A_add rfl rfl rfl (by omega) ?_ | refine A_sub rfl rfl rfl (by omega) ?_
 | ((first | refine A_lt rfl rfl rfl ?_ ?_ | refine A_le rfl rfl rfl ?_ ?_ | refine A_gt rfl rfl rfl ?_ ?_ | refine A_eq rfl rfl rfl ?_ ?_ | refine A_ne rfl rfl rfl ?_ ?_ | refine A_beq rfl rfl rfl ?_ ?_) <;> intro hc <;> try first | contradiction | (exfalso; omega) | exact absurd rfl hc)
 | refine A_idxN1 rfl rfl rfl (by omega) ?_ | refine A_idx1 rfl rfl rfl (by omega) ?_
 | refine A_p (by rfl) rfl ?_
 | refine A_ldI rfl (by first | omega | (simp; done) | (simp; omega)) rfl ?_ | refine A_ldB rfl (by first | omega | (simp; done) | (simp; omega)) rfl ?_ | refine A_ld rfl (by rfl) rfl ?_
 | refine A_ldW rfl (by simp) rfl ?_
 | refine A_stW rfl rfl (by simp) rfl ?_
 | ((first | refine A_alloc rfl ?_ | refine A_bld1 rfl rfl ?_ | refine A_bld2 rfl rfl rfl ?_ | refine A_bld4 rfl rfl rfl rfl rfl ?_) <;> intro pz hpz)
 | refine A_bld0 rfl ?_
 | refine A_ret1 rfl (by exact (RP.t rfl RP.nil)) ?_)
      refine A_round rfl [p6, ptb, pb, py, pst, pal] (ys.length - (i + 1)) (by omega) ?_
      exact ⟨i + 1, rfl, rfl, rfl, by omega⟩
  obtain rfl : ys.length = i := by omega
  repeat' (first
 | refine A_go rfl ?_ | refine A_ifT rfl rfl ?_ | refine A_ifF rfl rfl ?_
 | refine A_offP rfl rfl ?_ | refine A_offH rfl rfl ?_ | refine A_off0 rfl rfl ?_
 | refine A_add rfl rfl rfl (by omega) ?_ | refine A_sub rfl rfl rfl (by omega) ?_
 | ((first | refine A_lt rfl rfl rfl ?_ ?_ | refine A_le rfl rfl rfl ?_ ?_ | refine A_gt rfl rfl rfl ?_ ?_ | refine A_eq rfl rfl rfl ?_ ?_ | refine A_ne rfl rfl rfl ?_ ?_ | refine A_beq rfl rfl rfl ?_ ?_) <;> intro hc <;> try first | contradiction | (exfalso; omega) | exact absurd rfl hc)
 | refine A_idxN1 rfl rfl rfl (by omega) ?_ | refine A_idx1 rfl rfl rfl (by omega) ?_
 | (refine A_callM rfl rfl (fun s H => c_r8At (hl := l1) (hr := c1)) ?_; rintro _ _ ⟨⟨x, rfl, hx⟩, rfl⟩) | (refine A_callM0 rfl rfl (fun s H => c_r8At (hl := l1) (hr := c1)) ?_; rintro _ _ ⟨⟨x, rfl, hx⟩, rfl⟩)
 | refine A_p (by rfl) rfl ?_
 | refine A_ldI rfl (by first | omega | (simp; done) | (simp; omega)) rfl ?_ | refine A_ldB rfl (by first | omega | (simp; done) | (simp; omega)) rfl ?_ | refine A_ld rfl (by rfl) rfl ?_
 | refine A_ldW rfl (by simp) rfl ?_
 | refine A_stW rfl rfl (by simp) rfl ?_
 | ((first | refine A_alloc rfl ?_ | refine A_bld1 rfl rfl ?_ | refine A_bld2 rfl rfl rfl ?_ | refine A_bld4 rfl rfl rfl rfl rfl ?_) <;> intro pz hpz)
 | refine A_bld0 rfl ?_
 | refine A_ret1 rfl (by exact (RP.t rfl RP.nil)) ?_)
  obtain ⟨t, rfl⟩ : ∃ t : Nat, x = t := ⟨x.toNat, by omega⟩
  have ht : t < 12 := by omega
  repeat' (first
 | refine A_go rfl ?_ | refine A_ifT rfl rfl ?_ | refine A_ifF rfl rfl ?_
 | refine A_offP rfl rfl ?_ | refine A_offH rfl rfl ?_ | refine A_off0 rfl rfl ?_
 | refine A_add rfl rfl rfl (by omega) ?_ | refine A_sub rfl rfl rfl (by omega) ?_
 | ((first | refine A_lt rfl rfl rfl ?_ ?_ | refine A_le rfl rfl rfl ?_ ?_ | refine A_gt rfl rfl rfl ?_ ?_ | refine A_eq rfl rfl rfl ?_ ?_ | refine A_ne rfl rfl rfl ?_ ?_ | refine A_beq rfl rfl rfl ?_ ?_) <;> intro hc <;> try first | contradiction | (exfalso; omega) | exact absurd rfl hc)
 | refine A_idxN1 rfl rfl rfl (by omega) ?_ | refine A_idx1 rfl rfl rfl (by omega) ?_
 | (refine A_callM rfl rfl (fun s H => c_damageOk (ys := bs) (zs := ys) (n := t) (hp := hsec)) ?_; rintro _ _ ⟨pz, rfl, rfl⟩) | (refine A_callM0 rfl rfl (fun s H => c_damageOk (ys := bs) (zs := ys) (n := t) (hp := hsec)) ?_; rintro _ _ ⟨pz, rfl, rfl⟩)
 | refine A_p (by rfl) rfl ?_
 | refine A_ldI rfl (by first | omega | (simp; done) | (simp; omega)) rfl ?_ | refine A_ldB rfl (by first | omega | (simp; done) | (simp; omega)) rfl ?_ | refine A_ld rfl (by rfl) rfl ?_
 | refine A_ldW rfl (by simp) rfl ?_
 | refine A_stW rfl rfl (by simp) rfl ?_
 | ((first | refine A_alloc rfl ?_ | refine A_bld1 rfl rfl ?_ | refine A_bld2 rfl rfl rfl ?_ | refine A_bld4 rfl rfl rfl rfl rfl ?_) <;> intro pz hpz)
 | refine A_bld0 rfl ?_
 | refine A_ret1 rfl (by exact (RP.t rfl RP.nil)) ?_)
  obtain ⟨pdm, hEq⟩ : ∃ p, p = pz := ⟨_, rfl⟩; subst hEq
  repeat' (first
 | refine A_go rfl ?_ | refine A_ifT rfl rfl ?_ | refine A_ifF rfl rfl ?_
 | refine A_offP rfl rfl ?_ | refine A_offH rfl rfl ?_ | refine A_off0 rfl rfl ?_
 | refine A_add rfl rfl rfl (by omega) ?_ | refine A_sub rfl rfl rfl (by omega) ?_
 | ((first | refine A_lt rfl rfl rfl ?_ ?_ | refine A_le rfl rfl rfl ?_ ?_ | refine A_gt rfl rfl rfl ?_ ?_ | refine A_eq rfl rfl rfl ?_ ?_ | refine A_ne rfl rfl rfl ?_ ?_ | refine A_beq rfl rfl rfl ?_ ?_) <;> intro hc <;> try first | contradiction | (exfalso; omega) | exact absurd rfl hc)
 | refine A_idxN1 rfl rfl rfl (by omega) ?_ | refine A_idx1 rfl rfl rfl (by omega) ?_
 | (refine A_callM rfl rfl (fun s H => c_damageOk (ys := ys) (zs := ys) (n := t) (hp := hsec2)) ?_; rintro _ _ ⟨pz, rfl, rfl⟩) | (refine A_callM0 rfl rfl (fun s H => c_damageOk (ys := ys) (zs := ys) (n := t) (hp := hsec2)) ?_; rintro _ _ ⟨pz, rfl, rfl⟩)
 | refine A_p (by rfl) rfl ?_
 | refine A_ldI rfl (by first | omega | (simp; done) | (simp; omega)) rfl ?_ | refine A_ldB rfl (by first | omega | (simp; done) | (simp; omega)) rfl ?_ | refine A_ld rfl (by rfl) rfl ?_
 | refine A_ldW rfl (by simp) rfl ?_
 | refine A_stW rfl rfl (by simp) rfl ?_
 | ((first | refine A_alloc rfl ?_ | refine A_bld1 rfl rfl ?_ | refine A_bld2 rfl rfl rfl ?_ | refine A_bld4 rfl rfl rfl rfl rfl ?_) <;> intro pz hpz)
 | refine A_bld0 rfl ?_
 | refine A_ret1 rfl (by exact (RP.t rfl RP.nil)) ?_)
  obtain ⟨psm, hEq⟩ : ∃ p, p = pz := ⟨_, rfl⟩; subst hEq
  refine A_loop rfl [p6, ptb, py, pdm, psm] (fun m fr L => ∃ (k : Nat) (g : Bool), m = t + 1 - k ∧ fr = [(5, iv S), (6, .c (.ptr p6 0)), (7, iv ys.length), (9, .c (.sl py 0 ys.length)), (22, iv t), (23, .c (.sl pdm 0 (t + 1))), (25, .c (.sl psm 0 (t + 1))), (27, bv g), (28, iv k)] ∧ L = [(p6, .rw 30 3 [ic S, ic re, .sl ptb 0 xs.length]), (ptb, ints xs), (py, ints ys), (pdm, ints (dmgs S re xs bs ys (t + 1))), (psm, ints (dmgs S re xs ys ys (t + 1)))] ∧ k ≤ t + 1 ∧ (g = true → dmg S re xs bs ys k = 0)) (t + 1) ⟨0, false, rfl, rfl, rfl, by omega, fun h => by cases h⟩ ?_
  rintro m fr L ⟨k, g, rfl, rfl, rfl, hk, hg⟩
  have hd1 := dmgs_len (st := S) (re := re) (xs := xs) (ys := bs) (zs := ys) (k := t + 1)
  have hd2 := dmgs_len (st := S) (re := re) (xs := xs) (ys := ys) (zs := ys) (k := t + 1)
  by_cases hk' : k < t + 1
  · have q1 : (dmgs S re xs bs ys (t + 1)).getD k 0 = dmg S re xs bs ys k := getD_map_range hk'
    have q2 : (dmgs S re xs ys ys (t + 1)).getD k 0 = 0 := by rw [show (dmgs S re xs ys ys (t + 1)).getD k 0 = dmg S re xs ys ys k from getD_map_range hk', dmg_self]
    have q3 := dmg_in (st := S) (re := re) (xs := xs) (ys := bs) (zs := ys) (k := k)
    rw [← q1, hbl] at q3
    rw [← q1] at hg
    have q4 : (dmgs S re xs bs ys (t + 1)).getD k 0 = 0 → dmg S re xs bs ys (k + 1) = 0 := fun h => dmg_gone hbl (by rw [← q1]; exact h)
    cases g with
    | true =>
      have q5 := hg rfl
      have q6 := q4 q5
      repeat' (first
 | refine A_go rfl ?_ | refine A_ifT rfl rfl ?_ | refine A_ifF rfl rfl ?_
 | refine A_offP rfl rfl ?_ | refine A_offH rfl rfl ?_ | refine A_off0 rfl rfl ?_
 | refine A_add rfl rfl rfl (by omega) ?_ | refine A_sub rfl rfl rfl (by omega) ?_
 | ((first | refine A_lt rfl rfl rfl ?_ ?_ | refine A_le rfl rfl rfl ?_ ?_ | refine A_gt rfl rfl rfl ?_ ?_ | refine A_eq rfl rfl rfl ?_ ?_ | refine A_ne rfl rfl rfl ?_ ?_ | refine A_beq rfl rfl rfl ?_ ?_) <;> intro hc <;> try first | contradiction | (exfalso; omega) | exact absurd rfl hc)
 | refine A_idxN1 rfl rfl rfl (by omega) ?_ | refine A_idx1 rfl rfl rfl (by omega) ?_
 | refine A_p (by rfl) rfl ?_
 | refine A_ldI rfl (by first | omega | (simp; done) | (simp; omega)) rfl ?_ | refine A_ldB rfl (by first | omega | (simp; done) | (simp; omega)) rfl ?_ | refine A_ld rfl (by rfl) rfl ?_
 | refine A_ldW rfl (by simp) rfl ?_
 | refine A_stW rfl rfl (by simp) rfl ?_
 | ((first | refine A_alloc rfl ?_ | refine A_bld1 rfl rfl ?_ | refine A_bld2 rfl rfl rfl ?_ | refine A_bld4 rfl rfl rfl rfl rfl ?_) <;> intro pz hpz)
 | refine A_bld0 rfl ?_
 | refine A_ret1 rfl (by exact (RP.t rfl RP.nil)) ?_)
      refine A_round rfl [p6, ptb, py, pdm, psm] (t + 1 - (k + 1)) (by omega) ?_
      exact ⟨k + 1, true, rfl, rfl, rfl, by omega, fun _ => q6⟩
    | false =>
      by_cases q5 : (dmgs S re xs bs ys (t + 1)).getD k 0 = 0
      · have q6 := q4 q5
        repeat' (first
 | refine A_go rfl ?_ | refine A_ifT rfl rfl ?_ | refine A_ifF rfl rfl ?_
 | refine A_offP rfl rfl ?_ | refine A_offH rfl rfl ?_ | refine A_off0 rfl rfl ?_
 | refine A_add rfl rfl rfl (by omega) ?_ | refine A_sub rfl rfl rfl (by omega) ?_
 | ((first | refine A_lt rfl rfl rfl ?_ ?_ | refine A_le rfl rfl rfl ?_ ?_ | refine A_gt rfl rfl rfl ?_ ?_ | refine A_eq rfl rfl rfl ?_ ?_ | refine A_ne rfl rfl rfl ?_ ?_ | refine A_beq rfl rfl rfl ?_ ?_) <;> intro hc <;> try first | contradiction | (exfalso; omega) | exact absurd rfl hc)
 | refine A_idxN1 rfl rfl rfl (by omega) ?_ | refine A_idx1 rfl rfl rfl (by omega) ?_
 | refine A_p (by rfl) rfl ?_
 | refine A_ldI rfl (by first | omega | (simp; done) | (simp; omega)) rfl ?_ | refine A_ldB rfl (by first | omega | (simp; done) | (simp; omega)) rfl ?_ | refine A_ld rfl (by rfl) rfl ?_
 | refine A_ldW rfl (by simp) rfl ?_
 | refine A_stW rfl rfl (by simp) rfl ?_
 | ((first | refine A_alloc rfl ?_ | refine A_bld1 rfl rfl ?_ | refine A_bld2 rfl rfl rfl ?_ | refine A_bld4 rfl rfl rfl rfl rfl ?_) <;> intro pz hpz)
 | refine A_bld0 rfl ?_
 | refine A_ret1 rfl (by exact (RP.t rfl RP.nil)) ?_)
        refine A_round rfl [p6, ptb, py, pdm, psm] (t + 1 - (k + 1)) (by omega) ?_
        exact ⟨k + 1, true, rfl, rfl, rfl, by omega, fun _ => q6⟩
      · repeat' (first
 | refine A_go rfl ?_ | refine A_ifT rfl rfl ?_ | refine A_ifF rfl rfl ?_
 | refine A_offP rfl rfl ?_ | refine A_offH rfl rfl ?_ | refine A_off0 rfl rfl ?_
 | refine A_add rfl rfl rfl (by omega) ?_ | refine A_sub rfl rfl rfl (by omega) ?_
 | ((first | refine A_lt rfl rfl rfl ?_ ?_ | refine A_le rfl rfl rfl ?_ ?_ | refine A_gt rfl rfl rfl ?_ ?_ | refine A_eq rfl rfl rfl ?_ ?_ | refine A_ne rfl rfl rfl ?_ ?_ | refine A_beq rfl rfl rfl ?_ ?_) <;> intro hc <;> try first | contradiction | (exfalso; omega) | exact absurd rfl hc)
 | refine A_idxN1 rfl rfl rfl (by omega) ?_ | refine A_idx1 rfl rfl rfl (by omega) ?_
 | refine A_p (by rfl) rfl ?_
 | refine A_ldI rfl (by first | omega | (simp; done) | (simp; omega)) rfl ?_ | refine A_ldB rfl (by first | omega | (simp; done) | (simp; omega)) rfl ?_ | refine A_ld rfl (by rfl) rfl ?_
 | refine A_ldW rfl (by simp) rfl ?_
 | refine A_stW rfl rfl (by simp) rfl ?_
 | ((first | refine A_alloc rfl ?_ | refine A_bld1 rfl rfl ?_ | refine A_bld2 rfl rfl rfl ?_ | refine A_bld4 rfl rfl rfl rfl rfl ?_) <;> intro pz hpz)
 | refine A_bld0 rfl ?_
 | refine A_ret1 rfl (by exact (RP.t rfl RP.nil)) ?_)
        refine A_round rfl [p6, ptb, py, pdm, psm] (t + 1 - (k + 1)) (by omega) ?_
        exact ⟨k + 1, false, rfl, rfl, rfl, by omega, fun h => by cases h⟩
  obtain rfl : t + 1 = k := by omega
  refine A_go rfl ?_
  refine A_p (by rfl) rfl ?_
  refine A_p (by rfl) rfl ?_
  refine A_le rfl rfl rfl ?_ ?_ <;> intro hc
  · exfalso; omega
  refine A_ifF rfl rfl ?_
  refine A_subL (L' := BwL S re p6 ptb py xs ys) ?_
  refine A_cut (k2 := BwK) rfl ?_
  exact bw_all hS hre1 hvr hrg (by omega) (by omega)

end Go.Proofs.Ytafdjnhlhepibaa
