/- The law FnBack runs to true. -/
import Derived.Test.YtlmbgaoeplffkaaXbackM
import Derived.Test.YtlmbgaoeplffkaaFB
namespace Go.Proofs.Ytlmbgaoeplffkaa
open Go Go.RowKit
set_option linter.unusedVariables false
set_option linter.unusedSimpArgs false
set_option maxRecDepth 100000
set_option maxHeartbeats 8000000


instance argAllTwo {s : St} {i o n : Nat} {ys : List Int} [h : ArgE ic s i o ys] : ArgAll s [⟨i, o, n, ys⟩, ⟨i, o, n, ys⟩] := ⟨fun z hz => by
  have e : z = ⟨i, o, n, ys⟩ := by
    rcases List.mem_cons.1 hz with h | h
    · exact h
    · exact List.mem_singleton.1 h
  subst e; exact h⟩
theorem rowsTwo {i n : Nat} {ys : List Int} (h : ys.length = n) : RowsOk [⟨i, 0, n, ys⟩, ⟨i, 0, n, ys⟩] :=
  RowsOk.append (zs := [⟨i, 0, n, ys⟩]) (.one h.symm) (.one h.symm)
theorem c_FnBack {s : St} [Wf s] {i0 o0 n0 i1 o1 n1 : Nat} {x0 x1 : List Int} (h0 : ArgE ub s i0 o0 x0) (l0 : x0.length = n0) (b0 : ∀ n ∈ x0, (Lit.int .u8 n).wf = true) (u0 : n0 ≤ 9223372036854775807) (h1 : ArgE ub s i1 o1 x1) (l1 : x1.length = n1) (b1 : ∀ n ∈ x1, (Lit.int .u8 n).wf = true) (u1 : n1 ≤ 9223372036854775807) :
    FnV 3 [.c (.sl i0 o0 n0), .c (.sl i1 o1 n1)] s (bv true) := by
  have c0 := wfU8 b0
  have c1 := wfU8 b1
  refine F_start code3 ?_
  by_cases hlong : 1048576 < n0 ∨ 1048576 < n1
  · repeat' (first
 | refine A_go rfl ?_ | refine A_ifT rfl rfl ?_ | refine A_ifF rfl rfl ?_
 | refine A_offP rfl rfl ?_ | refine A_offH rfl rfl ?_ | refine A_off0 rfl rfl ?_
 | refine A_add rfl rfl rfl (by omega) ?_ | refine A_sub rfl rfl rfl (by omega) ?_ | refine A_mul rfl rfl rfl (by omega) ?_
 | ((first | refine A_lt rfl rfl rfl ?_ ?_ | refine A_gt rfl rfl rfl ?_ ?_ | refine A_ge rfl rfl rfl ?_ ?_ | refine A_eq rfl rfl rfl ?_ ?_ | refine A_ne rfl rfl rfl ?_ ?_ | refine A_beq rfl rfl rfl ?_ ?_) <;> intro hc <;> try first | contradiction | (exfalso; omega) | exact absurd rfl hc)
 | refine A_idxN1 rfl rfl rfl (by omega) ?_ | refine A_idx1 rfl rfl rfl (by omega) ?_
 | (refine A_callB rfl rfl (fun s H => c_b10Long) ?_ ?_ <;> intro hc <;> try first | contradiction | (exfalso; omega) | exact absurd rfl hc | exact absurd (And.intro rfl rfl) hc | exact absurd (And.intro rfl (And.intro rfl rfl)) hc | exact absurd (Eq.trans (by assumption) (Eq.symm (by assumption))) hc)
 | refine A_fld rfl rfl ?_ | refine A_p (by rfl) rfl ?_
 | refine A_ldI rfl (by first | omega | (simp; done) | (simp; omega)) rfl ?_ | refine A_ldB rfl (by first | omega | (simp; done) | (simp; omega)) rfl ?_ | refine A_ld rfl (by rfl) rfl ?_
 | refine A_ldW rfl (by simp) rfl ?_
 | refine A_stW rfl rfl (by simp) rfl ?_
 | ((first | refine A_alloc rfl ?_ | refine A_bld1 rfl rfl ?_ | refine A_bld2 rfl rfl rfl ?_ | refine A_bld4 rfl rfl rfl rfl rfl ?_) <;> intro pz hpz)
 | refine A_bld0 rfl ?_
 | (refine A_app rfl rfl rfl (by first | omega | (simp; done) | (simp; omega)) (by first | omega | (simp; done) | (simp; omega)) (by omega) ?_; intro pz) | (refine A_appN (enc := ic) rfl (by decide) rfl rfl (by first | omega | (simp; done) | (simp; omega)) (by omega) ?_; intro pz)
 | refine A_chk1 rfl rfl rfl ?_ | refine A_chk2 rfl rfl rfl rfl ?_ | refine A_chk3 rfl rfl rfl rfl rfl ?_ | refine A_chk4 rfl rfl rfl rfl rfl rfl ?_ | refine A_chkI rfl (by assumption) rfl (by simp) ?_
 | refine A_ret1 rfl (by exact (RP.t rfl RP.nil)) ?_)
    exact R_v rfl
  repeat' (first
 | refine A_go rfl ?_ | refine A_ifT rfl rfl ?_ | refine A_ifF rfl rfl ?_
 | refine A_offP rfl rfl ?_ | refine A_offH rfl rfl ?_ | refine A_off0 rfl rfl ?_
 | refine A_add rfl rfl rfl (by omega) ?_ | refine A_sub rfl rfl rfl (by omega) ?_ | refine A_mul rfl rfl rfl (by omega) ?_
 | ((first | refine A_lt rfl rfl rfl ?_ ?_ | refine A_gt rfl rfl rfl ?_ ?_ | refine A_ge rfl rfl rfl ?_ ?_ | refine A_eq rfl rfl rfl ?_ ?_ | refine A_ne rfl rfl rfl ?_ ?_ | refine A_beq rfl rfl rfl ?_ ?_) <;> intro hc <;> try first | contradiction | (exfalso; omega) | exact absurd rfl hc)
 | refine A_idxN1 rfl rfl rfl (by omega) ?_ | refine A_idx1 rfl rfl rfl (by omega) ?_
 | (refine A_callB rfl rfl (fun s H => c_b10Long) ?_ ?_ <;> intro hc <;> try first | contradiction | (exfalso; omega) | exact absurd rfl hc | exact absurd (And.intro rfl rfl) hc | exact absurd (And.intro rfl (And.intro rfl rfl)) hc | exact absurd (Eq.trans (by assumption) (Eq.symm (by assumption))) hc)
 | (refine A_callM rfl rfl (fun s H => c_b10At (hl := l1) (hr := c1)) ?_; rintro _ _ ⟨⟨x, rfl, hx⟩, rfl⟩) | (refine A_callM0 rfl rfl (fun s H => c_b10At (hl := l1) (hr := c1)) ?_; rintro _ _ ⟨⟨x, rfl, hx⟩, rfl⟩)
 | refine A_fld rfl rfl ?_ | refine A_p (by rfl) rfl ?_
 | refine A_ldI rfl (by first | omega | (simp; done) | (simp; omega)) rfl ?_ | refine A_ldB rfl (by first | omega | (simp; done) | (simp; omega)) rfl ?_ | refine A_ld rfl (by rfl) rfl ?_
 | refine A_ldW rfl (by simp) rfl ?_
 | refine A_stW rfl rfl (by simp) rfl ?_
 | ((first | refine A_alloc rfl ?_ | refine A_bld1 rfl rfl ?_ | refine A_bld2 rfl rfl rfl ?_ | refine A_bld4 rfl rfl rfl rfl rfl ?_) <;> intro pz hpz)
 | refine A_bld0 rfl ?_
 | (refine A_app rfl rfl rfl (by first | omega | (simp; done) | (simp; omega)) (by first | omega | (simp; done) | (simp; omega)) (by omega) ?_; intro pz) | (refine A_appN (enc := ic) rfl (by decide) rfl rfl (by first | omega | (simp; done) | (simp; omega)) (by omega) ?_; intro pz)
 | refine A_chk1 rfl rfl rfl ?_ | refine A_chk2 rfl rfl rfl rfl ?_ | refine A_chk3 rfl rfl rfl rfl rfl ?_ | refine A_chk4 rfl rfl rfl rfl rfl rfl ?_ | refine A_chkI rfl (by assumption) rfl (by simp) ?_
 | refine A_ret1 rfl (by exact (RP.t rfl RP.nil)) ?_)
  obtain ⟨r, rfl⟩ : ∃ r : Nat, x = r := ⟨x.toNat, by omega⟩
  have hr : r ≤ 2 := by omega
  clear hx
  obtain ⟨K, hK⟩ : ∃ K : Nat, K = 2 ^ (2 * (r : Int) + 1).toNat := ⟨_, rfl⟩
  have hK32 : K ≤ 32 := by
    rw [hK]; exact Nat.le_trans (Nat.pow_le_pow_right (by omega) (show (2 * (r : Int) + 1).toNat ≤ 5 by omega)) (by decide)
  repeat' (first
 | refine A_go rfl ?_ | refine A_ifT rfl rfl ?_ | refine A_ifF rfl rfl ?_
 | refine A_offP rfl rfl ?_ | refine A_offH rfl rfl ?_ | refine A_off0 rfl rfl ?_
 | refine A_add rfl rfl rfl (by omega) ?_ | refine A_sub rfl rfl rfl (by omega) ?_ | refine A_mul rfl rfl rfl (by omega) ?_
 | ((first | refine A_lt rfl rfl rfl ?_ ?_ | refine A_gt rfl rfl rfl ?_ ?_ | refine A_ge rfl rfl rfl ?_ ?_ | refine A_eq rfl rfl rfl ?_ ?_ | refine A_ne rfl rfl rfl ?_ ?_ | refine A_beq rfl rfl rfl ?_ ?_) <;> intro hc <;> try first | contradiction | (exfalso; omega) | exact absurd rfl hc)
 | refine A_idxN1 rfl rfl rfl (by omega) ?_ | refine A_idx1 rfl rfl rfl (by omega) ?_
 | (refine A_callM rfl rfl (fun s H => c_B10RuleR (K := K) (hl := l0) (hr := c0) (hre := ⟨by omega, by omega⟩) (hK := hK)) ?_; rintro _ _ ⟨pz, xs, rfl, hvr, hxl, rfl⟩) | (refine A_callM0 rfl rfl (fun s H => c_B10RuleR (K := K) (hl := l0) (hr := c0) (hre := ⟨by omega, by omega⟩) (hK := hK)) ?_; rintro _ _ ⟨pz, xs, rfl, hvr, hxl, rfl⟩)
 | (refine A_callM rfl rfl (fun s H => c_b10At (hl := l1) (hr := c1)) ?_; rintro _ _ ⟨⟨x, rfl, hx⟩, rfl⟩) | (refine A_callM0 rfl rfl (fun s H => c_b10At (hl := l1) (hr := c1)) ?_; rintro _ _ ⟨⟨x, rfl, hx⟩, rfl⟩)
 | refine A_fld rfl rfl ?_ | refine A_p (by rfl) rfl ?_
 | refine A_ldI rfl (by first | omega | (simp; done) | (simp; omega)) rfl ?_ | refine A_ldB rfl (by first | omega | (simp; done) | (simp; omega)) rfl ?_ | refine A_ld rfl (by rfl) rfl ?_
 | refine A_ldW rfl (by simp) rfl ?_
 | refine A_stW rfl rfl (by simp) rfl ?_
 | ((first | refine A_alloc rfl ?_ | refine A_bld1 rfl rfl ?_ | refine A_bld2 rfl rfl rfl ?_ | refine A_bld4 rfl rfl rfl rfl rfl ?_) <;> intro pz hpz)
 | refine A_bld0 rfl ?_
 | (refine A_app rfl rfl rfl (by first | omega | (simp; done) | (simp; omega)) (by first | omega | (simp; done) | (simp; omega)) (by omega) ?_; intro pz) | (refine A_appN (enc := ic) rfl (by decide) rfl rfl (by first | omega | (simp; done) | (simp; omega)) (by omega) ?_; intro pz)
 | refine A_chk1 rfl rfl rfl ?_ | refine A_chk2 rfl rfl rfl rfl ?_ | refine A_chk3 rfl rfl rfl rfl rfl ?_ | refine A_chk4 rfl rfl rfl rfl rfl rfl ?_ | refine A_chkI rfl (by assumption) rfl (by simp) ?_
 | refine A_ret1 rfl (by exact (RP.t rfl RP.nil)) ?_)
  obtain ⟨n, hn⟩ : ∃ n : Nat, 2 * (r : Int) + 1 + x = n := ⟨(2 * (r : Int) + 1 + x).toNat, by omega⟩
  rw [hn]
  have hn1 : 2 * r + 1 ≤ n ∧ n ≤ 7 := by omega
  clear hx hn
  obtain ⟨p6, hEq⟩ : ∃ p, p = pz := ⟨_, rfl⟩; subst hEq
  obtain ⟨pt, hEq⟩ : ∃ p, p = pz := ⟨_, rfl⟩; subst hEq
  subst hxl
  repeat' (first
 | refine A_go rfl ?_ | refine A_ifT rfl rfl ?_ | refine A_ifF rfl rfl ?_
 | refine A_offP rfl rfl ?_ | refine A_offH rfl rfl ?_ | refine A_off0 rfl rfl ?_
 | refine A_add rfl rfl rfl (by omega) ?_ | refine A_sub rfl rfl rfl (by omega) ?_ | refine A_mul rfl rfl rfl (by omega) ?_
 | ((first | refine A_lt rfl rfl rfl ?_ ?_ | refine A_gt rfl rfl rfl ?_ ?_ | refine A_ge rfl rfl rfl ?_ ?_ | refine A_eq rfl rfl rfl ?_ ?_ | refine A_ne rfl rfl rfl ?_ ?_ | refine A_beq rfl rfl rfl ?_ ?_) <;> intro hc <;> try first | contradiction | (exfalso; omega) | exact absurd rfl hc)
 | refine A_idxN1 rfl rfl rfl (by omega) ?_ | refine A_idx1 rfl rfl rfl (by omega) ?_
 | (refine A_callM rfl rfl (fun s H => c_B10Ring (n := n) (hl := l1) (hr := c1)) ?_; rintro _ _ ⟨pz, ys, rfl, hrg, hyl, rfl⟩) | (refine A_callM0 rfl rfl (fun s H => c_B10Ring (n := n) (hl := l1) (hr := c1)) ?_; rintro _ _ ⟨pz, ys, rfl, hrg, hyl, rfl⟩)
 | refine A_fld rfl rfl ?_ | refine A_p (by rfl) rfl ?_
 | refine A_ldI rfl (by first | omega | (simp; done) | (simp; omega)) rfl ?_ | refine A_ldB rfl (by first | omega | (simp; done) | (simp; omega)) rfl ?_ | refine A_ld rfl (by rfl) rfl ?_
 | refine A_ldW rfl (by simp) rfl ?_
 | refine A_stW rfl rfl (by simp) rfl ?_
 | ((first | refine A_alloc rfl ?_ | refine A_bld1 rfl rfl ?_ | refine A_bld2 rfl rfl rfl ?_ | refine A_bld4 rfl rfl rfl rfl rfl ?_) <;> intro pz hpz)
 | refine A_bld0 rfl ?_
 | (refine A_app rfl rfl rfl (by first | omega | (simp; done) | (simp; omega)) (by first | omega | (simp; done) | (simp; omega)) (by omega) ?_; intro pz) | (refine A_appN (enc := ic) rfl (by decide) rfl rfl (by first | omega | (simp; done) | (simp; omega)) (by omega) ?_; intro pz)
 | refine A_chk1 rfl rfl rfl ?_ | refine A_chk2 rfl rfl rfl rfl ?_ | refine A_chk3 rfl rfl rfl rfl rfl ?_ | refine A_chk4 rfl rfl rfl rfl rfl rfl ?_ | refine A_chkI rfl (by assumption) rfl (by simp) ?_
 | refine A_ret1 rfl (by exact (RP.t rfl RP.nil)) ?_)
  obtain ⟨pr, hEq⟩ : ∃ p, p = pz := ⟨_, rfl⟩; subst hEq
  have hbp : BackP 2 r xs ys := ⟨⟨hvr, hrg⟩, by omega, by omega⟩
  obtain ⟨S, w, E, hS2, hS, hw, hw1, hE, hl, hEb, hdg⟩ := hvr.nat
  obtain rfl : S = 2 := by omega
  have hwr : w - 1 = 2 * r := by omega
  have hFl : ((fwdL 2 r xs ys).length : Int) = cbk 2 E xs ys := fwdL_len (S := 2) hvr hrg hE hw (by omega)
  have hcr : cbkR 2 r xs ys = ((fwdL 2 r xs ys).length : Nat) := by
    rw [cbkR, hFl]; congr 1; rw [hE]; congr 1; omega
  obtain ⟨c, hc⟩ : ∃ c : Nat, (fwdL 2 r xs ys).length = c := ⟨_, rfl⟩
  have hc128 : c ≤ 128 := by
    have h := fwdL_le (st := 2) (re := r) (xs := xs) (to := ys)
    rw [hc, hyl] at h
    exact Nat.le_trans h (Nat.le_trans (Nat.pow_le_pow_right (by decide) hn1.2) (by decide))
  rw [hc] at hcr
  have hab : AbP 2 r xs ys := ⟨hbp, by omega⟩
  haveI : Fact' (RowsOk [⟨pr, 0, n, ys⟩, ⟨pr, 0, n, ys⟩]) := ⟨rowsTwo hyl⟩
  have hcs : csR 2 r xs [⟨pr, 0, n, ys⟩, ⟨pr, 0, n, ys⟩] = [(c : Int), (c : Int)] := by rw [csR]; simp [hcr]
  have hsl2 : slen [⟨pr, 0, n, ys⟩, ⟨pr, 0, n, ys⟩] ≤ 2000000 := by
    have := slen_le (zs := [⟨pr, 0, n, ys⟩, ⟨pr, 0, n, ys⟩]) (b := 16) fun z hz => by
      have e : z = ⟨pr, 0, n, ys⟩ := by
        rcases List.mem_cons.1 hz with h | h
        · exact h
        · exact List.mem_singleton.1 h
      subst e; show ys.length ≤ 16; omega
    have e : ([⟨pr, 0, n, ys⟩, ⟨pr, 0, n, ys⟩] : List Row).length = 2 := rfl
    omega
  have ht : (decide (0 < c)) = true ↔ fwdL 2 r xs ys ≠ [] := by
    rw [decide_eq_true_iff, ← hc, List.length_pos_iff]
  by_cases hc0 : 0 < c
  · rw [decide_eq_true hc0] at ht
    repeat' (first
 | refine A_go rfl ?_ | refine A_ifT rfl rfl ?_ | refine A_ifF rfl rfl ?_
 | refine A_offP rfl rfl ?_ | refine A_offH rfl rfl ?_ | refine A_off0 rfl rfl ?_
 | refine A_add rfl rfl rfl (by omega) ?_ | refine A_sub rfl rfl rfl (by omega) ?_ | refine A_mul rfl rfl rfl (by omega) ?_
 | ((first | refine A_lt rfl rfl rfl ?_ ?_ | refine A_gt rfl rfl rfl ?_ ?_ | refine A_ge rfl rfl rfl ?_ ?_ | refine A_eq rfl rfl rfl ?_ ?_ | refine A_ne rfl rfl rfl ?_ ?_ | refine A_beq rfl rfl rfl ?_ ?_) <;> intro hc <;> try first | contradiction | (exfalso; omega) | exact absurd rfl hc)
 | refine A_idxN1 rfl rfl rfl (by omega) ?_ | refine A_idx1 rfl rfl rfl (by omega) ?_
 | refine A_callV rfl rfl (fun s H => c_cntYes (ys := ys) (h := hbp)) ?_
 | simp only [hcr]
 | (refine A_callM rfl rfl (fun s H => c_allYes (to := ys) (h := hab)) ?_; rintro _ _ ⟨pz, zs, rfl, hok, hzs, rfl⟩) | (refine A_callM0 rfl rfl (fun s H => c_allYes (to := ys) (h := hab)) ?_; rintro _ _ ⟨pz, zs, rfl, hok, hzs, rfl⟩)
 | (refine A_callM rfl rfl (fun s H => c_fstAny (t := true) (to := ys) (h := hbp) (ht := ht)) ?_; rintro _ _ ⟨pz, rfl, rfl⟩) | (refine A_callM0 rfl rfl (fun s H => c_fstAny (t := true) (to := ys) (h := hbp) (ht := ht)) ?_; rintro _ _ ⟨pz, rfl, rfl⟩)
 | (refine A_bld2 (enc := rc) (a := ⟨_, _, _, ys⟩) (c := ⟨_, _, _, ys⟩) rfl rfl rfl ?_ <;> intro pz hpz)
 | (refine A_callM rfl rfl (fun s H => c_b10At (hl := l1) (hr := c1)) ?_; rintro _ _ ⟨⟨x, rfl, hx⟩, rfl⟩) | (refine A_callM0 rfl rfl (fun s H => c_b10At (hl := l1) (hr := c1)) ?_; rintro _ _ ⟨⟨x, rfl, hx⟩, rfl⟩)
 | refine A_fld rfl rfl ?_ | refine A_p (by rfl) rfl ?_
 | refine A_ldI rfl (by first | omega | (simp; done) | (simp; omega)) rfl ?_ | refine A_ldB rfl (by first | omega | (simp; done) | (simp; omega)) rfl ?_ | refine A_ld rfl (by rfl) rfl ?_
 | refine A_ldW rfl (by simp) rfl ?_
 | refine A_stW rfl rfl (by simp) rfl ?_
 | ((first | refine A_alloc rfl ?_ | refine A_bld1 rfl rfl ?_ | refine A_bld2 rfl rfl rfl ?_ | refine A_bld4 rfl rfl rfl rfl rfl ?_) <;> intro pz hpz)
 | refine A_bld0 rfl ?_
 | (refine A_app rfl rfl rfl (by first | omega | (simp; done) | (simp; omega)) (by first | omega | (simp; done) | (simp; omega)) (by omega) ?_; intro pz) | (refine A_appN (enc := ic) rfl (by decide) rfl rfl (by first | omega | (simp; done) | (simp; omega)) (by omega) ?_; intro pz)
 | refine A_chk1 rfl rfl rfl ?_ | refine A_chk2 rfl rfl rfl rfl ?_ | refine A_chk3 rfl rfl rfl rfl rfl ?_ | refine A_chk4 rfl rfl rfl rfl rfl rfl ?_ | refine A_chkI rfl (by assumption) rfl (by simp) ?_
 | refine A_ret1 rfl (by exact (RP.t rfl RP.nil)) ?_)
    obtain ⟨psh, hEq⟩ : ∃ p, p = pz := ⟨_, rfl⟩; subst hEq
    obtain ⟨pf, hEq⟩ : ∃ p, p = pz := ⟨_, rfl⟩; subst hEq
    obtain ⟨pa, hEq⟩ : ∃ p, p = pz := ⟨_, rfl⟩; subst hEq
    have hcp : CsP 2 r xs [⟨pr, 0, n, ys⟩, ⟨pr, 0, n, ys⟩] (1 + x) := ⟨⟨hvr, by simp, by omega, by omega⟩, fun z hz => by
      have e : z = ⟨pr, 0, n, ys⟩ := by
        rcases List.mem_cons.1 hz with h | h
        · exact h
        · exact List.mem_singleton.1 h
      subst e; exact hbp⟩
    have hzc : zs.length = c := by rw [← hc, ← hzs, List.length_map]
    have g0 : ([(c : Int), (c : Int)]).getD 0 0 = c := rfl
    have g1 : ([(c : Int), (c : Int)]).getD 1 0 = c := rfl
    refine A_callM rfl rfl (fun s H => c_cshYes (h := hcp)) ?_
    rintro _ _ ⟨pz, rfl, rfl⟩
    simp only [hcs]
    repeat' (first
 | refine A_go rfl ?_ | refine A_ifT rfl rfl ?_ | refine A_ifF rfl rfl ?_
 | refine A_offP rfl rfl ?_ | refine A_offH rfl rfl ?_ | refine A_off0 rfl rfl ?_
 | refine A_add rfl rfl rfl (by omega) ?_ | refine A_sub rfl rfl rfl (by omega) ?_ | refine A_mul rfl rfl rfl (by omega) ?_
 | ((first | refine A_lt rfl rfl rfl ?_ ?_ | refine A_gt rfl rfl rfl ?_ ?_ | refine A_ge rfl rfl rfl ?_ ?_ | refine A_eq rfl rfl rfl ?_ ?_ | refine A_ne rfl rfl rfl ?_ ?_ | refine A_beq rfl rfl rfl ?_ ?_) <;> intro hc <;> try first | contradiction | (exfalso; omega) | exact absurd rfl hc)
 | refine A_idxN1 rfl rfl rfl (by omega) ?_ | refine A_idx1 rfl rfl rfl (by omega) ?_
 | refine A_fld rfl rfl ?_ | refine A_p (by rfl) rfl ?_
 | refine A_ldI rfl (by first | omega | (simp; done) | (simp; omega)) rfl ?_ | refine A_ldB rfl (by first | omega | (simp; done) | (simp; omega)) rfl ?_ | refine A_ld rfl (by rfl) rfl ?_
 | refine A_ldW rfl (by simp) rfl ?_
 | refine A_stW rfl rfl (by simp) rfl ?_
 | ((first | refine A_alloc rfl ?_ | refine A_bld1 rfl rfl ?_ | refine A_bld2 rfl rfl rfl ?_ | refine A_bld4 rfl rfl rfl rfl rfl ?_) <;> intro pz hpz)
 | refine A_bld0 rfl ?_
 | (refine A_app rfl rfl rfl (by first | omega | (simp; done) | (simp; omega)) (by first | omega | (simp; done) | (simp; omega)) (by omega) ?_; intro pz) | (refine A_appN (enc := ic) rfl (by decide) rfl rfl (by first | omega | (simp; done) | (simp; omega)) (by omega) ?_; intro pz)
 | refine A_chk1 rfl rfl rfl ?_ | refine A_chk2 rfl rfl rfl rfl ?_ | refine A_chk3 rfl rfl rfl rfl rfl ?_ | refine A_chk4 rfl rfl rfl rfl rfl rfl ?_ | refine A_chkI rfl (by assumption) rfl (by simp) ?_
 | refine A_ret1 rfl (by exact (RP.t rfl RP.nil)) ?_)
    refine A_subL (L' := (p6, .rw 27 3 [ic 2, ic r, .sl pt 0 xs.length]) :: (pt, ints xs) :: (pr, ints ys) :: (pf, ints (fbR 2 r xs ys)) :: (pa, orow zs) :: mobs zs) ?_
    refine A_to (k2 := .thn (blc (tlc 12 (L3).body)) (BkK 13)) rfl ?_
    exact bk_loop (hfr := rfl) hr hvr hrg hyl (by omega) hok hzs (by omega)
  · rw [decide_eq_false hc0] at ht
    repeat' (first
 | refine A_go rfl ?_ | refine A_ifT rfl rfl ?_ | refine A_ifF rfl rfl ?_
 | refine A_offP rfl rfl ?_ | refine A_offH rfl rfl ?_ | refine A_off0 rfl rfl ?_
 | refine A_add rfl rfl rfl (by omega) ?_ | refine A_sub rfl rfl rfl (by omega) ?_ | refine A_mul rfl rfl rfl (by omega) ?_
 | ((first | refine A_lt rfl rfl rfl ?_ ?_ | refine A_gt rfl rfl rfl ?_ ?_ | refine A_ge rfl rfl rfl ?_ ?_ | refine A_eq rfl rfl rfl ?_ ?_ | refine A_ne rfl rfl rfl ?_ ?_ | refine A_beq rfl rfl rfl ?_ ?_) <;> intro hc <;> try first | contradiction | (exfalso; omega) | exact absurd rfl hc)
 | refine A_idxN1 rfl rfl rfl (by omega) ?_ | refine A_idx1 rfl rfl rfl (by omega) ?_
 | refine A_callV rfl rfl (fun s H => c_cntYes (ys := ys) (h := hbp)) ?_
 | simp only [hcr]
 | (refine A_callM rfl rfl (fun s H => c_allYes (to := ys) (h := hab)) ?_; rintro _ _ ⟨pz, zs, rfl, hok, hzs, rfl⟩) | (refine A_callM0 rfl rfl (fun s H => c_allYes (to := ys) (h := hab)) ?_; rintro _ _ ⟨pz, zs, rfl, hok, hzs, rfl⟩)
 | (refine A_callM rfl rfl (fun s H => c_fstAny (t := false) (to := ys) (h := hbp) (ht := ht)) ?_; rintro _ _ ⟨pz, rfl, rfl⟩) | (refine A_callM0 rfl rfl (fun s H => c_fstAny (t := false) (to := ys) (h := hbp) (ht := ht)) ?_; rintro _ _ ⟨pz, rfl, rfl⟩)
 | (refine A_bld2 (enc := rc) (a := ⟨_, _, _, ys⟩) (c := ⟨_, _, _, ys⟩) rfl rfl rfl ?_ <;> intro pz hpz)
 | (refine A_callM rfl rfl (fun s H => c_b10At (hl := l1) (hr := c1)) ?_; rintro _ _ ⟨⟨x, rfl, hx⟩, rfl⟩) | (refine A_callM0 rfl rfl (fun s H => c_b10At (hl := l1) (hr := c1)) ?_; rintro _ _ ⟨⟨x, rfl, hx⟩, rfl⟩)
 | refine A_fld rfl rfl ?_ | refine A_p (by rfl) rfl ?_
 | refine A_ldI rfl (by first | omega | (simp; done) | (simp; omega)) rfl ?_ | refine A_ldB rfl (by first | omega | (simp; done) | (simp; omega)) rfl ?_ | refine A_ld rfl (by rfl) rfl ?_
 | refine A_ldW rfl (by simp) rfl ?_
 | refine A_stW rfl rfl (by simp) rfl ?_
 | ((first | refine A_alloc rfl ?_ | refine A_bld1 rfl rfl ?_ | refine A_bld2 rfl rfl rfl ?_ | refine A_bld4 rfl rfl rfl rfl rfl ?_) <;> intro pz hpz)
 | refine A_bld0 rfl ?_
 | (refine A_app rfl rfl rfl (by first | omega | (simp; done) | (simp; omega)) (by first | omega | (simp; done) | (simp; omega)) (by omega) ?_; intro pz) | (refine A_appN (enc := ic) rfl (by decide) rfl rfl (by first | omega | (simp; done) | (simp; omega)) (by omega) ?_; intro pz)
 | refine A_chk1 rfl rfl rfl ?_ | refine A_chk2 rfl rfl rfl rfl ?_ | refine A_chk3 rfl rfl rfl rfl rfl ?_ | refine A_chk4 rfl rfl rfl rfl rfl rfl ?_ | refine A_chkI rfl (by assumption) rfl (by simp) ?_
 | refine A_ret1 rfl (by exact (RP.t rfl RP.nil)) ?_)
    obtain ⟨psh, hEq⟩ : ∃ p, p = pz := ⟨_, rfl⟩; subst hEq
    obtain ⟨pf, hEq⟩ : ∃ p, p = pz := ⟨_, rfl⟩; subst hEq
    obtain ⟨pa, hEq⟩ : ∃ p, p = pz := ⟨_, rfl⟩; subst hEq
    have hcp : CsP 2 r xs [⟨pr, 0, n, ys⟩, ⟨pr, 0, n, ys⟩] (1 + x) := ⟨⟨hvr, by simp, by omega, by omega⟩, fun z hz => by
      have e : z = ⟨pr, 0, n, ys⟩ := by
        rcases List.mem_cons.1 hz with h | h
        · exact h
        · exact List.mem_singleton.1 h
      subst e; exact hbp⟩
    have hzc : zs.length = c := by rw [← hc, ← hzs, List.length_map]
    have g0 : ([(c : Int), (c : Int)]).getD 0 0 = c := rfl
    have g1 : ([(c : Int), (c : Int)]).getD 1 0 = c := rfl
    refine A_callM rfl rfl (fun s H => c_cshYes (h := hcp)) ?_
    rintro _ _ ⟨pz, rfl, rfl⟩
    simp only [hcs]
    repeat' (first
 | refine A_go rfl ?_ | refine A_ifT rfl rfl ?_ | refine A_ifF rfl rfl ?_
 | refine A_offP rfl rfl ?_ | refine A_offH rfl rfl ?_ | refine A_off0 rfl rfl ?_
 | refine A_add rfl rfl rfl (by omega) ?_ | refine A_sub rfl rfl rfl (by omega) ?_ | refine A_mul rfl rfl rfl (by omega) ?_
 | ((first | refine A_lt rfl rfl rfl ?_ ?_ | refine A_gt rfl rfl rfl ?_ ?_ | refine A_ge rfl rfl rfl ?_ ?_ | refine A_eq rfl rfl rfl ?_ ?_ | refine A_ne rfl rfl rfl ?_ ?_ | refine A_beq rfl rfl rfl ?_ ?_) <;> intro hc <;> try first | contradiction | (exfalso; omega) | exact absurd rfl hc)
 | refine A_idxN1 rfl rfl rfl (by omega) ?_ | refine A_idx1 rfl rfl rfl (by omega) ?_
 | refine A_fld rfl rfl ?_ | refine A_p (by rfl) rfl ?_
 | refine A_ldI rfl (by first | omega | (simp; done) | (simp; omega)) rfl ?_ | refine A_ldB rfl (by first | omega | (simp; done) | (simp; omega)) rfl ?_ | refine A_ld rfl (by rfl) rfl ?_
 | refine A_ldW rfl (by simp) rfl ?_
 | refine A_stW rfl rfl (by simp) rfl ?_
 | ((first | refine A_alloc rfl ?_ | refine A_bld1 rfl rfl ?_ | refine A_bld2 rfl rfl rfl ?_ | refine A_bld4 rfl rfl rfl rfl rfl ?_) <;> intro pz hpz)
 | refine A_bld0 rfl ?_
 | (refine A_app rfl rfl rfl (by first | omega | (simp; done) | (simp; omega)) (by first | omega | (simp; done) | (simp; omega)) (by omega) ?_; intro pz) | (refine A_appN (enc := ic) rfl (by decide) rfl rfl (by first | omega | (simp; done) | (simp; omega)) (by omega) ?_; intro pz)
 | refine A_chk1 rfl rfl rfl ?_ | refine A_chk2 rfl rfl rfl rfl ?_ | refine A_chk3 rfl rfl rfl rfl rfl ?_ | refine A_chk4 rfl rfl rfl rfl rfl rfl ?_ | refine A_chkI rfl (by assumption) rfl (by simp) ?_
 | refine A_ret1 rfl (by exact (RP.t rfl RP.nil)) ?_)
    refine A_subL (L' := (p6, .rw 27 3 [ic 2, ic r, .sl pt 0 xs.length]) :: (pt, ints xs) :: (pr, ints ys) :: (pf, ints (fbR 2 r xs ys)) :: (pa, orow zs) :: mobs zs) ?_
    refine A_to (k2 := .thn (blc (tlc 12 (L3).body)) (BkK 13)) rfl ?_
    exact bk_loop (hfr := rfl) hr hvr hrg hyl (by omega) hok hzs (by omega)

end Go.Proofs.Ytlmbgaoeplffkaa
