/- The law FnBlocks runs to true. -/
import Derived.Test.YtlhidckolillaaaXblkT2
import Derived.Test.YtlhidckolillaaaFB
namespace Go.Proofs.Ytlhidckolillaaa
open Go Go.RowKit
set_option linter.unusedVariables false
set_option linter.unusedSimpArgs false
set_option maxRecDepth 100000
set_option maxHeartbeats 8000000


theorem c_FnBlocks {s : St} [Wf s] {i0 o0 n0 i1 o1 n1 : Nat} {x0 x1 : List Int} (h0 : ArgE ub s i0 o0 x0) (l0 : x0.length = n0) (b0 : ∀ n ∈ x0, (Lit.int .u8 n).wf = true) (u0 : n0 ≤ 9223372036854775807) (h1 : ArgE ub s i1 o1 x1) (l1 : x1.length = n1) (b1 : ∀ n ∈ x1, (Lit.int .u8 n).wf = true) (u1 : n1 ≤ 9223372036854775807) :
    FnV 5 [.c (.sl i0 o0 n0), .c (.sl i1 o1 n1)] s (bv true) := by
  have c0 := wfU8 b0
  have c1 := wfU8 b1
  refine F_start code5 ?_
  by_cases hlong : 48 < n0 ∨ 48 < n1
  · repeat' (first
 | refine A_go rfl ?_ | refine A_ifT rfl rfl ?_ | refine A_ifF rfl rfl ?_
 | refine A_offP rfl rfl ?_ | refine A_offH rfl rfl ?_ | refine A_off0 rfl rfl ?_
 | refine A_add rfl rfl rfl (by omega) ?_ | refine A_sub rfl rfl rfl (by omega) ?_ | refine A_mul rfl rfl rfl (by omega) ?_ | refine A_rem rfl rfl rfl (by omega) ?_ | refine A_remT rfl rfl rfl (by omega) ?_
 | ((first | refine A_lt rfl rfl rfl ?_ ?_ | refine A_gt rfl rfl rfl ?_ ?_ | refine A_ge rfl rfl rfl ?_ ?_ | refine A_eq rfl rfl rfl ?_ ?_ | refine A_ne rfl rfl rfl ?_ ?_) <;> intro hc <;> try first | contradiction | (exfalso; omega) | exact absurd rfl hc)
 | refine A_idxN1 rfl rfl rfl (by omega) ?_ | refine A_idx1 rfl rfl rfl (by omega) ?_
 | (refine A_callB rfl rfl (fun s H => c_r8Long) ?_ ?_ <;> intro hc <;> try first | contradiction | (exfalso; omega) | exact absurd rfl hc | exact absurd (And.intro rfl rfl) hc | exact absurd (And.intro rfl (And.intro rfl rfl)) hc | exact absurd (Eq.trans (by assumption) (Eq.symm (by assumption))) hc)
 | refine A_fld rfl rfl ?_ | refine A_mk3 rfl rfl rfl rfl ?_ | refine A_mk23 rfl rfl rfl ?_ | refine A_mk2 rfl rfl rfl ?_ | refine A_mk13 rfl rfl ?_ | refine A_p (by rfl) rfl ?_
 | refine A_ldI rfl (by first | omega | (simp; done) | (simp; omega)) rfl ?_ | refine A_ldB rfl (by first | omega | (simp; done) | (simp; omega)) rfl ?_ | refine A_ld rfl (by rfl) rfl ?_
 | refine A_ldW rfl (by simp) rfl ?_
 | refine A_stW rfl rfl (by simp) rfl ?_
 | ((first | refine A_alloc rfl ?_ | refine A_bld1 rfl rfl ?_ | refine A_bld2 rfl rfl rfl ?_ | refine A_bld4 rfl rfl rfl rfl rfl ?_) <;> intro pz hpz)
 | refine A_bld0 rfl ?_
 | refine A_ret1 rfl (by exact (RP.t rfl RP.nil)) ?_)
    exact R_v rfl
  repeat' (first
 | refine A_go rfl ?_ | refine A_ifT rfl rfl ?_ | refine A_ifF rfl rfl ?_
 | refine A_offP rfl rfl ?_ | refine A_offH rfl rfl ?_ | refine A_off0 rfl rfl ?_
 | refine A_add rfl rfl rfl (by omega) ?_ | refine A_sub rfl rfl rfl (by omega) ?_ | refine A_mul rfl rfl rfl (by omega) ?_ | refine A_rem rfl rfl rfl (by omega) ?_ | refine A_remT rfl rfl rfl (by omega) ?_
 | ((first | refine A_lt rfl rfl rfl ?_ ?_ | refine A_gt rfl rfl rfl ?_ ?_ | refine A_ge rfl rfl rfl ?_ ?_ | refine A_eq rfl rfl rfl ?_ ?_ | refine A_ne rfl rfl rfl ?_ ?_) <;> intro hc <;> try first | contradiction | (exfalso; omega) | exact absurd rfl hc)
 | refine A_idxN1 rfl rfl rfl (by omega) ?_ | refine A_idx1 rfl rfl rfl (by omega) ?_
 | (refine A_callB rfl rfl (fun s H => c_r8Long) ?_ ?_ <;> intro hc <;> try first | contradiction | (exfalso; omega) | exact absurd rfl hc | exact absurd (And.intro rfl rfl) hc | exact absurd (And.intro rfl (And.intro rfl rfl)) hc | exact absurd (Eq.trans (by assumption) (Eq.symm (by assumption))) hc)
 | (refine A_callM rfl rfl (fun s H => c_R8Table (hl := l0) (hr := c0)) ?_; rintro _ _ ⟨pz, tab, rfl, htn, rfl⟩) | (refine A_callM0 rfl rfl (fun s H => c_R8Table (hl := l0) (hr := c0)) ?_; rintro _ _ ⟨pz, tab, rfl, htn, rfl⟩)
 | refine A_fld rfl rfl ?_ | refine A_mk3 rfl rfl rfl rfl ?_ | refine A_mk23 rfl rfl rfl ?_ | refine A_mk2 rfl rfl rfl ?_ | refine A_mk13 rfl rfl ?_ | refine A_p (by rfl) rfl ?_
 | refine A_ldI rfl (by first | omega | (simp; done) | (simp; omega)) rfl ?_ | refine A_ldB rfl (by first | omega | (simp; done) | (simp; omega)) rfl ?_ | refine A_ld rfl (by rfl) rfl ?_
 | refine A_ldW rfl (by simp) rfl ?_
 | refine A_stW rfl rfl (by simp) rfl ?_
 | ((first | refine A_alloc rfl ?_ | refine A_bld1 rfl rfl ?_ | refine A_bld2 rfl rfl rfl ?_ | refine A_bld4 rfl rfl rfl rfl rfl ?_) <;> intro pz hpz)
 | refine A_bld0 rfl ?_
 | refine A_ret1 rfl (by exact (RP.t rfl RP.nil)) ?_)
  obtain ⟨ptab, hEq⟩ : ∃ p, p = pz := ⟨_, rfl⟩; subst hEq
  have h16 := htn.1
  have ht2 := bak_turn htn
  have ebb := bak_bak htn
  repeat' (first
 | refine A_go rfl ?_ | refine A_ifT rfl rfl ?_ | refine A_ifF rfl rfl ?_
 | refine A_offP rfl rfl ?_ | refine A_offH rfl rfl ?_ | refine A_off0 rfl rfl ?_
 | refine A_add rfl rfl rfl (by omega) ?_ | refine A_sub rfl rfl rfl (by omega) ?_ | refine A_mul rfl rfl rfl (by omega) ?_ | refine A_rem rfl rfl rfl (by omega) ?_ | refine A_remT rfl rfl rfl (by omega) ?_
 | ((first | refine A_lt rfl rfl rfl ?_ ?_ | refine A_gt rfl rfl rfl ?_ ?_ | refine A_ge rfl rfl rfl ?_ ?_ | refine A_eq rfl rfl rfl ?_ ?_ | refine A_ne rfl rfl rfl ?_ ?_) <;> intro hc <;> try first | contradiction | (exfalso; omega) | exact absurd rfl hc)
 | refine A_idxN1 rfl rfl rfl (by omega) ?_ | refine A_idx1 rfl rfl rfl (by omega) ?_
 | (refine A_callM rfl rfl (fun s H => c_bakOk) ?_; rintro _ _ ⟨pz, rfl, rfl⟩) | (refine A_callM0 rfl rfl (fun s H => c_bakOk) ?_; rintro _ _ ⟨pz, rfl, rfl⟩)
 | (refine A_callM rfl rfl (fun s H => c_r8At (hl := l1) (hr := c1)) ?_; rintro _ _ ⟨⟨x, rfl, hx⟩, rfl⟩) | (refine A_callM0 rfl rfl (fun s H => c_r8At (hl := l1) (hr := c1)) ?_; rintro _ _ ⟨⟨x, rfl, hx⟩, rfl⟩)
 | refine A_fld rfl rfl ?_ | refine A_mk3 rfl rfl rfl rfl ?_ | refine A_mk23 rfl rfl rfl ?_ | refine A_mk2 rfl rfl rfl ?_ | refine A_mk13 rfl rfl ?_ | refine A_p (by rfl) rfl ?_
 | refine A_ldI rfl (by first | omega | (simp; done) | (simp; omega)) rfl ?_ | refine A_ldB rfl (by first | omega | (simp; done) | (simp; omega)) rfl ?_ | refine A_ld rfl (by rfl) rfl ?_
 | refine A_ldW rfl (by simp) rfl ?_
 | refine A_stW rfl rfl (by simp) rfl ?_
 | ((first | refine A_alloc rfl ?_ | refine A_bld1 rfl rfl ?_ | refine A_bld2 rfl rfl rfl ?_ | refine A_bld4 rfl rfl rfl rfl rfl ?_) <;> intro pz hpz)
 | refine A_bld0 rfl ?_
 | refine A_ret1 rfl (by exact (RP.t rfl RP.nil)) ?_)
  rename_i xr hxr
  rw [ebb]
  have hbl : (bak tab 16).length = 16 := bak_len 16
  have ebk := fun (R C : Nat) (xs : List Int) (f : Int) (hp : PL R C xs) (hR : (R : Int) % 2 = 0 ∧ 0 < R) (hC : (C : Int) % 2 = 0 ∧ 0 < C) (hl : xs.length = R * C) => blk_back (f := f) hp htn hR hC hl
  clear ebb
  generalize bak tab 16 = bk at *
  obtain ⟨R, hR⟩ : ∃ R : Nat, 2 + 2 * xr = R := ⟨(2 + 2 * xr).toNat, by omega⟩
  obtain ⟨C, hC⟩ : ∃ C : Nat, 2 + 2 * x = C := ⟨(2 + 2 * x).toNat, by omega⟩
  rw [hC, hR]
  have hR6 : (2 ≤ R ∧ R ≤ 6) ∧ (R : Int) % 2 = 0 := by omega
  have hC6 : (2 ≤ C ∧ C ≤ 6) ∧ (C : Int) % 2 = 0 := by omega
  clear hxr hx hR hC
  obtain ⟨⟨hR6, hR2⟩, hC6, hC2⟩ := And.intro hR6 hC6
  have hRC : R * C ≤ 36 := Nat.mul_le_mul hR6.2 hC6.2
  repeat' (first
 | refine A_go rfl ?_ | refine A_ifT rfl rfl ?_ | refine A_ifF rfl rfl ?_
 | refine A_offP rfl rfl ?_ | refine A_offH rfl rfl ?_ | refine A_off0 rfl rfl ?_
 | refine A_add rfl rfl rfl (by omega) ?_ | refine A_sub rfl rfl rfl (by omega) ?_ | refine A_mul rfl rfl rfl (by omega) ?_ | refine A_rem rfl rfl rfl (by omega) ?_ | refine A_remT rfl rfl rfl (by omega) ?_
 | ((first | refine A_lt rfl rfl rfl ?_ ?_ | refine A_gt rfl rfl rfl ?_ ?_ | refine A_ge rfl rfl rfl ?_ ?_ | refine A_eq rfl rfl rfl ?_ ?_ | refine A_ne rfl rfl rfl ?_ ?_) <;> intro hc <;> try first | contradiction | (exfalso; omega) | exact absurd rfl hc)
 | refine A_idxN1 rfl rfl rfl (by omega) ?_ | refine A_idx1 rfl rfl rfl (by omega) ?_
 | (refine A_callM rfl rfl (fun s H => c_R8Field (ys := x1) (hl := l1) (hr := c1)) ?_; rintro _ _ ⟨pz, xs, rfl, hv, hxm, rfl⟩) | (refine A_callM0 rfl rfl (fun s H => c_R8Field (ys := x1) (hl := l1) (hr := c1)) ?_; rintro _ _ ⟨pz, xs, rfl, hv, hxm, rfl⟩)
 | refine A_fld rfl rfl ?_ | refine A_mk3 rfl rfl rfl rfl ?_ | refine A_mk23 rfl rfl rfl ?_ | refine A_mk2 rfl rfl rfl ?_ | refine A_mk13 rfl rfl ?_ | refine A_p (by rfl) rfl ?_
 | refine A_ldI rfl (by first | omega | (simp; done) | (simp; omega)) rfl ?_ | refine A_ldB rfl (by first | omega | (simp; done) | (simp; omega)) rfl ?_ | refine A_ld rfl (by rfl) rfl ?_
 | refine A_ldW rfl (by simp) rfl ?_
 | refine A_stW rfl rfl (by simp) rfl ?_
 | ((first | refine A_alloc rfl ?_ | refine A_bld1 rfl rfl ?_ | refine A_bld2 rfl rfl rfl ?_ | refine A_bld4 rfl rfl rfl rfl rfl ?_) <;> intro pz hpz)
 | refine A_bld0 rfl ?_
 | refine A_ret1 rfl (by exact (RP.t rfl RP.nil)) ?_)
  have hp : PL R C xs := ⟨hv, fun y hy => by have := hxm y hy; omega⟩
  have hxl := hp.len
  refine A_callM rfl rfl (fun s H => c_r8At (hl := l1) (hr := c1)) ?_
  rintro _ _ ⟨⟨x, rfl, hx⟩, rfl⟩
  refine A_eqD rfl rfl rfl ?_
  intro odd hodd
  refine A_p (by rfl) rfl ?_
  obtain ⟨f, hf⟩ : ∃ f : Int, (if odd = true then (1 : Int) else 0) = f := ⟨_, rfl⟩
  have hpb := blk_pl (tab := tab) (f := f) hp
  have eback := ebk R C xs f hp ⟨hR2, by omega⟩ ⟨hC2, by omega⟩ hxl
  clear ebk hodd
  repeat' (first
 | refine A_go rfl ?_ | refine A_ifT rfl rfl ?_ | refine A_ifF rfl rfl ?_
 | refine A_offP rfl rfl ?_ | refine A_offH rfl rfl ?_ | refine A_off0 rfl rfl ?_
 | refine A_add rfl rfl rfl (by omega) ?_ | refine A_sub rfl rfl rfl (by omega) ?_ | refine A_mul rfl rfl rfl (by omega) ?_ | refine A_rem rfl rfl rfl (by omega) ?_ | refine A_remT rfl rfl rfl (by omega) ?_
 | ((first | refine A_lt rfl rfl rfl ?_ ?_ | refine A_gt rfl rfl rfl ?_ ?_ | refine A_ge rfl rfl rfl ?_ ?_ | refine A_eq rfl rfl rfl ?_ ?_ | refine A_ne rfl rfl rfl ?_ ?_) <;> intro hc <;> try first | contradiction | (exfalso; omega) | exact absurd rfl hc)
 | refine A_idxN1 rfl rfl rfl (by omega) ?_ | refine A_idx1 rfl rfl rfl (by omega) ?_
 | (refine A_callM rfl rfl (fun s H => c_blkOk (f := f) (hf := hf) (h2 := ⟨hR2, hC2⟩)) ?_; rintro _ _ ⟨pz, rfl, rfl⟩) | (refine A_callM0 rfl rfl (fun s H => c_blkOk (f := f) (hf := hf) (h2 := ⟨hR2, hC2⟩)) ?_; rintro _ _ ⟨pz, rfl, rfl⟩)
 | refine A_fld rfl rfl ?_ | refine A_mk3 rfl rfl rfl rfl ?_ | refine A_mk23 rfl rfl rfl ?_ | refine A_mk2 rfl rfl rfl ?_ | refine A_mk13 rfl rfl ?_ | refine A_p (by rfl) rfl ?_
 | refine A_ldI rfl (by first | omega | (simp; done) | (simp; omega)) rfl ?_ | refine A_ldB rfl (by first | omega | (simp; done) | (simp; omega)) rfl ?_ | refine A_ld rfl (by rfl) rfl ?_
 | refine A_ldW rfl (by simp) rfl ?_
 | refine A_stW rfl rfl (by simp) rfl ?_
 | ((first | refine A_alloc rfl ?_ | refine A_bld1 rfl rfl ?_ | refine A_bld2 rfl rfl rfl ?_ | refine A_bld4 rfl rfl rfl rfl rfl ?_) <;> intro pz hpz)
 | refine A_bld0 rfl ?_
 | refine A_ret1 rfl (by exact (RP.t rfl RP.nil)) ?_)
  repeat' (first
 | refine A_go rfl ?_ | refine A_ifT rfl rfl ?_ | refine A_ifF rfl rfl ?_
 | refine A_offP rfl rfl ?_ | refine A_offH rfl rfl ?_ | refine A_off0 rfl rfl ?_
 | refine A_add rfl rfl rfl (by omega) ?_ | refine A_sub rfl rfl rfl (by omega) ?_ | refine A_mul rfl rfl rfl (by omega) ?_ | refine A_rem rfl rfl rfl (by omega) ?_ | refine A_remT rfl rfl rfl (by omega) ?_
 | ((first | refine A_lt rfl rfl rfl ?_ ?_ | refine A_gt rfl rfl rfl ?_ ?_ | refine A_ge rfl rfl rfl ?_ ?_ | refine A_eq rfl rfl rfl ?_ ?_ | refine A_ne rfl rfl rfl ?_ ?_) <;> intro hc <;> try first | contradiction | (exfalso; omega) | exact absurd rfl hc)
 | refine A_idxN1 rfl rfl rfl (by omega) ?_ | refine A_idx1 rfl rfl rfl (by omega) ?_
 | refine A_callV rfl rfl (fun s H => c_turnOk2) ?_
 | refine A_callV rfl rfl (fun s H => c_sameOk) ?_
 | (refine A_callB rfl rfl (fun s H => c_r8Same (xs := tab) (ys := tab)) ?_ ?_ <;> intro hc <;> try first | contradiction | (exfalso; omega) | exact absurd rfl hc | exact absurd (And.intro rfl rfl) hc | exact absurd (And.intro rfl (And.intro rfl rfl)) hc | exact absurd (Eq.trans (by assumption) (Eq.symm (by assumption))) hc)
 | refine A_fld rfl rfl ?_ | refine A_mk3 rfl rfl rfl rfl ?_ | refine A_mk23 rfl rfl rfl ?_ | refine A_mk2 rfl rfl rfl ?_ | refine A_mk13 rfl rfl ?_ | refine A_p (by rfl) rfl ?_
 | refine A_ldI rfl (by first | omega | (simp; done) | (simp; omega)) rfl ?_ | refine A_ldB rfl (by first | omega | (simp; done) | (simp; omega)) rfl ?_ | refine A_ld rfl (by rfl) rfl ?_
 | refine A_ldW rfl (by simp) rfl ?_
 | refine A_stW rfl rfl (by simp) rfl ?_
 | ((first | refine A_alloc rfl ?_ | refine A_bld1 rfl rfl ?_ | refine A_bld2 rfl rfl rfl ?_ | refine A_bld4 rfl rfl rfl rfl rfl ?_) <;> intro pz hpz)
 | refine A_bld0 rfl ?_
 | refine A_ret1 rfl (by exact (RP.t rfl RP.nil)) ?_)
  obtain ⟨p14, hEq⟩ : ∃ p, p = pz := ⟨_, rfl⟩; subst hEq
  obtain ⟨pu, hEq⟩ : ∃ p, p = pz := ⟨_, rfl⟩; subst hEq
  obtain ⟨p12, hEq⟩ : ∃ p, p = pz := ⟨_, rfl⟩; subst hEq
  obtain ⟨pst, hEq⟩ : ∃ p, p = pz := ⟨_, rfl⟩; subst hEq
  obtain ⟨p10, hEq⟩ : ∃ p, p = pz := ⟨_, rfl⟩; subst hEq
  obtain ⟨pfa, hEq⟩ : ∃ p, p = pz := ⟨_, rfl⟩; subst hEq
  have hpl : Turn (cntI 16) := Turn.of Prm.start.len Prm.start.rng Prm.start.inj
  have hcl : (cntI 16).length = 16 := cntI_len
  have esame := blk_same (tab := cntI 16) (f := f) hp (fun n hn => cntI_get hn) ⟨hR2, by omega⟩ ⟨hC2, by omega⟩ hxl
  refine A_bldC (cs := (cntI 16).map ic) (by decide) rfl rfl ?_
  intro pp hpp
  refine A_subL (L' := [(pp, ints (cntI 16)), (p10, .rw 26 3 (fld R C pfa (R * C))), (pfa, ints xs)]) ?_
  clear hpb eback
  generalize cntI 16 = pln at *
  repeat' (first
 | refine A_go rfl ?_ | refine A_ifT rfl rfl ?_ | refine A_ifF rfl rfl ?_
 | refine A_offP rfl rfl ?_ | refine A_offH rfl rfl ?_ | refine A_off0 rfl rfl ?_
 | refine A_add rfl rfl rfl (by omega) ?_ | refine A_sub rfl rfl rfl (by omega) ?_ | refine A_mul rfl rfl rfl (by omega) ?_ | refine A_rem rfl rfl rfl (by omega) ?_ | refine A_remT rfl rfl rfl (by omega) ?_
 | ((first | refine A_lt rfl rfl rfl ?_ ?_ | refine A_gt rfl rfl rfl ?_ ?_ | refine A_ge rfl rfl rfl ?_ ?_ | refine A_eq rfl rfl rfl ?_ ?_ | refine A_ne rfl rfl rfl ?_ ?_) <;> intro hc <;> try first | contradiction | (exfalso; omega) | exact absurd rfl hc)
 | refine A_idxN1 rfl rfl rfl (by omega) ?_ | refine A_idx1 rfl rfl rfl (by omega) ?_
 | (refine A_callM rfl rfl (fun s H => c_blkOk (tb := pln) (f := f) (hf := hf) (h2 := ⟨hR2, hC2⟩)) ?_; rintro _ _ ⟨pz, rfl, rfl⟩) | (refine A_callM0 rfl rfl (fun s H => c_blkOk (tb := pln) (f := f) (hf := hf) (h2 := ⟨hR2, hC2⟩)) ?_; rintro _ _ ⟨pz, rfl, rfl⟩)
 | (refine A_callM rfl rfl (fun s H => c_r8At (hl := l1) (hr := c1)) ?_; rintro _ _ ⟨⟨x, rfl, hx⟩, rfl⟩) | (refine A_callM0 rfl rfl (fun s H => c_r8At (hl := l1) (hr := c1)) ?_; rintro _ _ ⟨⟨x, rfl, hx⟩, rfl⟩)
 | refine A_fld rfl rfl ?_ | refine A_mk3 rfl rfl rfl rfl ?_ | refine A_mk23 rfl rfl rfl ?_ | refine A_mk2 rfl rfl rfl ?_ | refine A_mk13 rfl rfl ?_ | refine A_p (by rfl) rfl ?_
 | refine A_ldI rfl (by first | omega | (simp; done) | (simp; omega)) rfl ?_ | refine A_ldB rfl (by first | omega | (simp; done) | (simp; omega)) rfl ?_ | refine A_ld rfl (by rfl) rfl ?_
 | refine A_ldW rfl (by simp) rfl ?_
 | refine A_stW rfl rfl (by simp) rfl ?_
 | ((first | refine A_alloc rfl ?_ | refine A_bld1 rfl rfl ?_ | refine A_bld2 rfl rfl rfl ?_ | refine A_bld4 rfl rfl rfl rfl rfl ?_) <;> intro pz hpz)
 | refine A_bld0 rfl ?_
 | refine A_ret1 rfl (by exact (RP.t rfl RP.nil)) ?_)
  rename_i row hrow col hcol way hway
  obtain ⟨n, rfl⟩ : ∃ n : Nat, x = n := ⟨x.toNat, by omega⟩
  have hA : AntOk R C (xs, row, col, way) := ⟨hxl, hp.2, ⟨by omega, by omega⟩, ⟨by omega, by omega⟩, by omega, by omega⟩
  obtain ⟨⟨zs, wi, wk, we⟩, hen⟩ : ∃ A, antRun R C (xs, row, col, way) n = A := ⟨_, rfl⟩
  obtain ⟨⟨ns, wx, wy, wz⟩, he1⟩ : ∃ A, antRun R C (xs, row, col, way) 1 = A := ⟨_, rfl⟩
  repeat' (first
 | refine A_to (k2 := BlK 18) rfl (A_fr [10, 17, 18, 19, 20, 21, 22, 23, 24, 25, 26, 27, 28, 29, 30, 31, 32] rfl rfl (A_stop ?_))
 | refine A_go rfl ?_ | refine A_ifT rfl rfl ?_ | refine A_ifF rfl rfl ?_
 | refine A_offP rfl rfl ?_ | refine A_offH rfl rfl ?_ | refine A_off0 rfl rfl ?_
 | refine A_add rfl rfl rfl (by omega) ?_ | refine A_sub rfl rfl rfl (by omega) ?_ | refine A_mul rfl rfl rfl (by omega) ?_ | refine A_rem rfl rfl rfl (by omega) ?_ | refine A_remT rfl rfl rfl (by omega) ?_
 | ((first | refine A_lt rfl rfl rfl ?_ ?_ | refine A_gt rfl rfl rfl ?_ ?_ | refine A_ge rfl rfl rfl ?_ ?_ | refine A_eq rfl rfl rfl ?_ ?_ | refine A_ne rfl rfl rfl ?_ ?_) <;> intro hc <;> try first | contradiction | (exfalso; omega) | exact absurd rfl hc)
 | refine A_idxN1 rfl rfl rfl (by omega) ?_ | refine A_idx1 rfl rfl rfl (by omega) ?_
 | (refine A_callM rfl rfl (fun s H => c_antAt (n := n) (he := hen) (hst := rfl) (h := hA) (hp := hp) (hn := by omega)) ?_; rintro _ _ ⟨pz, rfl, rfl⟩) | (refine A_callM0 rfl rfl (fun s H => c_antAt (n := n) (he := hen) (hst := rfl) (h := hA) (hp := hp) (hn := by omega)) ?_; rintro _ _ ⟨pz, rfl, rfl⟩)
 | (refine A_callM rfl rfl (fun s H => c_antAt (n := 1) (he := he1) (hst := rfl) (h := hA) (hp := hp) (hn := by omega)) ?_; rintro _ _ ⟨pz, rfl, rfl⟩) | (refine A_callM0 rfl rfl (fun s H => c_antAt (n := 1) (he := he1) (hst := rfl) (h := hA) (hp := hp) (hn := by omega)) ?_; rintro _ _ ⟨pz, rfl, rfl⟩)
 | refine A_fld rfl rfl ?_ | refine A_mk3 rfl rfl rfl rfl ?_ | refine A_mk23 rfl rfl rfl ?_ | refine A_mk2 rfl rfl rfl ?_ | refine A_mk13 rfl rfl ?_ | refine A_p (by rfl) rfl ?_
 | refine A_ldI rfl (by first | omega | (simp; done) | (simp; omega)) rfl ?_ | refine A_ldB rfl (by first | omega | (simp; done) | (simp; omega)) rfl ?_ | refine A_ld rfl (by rfl) rfl ?_
 | refine A_ldW rfl (by simp) rfl ?_
 | refine A_stW rfl rfl (by simp) rfl ?_
 | ((first | refine A_alloc rfl ?_ | refine A_bld1 rfl rfl ?_ | refine A_bld2 rfl rfl rfl ?_ | refine A_bld4 rfl rfl rfl rfl rfl ?_) <;> intro pz hpz)
 | refine A_bld0 rfl ?_
 | refine A_ret1 rfl (by exact (RP.t rfl RP.nil)) ?_)
  obtain ⟨p28, hEq⟩ : ∃ p, p = pz := ⟨_, rfl⟩; subst hEq
  obtain ⟨pn, hEq⟩ : ∃ p, p = pz := ⟨_, rfl⟩; subst hEq
  obtain ⟨p23, hEq⟩ : ∃ p, p = pz := ⟨_, rfl⟩; subst hEq
  obtain ⟨pw, hEq⟩ : ∃ p, p = pz := ⟨_, rfl⟩; subst hEq
  obtain ⟨p17, hEq⟩ : ∃ p, p = pz := ⟨_, rfl⟩; subst hEq
  obtain ⟨ps, hEq⟩ : ∃ p, p = pz := ⟨_, rfl⟩; subst hEq
  rw [esame]
  refine ⟨A_subL (L' := AnL R C p10 pfa p17 ps p23 pw p28 pn xs zs ns) ?_⟩
  exact ants_end ⟨by omega, hR6.2⟩ ⟨by omega, hC6.2⟩ hp hA (by omega) hen he1

end Go.Proofs.Ytlhidckolillaaa
