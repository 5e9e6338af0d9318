/- What remains of the law FnHeaps behind its first loop. -/
import Derived.Test.YtckobcjjbpnkcaaXheapOk
import Derived.Test.YtckobcjjbpnkcaaXheapsP
import Derived.Test.YtckobcjjbpnkcaaXheapsQ
import Derived.Test.YtckobcjjbpnkcaaXheapsS
import Derived.Test.YtckobcjjbpnkcaaFB
namespace Go.Proofs.Ytckobcjjbpnkcaa
open Go Go.RowKit
set_option linter.unusedVariables false
set_option linter.unusedSimpArgs false
set_option maxRecDepth 100000
set_option maxHeartbeats 8000000


def opsOf : ACode → List AStep
  | .seq (.ops _ l) _ => l
  | _ => []
theorem near_nbs {R C a : Nat} {cl : List Int} {v : Int} (ha : Cin R C (a : Int)) : (∃ y ∈ nbs R C (a : Int), v = cat cl y) ↔ ((0 < (a : Int) % C ∧ v = cl.getD ((a : Int) - 1).toNat 0) ∨ ((a : Int) % C + 1 < C ∧ v = cl.getD ((a : Int) + 1).toNat 0) ∨ ((C : Int) ≤ a ∧ v = cl.getD ((a : Int) - C).toNat 0) ∨ ((a : Int) + C < (R : Int) * C ∧ v = cl.getD (a + C) 0)) := by
  constructor
  · rintro ⟨y, hy, e⟩
    rcases (nbs_mem ha).1 hy with ⟨g, rfl⟩ | ⟨g, rfl⟩ | ⟨g, rfl⟩ | ⟨g, rfl⟩
    · exact .inr (.inr (.inl ⟨g, e⟩))
    · exact .inr (.inr (.inr ⟨g, e⟩))
    · exact .inl ⟨g, e⟩
    · exact .inr (.inl ⟨g, e⟩)
  · rintro (⟨g, e⟩ | ⟨g, e⟩ | ⟨g, e⟩ | ⟨g, e⟩)
    · exact ⟨_, (nbs_mem ha).2 (.inr (.inr (.inl ⟨g, rfl⟩))), e⟩
    · exact ⟨_, (nbs_mem ha).2 (.inr (.inr (.inr ⟨g, rfl⟩))), e⟩
    · exact ⟨_, (nbs_mem ha).2 (.inl ⟨g, rfl⟩), e⟩
    · exact ⟨_, (nbs_mem ha).2 (.inr (.inl ⟨g, rfl⟩)), e⟩
theorem hp_tail {s : St} [Wf s] {i1 o1 n1 R C T : Nat} {x1 : List Int} {w188 w187 w186 w185 w184 w183 w182 w181 w180 w179 w178 w177 w146 w145 w144 w143 w142 w7 w9 w10 w24 w25 w26 : AV} (h1 : ArgE ub s i1 o1 x1) (l1 : x1.length = n1) (c1 : ∀ n ∈ x1, 0 ≤ n ∧ n ≤ 255) (hn1 : n1 ≤ 48) (hR5 : 1 ≤ R ∧ R ≤ 5) (hC5 : 1 ≤ C ∧ C ≤ 5) (hT : R * C = T) :
    At [] s [] ((opsOf (tlc 17 (L7).body)).drop 3) [] [(191, iv C), (190, iv R), (189, .c (.sl i1 o1 n1)), (188, w188), (187, w187), (186, w186), (185, w185), (184, w184), (183, w183), (182, w182), (181, w181), (180, w180), (179, w179), (178, w178), (177, w177), (146, w146), (145, w145), (144, w144), (143, w143), (142, w142), (1, .c (.sl i1 o1 n1)), (5, iv R), (6, iv C), (7, w7), (9, w9), (10, w10), (24, w24), (25, w25), (26, w26)] (.thn (tlc 18 (L7).body) (.ret [.t 4] fun r N => r = bv true ∧ N = [])) := by
  have hT25 : T ≤ 25 := by rw [← hT]; exact Nat.mul_le_mul hR5.2 hC5.2
  have hT1 : 1 ≤ T := by rw [← hT]; exact Nat.mul_pos hR5.1 hC5.1
  have eT : (R : Int) * C = T := by rw [← hT]; push_cast; rfl
  show At [] s [] [_, _, _] [] _ _
  repeat' (first
 | refine A_go rfl ?_ | refine A_ifT rfl rfl ?_ | refine A_ifF rfl rfl ?_ | refine A_offP rfl rfl ?_ | refine A_offH rfl rfl ?_ | refine A_off0 rfl rfl ?_
 | refine A_add rfl rfl rfl (by omega) ?_ | refine A_sub rfl rfl rfl (by omega) ?_ | refine A_mul rfl rfl rfl (by omega) ?_ | refine A_rem rfl rfl rfl (by omega) ?_ | refine A_remT rfl rfl rfl (by omega) ?_ | refine A_quo rfl rfl rfl (by omega) ?_
 | ((first | refine A_lt rfl rfl rfl ?_ ?_ | refine A_le rfl rfl rfl ?_ ?_ | refine A_gt rfl rfl rfl ?_ ?_ | refine A_ge rfl rfl rfl ?_ ?_ | refine A_eq rfl rfl rfl ?_ ?_ | refine A_ne rfl rfl rfl ?_ ?_ | refine A_beq rfl rfl rfl ?_ ?_) <;> intro hc <;> try first | contradiction | (exfalso; omega) | exact absurd rfl hc)
 | refine A_idxN1 rfl rfl rfl (by omega) ?_ | refine A_idx1 rfl rfl rfl (by omega) ?_ | refine A_idxArr1 rfl rfl rfl (by omega) ?_
 | (refine A_callM rfl rfl (fun s H => c_R8Field (ys := x1) (hl := l1) (hr := c1)) ?_; rintro _ _ ⟨pz, xs, rfl, hv, hxm, rfl⟩) | (refine A_callM0 rfl rfl (fun s H => c_R8Field (ys := x1) (hl := l1) (hr := c1)) ?_; rintro _ _ ⟨pz, xs, rfl, hv, hxm, rfl⟩)
 | refine A_fld rfl rfl ?_ | refine A_mk3 rfl rfl rfl rfl ?_ | refine A_mk23 rfl rfl rfl ?_ | refine A_mk2 rfl rfl rfl ?_ | refine A_mk13 rfl rfl ?_ | refine A_p (by rfl) rfl ?_
 | refine A_ldI rfl (by first | omega | (simp; done) | (simp; omega)) rfl ?_ | refine A_ldB rfl (by first | omega | (simp; done) | (simp; omega)) rfl ?_ | refine A_ld rfl (by rfl) rfl ?_ | refine A_ldW rfl (by simp) rfl ?_
 | refine A_st rfl rfl rfl ?_ | refine A_stW rfl rfl (by simp) rfl ?_ | refine A_stE rfl rfl (by first | omega | (simp; done) | (simp; omega)) rfl ?_
 | ((first | refine A_alloc rfl ?_ | refine A_box rfl rfl ?_ | refine A_boxC rfl rfl ?_ | refine A_makeN rfl rfl rfl (by omega) ?_ | refine A_make rfl rfl rfl (by omega) ?_ | refine A_bld1 rfl rfl ?_ | refine A_bld2 rfl rfl rfl ?_ | refine A_bld4 rfl rfl rfl rfl rfl ?_) <;> intro pz hpz)
 | refine A_bld0 rfl ?_ | (refine A_app rfl rfl rfl (by first | omega | (simp; done) | (simp; omega)) (by first | omega | (simp; done) | (simp; omega)) (by omega) ?_; intro pz) | (refine A_appN (enc := ic) rfl (by decide) rfl rfl (by first | omega | (simp; done) | (simp; omega)) (by omega) ?_; intro pz)
 | refine A_chk1 rfl rfl rfl ?_ | refine A_chk2 rfl rfl rfl rfl ?_ | refine A_chk3 rfl rfl rfl rfl rfl ?_ | refine A_chk4 rfl rfl rfl rfl rfl rfl ?_ | refine A_chkI rfl (by assumption) rfl (by simp) ?_
 | refine A_ret1 rfl (by first | exact (RP.t rfl RP.nil) | exact (RP.c rfl inferInstance rfl (by simp) RP.nil)) ?_ | refine A_ret rfl (by first | exact (RP.t rfl (RP.t rfl RP.nil)) | exact (RP.c rfl inferInstance rfl (by simp) (RP.t rfl RP.nil)) | exact (RP.t rfl (RP.t rfl (RP.t rfl RP.nil))) | exact (RP.c rfl inferInstance rfl (by simp) (RP.t rfl (RP.t rfl RP.nil))) | exact (RP.c rfl inferInstance rfl (by simp) (RP.t rfl (RP.t rfl (RP.t rfl (RP.t rfl RP.nil)))))) ?_ | refine A_ret0 rfl ?_)
  obtain ⟨p27, hEq⟩ : ∃ p, p = pz := ⟨_, rfl⟩; subst hEq
  obtain ⟨pW, hEq⟩ : ∃ p, p = pz := ⟨_, rfl⟩; subst hEq
  obtain ⟨lW, hRC, hR1, hC1⟩ := vf_rc hv
  rw [hT] at lW ⊢
  have cc : ∀ (l : List Int) (n : Nat), cat l (n : Int) = l.getD n 0 := fun l n => by rw [cat, Int.toNat_natCast]
  have hwd : ∀ n, xs.getD n 0 = 0 ∨ xs.getD n 0 = 1 := fun n => by
    by_cases h : n < xs.length
    · have := hxm _ (getD_mem (d := 0) h); omega
    · rw [List.getD_eq_getElem?_getD, List.getElem?_eq_none (by omega)]; exact .inl rfl
  obtain ⟨o1', o2', o3'⟩ := cluAll_ok (R := R) (C := C) (xs := xs) T (by omega)
  rw [hT] at o1'
  repeat' (first
 | refine A_go rfl ?_ | refine A_ifT rfl rfl ?_ | refine A_ifF rfl rfl ?_ | refine A_offP rfl rfl ?_ | refine A_offH rfl rfl ?_ | refine A_off0 rfl rfl ?_
 | refine A_add rfl rfl rfl (by omega) ?_ | refine A_sub rfl rfl rfl (by omega) ?_ | refine A_mul rfl rfl rfl (by omega) ?_ | refine A_rem rfl rfl rfl (by omega) ?_ | refine A_remT rfl rfl rfl (by omega) ?_ | refine A_quo rfl rfl rfl (by omega) ?_
 | ((first | refine A_lt rfl rfl rfl ?_ ?_ | refine A_le rfl rfl rfl ?_ ?_ | refine A_gt rfl rfl rfl ?_ ?_ | refine A_ge rfl rfl rfl ?_ ?_ | refine A_eq rfl rfl rfl ?_ ?_ | refine A_ne rfl rfl rfl ?_ ?_ | refine A_beq rfl rfl rfl ?_ ?_) <;> intro hc <;> try first | contradiction | (exfalso; omega) | exact absurd rfl hc)
 | refine A_idxN1 rfl rfl rfl (by omega) ?_ | refine A_idx1 rfl rfl rfl (by omega) ?_ | refine A_idxArr1 rfl rfl rfl (by omega) ?_
 | (refine A_callM rfl rfl (fun s H => c_cluYes (T := T) (hT := hT)) ?_; rintro _ _ ⟨pz, rfl, rfl⟩) | (refine A_callM0 rfl rfl (fun s H => c_cluYes (T := T) (hT := hT)) ?_; rintro _ _ ⟨pz, rfl, rfl⟩)
 | rw [eT]
 | (refine A_callM rfl rfl (fun s H => c_r8At (hl := l1) (hr := c1)) ?_; rintro _ _ ⟨⟨x, rfl, hx⟩, rfl⟩) | (refine A_callM0 rfl rfl (fun s H => c_r8At (hl := l1) (hr := c1)) ?_; rintro _ _ ⟨⟨x, rfl, hx⟩, rfl⟩)
 | refine A_fld rfl rfl ?_ | refine A_mk3 rfl rfl rfl rfl ?_ | refine A_mk23 rfl rfl rfl ?_ | refine A_mk2 rfl rfl rfl ?_ | refine A_mk13 rfl rfl ?_ | refine A_p (by rfl) rfl ?_
 | refine A_ldI rfl (by first | omega | (simp; done) | (simp; omega)) rfl ?_ | refine A_ldB rfl (by first | omega | (simp; done) | (simp; omega)) rfl ?_ | refine A_ld rfl (by rfl) rfl ?_ | refine A_ldW rfl (by simp) rfl ?_
 | refine A_st rfl rfl rfl ?_ | refine A_stW rfl rfl (by simp) rfl ?_ | refine A_stE rfl rfl (by first | omega | (simp; done) | (simp; omega)) rfl ?_
 | ((first | refine A_alloc rfl ?_ | refine A_box rfl rfl ?_ | refine A_boxC rfl rfl ?_ | refine A_makeN rfl rfl rfl (by omega) ?_ | refine A_make rfl rfl rfl (by omega) ?_ | refine A_bld1 rfl rfl ?_ | refine A_bld2 rfl rfl rfl ?_ | refine A_bld4 rfl rfl rfl rfl rfl ?_) <;> intro pz hpz)
 | refine A_bld0 rfl ?_ | (refine A_app rfl rfl rfl (by first | omega | (simp; done) | (simp; omega)) (by first | omega | (simp; done) | (simp; omega)) (by omega) ?_; intro pz) | (refine A_appN (enc := ic) rfl (by decide) rfl rfl (by first | omega | (simp; done) | (simp; omega)) (by omega) ?_; intro pz)
 | refine A_chk1 rfl rfl rfl ?_ | refine A_chk2 rfl rfl rfl rfl ?_ | refine A_chk3 rfl rfl rfl rfl rfl ?_ | refine A_chk4 rfl rfl rfl rfl rfl rfl ?_ | refine A_chkI rfl (by assumption) rfl (by simp) ?_
 | refine A_ret1 rfl (by first | exact (RP.t rfl RP.nil) | exact (RP.c rfl inferInstance rfl (by simp) RP.nil)) ?_ | refine A_ret rfl (by first | exact (RP.t rfl (RP.t rfl RP.nil)) | exact (RP.c rfl inferInstance rfl (by simp) (RP.t rfl RP.nil)) | exact (RP.t rfl (RP.t rfl (RP.t rfl RP.nil))) | exact (RP.c rfl inferInstance rfl (by simp) (RP.t rfl (RP.t rfl RP.nil))) | exact (RP.c rfl inferInstance rfl (by simp) (RP.t rfl (RP.t rfl (RP.t rfl (RP.t rfl RP.nil)))))) ?_ | refine A_ret0 rfl ?_)
  obtain ⟨q1, hEq⟩ : ∃ p, p = pz := ⟨_, rfl⟩; subst hEq
  obtain ⟨q2, hEq⟩ : ∃ p, p = pz := ⟨_, rfl⟩; subst hEq
  obtain ⟨pcl, hEq⟩ : ∃ p, p = pz := ⟨_, rfl⟩; subst hEq
  obtain ⟨a, rfl⟩ : ∃ a : Nat, x = a := ⟨x.toNat, by omega⟩
  have ha : a < T := by omega
  clear hx
  simp only [Int.toNat_natCast]
  obtain ⟨lit, hlit⟩ : ∃ lit, xs.set a 2 = lit := ⟨_, rfl⟩
  have llit : lit.length = T := by rw [← hlit]; simp [lW]
  have ec : ((R * C : Nat) : Int) = (R : Int) * C := by push_cast; rfl
  have hget : ∀ n, lit.getD n 0 = if a = n then 2 else xs.getD n 0 := fun n => by rw [← hlit, getD_set (by omega)]
  have vL : VF R C lit := ⟨by omega, by omega, by omega, fun y hy => by
    obtain ⟨j, hj, rfl⟩ := mem_get (d := 0) hy
    rw [hget]; have := hwd j; (split <;> omega)⟩
  have hca : Cin R C (a : Int) := ⟨by omega, by omega⟩
  have hL : Lit R C xs lit (a : Int) := ⟨hca, by rw [cc, hget, if_pos rfl], fun x hx hne => by
    obtain ⟨n, rfl⟩ : ∃ n : Nat, x = n := ⟨x.toNat, by have := hx.1; omega⟩
    rw [cc, cc, hget, if_neg (by omega)], fun x hx => by
    obtain ⟨n, rfl⟩ : ∃ n : Nat, x = n := ⟨x.toNat, by have := hx.1; omega⟩
    rw [cc]; exact hwd n⟩
  have llit2 : lit.length = R * C := by rw [llit, hT]
  have hend := burn_end (R := R) (C := C) llit2
  have ht1 : 0 < burnE R C lit := hend.2 (by
    have := getD_mem (d := 0) (show a < lit.length by omega)
    rw [hget, if_pos rfl] at this; exact this)
  have hbn := Bn.all hL (burnE R C lit)
  have hfin := hbn.end hL fun y hy g => hend.1 (by
    rw [← g]; exact getD_mem (by rw [burnN_len llit2]; have := hy.1; have := hy.2; omega))
  have hb0 : (burnN R C lit (burnE R C lit)).getD a 0 = 0 := by rw [← cc]; exact hfin.1
  have hs0 : (mk R C (burnV lit R C)).getD a 0 = 0 := by
    rw [← cc]; exact (burn_step (xs := lit) hca).2.2.1 hL.at_a
  have hnear : ∀ i : Nat, i < T → i ≠ a → xs.getD i 0 = 1 → ((burnN R C lit (burnE R C lit)).getD i 0 = 0 ↔ (xs.getD a 0 = 1 ∧ (cluAll R C xs T).1.getD i 0 = (cluAll R C xs T).1.getD a 0) ∨ (xs.getD a 0 = 0 ∧ ((0 < (a : Int) % C ∧ (cluAll R C xs T).1.getD i 0 = (cluAll R C xs T).1.getD ((a : Int) - 1).toNat 0) ∨ ((a : Int) % C + 1 < C ∧ (cluAll R C xs T).1.getD i 0 = (cluAll R C xs T).1.getD ((a : Int) + 1).toNat 0) ∨ ((C : Int) ≤ a ∧ (cluAll R C xs T).1.getD i 0 = (cluAll R C xs T).1.getD ((a : Int) - C).toNat 0) ∨ ((a : Int) + C < (R : Int) * C ∧ (cluAll R C xs T).1.getD i 0 = (cluAll R C xs T).1.getD (a + C) 0)))) := fun i hi hne hw => by
    have := near_iff hL llit2 (x := (i : Int)) ⟨by omega, by omega⟩ (by omega) (by rw [cc]; exact hw)
    rw [near_nbs hca, cc, cc, cc, cc, hT] at this; exact this
  have hnil : ∀ i, i < T → xs.getD i 0 = 0 → (burnN R C lit (burnE R C lit)).getD i 0 = 0 := fun i hi hw => by
    by_cases e : i = a
    · rw [e]; exact hb0
    · rw [← cc]; exact hbn.nil i ⟨by omega, by omega⟩ (by rw [cc, hget, if_neg (by omega)]; exact hw)
  have lBn : (burnN R C lit (burnE R C lit)).length = T := by rw [burnN_len llit2, hT]
  have lFs : (mk R C (burnV lit R C)).length = T := by rw [mk_len, hT]
  generalize hBs : burnN R C lit (burnE R C lit) = Bs at *
  rw [hlit]
  repeat' (first
 | refine A_go rfl ?_ | refine A_ifT rfl rfl ?_ | refine A_ifF rfl rfl ?_ | refine A_offP rfl rfl ?_ | refine A_offH rfl rfl ?_ | refine A_off0 rfl rfl ?_
 | refine A_add rfl rfl rfl (by omega) ?_ | refine A_sub rfl rfl rfl (by omega) ?_ | refine A_mul rfl rfl rfl (by omega) ?_ | refine A_rem rfl rfl rfl (by omega) ?_ | refine A_remT rfl rfl rfl (by omega) ?_ | refine A_quo rfl rfl rfl (by omega) ?_
 | ((first | refine A_lt rfl rfl rfl ?_ ?_ | refine A_le rfl rfl rfl ?_ ?_ | refine A_gt rfl rfl rfl ?_ ?_ | refine A_ge rfl rfl rfl ?_ ?_ | refine A_eq rfl rfl rfl ?_ ?_ | refine A_ne rfl rfl rfl ?_ ?_ | refine A_beq rfl rfl rfl ?_ ?_) <;> intro hc <;> try first | contradiction | (exfalso; omega) | exact absurd rfl hc)
 | refine A_idxN1 rfl rfl rfl (by omega) ?_ | refine A_idx1 rfl rfl rfl (by omega) ?_ | refine A_idxArr1 rfl rfl rfl (by omega) ?_
 | (refine A_callM rfl rfl (fun s H => c_burnOk (T := T) (hT := hT)) ?_; rintro _ _ ⟨pz, rfl, rfl⟩) | (refine A_callM0 rfl rfl (fun s H => c_burnOk (T := T) (hT := hT)) ?_; rintro _ _ ⟨pz, rfl, rfl⟩)
 | (refine A_callM rfl rfl (fun s H => c_fireOk (T := T) (hT := hT)) ?_; rintro _ _ ⟨pz, rfl, rfl⟩) | (refine A_callM0 rfl rfl (fun s H => c_fireOk (T := T) (hT := hT)) ?_; rintro _ _ ⟨pz, rfl, rfl⟩)
 | rw [eT]
 | rw [hBs]
 | refine A_fld rfl rfl ?_ | refine A_mk3 rfl rfl rfl rfl ?_ | refine A_mk23 rfl rfl rfl ?_ | refine A_mk2 rfl rfl rfl ?_ | refine A_mk13 rfl rfl ?_ | refine A_p (by rfl) rfl ?_
 | refine A_ldI rfl (by first | omega | (simp; done) | (simp; omega)) rfl ?_ | refine A_ldB rfl (by first | omega | (simp; done) | (simp; omega)) rfl ?_ | refine A_ld rfl (by rfl) rfl ?_ | refine A_ldW rfl (by simp) rfl ?_
 | refine A_st rfl rfl rfl ?_ | refine A_stW rfl rfl (by simp) rfl ?_ | refine A_stE rfl rfl (by first | omega | (simp; done) | (simp; omega)) rfl ?_
 | ((first | refine A_alloc rfl ?_ | refine A_box rfl rfl ?_ | refine A_boxC rfl rfl ?_ | refine A_makeN rfl rfl rfl (by omega) ?_ | refine A_make rfl rfl rfl (by omega) ?_ | refine A_bld1 rfl rfl ?_ | refine A_bld2 rfl rfl rfl ?_ | refine A_bld4 rfl rfl rfl rfl rfl ?_) <;> intro pz hpz)
 | refine A_bld0 rfl ?_ | (refine A_app rfl rfl rfl (by first | omega | (simp; done) | (simp; omega)) (by first | omega | (simp; done) | (simp; omega)) (by omega) ?_; intro pz) | (refine A_appN (enc := ic) rfl (by decide) rfl rfl (by first | omega | (simp; done) | (simp; omega)) (by omega) ?_; intro pz)
 | refine A_chk1 rfl rfl rfl ?_ | refine A_chk2 rfl rfl rfl rfl ?_ | refine A_chk3 rfl rfl rfl rfl rfl ?_ | refine A_chk4 rfl rfl rfl rfl rfl rfl ?_ | refine A_chkI rfl (by assumption) rfl (by simp) ?_
 | refine A_ret1 rfl (by first | exact (RP.t rfl RP.nil) | exact (RP.c rfl inferInstance rfl (by simp) RP.nil)) ?_ | refine A_ret rfl (by first | exact (RP.t rfl (RP.t rfl RP.nil)) | exact (RP.c rfl inferInstance rfl (by simp) (RP.t rfl RP.nil)) | exact (RP.t rfl (RP.t rfl (RP.t rfl RP.nil))) | exact (RP.c rfl inferInstance rfl (by simp) (RP.t rfl (RP.t rfl RP.nil))) | exact (RP.c rfl inferInstance rfl (by simp) (RP.t rfl (RP.t rfl (RP.t rfl (RP.t rfl RP.nil)))))) ?_ | refine A_ret0 rfl ?_)
  obtain ⟨p36, hEq⟩ : ∃ p, p = pz := ⟨_, rfl⟩; subst hEq
  obtain ⟨pS, hEq⟩ : ∃ p, p = pz := ⟨_, rfl⟩; subst hEq
  obtain ⟨p33, hEq⟩ : ∃ p, p = pz := ⟨_, rfl⟩; subst hEq
  obtain ⟨pB, hEq⟩ : ∃ p, p = pz := ⟨_, rfl⟩; subst hEq
  have kf := (cluAll_kl (R := R) (C := C) (xs := xs) (R * C) (Nat.le_refl _)).1
  rw [hT] at kf
  have gz : ∀ i : Nat, i < T → ((cluAll R C xs T).1.getD i 0 = 0 ↔ xs.getD i 0 = 0) := fun i hi => by
    have hci : Cin R C (i : Int) := ⟨by omega, by omega⟩
    constructor
    · intro h
      rcases hwd i with q | q
      · exact q
      · exact absurd (by rw [cc]; exact h) (kf.done i hci (by omega) (by rw [cc]; exact q))
    · intro h
      apply Classical.byContradiction; intro q
      have := kf.g i hci (by rw [cc]; exact q)
      rw [cc] at this; omega
  have gadj : ∀ (i : Nat) (y : Int), i < T → y ∈ nbs R C (i : Int) → xs.getD i 0 = 1 → cat xs y = 1 → (cluAll R C xs T).1.getD i 0 = cat (cluAll R C xs T).1 y := fun i y hi hy h1 h2 => by
    have hci : Cin R C (i : Int) := ⟨by omega, by omega⟩
    rw [← cc]
    exact (kf.cl i hci (kf.done i hci (by omega) (by rw [cc]; exact h1)) y hy h2).symm
  have gord : ∀ i : Nat, i < T → (cluAll R C xs T).1.getD i 0 ≤ (cluAll R C xs i).2 + 1 ∧ (cluAll R C xs (i + 1)).2 = max (cluAll R C xs i).2 ((cluAll R C xs T).1.getD i 0) := fun i hi => by
    have := clu_ord (R := R) (C := C) (xs := xs) (i := i) (by omega)
    rw [hT] at this; exact this
  have gbd : ∀ i : Nat, i ≤ T → 0 ≤ (cluAll R C xs i).2 ∧ (cluAll R C xs i).2 ≤ 100 := fun i hi => by
    have := cluAll_ok (R := R) (C := C) (xs := xs) i (by omega); omega
  have hmod : ∀ i : Nat, 0 < (i : Int) % C → 1 ≤ i := fun i h => by
    rcases Nat.eq_zero_or_pos i with e | e
    · subst e
      have : ((0 : Nat) : Int) % (C : Int) = 0 := Int.zero_emod _
      omega
    · exact e
  have hnxt : (a : Int) % C + 1 < C → (a : Int) + 1 < T := fun h => by
    have := nbs_in _ ((nbs_mem hca).2 (.inr (.inr (.inr ⟨h, rfl⟩))))
    omega
  refine A_loop rfl [p27, pW, pcl, p33, pB] (fun m fr L => ∃ (i : Nat), m = T - i ∧ fr = [(5, iv R), (6, iv C), (27, .c (.ptr p27 0)), (28, .c (.sl pcl 0 T)), (29, iv (cluAll R C xs T).2), (31, iv a), (33, .c (.ptr p33 0)), (38, iv (cluAll R C xs i).2), (39, iv i)] ∧ L = [(p27, .rw 25 3 (fld R C pW T)), (pW, ints xs), (pcl, ints (cluAll R C xs T).1), (p33, .rw 25 3 (fld R C pB T)), (pB, ints Bs)] ∧ i ≤ T) T ⟨0, rfl, rfl, rfl, by omega⟩ ?_
  rintro m fr L ⟨i, rfl, rfl, rfl, hi⟩
  by_cases hi' : i < T
  · have hci : Cin R C (i : Int) := ⟨by omega, by omega⟩
    have f3 := gbd i hi
    obtain ⟨f4, f5⟩ := gord i hi'
    have hne := fun h => hnear i hi' h
    generalize hcl : (cluAll R C xs T).1 = cl at *
    refine A_seqK ?_
    refine hp_0 lW o1' lBn hi' ha hT25 eT hC1 ?_
    intros
    refine A_seqK (A_blkK (A_seqK ?_))
    refine hp_1 lW o1' lBn hi' ha hT25 eT hC1 (gz i hi') f4 f3 ?_
    intros
    refine A_seqK ?_
    refine hp_2 lW o1' lBn hi' ha hT25 eT hC1 f3 ?_
    intro _ _ _ _ _ _ z hz
    rw [← f5] at hz
    subst hz
    refine A_seqK ?_
    refine hp_3 lW o1' lBn hi' ha hT25 eT hC1 (hmod i) (fun h w1 w2 => gadj i _ hi' ((nbs_mem hci).2 (.inr (.inr (.inl ⟨h, rfl⟩)))) w1 w2) (fun h w1 w2 => gadj i _ hi' ((nbs_mem hci).2 (.inl ⟨h, rfl⟩)) w1 w2) ?_
    intros
    refine A_seqK ?_
    refine hp_4 lW o1' lBn hi' ha hT25 eT hC1 ?_
    intros
    rename_i g hg
    refine A_seqK ?_
    rcases hwd a with wa | wa
    · refine hp_5b lW o1' lBn hi' ha hT25 eT hC1 wa (hmod a) hnxt (by omega) ?_
      intros
      rename_i g2 hg2
      refine hp_6b lW o1' lBn hi' ha hT25 eT hC1 (fun w1 w2 => by
        rw [hnear i hi' w2 w1, hg2]
        constructor
        · rintro (⟨q, _⟩ | ⟨_, q⟩)
          · omega
          · exact q
        · intro q; exact .inr ⟨wa, q⟩) (hnil i hi') (hwd i) ?_
      intros
      repeat' (first
 | refine A_go rfl ?_ | refine A_ifT rfl rfl ?_ | refine A_ifF rfl rfl ?_ | refine A_offP rfl rfl ?_ | refine A_offH rfl rfl ?_ | refine A_off0 rfl rfl ?_
 | refine A_add rfl rfl rfl (by omega) ?_ | refine A_sub rfl rfl rfl (by omega) ?_ | refine A_mul rfl rfl rfl (by omega) ?_ | refine A_rem rfl rfl rfl (by omega) ?_ | refine A_remT rfl rfl rfl (by omega) ?_ | refine A_quo rfl rfl rfl (by omega) ?_
 | ((first | refine A_lt rfl rfl rfl ?_ ?_ | refine A_le rfl rfl rfl ?_ ?_ | refine A_gt rfl rfl rfl ?_ ?_ | refine A_ge rfl rfl rfl ?_ ?_ | refine A_eq rfl rfl rfl ?_ ?_ | refine A_ne rfl rfl rfl ?_ ?_ | refine A_beq rfl rfl rfl ?_ ?_) <;> intro hc <;> try first | contradiction | (exfalso; omega) | exact absurd rfl hc)
 | refine A_idxN1 rfl rfl rfl (by omega) ?_ | refine A_idx1 rfl rfl rfl (by omega) ?_ | refine A_idxArr1 rfl rfl rfl (by omega) ?_
 | refine A_fld rfl rfl ?_ | refine A_mk3 rfl rfl rfl rfl ?_ | refine A_mk23 rfl rfl rfl ?_ | refine A_mk2 rfl rfl rfl ?_ | refine A_mk13 rfl rfl ?_ | refine A_p (by rfl) rfl ?_
 | refine A_ldI rfl (by first | omega | (simp; done) | (simp; omega)) rfl ?_ | refine A_ldB rfl (by first | omega | (simp; done) | (simp; omega)) rfl ?_ | refine A_ld rfl (by rfl) rfl ?_ | refine A_ldW rfl (by simp) rfl ?_
 | refine A_st rfl rfl rfl ?_ | refine A_stW rfl rfl (by simp) rfl ?_ | refine A_stE rfl rfl (by first | omega | (simp; done) | (simp; omega)) rfl ?_
 | ((first | refine A_alloc rfl ?_ | refine A_box rfl rfl ?_ | refine A_boxC rfl rfl ?_ | refine A_makeN rfl rfl rfl (by omega) ?_ | refine A_make rfl rfl rfl (by omega) ?_ | refine A_bld1 rfl rfl ?_ | refine A_bld2 rfl rfl rfl ?_ | refine A_bld4 rfl rfl rfl rfl rfl ?_) <;> intro pz hpz)
 | refine A_bld0 rfl ?_ | (refine A_app rfl rfl rfl (by first | omega | (simp; done) | (simp; omega)) (by first | omega | (simp; done) | (simp; omega)) (by omega) ?_; intro pz) | (refine A_appN (enc := ic) rfl (by decide) rfl rfl (by first | omega | (simp; done) | (simp; omega)) (by omega) ?_; intro pz)
 | refine A_chk1 rfl rfl rfl ?_ | refine A_chk2 rfl rfl rfl rfl ?_ | refine A_chk3 rfl rfl rfl rfl rfl ?_ | refine A_chk4 rfl rfl rfl rfl rfl rfl ?_ | refine A_chkI rfl (by assumption) rfl (by simp) ?_
 | refine A_ret1 rfl (by first | exact (RP.t rfl RP.nil) | exact (RP.c rfl inferInstance rfl (by simp) RP.nil)) ?_ | refine A_ret rfl (by first | exact (RP.t rfl (RP.t rfl RP.nil)) | exact (RP.c rfl inferInstance rfl (by simp) (RP.t rfl RP.nil)) | exact (RP.t rfl (RP.t rfl (RP.t rfl RP.nil))) | exact (RP.c rfl inferInstance rfl (by simp) (RP.t rfl (RP.t rfl RP.nil))) | exact (RP.c rfl inferInstance rfl (by simp) (RP.t rfl (RP.t rfl (RP.t rfl (RP.t rfl RP.nil)))))) ?_ | refine A_ret0 rfl ?_)
      refine A_round rfl [p27, pW, pcl, p33, pB] (T - (i + 1)) (by omega) ?_
      exact ⟨i + 1, rfl, rfl, rfl, by omega⟩
    · refine hp_5a lW o1' lBn hi' ha hT25 eT hC1 wa ?_
      intros
      refine hp_6a lW o1' lBn hi' ha hT25 eT hC1 (fun w1 w2 => by
        rw [hnear i hi' w2 w1, hg]
        constructor
        · rintro (⟨_, q⟩ | ⟨q, _⟩)
          · exact ⟨q, wa⟩
          · omega
        · intro q; exact .inl ⟨wa, q.1⟩) (hnil i hi') (hwd i) ?_
      intros
      repeat' (first
 | refine A_go rfl ?_ | refine A_ifT rfl rfl ?_ | refine A_ifF rfl rfl ?_ | refine A_offP rfl rfl ?_ | refine A_offH rfl rfl ?_ | refine A_off0 rfl rfl ?_
 | refine A_add rfl rfl rfl (by omega) ?_ | refine A_sub rfl rfl rfl (by omega) ?_ | refine A_mul rfl rfl rfl (by omega) ?_ | refine A_rem rfl rfl rfl (by omega) ?_ | refine A_remT rfl rfl rfl (by omega) ?_ | refine A_quo rfl rfl rfl (by omega) ?_
 | ((first | refine A_lt rfl rfl rfl ?_ ?_ | refine A_le rfl rfl rfl ?_ ?_ | refine A_gt rfl rfl rfl ?_ ?_ | refine A_ge rfl rfl rfl ?_ ?_ | refine A_eq rfl rfl rfl ?_ ?_ | refine A_ne rfl rfl rfl ?_ ?_ | refine A_beq rfl rfl rfl ?_ ?_) <;> intro hc <;> try first | contradiction | (exfalso; omega) | exact absurd rfl hc)
 | refine A_idxN1 rfl rfl rfl (by omega) ?_ | refine A_idx1 rfl rfl rfl (by omega) ?_ | refine A_idxArr1 rfl rfl rfl (by omega) ?_
 | refine A_fld rfl rfl ?_ | refine A_mk3 rfl rfl rfl rfl ?_ | refine A_mk23 rfl rfl rfl ?_ | refine A_mk2 rfl rfl rfl ?_ | refine A_mk13 rfl rfl ?_ | refine A_p (by rfl) rfl ?_
 | refine A_ldI rfl (by first | omega | (simp; done) | (simp; omega)) rfl ?_ | refine A_ldB rfl (by first | omega | (simp; done) | (simp; omega)) rfl ?_ | refine A_ld rfl (by rfl) rfl ?_ | refine A_ldW rfl (by simp) rfl ?_
 | refine A_st rfl rfl rfl ?_ | refine A_stW rfl rfl (by simp) rfl ?_ | refine A_stE rfl rfl (by first | omega | (simp; done) | (simp; omega)) rfl ?_
 | ((first | refine A_alloc rfl ?_ | refine A_box rfl rfl ?_ | refine A_boxC rfl rfl ?_ | refine A_makeN rfl rfl rfl (by omega) ?_ | refine A_make rfl rfl rfl (by omega) ?_ | refine A_bld1 rfl rfl ?_ | refine A_bld2 rfl rfl rfl ?_ | refine A_bld4 rfl rfl rfl rfl rfl ?_) <;> intro pz hpz)
 | refine A_bld0 rfl ?_ | (refine A_app rfl rfl rfl (by first | omega | (simp; done) | (simp; omega)) (by first | omega | (simp; done) | (simp; omega)) (by omega) ?_; intro pz) | (refine A_appN (enc := ic) rfl (by decide) rfl rfl (by first | omega | (simp; done) | (simp; omega)) (by omega) ?_; intro pz)
 | refine A_chk1 rfl rfl rfl ?_ | refine A_chk2 rfl rfl rfl rfl ?_ | refine A_chk3 rfl rfl rfl rfl rfl ?_ | refine A_chk4 rfl rfl rfl rfl rfl rfl ?_ | refine A_chkI rfl (by assumption) rfl (by simp) ?_
 | refine A_ret1 rfl (by first | exact (RP.t rfl RP.nil) | exact (RP.c rfl inferInstance rfl (by simp) RP.nil)) ?_ | refine A_ret rfl (by first | exact (RP.t rfl (RP.t rfl RP.nil)) | exact (RP.c rfl inferInstance rfl (by simp) (RP.t rfl RP.nil)) | exact (RP.t rfl (RP.t rfl (RP.t rfl RP.nil))) | exact (RP.c rfl inferInstance rfl (by simp) (RP.t rfl (RP.t rfl RP.nil))) | exact (RP.c rfl inferInstance rfl (by simp) (RP.t rfl (RP.t rfl (RP.t rfl (RP.t rfl RP.nil)))))) ?_ | refine A_ret0 rfl ?_)
      refine A_round rfl [p27, pW, pcl, p33, pB] (T - (i + 1)) (by omega) ?_
      exact ⟨i + 1, rfl, rfl, rfl, by omega⟩
  obtain rfl : T = i := by omega
  repeat' (first
 | refine A_go rfl ?_ | refine A_ifT rfl rfl ?_ | refine A_ifF rfl rfl ?_ | refine A_offP rfl rfl ?_ | refine A_offH rfl rfl ?_ | refine A_off0 rfl rfl ?_
 | refine A_add rfl rfl rfl (by omega) ?_ | refine A_sub rfl rfl rfl (by omega) ?_ | refine A_mul rfl rfl rfl (by omega) ?_ | refine A_rem rfl rfl rfl (by omega) ?_ | refine A_remT rfl rfl rfl (by omega) ?_ | refine A_quo rfl rfl rfl (by omega) ?_
 | ((first | refine A_lt rfl rfl rfl ?_ ?_ | refine A_le rfl rfl rfl ?_ ?_ | refine A_gt rfl rfl rfl ?_ ?_ | refine A_ge rfl rfl rfl ?_ ?_ | refine A_eq rfl rfl rfl ?_ ?_ | refine A_ne rfl rfl rfl ?_ ?_ | refine A_beq rfl rfl rfl ?_ ?_) <;> intro hc <;> try first | contradiction | (exfalso; omega) | exact absurd rfl hc)
 | refine A_idxN1 rfl rfl rfl (by omega) ?_ | refine A_idx1 rfl rfl rfl (by omega) ?_ | refine A_idxArr1 rfl rfl rfl (by omega) ?_
 | rw [eT]
 | refine A_fld rfl rfl ?_ | refine A_mk3 rfl rfl rfl rfl ?_ | refine A_mk23 rfl rfl rfl ?_ | refine A_mk2 rfl rfl rfl ?_ | refine A_mk13 rfl rfl ?_ | refine A_p (by rfl) rfl ?_
 | refine A_ldI rfl (by first | omega | (simp; done) | (simp; omega)) rfl ?_ | refine A_ldB rfl (by first | omega | (simp; done) | (simp; omega)) rfl ?_ | refine A_ld rfl (by rfl) rfl ?_ | refine A_ldW rfl (by simp) rfl ?_
 | refine A_st rfl rfl rfl ?_ | refine A_stW rfl rfl (by simp) rfl ?_ | refine A_stE rfl rfl (by first | omega | (simp; done) | (simp; omega)) rfl ?_
 | ((first | refine A_alloc rfl ?_ | refine A_box rfl rfl ?_ | refine A_boxC rfl rfl ?_ | refine A_makeN rfl rfl rfl (by omega) ?_ | refine A_make rfl rfl rfl (by omega) ?_ | refine A_bld1 rfl rfl ?_ | refine A_bld2 rfl rfl rfl ?_ | refine A_bld4 rfl rfl rfl rfl rfl ?_) <;> intro pz hpz)
 | refine A_bld0 rfl ?_ | (refine A_app rfl rfl rfl (by first | omega | (simp; done) | (simp; omega)) (by first | omega | (simp; done) | (simp; omega)) (by omega) ?_; intro pz) | (refine A_appN (enc := ic) rfl (by decide) rfl rfl (by first | omega | (simp; done) | (simp; omega)) (by omega) ?_; intro pz)
 | refine A_chk1 rfl rfl rfl ?_ | refine A_chk2 rfl rfl rfl rfl ?_ | refine A_chk3 rfl rfl rfl rfl rfl ?_ | refine A_chk4 rfl rfl rfl rfl rfl rfl ?_ | refine A_chkI rfl (by assumption) rfl (by simp) ?_
 | refine A_ret1 rfl (by first | exact (RP.t rfl RP.nil) | exact (RP.c rfl inferInstance rfl (by simp) RP.nil)) ?_ | refine A_ret rfl (by first | exact (RP.t rfl (RP.t rfl RP.nil)) | exact (RP.c rfl inferInstance rfl (by simp) (RP.t rfl RP.nil)) | exact (RP.t rfl (RP.t rfl (RP.t rfl RP.nil))) | exact (RP.c rfl inferInstance rfl (by simp) (RP.t rfl (RP.t rfl RP.nil))) | exact (RP.c rfl inferInstance rfl (by simp) (RP.t rfl (RP.t rfl (RP.t rfl (RP.t rfl RP.nil)))))) ?_ | refine A_ret0 rfl ?_)
  all_goals exact R_v rfl

end Go.Proofs.Ytckobcjjbpnkcaa
