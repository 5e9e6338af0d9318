/- The law FnLivesMoved: what is turned and mirrored. -/
import Derived.Test.YtlhidckolillaaaXlmC
import Derived.Test.YtlhidckolillaaaFB
namespace Go.Proofs.Ytlhidckolillaaa
open Go Go.RowKit
set_option linter.unusedVariables false
set_option linter.unusedSimpArgs false
set_option maxRecDepth 100000
set_option maxHeartbeats 8000000


theorem lm_B {s : St} [Wf s] {R C p5 pb ps p6 pf i1 o1 n1 n : Nat} {t : Bool} {bo sy xs x1 : List Int} (h1 : ArgE ub s i1 o1 x1) (l1 : x1.length = n1) (c1 : ∀ n ∈ x1, 0 ≤ n ∧ n ≤ 255) (hR : 1 ≤ R ∧ R ≤ 5) (hC : 1 ≤ C ∧ C ≤ 5) (hp : LifeP bo sy R C xs) (hlb : bo.length ≤ 8) (hls : sy.length ≤ 8) (hn : n ≤ 5) :
    At [] s (LmO R C p5 pb ps p6 pf bo sy xs) [] [] [(1, .c (.sl i1 o1 n1)), (5, .c (.ptr p5 0)), (6, .c (.ptr p6 0)), (7, bv t), (8, iv n)] (LmK 6) := by
  obtain ⟨es, hes⟩ : ∃ es, lifeN bo sy R C t xs n = es := ⟨_, rfl⟩
  have hend := fun (p9 pe : Nat) => lm_C (p5 := p5) (pb := pb) (ps := ps) (p6 := p6) (pf := pf) (p9 := p9) (pe := pe) h1 l1 c1 hR hC hp hlb hls hn hes
  have hvx := hp.2.1
  have hxl := hp.2.len
  have hRC : R * C ≤ 25 := Nat.mul_le_mul hR.2 hC.2
  have hCR : C * R = R * C := Nat.mul_comm C R
  have hpe : PL R C es := by rw [← hes]; exact lifeN_pl hp.2 n
  have hve := hpe.1
  have hel := hpe.len
  obtain ⟨ts, hts⟩ : ∃ ts, turn R C xs = ts := ⟨_, rfl⟩
  obtain ⟨us, hus⟩ : ∃ us, turn R C es = us := ⟨_, rfl⟩
  obtain ⟨ms, hms⟩ : ∃ ms, mirr R C xs = ms := ⟨_, rfl⟩
  obtain ⟨vs, hvs⟩ : ∃ vs, mirr R C es = vs := ⟨_, rfl⟩
  have hpt : PL C R ts := by rw [← hts]; exact hp.2.turn
  have hpm : PL R C ms := by rw [← hms]; exact hp.2.mirr
  have htl := hpt.len
  have hml := hpm.len
  have hul : us.length = C * R := by rw [← hus, turn, mk_len]
  have hvl : vs.length = R * C := by rw [← hvs, mirr, mk_len]
  have hLt : LifeP bo sy C R ts := ⟨hp.1, hpt⟩
  have hLm : LifeP bo sy R C ms := ⟨hp.1, hpm⟩
  have hrt : lifeN bo sy C R t ts n = us := by rw [← hts, lifeN_turn (by omega) (by omega), hes, hus]
  have hrm : lifeN bo sy R C t ms n = vs := by rw [← hms, lifeN_mirr (by omega) (by omega), hes, hvs]
  have hcb := hp.1
  repeat' (first
 | refine A_to (k2 := LmK 14) rfl (A_fr [1, 5, 6, 7, 8, 9] rfl rfl (A_stop ?_))
 | refine A_go rfl ?_ | refine A_ifT rfl rfl ?_ | refine A_ifF rfl rfl ?_ | refine A_offP rfl rfl ?_ | refine A_offH rfl rfl ?_ | refine A_off0 rfl rfl ?_
 | refine A_add rfl rfl rfl (by omega) ?_ | refine A_sub rfl rfl rfl (by omega) ?_ | refine A_mul rfl rfl rfl (by omega) ?_ | refine A_rem rfl rfl rfl (by omega) ?_ | refine A_remT rfl rfl rfl (by omega) ?_ | refine A_quo rfl rfl rfl (by omega) ?_
 | ((first | refine A_lt rfl rfl rfl ?_ ?_ | refine A_le rfl rfl rfl ?_ ?_ | refine A_gt rfl rfl rfl ?_ ?_ | refine A_ge rfl rfl rfl ?_ ?_ | refine A_eq rfl rfl rfl ?_ ?_ | refine A_ne rfl rfl rfl ?_ ?_ | refine A_beq rfl rfl rfl ?_ ?_) <;> intro hc <;> try first | contradiction | (exfalso; omega) | exact absurd rfl hc)
 | refine A_idxN1 rfl rfl rfl (by omega) ?_ | refine A_idx1 rfl rfl rfl (by omega) ?_ | refine A_idxArr1 rfl rfl rfl (by omega) ?_
 | (refine A_callM rfl rfl (fun s H => c_runOk (n := n) (xs := xs) (hr := hes) (hp := hp) (hst := rfl)) ?_; rintro _ _ ⟨pz, rfl, rfl⟩) | (refine A_callM0 rfl rfl (fun s H => c_runOk (n := n) (xs := xs) (hr := hes) (hp := hp) (hst := rfl)) ?_; rintro _ _ ⟨pz, rfl, rfl⟩)
 | (refine A_callM rfl rfl (fun s H => c_runOk (n := n) (xs := ts) (hr := hrt) (hp := hLt) (hst := rfl)) ?_; rintro _ _ ⟨pz, rfl, rfl⟩) | (refine A_callM0 rfl rfl (fun s H => c_runOk (n := n) (xs := ts) (hr := hrt) (hp := hLt) (hst := rfl)) ?_; rintro _ _ ⟨pz, rfl, rfl⟩)
 | (refine A_callM rfl rfl (fun s H => c_runOk (n := n) (xs := ms) (hr := hrm) (hp := hLm) (hst := rfl)) ?_; rintro _ _ ⟨pz, rfl, rfl⟩) | (refine A_callM0 rfl rfl (fun s H => c_runOk (n := n) (xs := ms) (hr := hrm) (hp := hLm) (hst := rfl)) ?_; rintro _ _ ⟨pz, rfl, rfl⟩)
 | (refine A_callM rfl rfl (fun s H => c_turnAt (xs := xs) (he := hts)) ?_; rintro _ _ ⟨pz, rfl, rfl⟩) | (refine A_callM0 rfl rfl (fun s H => c_turnAt (xs := xs) (he := hts)) ?_; rintro _ _ ⟨pz, rfl, rfl⟩)
 | (refine A_callM rfl rfl (fun s H => c_turnAt (xs := es) (he := hus)) ?_; rintro _ _ ⟨pz, rfl, rfl⟩) | (refine A_callM0 rfl rfl (fun s H => c_turnAt (xs := es) (he := hus)) ?_; rintro _ _ ⟨pz, rfl, rfl⟩)
 | (refine A_callM rfl rfl (fun s H => c_mirrAt (xs := xs) (he := hms)) ?_; rintro _ _ ⟨pz, rfl, rfl⟩) | (refine A_callM0 rfl rfl (fun s H => c_mirrAt (xs := xs) (he := hms)) ?_; rintro _ _ ⟨pz, rfl, rfl⟩)
 | (refine A_callM rfl rfl (fun s H => c_mirrAt (xs := es) (he := hvs)) ?_; rintro _ _ ⟨pz, rfl, rfl⟩) | (refine A_callM0 rfl rfl (fun s H => c_mirrAt (xs := es) (he := hvs)) ?_; rintro _ _ ⟨pz, rfl, rfl⟩)
 | (refine A_callB rfl rfl (fun s H => c_implValidLife (xs := bo) (ys := sy)) ?_ ?_ <;> intro hc <;> try first | contradiction | (exfalso; omega) | exact absurd rfl hc | exact absurd (And.intro rfl rfl) hc | exact absurd (And.intro rfl (And.intro rfl rfl)) hc | exact absurd (Eq.trans (by assumption) (Eq.symm (by assumption))) hc)
 | refine A_callV rfl rfl (fun s H => c_sameOk) ?_
 | refine A_fld rfl rfl ?_ | refine A_mk3 rfl rfl rfl rfl ?_ | refine A_mk23 rfl rfl rfl ?_ | refine A_mk2 rfl rfl rfl ?_ | refine A_mk13 rfl rfl ?_ | refine A_p (by rfl) rfl ?_
 | refine A_ldI rfl (by first | omega | (simp; done) | (simp; omega)) rfl ?_ | refine A_ldB rfl (by first | omega | (simp; done) | (simp; omega)) rfl ?_ | refine A_ld rfl (by rfl) rfl ?_ | refine A_ldW rfl (by simp) rfl ?_
 | refine A_st rfl rfl rfl ?_ | refine A_stW rfl rfl (by simp) rfl ?_ | refine A_stE rfl rfl (by first | omega | (simp; done) | (simp; omega)) rfl ?_
 | ((first | refine A_alloc rfl ?_ | refine A_box rfl rfl ?_ | refine A_boxC rfl rfl ?_ | refine A_makeN rfl rfl rfl (by omega) ?_ | refine A_make rfl rfl rfl (by omega) ?_ | refine A_bld1 rfl rfl ?_ | refine A_bld2 rfl rfl rfl ?_ | refine A_bld4 rfl rfl rfl rfl rfl ?_) <;> intro pz hpz)
 | refine A_bld0 rfl ?_ | (refine A_app rfl rfl rfl (by first | omega | (simp; done) | (simp; omega)) (by first | omega | (simp; done) | (simp; omega)) (by omega) ?_; intro pz) | (refine A_appN (enc := ic) rfl (by decide) rfl rfl (by first | omega | (simp; done) | (simp; omega)) (by omega) ?_; intro pz)
 | refine A_chk1 rfl rfl rfl ?_ | refine A_chk2 rfl rfl rfl rfl ?_ | refine A_chk3 rfl rfl rfl rfl rfl ?_ | refine A_chk4 rfl rfl rfl rfl rfl rfl ?_ | refine A_chkI rfl (by assumption) rfl (by simp) ?_
 | refine A_ret1 rfl (by first | exact (RP.t rfl RP.nil) | exact (RP.c rfl inferInstance rfl (by simp) RP.nil)) ?_ | refine A_ret rfl (by first | exact (RP.t rfl (RP.t rfl RP.nil)) | exact (RP.c rfl inferInstance rfl (by simp) (RP.t rfl RP.nil)) | exact (RP.t rfl (RP.t rfl (RP.t rfl RP.nil))) | exact (RP.c rfl inferInstance rfl (by simp) (RP.t rfl (RP.t rfl RP.nil))) | exact (RP.c rfl inferInstance rfl (by simp) (RP.t rfl (RP.t rfl (RP.t rfl (RP.t rfl RP.nil)))))) ?_ | refine A_ret0 rfl ?_)
  obtain ⟨q1, hEq⟩ : ∃ p, p = pz := ⟨_, rfl⟩; subst hEq
  obtain ⟨q2, hEq⟩ : ∃ p, p = pz := ⟨_, rfl⟩; subst hEq
  obtain ⟨q3, hEq⟩ : ∃ p, p = pz := ⟨_, rfl⟩; subst hEq
  obtain ⟨q4, hEq⟩ : ∃ p, p = pz := ⟨_, rfl⟩; subst hEq
  obtain ⟨q5, hEq⟩ : ∃ p, p = pz := ⟨_, rfl⟩; subst hEq
  obtain ⟨q6, hEq⟩ : ∃ p, p = pz := ⟨_, rfl⟩; subst hEq
  obtain ⟨q7, hEq⟩ : ∃ p, p = pz := ⟨_, rfl⟩; subst hEq
  obtain ⟨q8, hEq⟩ : ∃ p, p = pz := ⟨_, rfl⟩; subst hEq
  obtain ⟨q9, hEq⟩ : ∃ p, p = pz := ⟨_, rfl⟩; subst hEq
  obtain ⟨q10, hEq⟩ : ∃ p, p = pz := ⟨_, rfl⟩; subst hEq
  obtain ⟨q11, hEq⟩ : ∃ p, p = pz := ⟨_, rfl⟩; subst hEq
  obtain ⟨q12, hEq⟩ : ∃ p, p = pz := ⟨_, rfl⟩; subst hEq
  obtain ⟨p9, hEq⟩ : ∃ p, p = pz := ⟨_, rfl⟩; subst hEq
  obtain ⟨pe, hEq⟩ : ∃ p, p = pz := ⟨_, rfl⟩; subst hEq
  exact ⟨A_subL (hend p9 pe)⟩

end Go.Proofs.Ytlhidckolillaaa
