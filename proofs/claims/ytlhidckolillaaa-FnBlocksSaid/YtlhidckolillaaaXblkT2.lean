/- The law FnBlocks: what its ants did. -/
import Derived.Test.YtlhidckolillaaaXblkT3
import Derived.Test.YtlhidckolillaaaFB
namespace Go.Proofs.Ytlhidckolillaaa
open Go Go.RowKit
set_option linter.unusedVariables false
set_option linter.unusedSimpArgs false
set_option maxRecDepth 100000
set_option maxHeartbeats 8000000


theorem c_antAt {s : St} [Wf s] {R C n : Nat} {row col way st i k w : Int} {zs : List Int} {id_xs off_xs len_xs : Nat} {xs : List Int} [h_xs : ArgE ic s id_xs off_xs xs] (hl_xs : xs.length = len_xs := by first | rfl | simp | omega | (simp; omega)) (he : antRun R C (xs, row, col, way) n = (zs, i, k, w)) (hst : st = n) (h : AntOk R C (xs, row, col, way)) (hp : PL R C xs) (hn : n ≤ 4096) :
    Fn [] 35 [.agg [ic R, ic C, .sl id_xs off_xs len_xs], iv row, iv col, iv way, iv st] s fun V N => ∃ p, V = .tup [.agg (fld R C p (R * C)), .c (ic i), .c (ic k), .c (ic w), .c (.bool true)] ∧ N = [(p, ints zs)] := by
  subst hst
  refine (c_antOk (xs := xs) (hp := hp) (h := h) (hn := hn)).mono fun V N k => ?_
  rw [he] at k; exact k
theorem AntOk.pl {R C : Nat} {zs : List Int} {i k w : Int} (h : AntOk R C (zs, i, k, w)) (hR : 1 ≤ R ∧ R ≤ 24) (hC : 1 ≤ C ∧ C ≤ 24) : PL R C zs :=
  ⟨⟨by omega, by omega, by rw [h.1]; push_cast; rfl, fun x hx => by have := h.2.1 x hx; omega⟩, h.2.1⟩
abbrev AnF (p10 p17 p23 p28 n : Nat) (row col way i k e x y z : Int) : Frm := [(10, .c (.ptr p10 0)), (17, .c (.ptr p17 0)), (18, bv true), (19, iv row), (20, iv col), (21, iv way), (22, iv n), (23, .c (.ptr p23 0)), (24, iv i), (25, iv k), (26, iv e), (27, bv true), (28, .c (.ptr p28 0)), (29, iv x), (30, iv y), (31, iv z), (32, bv true)]
abbrev AnL (R C p10 pf p17 ps p23 pw p28 pn : Nat) (xs zs ns : List Int) : Objs := [(p10, .rw 26 3 (fld R C pf (R * C))), (pf, ints xs), (p17, .rw 26 3 (fld R C ps (R * C))), (ps, ints xs), (p23, .rw 26 3 (fld R C pw (R * C))), (pw, ints zs), (p28, .rw 26 3 (fld R C pn (R * C))), (pn, ints ns)]
theorem ants_end {s : St} [Wf s] {R C p10 pf p17 ps p23 pw p28 pn n : Nat} {row col way i k e x y z : Int} {xs zs ns : List Int} (hR : 1 ≤ R ∧ R ≤ 6) (hC : 1 ≤ C ∧ C ≤ 6) (hp : PL R C xs) (hA : AntOk R C (xs, row, col, way)) (hn : n ≤ 40) (he : antRun R C (xs, row, col, way) n = (zs, i, k, e)) (h1 : antRun R C (xs, row, col, way) 1 = (ns, x, y, z)) :
    At [] s (AnL R C p10 pf p17 ps p23 pw p28 pn xs zs ns) [] [] (AnF p10 p17 p23 p28 n row col way i k e x y z) (BlK 18) := by
  have hAn := hA.run n
  have hA1 := hA.run 1
  have hx01 : ∀ n, xs.getD n 0 = 0 ∨ xs.getD n 0 = 1 := fun n => by
    by_cases h : n < xs.length
    · have := hA.2.1 _ (getD_mem (d := 0) h); omega
    · rw [List.getD_eq_getElem?_getD, List.getElem?_eq_none (by omega)]; exact .inl rfl
  have hd := ant_dif hx01 hA.run n
  have hd1 := ant_dif hx01 hA.run 1
  rw [he] at hAn hd
  rw [h1] at hA1 hd1
  have hz : z = (way + 1 + 2 * xs.getD (row * C + col).toNat 0) % 4 := by
    have q : antStep R C (xs, row, col, way) = (ns, x, y, z) := h1
    have q2 := congrArg (fun A : Ant => A.2.2.2) q
    exact q2.symm
  have hrest : ∀ m : Nat, n = m + 1 → antRun R C (ns, x, y, z) m = (zs, i, k, e) := fun m hm => by
    subst hm; rw [← h1, antRun_one]; exact he
  have hxl := hA.1
  have hzl := hAn.1
  have hnl := hA1.1
  have hat := hA.at
  have hpz := hAn.pl (by omega) (by omega)
  have hpn := hA1.pl (by omega) (by omega)
  have hvz := hpz.1
  have hvn := hpn.1
  have hvx := hp.1
  have hRC : R * C ≤ 36 := Nat.mul_le_mul hR.2 hC.2
  obtain ⟨-, -, ⟨r1, r2⟩, ⟨c1, c2⟩, w1, w2⟩ := hA
  obtain ⟨-, -, ⟨i1, i2⟩, ⟨k1, k2⟩, e1, e2⟩ := hAn
  have hA1' := hA1
  obtain ⟨-, -, ⟨x1, x2⟩, ⟨y1, y2⟩, z1, z2⟩ := hA1
  obtain ⟨D, hD⟩ : ∃ D : Nat, dif zs xs (R * C) = D := ⟨_, rfl⟩
  obtain ⟨D1, hD1⟩ : ∃ D : Nat, dif ns xs (R * C) = D := ⟨_, rfl⟩
  simp only at hd hd1
  rw [hD] at hd
  rw [hD1] at hd1
  obtain rfl : D1 = 1 := by omega
  have hDt : ((D : Int) - n).tmod 2 = 0 := by
    have := Int.dvd_of_emod_eq_zero hd.2
    exact Int.tmod_eq_zero_of_dvd this
  have hDt2 : (((dif zs xs (R * C) : Nat) : Int) - n).tmod 2 = 0 := by rw [hD]; exact hDt
  have hxc := hx01 (row * C + col).toNat
  have hend : ∀ {L : Objs} {hist : List Objs} {fr : Frm}, At [] s L [] hist fr (BlK 25) := blk_end
  rcases Nat.eq_zero_or_pos n with hn0 | hn0
  · repeat' (first
 | exact A_to (k2 := BlK 25) rfl hend
 | refine A_go rfl ?_ | refine A_ifT rfl rfl ?_ | refine A_ifF rfl rfl ?_ | refine A_offP rfl rfl ?_ | refine A_offH rfl rfl ?_ | refine A_off0 rfl rfl ?_
 | refine A_add rfl rfl rfl (by omega) ?_ | refine A_sub rfl rfl rfl (by omega) ?_ | refine A_mul rfl rfl rfl (by omega) ?_ | refine A_rem rfl rfl rfl (by omega) ?_ | refine A_remT rfl rfl rfl (by omega) ?_ | refine A_quo rfl rfl rfl (by omega) ?_
 | ((first | refine A_lt rfl rfl rfl ?_ ?_ | refine A_le rfl rfl rfl ?_ ?_ | refine A_gt rfl rfl rfl ?_ ?_ | refine A_ge rfl rfl rfl ?_ ?_ | refine A_eq rfl rfl rfl ?_ ?_ | refine A_ne rfl rfl rfl ?_ ?_ | refine A_beq rfl rfl rfl ?_ ?_) <;> intro hc <;> try first | contradiction | (exfalso; omega) | exact absurd rfl hc)
 | refine A_idxN1 rfl rfl rfl (by omega) ?_ | refine A_idx1 rfl rfl rfl (by omega) ?_ | refine A_idxArr1 rfl rfl rfl (by omega) ?_
 | refine A_callV rfl rfl (fun s H => c_sameOk) ?_
 | refine A_callV rfl rfl (fun s H => c_apartOk) ?_
 | refine A_fld rfl rfl ?_ | refine A_mk3 rfl rfl rfl rfl ?_ | refine A_mk23 rfl rfl rfl ?_ | refine A_mk2 rfl rfl rfl ?_ | refine A_mk13 rfl rfl ?_ | refine A_p (by rfl) rfl ?_
 | refine A_ldI rfl (by first | omega | (simp; done) | (simp; omega)) rfl ?_ | refine A_ldB rfl (by first | omega | (simp; done) | (simp; omega)) rfl ?_ | refine A_ld rfl (by rfl) rfl ?_ | refine A_ldW rfl (by simp) rfl ?_
 | refine A_st rfl rfl rfl ?_ | refine A_stW rfl rfl (by simp) rfl ?_ | refine A_stE rfl rfl (by first | omega | (simp; done) | (simp; omega)) rfl ?_
 | ((first | refine A_alloc rfl ?_ | refine A_box rfl rfl ?_ | refine A_boxC rfl rfl ?_ | refine A_makeN rfl rfl rfl (by omega) ?_ | refine A_make rfl rfl rfl (by omega) ?_ | refine A_bld1 rfl rfl ?_ | refine A_bld2 rfl rfl rfl ?_ | refine A_bld4 rfl rfl rfl rfl rfl ?_) <;> intro pz hpz)
 | refine A_bld0 rfl ?_ | (refine A_app rfl rfl rfl (by first | omega | (simp; done) | (simp; omega)) (by first | omega | (simp; done) | (simp; omega)) (by omega) ?_; intro pz) | (refine A_appN (enc := ic) rfl (by decide) rfl rfl (by first | omega | (simp; done) | (simp; omega)) (by omega) ?_; intro pz)
 | refine A_chk1 rfl rfl rfl ?_ | refine A_chk2 rfl rfl rfl rfl ?_ | refine A_chk3 rfl rfl rfl rfl rfl ?_ | refine A_chk4 rfl rfl rfl rfl rfl rfl ?_ | refine A_chkI rfl (by assumption) rfl (by simp) ?_
 | refine A_ret1 rfl (by first | exact (RP.t rfl RP.nil) | exact (RP.c rfl inferInstance rfl (by simp) RP.nil)) ?_ | refine A_ret rfl (by first | exact (RP.t rfl (RP.t rfl RP.nil)) | exact (RP.c rfl inferInstance rfl (by simp) (RP.t rfl RP.nil)) | exact (RP.t rfl (RP.t rfl (RP.t rfl RP.nil))) | exact (RP.c rfl inferInstance rfl (by simp) (RP.t rfl (RP.t rfl RP.nil))) | exact (RP.c rfl inferInstance rfl (by simp) (RP.t rfl (RP.t rfl (RP.t rfl (RP.t rfl RP.nil)))))) ?_ | refine A_ret0 rfl ?_)
  · obtain ⟨m, hm⟩ : ∃ m, n = m + 1 := ⟨n - 1, by omega⟩
    have hr := hrest m hm
    repeat' (first
 | exact A_to (k2 := BlK 25) rfl hend
 | refine A_go rfl ?_ | refine A_ifT rfl rfl ?_ | refine A_ifF rfl rfl ?_ | refine A_offP rfl rfl ?_ | refine A_offH rfl rfl ?_ | refine A_off0 rfl rfl ?_
 | refine A_add rfl rfl rfl (by omega) ?_ | refine A_sub rfl rfl rfl (by omega) ?_ | refine A_mul rfl rfl rfl (by omega) ?_ | refine A_rem rfl rfl rfl (by omega) ?_ | refine A_remT rfl rfl rfl (by omega) ?_ | refine A_quo rfl rfl rfl (by omega) ?_
 | ((first | refine A_lt rfl rfl rfl ?_ ?_ | refine A_le rfl rfl rfl ?_ ?_ | refine A_gt rfl rfl rfl ?_ ?_ | refine A_ge rfl rfl rfl ?_ ?_ | refine A_eq rfl rfl rfl ?_ ?_ | refine A_ne rfl rfl rfl ?_ ?_ | refine A_beq rfl rfl rfl ?_ ?_) <;> intro hc <;> try first | contradiction | (exfalso; omega) | exact absurd rfl hc)
 | refine A_idxN1 rfl rfl rfl (by omega) ?_ | refine A_idx1 rfl rfl rfl (by omega) ?_ | refine A_idxArr1 rfl rfl rfl (by omega) ?_
 | refine A_callV rfl rfl (fun s H => c_sameOk) ?_
 | refine A_callV rfl rfl (fun s H => c_apartOk) ?_
 | (refine A_callM rfl rfl (fun s H => c_antAt (n := m) (he := hr) (hst := by omega) (h := hA1') (hp := hpn) (hn := by omega)) ?_; rintro _ _ ⟨pz, rfl, rfl⟩) | (refine A_callM0 rfl rfl (fun s H => c_antAt (n := m) (he := hr) (hst := by omega) (h := hA1') (hp := hpn) (hn := by omega)) ?_; rintro _ _ ⟨pz, rfl, rfl⟩)
 | refine A_fld rfl rfl ?_ | refine A_mk3 rfl rfl rfl rfl ?_ | refine A_mk23 rfl rfl rfl ?_ | refine A_mk2 rfl rfl rfl ?_ | refine A_mk13 rfl rfl ?_ | refine A_p (by rfl) rfl ?_
 | refine A_ldI rfl (by first | omega | (simp; done) | (simp; omega)) rfl ?_ | refine A_ldB rfl (by first | omega | (simp; done) | (simp; omega)) rfl ?_ | refine A_ld rfl (by rfl) rfl ?_ | refine A_ldW rfl (by simp) rfl ?_
 | refine A_st rfl rfl rfl ?_ | refine A_stW rfl rfl (by simp) rfl ?_ | refine A_stE rfl rfl (by first | omega | (simp; done) | (simp; omega)) rfl ?_
 | ((first | refine A_alloc rfl ?_ | refine A_box rfl rfl ?_ | refine A_boxC rfl rfl ?_ | refine A_makeN rfl rfl rfl (by omega) ?_ | refine A_make rfl rfl rfl (by omega) ?_ | refine A_bld1 rfl rfl ?_ | refine A_bld2 rfl rfl rfl ?_ | refine A_bld4 rfl rfl rfl rfl rfl ?_) <;> intro pz hpz)
 | refine A_bld0 rfl ?_ | (refine A_app rfl rfl rfl (by first | omega | (simp; done) | (simp; omega)) (by first | omega | (simp; done) | (simp; omega)) (by omega) ?_; intro pz) | (refine A_appN (enc := ic) rfl (by decide) rfl rfl (by first | omega | (simp; done) | (simp; omega)) (by omega) ?_; intro pz)
 | refine A_chk1 rfl rfl rfl ?_ | refine A_chk2 rfl rfl rfl rfl ?_ | refine A_chk3 rfl rfl rfl rfl rfl ?_ | refine A_chk4 rfl rfl rfl rfl rfl rfl ?_ | refine A_chkI rfl (by assumption) rfl (by simp) ?_
 | refine A_ret1 rfl (by first | exact (RP.t rfl RP.nil) | exact (RP.c rfl inferInstance rfl (by simp) RP.nil)) ?_ | refine A_ret rfl (by first | exact (RP.t rfl (RP.t rfl RP.nil)) | exact (RP.c rfl inferInstance rfl (by simp) (RP.t rfl RP.nil)) | exact (RP.t rfl (RP.t rfl (RP.t rfl RP.nil))) | exact (RP.c rfl inferInstance rfl (by simp) (RP.t rfl (RP.t rfl RP.nil))) | exact (RP.c rfl inferInstance rfl (by simp) (RP.t rfl (RP.t rfl (RP.t rfl (RP.t rfl RP.nil)))))) ?_ | refine A_ret0 rfl ?_)

end Go.Proofs.Ytlhidckolillaaa
