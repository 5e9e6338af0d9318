/- The first loop of the law FnBack: all rings by number, those that lead to one in order. -/
import Derived.Test.YtlmbgaoeplffkaaXbackC
import Derived.Test.YtlmbgaoeplffkaaXbackF
import Derived.Test.YtlmbgaoeplffkaaXb10R
import Derived.Test.YtlmbgaoeplffkaaXrun
import Derived.Test.YtlmbgaoeplffkaaFB
namespace Go.Proofs.Ytlmbgaoeplffkaa
open Go Go.RowKit
set_option linter.unusedVariables false
set_option linter.unusedSimpArgs false
set_option maxRecDepth 100000
set_option maxHeartbeats 8000000


theorem c_stepGo {s : St} [Wf s] {st re : Int} {id_xs off_xs len_xs : Nat} {xs : List Int} [h_xs : ArgE ic s id_xs off_xs xs] (hl_xs : xs.length = len_xs := by first | rfl | simp | omega | (simp; omega)) {id_ys off_ys len_ys : Nat} {ys : List Int} [h_ys : ArgE ic s id_ys off_ys ys] (hl_ys : ys.length = len_ys := by first | rfl | simp | omega | (simp; omega)) (h : VR st re xs ∧ RG st ys) (hb : len_xs ≤ 2000000 ∧ len_ys ≤ 2000000 := by omega) : Fn [] 14 [.agg [ic st, ic re, .sl id_xs off_xs len_xs], .c (.sl id_ys off_ys len_ys)] s fun R N => ∃ p, R = .tup [.c (.sl p 0 len_ys), .c (.bool true)] ∧ N = [(p, ints (stepR st re xs ys))] :=
  (c_specStepRing (xs := xs) (ys := ys)).mono fun R N k => by
    obtain ⟨p, h1, h2⟩ := ir_yes h k
    exact ⟨p, by rw [h1]; simp [stepR, hl_ys], h2⟩
/-- The next bit of a number is appended. -/
theorem dg_bit {k n j : Nat} (hj : j < n) : (dg 2 k n).take j ++ [((k / 2 ^ (n - 1 - j) % 2 : Nat) : Int)] = (dg 2 k n).take (j + 1) := by
  rw [List.take_add_one, getD_some 0 (by simp; omega), dg_get hj]
  rfl
instance (priority := low) subAppR {M N L : Objs} [h : Sub N L] : Sub N (M ++ L) :=
  ⟨fun B b s H => h.own B b s H.right, fun j q o hj => (h.ids j q o hj).imp id fun ⟨j', o', g⟩ => ⟨M.length + j', o', by rw [List.getElem?_append_right (by omega)]; simpa using g⟩⟩
/-- The loop behind its first assignment. -/
def blc : ACode → ACode
  | .seq (.seq _ c) _ => c
  | c => c
theorem bk_loop {s : St} [Wf s] {r n p6 pt pr pa pf : Nat} {xs ys : List Int} {zs : List Row} {fr : Frm} (hfr : restr fr [5, 6, 7, 8, 11, 13, 17, 18] = [(5, iv r), (6, .c (.ptr p6 0)), (7, iv n), (8, .c (.sl pr 0 n)), (11, .c (.sl pa 0 zs.length)), (13, .c (.sl pf 0 (fbR 2 r xs ys).length)), (17, iv 0), (18, iv 0)]) (hr : r ≤ 2) (hv : VR 2 r xs) (hrg : RG 2 ys) (hn : ys.length = n) (hn12 : 1 ≤ n ∧ n ≤ 12) (hok : RowsOk zs) (hzs : zs.map Row.xs = fwdL 2 r xs ys) (hzl : zs.length ≤ 256) :
    At [] s ((p6, .rw 27 3 [ic 2, ic r, .sl pt 0 xs.length]) :: (pt, ints xs) :: (pr, ints ys) :: (pf, ints (fbR 2 r xs ys)) :: (pa, orow zs) :: mobs zs) [] [] fr (.thn (blc (tlc 12 (L3).body)) (BkK 13)) := by
  have hxl : xs.length ≤ 2000000 := by
    obtain ⟨S, w, E, hS2, hS, hw, hw1, hE, hl, hEb, hdg⟩ := hv.nat
    have := es_le hS hEb; omega
  haveI : Fact' (RowsOk zs) := ⟨hok⟩
  have hF : zs.length = (fwdL 2 r xs ys).length := by rw [← hzs, List.length_map]
  obtain ⟨X, hX⟩ : ∃ X : Nat, 2 ^ n = X := ⟨_, rfl⟩
  have hXb : X ≤ 4096 := by rw [← hX]; exact Nat.le_trans (Nat.pow_le_pow_right (by omega) hn12.2) (by decide)
  have hfw : ∀ k, (fwdK 2 r xs ys k).length ≤ k := fun k => by
    rw [fwdK]; exact Nat.le_trans (List.length_filter_le _ _) (by simp)
  refine A_loopX rfl (fun m fr L => ∃ (k c : Nat), m = X - k ∧ fr = [(5, iv r), (6, .c (.ptr p6 0)), (7, iv n), (8, .c (.sl pr 0 n)), (11, .c (.sl pa 0 zs.length)), (13, .c (.sl pf 0 (fbR 2 r xs ys).length)), (17, iv c), (18, iv k)] ∧ L = (p6, .rw 27 3 [ic 2, ic r, .sl pt 0 xs.length]) :: (pt, ints xs) :: (pr, ints ys) :: (pf, ints (fbR 2 r xs ys)) :: (pa, orow zs) :: mobs zs ∧ k ≤ X ∧ c = (fwdK 2 r xs ys k).length) (n := X) ⟨(p6, .rw 27 3 [ic 2, ic r, .sl pt 0 xs.length]) :: (pt, ints xs) :: (pr, ints ys) :: (pf, ints (fbR 2 r xs ys)) :: (pa, orow zs) :: mobs zs, ⟨0, 0, rfl, hfr, rfl, by omega, rfl⟩, inferInstance⟩ ?_
  rintro m fr L ⟨k, c, rfl, rfl, rfl, hk, hc1⟩
  have hck := hfw k
  by_cases hk' : k < X
  · repeat' (first
 | refine A_go rfl ?_ | refine A_ifT rfl rfl ?_ | refine A_ifF rfl rfl ?_ | refine A_offP rfl rfl ?_ | refine A_offH rfl rfl ?_ | refine A_off0 rfl rfl ?_
 | refine A_add rfl rfl rfl (by omega) ?_ | refine A_sub rfl rfl rfl (by omega) ?_ | refine A_mul rfl rfl rfl (by omega) ?_ | refine A_rem rfl rfl rfl (by omega) ?_ | refine A_remT rfl rfl rfl (by omega) ?_ | refine A_quo rfl rfl rfl (by omega) ?_
 | ((first | refine A_lt rfl rfl rfl ?_ ?_ | refine A_le rfl rfl rfl ?_ ?_ | refine A_gt rfl rfl rfl ?_ ?_ | refine A_ge rfl rfl rfl ?_ ?_ | refine A_eq rfl rfl rfl ?_ ?_ | refine A_ne rfl rfl rfl ?_ ?_ | refine A_beq rfl rfl rfl ?_ ?_) <;> intro hc <;> try first | contradiction | (exfalso; omega) | exact absurd rfl hc)
 | refine A_idxN1 rfl rfl rfl (by omega) ?_ | refine A_idx1 rfl rfl rfl (by omega) ?_ | refine A_idxArr1 rfl rfl rfl (by omega) ?_
 | refine A_shlM (n := n) hX rfl rfl (by omega) ?_
 | refine A_fld rfl rfl ?_ | refine A_mk3 rfl rfl rfl rfl ?_ | refine A_mk23 rfl rfl rfl ?_ | refine A_mk2 rfl rfl rfl ?_ | refine A_mk13 rfl rfl ?_ | refine A_p (by rfl) rfl ?_
 | refine A_ldI rfl (by first | omega | (simp; done) | (simp; omega)) rfl ?_ | refine A_ldB rfl (by first | omega | (simp; done) | (simp; omega)) rfl ?_ | refine A_ld rfl (by rfl) rfl ?_ | refine A_ldW rfl (by simp) rfl ?_
 | refine A_st rfl rfl rfl ?_ | refine A_stW rfl rfl (by simp) rfl ?_ | refine A_stE rfl rfl (by first | omega | (simp; done) | (simp; omega)) rfl ?_
 | ((first | refine A_alloc rfl ?_ | refine A_box rfl rfl ?_ | refine A_boxC rfl rfl ?_ | refine A_makeN rfl rfl rfl (by omega) ?_ | refine A_make rfl rfl rfl (by omega) ?_ | refine A_bld1 rfl rfl ?_ | refine A_bld2 rfl rfl rfl ?_ | refine A_bld4 rfl rfl rfl rfl rfl ?_) <;> intro pz hpz)
 | refine A_bld0 rfl ?_ | (refine A_app rfl rfl rfl (by first | omega | (simp; done) | (simp; omega)) (by first | omega | (simp; done) | (simp; omega)) (by omega) ?_; intro pz) | (refine A_appN (enc := ic) rfl (by decide) rfl rfl (by first | omega | (simp; done) | (simp; omega)) (by omega) ?_; intro pz)
 | refine A_chk1 rfl rfl rfl ?_ | refine A_chk2 rfl rfl rfl rfl ?_ | refine A_chk3 rfl rfl rfl rfl rfl ?_ | refine A_chk4 rfl rfl rfl rfl rfl rfl ?_ | refine A_chkI rfl (by assumption) rfl (by simp) ?_
 | refine A_ret1 rfl (by first | exact (RP.t rfl RP.nil) | exact (RP.c rfl inferInstance rfl (by simp) RP.nil)) ?_ | refine A_ret rfl (by first | exact (RP.t rfl (RP.t rfl RP.nil)) | exact (RP.c rfl inferInstance rfl (by simp) (RP.t rfl RP.nil)) | exact (RP.t rfl (RP.t rfl (RP.t rfl RP.nil))) | exact (RP.c rfl inferInstance rfl (by simp) (RP.t rfl (RP.t rfl RP.nil))) | exact (RP.c rfl inferInstance rfl (by simp) (RP.t rfl (RP.t rfl (RP.t rfl (RP.t rfl RP.nil)))))) ?_ | refine A_ret0 rfl ?_)
    refine A_loopX rfl (fun m fr L => ∃ (j po : Nat), m = n - j ∧ fr = [(5, iv r), (6, .c (.ptr p6 0)), (7, iv n), (8, .c (.sl pr 0 n)), (11, .c (.sl pa 0 zs.length)), (13, .c (.sl pf 0 (fbR 2 r xs ys).length)), (17, iv c), (18, iv k), (19, .c (.sl po 0 j)), (20, iv ((n : Int) - 1 - j))] ∧ L = (p6, .rw 27 3 [ic 2, ic r, .sl pt 0 xs.length]) :: (pt, ints xs) :: (pr, ints ys) :: (pf, ints (fbR 2 r xs ys)) :: (po, ints ((dg 2 k n).take j)) :: (pa, orow zs) :: mobs zs ∧ j ≤ n) (n := n) ⟨(p6, .rw 27 3 [ic 2, ic r, .sl pt 0 xs.length]) :: (pt, ints xs) :: (pr, ints ys) :: (pf, ints (fbR 2 r xs ys)) :: (1, ints []) :: (pa, orow zs) :: mobs zs, ⟨0, 1, rfl, by simp only [Int.ofNat_zero, Int.sub_zero]; rfl, rfl, by omega⟩, inferInstance⟩ ?_
    rintro m fr L ⟨j, po, rfl, rfl, rfl, hj⟩
    have htl : ((dg 2 k n).take j).length = j := by simp; omega
    by_cases hj' : j < n
    · have ej : (n : Int) - 1 - j = ((n - 1 - j : Nat) : Int) := by omega
      rw [ej]
      have hb : k / 2 ^ (n - 1 - j) % 2 < 2 := Nat.mod_lt _ (by omega)
      repeat' (first
 | refine A_go rfl ?_ | refine A_ifT rfl rfl ?_ | refine A_ifF rfl rfl ?_ | refine A_offP rfl rfl ?_ | refine A_offH rfl rfl ?_ | refine A_off0 rfl rfl ?_
 | refine A_add rfl rfl rfl (by omega) ?_ | refine A_sub rfl rfl rfl (by omega) ?_ | refine A_mul rfl rfl rfl (by omega) ?_ | refine A_rem rfl rfl rfl (by omega) ?_ | refine A_remT rfl rfl rfl (by omega) ?_ | refine A_quo rfl rfl rfl (by omega) ?_
 | ((first | refine A_lt rfl rfl rfl ?_ ?_ | refine A_le rfl rfl rfl ?_ ?_ | refine A_gt rfl rfl rfl ?_ ?_ | refine A_ge rfl rfl rfl ?_ ?_ | refine A_eq rfl rfl rfl ?_ ?_ | refine A_ne rfl rfl rfl ?_ ?_ | refine A_beq rfl rfl rfl ?_ ?_) <;> intro hc <;> try first | contradiction | (exfalso; omega) | exact absurd rfl hc)
 | refine A_idxN1 rfl rfl rfl (by omega) ?_ | refine A_idx1 rfl rfl rfl (by omega) ?_ | refine A_idxArr1 rfl rfl rfl (by omega) ?_
 | refine A_convU rfl rfl (by omega) ?_
 | refine A_shrF (n := n - 1 - j) rfl rfl rfl (by omega) ?_
 | refine A_andF rfl rfl ?_
 | refine A_fld rfl rfl ?_ | refine A_mk3 rfl rfl rfl rfl ?_ | refine A_mk23 rfl rfl rfl ?_ | refine A_mk2 rfl rfl rfl ?_ | refine A_mk13 rfl rfl ?_ | refine A_p (by rfl) rfl ?_
 | refine A_ldI rfl (by first | omega | (simp; done) | (simp; omega)) rfl ?_ | refine A_ldB rfl (by first | omega | (simp; done) | (simp; omega)) rfl ?_ | refine A_ld rfl (by rfl) rfl ?_ | refine A_ldW rfl (by simp) rfl ?_
 | refine A_st rfl rfl rfl ?_ | refine A_stW rfl rfl (by simp) rfl ?_ | refine A_stE rfl rfl (by first | omega | (simp; done) | (simp; omega)) rfl ?_
 | ((first | refine A_alloc rfl ?_ | refine A_box rfl rfl ?_ | refine A_boxC rfl rfl ?_ | refine A_makeN rfl rfl rfl (by omega) ?_ | refine A_make rfl rfl rfl (by omega) ?_ | refine A_bld1 rfl rfl ?_ | refine A_bld2 rfl rfl rfl ?_ | refine A_bld4 rfl rfl rfl rfl rfl ?_) <;> intro pz hpz)
 | refine A_bld0 rfl ?_ | (refine A_app rfl rfl rfl (by first | omega | (simp; done) | (simp; omega)) (by first | omega | (simp; done) | (simp; omega)) (by omega) ?_; intro pz) | (refine A_appN (enc := ic) rfl (by decide) rfl rfl (by first | omega | (simp; done) | (simp; omega)) (by omega) ?_; intro pz)
 | refine A_chk1 rfl rfl rfl ?_ | refine A_chk2 rfl rfl rfl rfl ?_ | refine A_chk3 rfl rfl rfl rfl rfl ?_ | refine A_chk4 rfl rfl rfl rfl rfl rfl ?_ | refine A_chkI rfl (by assumption) rfl (by simp) ?_
 | refine A_ret1 rfl (by first | exact (RP.t rfl RP.nil) | exact (RP.c rfl inferInstance rfl (by simp) RP.nil)) ?_ | refine A_ret rfl (by first | exact (RP.t rfl (RP.t rfl RP.nil)) | exact (RP.c rfl inferInstance rfl (by simp) (RP.t rfl RP.nil)) | exact (RP.t rfl (RP.t rfl (RP.t rfl RP.nil))) | exact (RP.c rfl inferInstance rfl (by simp) (RP.t rfl (RP.t rfl RP.nil))) | exact (RP.c rfl inferInstance rfl (by simp) (RP.t rfl (RP.t rfl (RP.t rfl (RP.t rfl RP.nil)))))) ?_ | refine A_ret0 rfl ?_)
      refine A_roundX rfl ⟨n - (j + 1), (p6, .rw 27 3 [ic 2, ic r, .sl pt 0 xs.length]) :: (pt, ints xs) :: (pr, ints ys) :: (pf, ints (fbR 2 r xs ys)) :: (pz, ints ((dg 2 k n).take (j + 1))) :: (pa, orow zs) :: mobs zs, by omega, ⟨j + 1, pz, rfl, ?_, rfl, by omega⟩, ?_⟩
      · rw [show ((n - 1 - j : Nat) : Int) - 1 = (n : Int) - 1 - ((j + 1 : Nat) : Int) by omega]; rfl
      · rw [← dg_bit hj']; exact inferInstance
    · obtain rfl : n = j := by omega
      have hdl : (dg 2 k n).take n = dg 2 k n := List.take_of_length_le (by simp)
      rw [hdl]
      have hdn : (dg 2 k n).length = n := dg_len
      have hdr : RG 2 (dg 2 k n) := dg_rg (S := 2) (by omega) (by omega)
      have hst : (stepR 2 r xs (dg 2 k n)).length = n := by simp [stepR]
      have hkp : k < (2 : Int).toNat ^ ys.length := by rw [hn]; show k < 2 ^ n; omega
      have hsucc := fwdK_succ (st := 2) (re := r) (xs := xs) (to := ys) (k := k)
      rw [hn, show (2 : Int).toNat = 2 from rfl] at hsucc
      by_cases hq : stepR 2 r xs (dg 2 k n) = ys
      · have hat := fwdK_at (st := 2) (re := r) (xs := xs) (to := ys) (by decide) hkp (by rw [hn]; exact hq)
        rw [hn, ← hc1, ← hF] at hat
        obtain ⟨hat1, hat2⟩ := hat
        change (fwdL 2 r xs ys).getD c [] = dg 2 k n at hat2
        haveI : Fact' (c < zs.length) := ⟨hat1⟩
        have hrx : (zs.getD c Row.nil).xs = dg 2 k n := by
          rw [← hat2, ← hzs, List.getD_eq_getElem?_getD, List.getD_eq_getElem?_getD, List.getElem?_map, List.getElem?_eq_getElem hat1]; rfl
        have hzi := hok _ (getD_mem (d := Row.nil) hat1)
        have hzn : (zs.getD c Row.nil).xs.length = n := by rw [hrx]; exact hdn
        rw [if_pos hq] at hsucc
        have hc2 : c + 1 = (fwdK 2 r xs ys (k + 1)).length := by rw [hsucc, hc1]; simp
        by_cases hc0 : c = 0
        · subst hc0
          have hfb : fbR 2 r xs ys = dg 2 k n := by rw [← hat2, fbR]; cases fwdL 2 r xs ys <;> rfl
          have hfl : (fbR 2 r xs ys).length = n := by rw [hfb]; exact hdn
          repeat' (first
 | refine A_go rfl ?_ | refine A_ifT rfl rfl ?_ | refine A_ifF rfl rfl ?_ | refine A_offP rfl rfl ?_ | refine A_offH rfl rfl ?_ | refine A_off0 rfl rfl ?_
 | refine A_add rfl rfl rfl (by omega) ?_ | refine A_sub rfl rfl rfl (by omega) ?_ | refine A_mul rfl rfl rfl (by omega) ?_ | refine A_rem rfl rfl rfl (by omega) ?_ | refine A_remT rfl rfl rfl (by omega) ?_ | refine A_quo rfl rfl rfl (by omega) ?_
 | ((first | refine A_lt rfl rfl rfl ?_ ?_ | refine A_le rfl rfl rfl ?_ ?_ | refine A_gt rfl rfl rfl ?_ ?_ | refine A_ge rfl rfl rfl ?_ ?_ | refine A_eq rfl rfl rfl ?_ ?_ | refine A_ne rfl rfl rfl ?_ ?_ | refine A_beq rfl rfl rfl ?_ ?_) <;> intro hc <;> try first | contradiction | (exfalso; omega) | exact absurd rfl hc)
 | refine A_idxN1 rfl rfl rfl (by omega) ?_ | refine A_idx1 rfl rfl rfl (by omega) ?_ | refine A_idxArr1 rfl rfl rfl (by omega) ?_
 | (refine A_callM rfl rfl (fun s H => c_stepGo (ys := dg 2 k n) (h := ⟨hv, hdr⟩)) ?_; rintro _ _ ⟨pz, rfl, rfl⟩) | (refine A_callM0 rfl rfl (fun s H => c_stepGo (ys := dg 2 k n) (h := ⟨hv, hdr⟩)) ?_; rintro _ _ ⟨pz, rfl, rfl⟩)
 | (refine A_callB rfl rfl (fun s H => c_b10Ints (hl_xs := by first | rfl | omega) (hl_ys := by first | rfl | omega)) ?_ ?_ <;> intro hc <;> try first | contradiction | (exfalso; omega) | exact absurd rfl hc | exact absurd (And.intro rfl rfl) hc | exact absurd (And.intro rfl (And.intro rfl rfl)) hc | exact absurd (Eq.trans (by assumption) (Eq.symm (by assumption))) hc)
 | refine A_ldR rfl (by omega) rfl ?_
 | refine A_fld rfl rfl ?_ | refine A_mk3 rfl rfl rfl rfl ?_ | refine A_mk23 rfl rfl rfl ?_ | refine A_mk2 rfl rfl rfl ?_ | refine A_mk13 rfl rfl ?_ | refine A_p (by rfl) rfl ?_
 | refine A_ldI rfl (by first | omega | (simp; done) | (simp; omega)) rfl ?_ | refine A_ldB rfl (by first | omega | (simp; done) | (simp; omega)) rfl ?_ | refine A_ld rfl (by rfl) rfl ?_ | refine A_ldW rfl (by simp) rfl ?_
 | refine A_st rfl rfl rfl ?_ | refine A_stW rfl rfl (by simp) rfl ?_ | refine A_stE rfl rfl (by first | omega | (simp; done) | (simp; omega)) rfl ?_
 | ((first | refine A_alloc rfl ?_ | refine A_box rfl rfl ?_ | refine A_boxC rfl rfl ?_ | refine A_makeN rfl rfl rfl (by omega) ?_ | refine A_make rfl rfl rfl (by omega) ?_ | refine A_bld1 rfl rfl ?_ | refine A_bld2 rfl rfl rfl ?_ | refine A_bld4 rfl rfl rfl rfl rfl ?_) <;> intro pz hpz)
 | refine A_bld0 rfl ?_ | (refine A_app rfl rfl rfl (by first | omega | (simp; done) | (simp; omega)) (by first | omega | (simp; done) | (simp; omega)) (by omega) ?_; intro pz) | (refine A_appN (enc := ic) rfl (by decide) rfl rfl (by first | omega | (simp; done) | (simp; omega)) (by omega) ?_; intro pz)
 | refine A_chk1 rfl rfl rfl ?_ | refine A_chk2 rfl rfl rfl rfl ?_ | refine A_chk3 rfl rfl rfl rfl rfl ?_ | refine A_chk4 rfl rfl rfl rfl rfl rfl ?_ | refine A_chkI rfl (by assumption) rfl (by simp) ?_
 | refine A_ret1 rfl (by first | exact (RP.t rfl RP.nil) | exact (RP.c rfl inferInstance rfl (by simp) RP.nil)) ?_ | refine A_ret rfl (by first | exact (RP.t rfl (RP.t rfl RP.nil)) | exact (RP.c rfl inferInstance rfl (by simp) (RP.t rfl RP.nil)) | exact (RP.t rfl (RP.t rfl (RP.t rfl RP.nil))) | exact (RP.c rfl inferInstance rfl (by simp) (RP.t rfl (RP.t rfl RP.nil))) | exact (RP.c rfl inferInstance rfl (by simp) (RP.t rfl (RP.t rfl (RP.t rfl (RP.t rfl RP.nil)))))) ?_ | refine A_ret0 rfl ?_)
          exact A_roundX rfl ⟨X - (k + 1), (p6, .rw 27 3 [ic 2, ic r, .sl pt 0 xs.length]) :: (pt, ints xs) :: (pr, ints ys) :: (pf, ints (fbR 2 r xs ys)) :: (pa, orow zs) :: mobs zs, by omega, ⟨k + 1, 0 + 1, rfl, rfl, rfl, by omega, hc2⟩, inferInstance⟩
        · repeat' (first
 | refine A_go rfl ?_ | refine A_ifT rfl rfl ?_ | refine A_ifF rfl rfl ?_ | refine A_offP rfl rfl ?_ | refine A_offH rfl rfl ?_ | refine A_off0 rfl rfl ?_
 | refine A_add rfl rfl rfl (by omega) ?_ | refine A_sub rfl rfl rfl (by omega) ?_ | refine A_mul rfl rfl rfl (by omega) ?_ | refine A_rem rfl rfl rfl (by omega) ?_ | refine A_remT rfl rfl rfl (by omega) ?_ | refine A_quo rfl rfl rfl (by omega) ?_
 | ((first | refine A_lt rfl rfl rfl ?_ ?_ | refine A_le rfl rfl rfl ?_ ?_ | refine A_gt rfl rfl rfl ?_ ?_ | refine A_ge rfl rfl rfl ?_ ?_ | refine A_eq rfl rfl rfl ?_ ?_ | refine A_ne rfl rfl rfl ?_ ?_ | refine A_beq rfl rfl rfl ?_ ?_) <;> intro hc <;> try first | contradiction | (exfalso; omega) | exact absurd rfl hc)
 | refine A_idxN1 rfl rfl rfl (by omega) ?_ | refine A_idx1 rfl rfl rfl (by omega) ?_ | refine A_idxArr1 rfl rfl rfl (by omega) ?_
 | (refine A_callM rfl rfl (fun s H => c_stepGo (ys := dg 2 k n) (h := ⟨hv, hdr⟩)) ?_; rintro _ _ ⟨pz, rfl, rfl⟩) | (refine A_callM0 rfl rfl (fun s H => c_stepGo (ys := dg 2 k n) (h := ⟨hv, hdr⟩)) ?_; rintro _ _ ⟨pz, rfl, rfl⟩)
 | (refine A_callB rfl rfl (fun s H => c_b10Ints (hl_xs := by first | rfl | omega) (hl_ys := by first | rfl | omega)) ?_ ?_ <;> intro hc <;> try first | contradiction | (exfalso; omega) | exact absurd rfl hc | exact absurd (And.intro rfl rfl) hc | exact absurd (And.intro rfl (And.intro rfl rfl)) hc | exact absurd (Eq.trans (by assumption) (Eq.symm (by assumption))) hc)
 | refine A_ldR rfl (by omega) rfl ?_
 | refine A_fld rfl rfl ?_ | refine A_mk3 rfl rfl rfl rfl ?_ | refine A_mk23 rfl rfl rfl ?_ | refine A_mk2 rfl rfl rfl ?_ | refine A_mk13 rfl rfl ?_ | refine A_p (by rfl) rfl ?_
 | refine A_ldI rfl (by first | omega | (simp; done) | (simp; omega)) rfl ?_ | refine A_ldB rfl (by first | omega | (simp; done) | (simp; omega)) rfl ?_ | refine A_ld rfl (by rfl) rfl ?_ | refine A_ldW rfl (by simp) rfl ?_
 | refine A_st rfl rfl rfl ?_ | refine A_stW rfl rfl (by simp) rfl ?_ | refine A_stE rfl rfl (by first | omega | (simp; done) | (simp; omega)) rfl ?_
 | ((first | refine A_alloc rfl ?_ | refine A_box rfl rfl ?_ | refine A_boxC rfl rfl ?_ | refine A_makeN rfl rfl rfl (by omega) ?_ | refine A_make rfl rfl rfl (by omega) ?_ | refine A_bld1 rfl rfl ?_ | refine A_bld2 rfl rfl rfl ?_ | refine A_bld4 rfl rfl rfl rfl rfl ?_) <;> intro pz hpz)
 | refine A_bld0 rfl ?_ | (refine A_app rfl rfl rfl (by first | omega | (simp; done) | (simp; omega)) (by first | omega | (simp; done) | (simp; omega)) (by omega) ?_; intro pz) | (refine A_appN (enc := ic) rfl (by decide) rfl rfl (by first | omega | (simp; done) | (simp; omega)) (by omega) ?_; intro pz)
 | refine A_chk1 rfl rfl rfl ?_ | refine A_chk2 rfl rfl rfl rfl ?_ | refine A_chk3 rfl rfl rfl rfl rfl ?_ | refine A_chk4 rfl rfl rfl rfl rfl rfl ?_ | refine A_chkI rfl (by assumption) rfl (by simp) ?_
 | refine A_ret1 rfl (by first | exact (RP.t rfl RP.nil) | exact (RP.c rfl inferInstance rfl (by simp) RP.nil)) ?_ | refine A_ret rfl (by first | exact (RP.t rfl (RP.t rfl RP.nil)) | exact (RP.c rfl inferInstance rfl (by simp) (RP.t rfl RP.nil)) | exact (RP.t rfl (RP.t rfl (RP.t rfl RP.nil))) | exact (RP.c rfl inferInstance rfl (by simp) (RP.t rfl (RP.t rfl RP.nil))) | exact (RP.c rfl inferInstance rfl (by simp) (RP.t rfl (RP.t rfl (RP.t rfl (RP.t rfl RP.nil)))))) ?_ | refine A_ret0 rfl ?_)
          exact A_roundX rfl ⟨X - (k + 1), (p6, .rw 27 3 [ic 2, ic r, .sl pt 0 xs.length]) :: (pt, ints xs) :: (pr, ints ys) :: (pf, ints (fbR 2 r xs ys)) :: (pa, orow zs) :: mobs zs, by omega, ⟨k + 1, c + 1, rfl, rfl, rfl, by omega, hc2⟩, inferInstance⟩
      · rw [if_neg hq, List.append_nil] at hsucc
        repeat' (first
 | refine A_go rfl ?_ | refine A_ifT rfl rfl ?_ | refine A_ifF rfl rfl ?_ | refine A_offP rfl rfl ?_ | refine A_offH rfl rfl ?_ | refine A_off0 rfl rfl ?_
 | refine A_add rfl rfl rfl (by omega) ?_ | refine A_sub rfl rfl rfl (by omega) ?_ | refine A_mul rfl rfl rfl (by omega) ?_ | refine A_rem rfl rfl rfl (by omega) ?_ | refine A_remT rfl rfl rfl (by omega) ?_ | refine A_quo rfl rfl rfl (by omega) ?_
 | ((first | refine A_lt rfl rfl rfl ?_ ?_ | refine A_le rfl rfl rfl ?_ ?_ | refine A_gt rfl rfl rfl ?_ ?_ | refine A_ge rfl rfl rfl ?_ ?_ | refine A_eq rfl rfl rfl ?_ ?_ | refine A_ne rfl rfl rfl ?_ ?_ | refine A_beq rfl rfl rfl ?_ ?_) <;> intro hc <;> try first | contradiction | (exfalso; omega) | exact absurd rfl hc)
 | refine A_idxN1 rfl rfl rfl (by omega) ?_ | refine A_idx1 rfl rfl rfl (by omega) ?_ | refine A_idxArr1 rfl rfl rfl (by omega) ?_
 | (refine A_callM rfl rfl (fun s H => c_stepGo (ys := dg 2 k n) (h := ⟨hv, hdr⟩)) ?_; rintro _ _ ⟨pz, rfl, rfl⟩) | (refine A_callM0 rfl rfl (fun s H => c_stepGo (ys := dg 2 k n) (h := ⟨hv, hdr⟩)) ?_; rintro _ _ ⟨pz, rfl, rfl⟩)
 | (refine A_callB rfl rfl (fun s H => c_b10Ints) ?_ ?_ <;> intro hc <;> try first | contradiction | (exfalso; omega) | exact absurd rfl hc | exact absurd (And.intro rfl rfl) hc | exact absurd (And.intro rfl (And.intro rfl rfl)) hc | exact absurd (Eq.trans (by assumption) (Eq.symm (by assumption))) hc)
 | refine A_fld rfl rfl ?_ | refine A_mk3 rfl rfl rfl rfl ?_ | refine A_mk23 rfl rfl rfl ?_ | refine A_mk2 rfl rfl rfl ?_ | refine A_mk13 rfl rfl ?_ | refine A_p (by rfl) rfl ?_
 | refine A_ldI rfl (by first | omega | (simp; done) | (simp; omega)) rfl ?_ | refine A_ldB rfl (by first | omega | (simp; done) | (simp; omega)) rfl ?_ | refine A_ld rfl (by rfl) rfl ?_ | refine A_ldW rfl (by simp) rfl ?_
 | refine A_st rfl rfl rfl ?_ | refine A_stW rfl rfl (by simp) rfl ?_ | refine A_stE rfl rfl (by first | omega | (simp; done) | (simp; omega)) rfl ?_
 | ((first | refine A_alloc rfl ?_ | refine A_box rfl rfl ?_ | refine A_boxC rfl rfl ?_ | refine A_makeN rfl rfl rfl (by omega) ?_ | refine A_make rfl rfl rfl (by omega) ?_ | refine A_bld1 rfl rfl ?_ | refine A_bld2 rfl rfl rfl ?_ | refine A_bld4 rfl rfl rfl rfl rfl ?_) <;> intro pz hpz)
 | refine A_bld0 rfl ?_ | (refine A_app rfl rfl rfl (by first | omega | (simp; done) | (simp; omega)) (by first | omega | (simp; done) | (simp; omega)) (by omega) ?_; intro pz) | (refine A_appN (enc := ic) rfl (by decide) rfl rfl (by first | omega | (simp; done) | (simp; omega)) (by omega) ?_; intro pz)
 | refine A_chk1 rfl rfl rfl ?_ | refine A_chk2 rfl rfl rfl rfl ?_ | refine A_chk3 rfl rfl rfl rfl rfl ?_ | refine A_chk4 rfl rfl rfl rfl rfl rfl ?_ | refine A_chkI rfl (by assumption) rfl (by simp) ?_
 | refine A_ret1 rfl (by first | exact (RP.t rfl RP.nil) | exact (RP.c rfl inferInstance rfl (by simp) RP.nil)) ?_ | refine A_ret rfl (by first | exact (RP.t rfl (RP.t rfl RP.nil)) | exact (RP.c rfl inferInstance rfl (by simp) (RP.t rfl RP.nil)) | exact (RP.t rfl (RP.t rfl (RP.t rfl RP.nil))) | exact (RP.c rfl inferInstance rfl (by simp) (RP.t rfl (RP.t rfl RP.nil))) | exact (RP.c rfl inferInstance rfl (by simp) (RP.t rfl (RP.t rfl (RP.t rfl (RP.t rfl RP.nil)))))) ?_ | refine A_ret0 rfl ?_)
        exact A_roundX rfl ⟨X - (k + 1), (p6, .rw 27 3 [ic 2, ic r, .sl pt 0 xs.length]) :: (pt, ints xs) :: (pr, ints ys) :: (pf, ints (fbR 2 r xs ys)) :: (pa, orow zs) :: mobs zs, by omega, ⟨k + 1, c, rfl, rfl, rfl, by omega, by rw [hsucc]; exact hc1⟩, inferInstance⟩
  · obtain rfl : X = k := by omega
    refine A_go rfl ?_
    refine A_p (by rfl) rfl ?_
    refine A_p (by rfl) rfl ?_
    refine A_shlM (n := n) hX rfl rfl (by omega) ?_
    refine A_lt rfl rfl rfl ?_ ?_ <;> intro hc
    · exfalso; omega
    refine A_ifF rfl rfl ?_
    have hall : c = zs.length := by rw [hc1, hF, ← fwdK_all (st := 2) (by decide), hn]; rw [← hX]; rfl
    rw [hall]
    refine A_subL (L' := [(p6, .rw 27 3 [ic 2, ic r, .sl pt 0 xs.length]), (pt, ints xs)]) ?_
    refine A_to (k2 := BkK 13) rfl ?_
    exact bk_tail hr hv (by omega)

end Go.Proofs.Ytlmbgaoeplffkaa
