/- Cells are counted. -/
import Derived.Test.YtkeabhhndcpejaaXfieldAt
import Derived.Test.YtkeabhhndcpejaaFB
namespace Go.Proofs.Ytkeabhhndcpejaa
open Go Go.RowKit
set_option linter.unusedVariables false
set_option linter.unusedSimpArgs false
set_option maxRecDepth 100000
set_option maxHeartbeats 8000000
-- spec.l02Differ
def L54 : AFun := ⟨25, [.t 4],
 (.seq (.ops false [⟨(some 4), .mv (.k (iv 0)), none, []⟩])
 (.seq (.ops false [⟨(some 5), .mv (.k (iv 0)), none, []⟩])
 (.seq (.seq (.ops false [⟨(some 6), .mv (.k (iv 0)), none, []⟩])
  (.block 0 (.loop [0, 1, 5, 6] (.seq (.seq (.ops false [⟨(some 7), .mv (.t 6), none, []⟩,
       ⟨(some 8), .mv (.t 0), none, []⟩,
       ⟨(some 9), .len false (.t 8), none, []⟩,
       ⟨(some 10), .bin .lss (.t 7) (.t 9), none, []⟩])
     (.cond (.t 10) .skip
      (.exit 0)))
    (.seq (.block 1 (.seq (.ops true [⟨(some 13), .mv (.t 0), none, []⟩,
        ⟨(some 14), .mv (.t 6), none, []⟩,
        ⟨(some 15), .idxA 1 (.t 13) (.t 14), none, []⟩,
        ⟨(some 16), .load false 1 (.t 15), none, []⟩,
        ⟨(some 17), .mv (.t 1), none, []⟩,
        ⟨(some 18), .mv (.t 6), none, []⟩,
        ⟨(some 19), .idxA 1 (.t 17) (.t 18), none, []⟩,
        ⟨(some 20), .load false 1 (.t 19), none, []⟩,
        ⟨(some 21), .bin .neq (.t 16) (.t 20), none, []⟩])
      (.cond (.t 21) (.ops false [⟨(some 22), .mv (.t 5), none, []⟩,
        ⟨(some 23), .bin .add (.t 22) (.k (iv 1)), none, []⟩,
        ⟨(some 5), .mv (.t 23), none, []⟩])
       .skip)))
    (.ops false [⟨(some 11), .mv (.t 6), none, []⟩,
     ⟨(some 12), .bin .add (.t 11) (.k (iv 1)), none, []⟩,
     ⟨(some 6), .mv (.t 12), none, []⟩]))))))
 (.seq (.ops false [⟨(some 24), .mv (.t 5), none, []⟩,
   ⟨(some 4), .mv (.t 24), none, []⟩])
 .ret))))⟩
theorem code54 : acode Try.prog hints 54 = some L54 := by kernel_rfl


def cnt (xs : List Int) (a : Int) : Nat → Nat
  | 0 => 0
  | n + 1 => cnt xs a n + if xs.getD n 0 = a then 1 else 0
theorem cnt_le {xs : List Int} {a : Int} : ∀ n, cnt xs a n ≤ n
  | 0 => Nat.le_refl _
  | n + 1 => by have := cnt_le (xs := xs) (a := a) n; simp only [cnt]; split <;> omega
def dif (xs ys : List Int) : Nat → Nat
  | 0 => 0
  | n + 1 => dif xs ys n + if xs.getD n 0 = ys.getD n 0 then 0 else 1
theorem dif_le {xs ys : List Int} : ∀ n, dif xs ys n ≤ n
  | 0 => Nat.le_refl _
  | n + 1 => by have := dif_le (xs := xs) (ys := ys) n; simp only [dif]; split <;> omega
theorem vf_len {r c : Int} {xs : List Int} (h : VF r c xs) : xs.length ≤ 576 := by
  have := side_mul (r := r) (c := c) (by have := h.1; omega) (by have := h.2.1; omega)
  have := h.2.2.1; omega
theorem c_l02Differ {s : St} [Wf s] {id_xs off_xs len_xs : Nat} {xs : List Int} [h_xs : ArgE ic s id_xs off_xs xs] (hl_xs : xs.length = len_xs := by first | rfl | simp | omega | (simp; omega)) {id_ys off_ys len_ys : Nat} {ys : List Int} [h_ys : ArgE ic s id_ys off_ys ys] (hl_ys : ys.length = len_ys := by first | rfl | simp | omega | (simp; omega)) (hb : len_xs ≤ 2000000 ∧ len_xs ≤ len_ys := by omega) : FnV 54 [.c (.sl id_xs off_xs len_xs), .c (.sl id_ys off_ys len_ys)] s (iv (dif xs ys len_xs)) := by
  refine F_start code54 ?_
  repeat' (first
 | refine A_go rfl ?_ | refine A_ifT rfl rfl ?_ | refine A_ifF rfl rfl ?_ | refine A_offP rfl rfl ?_ | refine A_offH rfl rfl ?_ | refine A_off0 rfl rfl ?_
 | refine A_add rfl rfl rfl (by omega) ?_ | refine A_sub rfl rfl rfl (by omega) ?_ | refine A_mul rfl rfl rfl (by omega) ?_ | refine A_rem rfl rfl rfl (by omega) ?_ | refine A_remT rfl rfl rfl (by omega) ?_ | refine A_quo rfl rfl rfl (by omega) ?_
 | ((first | refine A_lt rfl rfl rfl ?_ ?_ | refine A_le rfl rfl rfl ?_ ?_ | refine A_gt rfl rfl rfl ?_ ?_ | refine A_ge rfl rfl rfl ?_ ?_ | refine A_eq rfl rfl rfl ?_ ?_ | refine A_ne rfl rfl rfl ?_ ?_ | refine A_beq rfl rfl rfl ?_ ?_) <;> intro hc <;> try first | contradiction | (exfalso; omega) | exact absurd rfl hc)
 | refine A_idxN1 rfl rfl rfl (by omega) ?_ | refine A_idx1 rfl rfl rfl (by omega) ?_ | refine A_idxArr1 rfl rfl rfl (by omega) ?_
 | refine A_fld rfl rfl ?_ | refine A_mk3 rfl rfl rfl rfl ?_ | refine A_mk23 rfl rfl rfl ?_ | refine A_mk2 rfl rfl rfl ?_ | refine A_p (by rfl) rfl ?_
 | refine A_ldI rfl (by first | omega | (simp; done) | (simp; omega)) rfl ?_ | refine A_ldB rfl (by first | omega | (simp; done) | (simp; omega)) rfl ?_ | refine A_ld rfl (by rfl) rfl ?_ | refine A_ldW rfl (by simp) rfl ?_
 | refine A_st rfl rfl rfl ?_ | refine A_stW rfl rfl (by simp) rfl ?_ | refine A_stE rfl rfl (by first | omega | (simp; done) | (simp; omega)) rfl ?_
 | ((first | refine A_alloc rfl ?_ | refine A_box rfl rfl ?_ | refine A_boxC rfl rfl ?_ | refine A_makeN rfl rfl rfl (by omega) ?_ | refine A_make rfl rfl rfl (by omega) ?_ | refine A_bld1 rfl rfl ?_ | refine A_bld2 rfl rfl rfl ?_ | refine A_bld4 rfl rfl rfl rfl rfl ?_) <;> intro pz hpz)
 | refine A_bld0 rfl ?_ | (refine A_app rfl rfl rfl (by first | omega | (simp; done) | (simp; omega)) (by first | omega | (simp; done) | (simp; omega)) (by omega) ?_; intro pz) | (refine A_appN (enc := ic) rfl (by decide) rfl rfl (by first | omega | (simp; done) | (simp; omega)) (by omega) ?_; intro pz)
 | refine A_chk1 rfl rfl rfl ?_ | refine A_chk2 rfl rfl rfl rfl ?_ | refine A_chk3 rfl rfl rfl rfl rfl ?_ | refine A_chk4 rfl rfl rfl rfl rfl rfl ?_ | refine A_chkI rfl (by assumption) rfl (by simp) ?_
 | refine A_ret1 rfl (by first | exact (RP.t rfl RP.nil) | exact (RP.c rfl inferInstance rfl (by simp) RP.nil)) ?_ | refine A_ret rfl (by first | exact (RP.t rfl (RP.t rfl RP.nil)) | exact (RP.c rfl inferInstance rfl (by simp) (RP.t rfl RP.nil)) | exact (RP.t rfl (RP.t rfl (RP.t rfl RP.nil))) | exact (RP.c rfl inferInstance rfl (by simp) (RP.t rfl (RP.t rfl RP.nil))) | exact (RP.c rfl inferInstance rfl (by simp) (RP.t rfl (RP.t rfl (RP.t rfl (RP.t rfl RP.nil)))))) ?_ | refine A_ret0 rfl ?_)
  refine A_loop rfl [] (fun m fr L => ∃ (i : Nat) (n : Nat), m = len_xs - i ∧ fr = [(0, .c (.sl id_xs off_xs len_xs)), (1, .c (.sl id_ys off_ys len_ys)), (5, iv n), (6, iv i)] ∧ L = [] ∧ i ≤ len_xs ∧ n = dif xs ys i) len_xs ⟨0, 0, rfl, rfl, rfl, by omega, rfl⟩ ?_
  rintro m fr L ⟨i, n, rfl, rfl, rfl, hi, hn⟩
  have hc := dif_le (xs := xs) (ys := ys) i
  repeat' (first
 | refine A_go rfl ?_ | refine A_ifT rfl rfl ?_ | refine A_ifF rfl rfl ?_ | refine A_offP rfl rfl ?_ | refine A_offH rfl rfl ?_ | refine A_off0 rfl rfl ?_
 | refine A_add rfl rfl rfl (by omega) ?_ | refine A_sub rfl rfl rfl (by omega) ?_ | refine A_mul rfl rfl rfl (by omega) ?_ | refine A_rem rfl rfl rfl (by omega) ?_ | refine A_remT rfl rfl rfl (by omega) ?_ | refine A_quo rfl rfl rfl (by omega) ?_
 | ((first | refine A_lt rfl rfl rfl ?_ ?_ | refine A_le rfl rfl rfl ?_ ?_ | refine A_gt rfl rfl rfl ?_ ?_ | refine A_ge rfl rfl rfl ?_ ?_ | refine A_eq rfl rfl rfl ?_ ?_ | refine A_ne rfl rfl rfl ?_ ?_ | refine A_beq rfl rfl rfl ?_ ?_) <;> intro hc <;> try first | contradiction | (exfalso; omega) | exact absurd rfl hc)
 | refine A_idxN1 rfl rfl rfl (by omega) ?_ | refine A_idx1 rfl rfl rfl (by omega) ?_ | refine A_idxArr1 rfl rfl rfl (by omega) ?_
 | refine A_fld rfl rfl ?_ | refine A_mk3 rfl rfl rfl rfl ?_ | refine A_mk23 rfl rfl rfl ?_ | refine A_mk2 rfl rfl rfl ?_ | refine A_p (by rfl) rfl ?_
 | refine A_ldI rfl (by first | omega | (simp; done) | (simp; omega)) rfl ?_ | refine A_ldB rfl (by first | omega | (simp; done) | (simp; omega)) rfl ?_ | refine A_ld rfl (by rfl) rfl ?_ | refine A_ldW rfl (by simp) rfl ?_
 | refine A_st rfl rfl rfl ?_ | refine A_stW rfl rfl (by simp) rfl ?_ | refine A_stE rfl rfl (by first | omega | (simp; done) | (simp; omega)) rfl ?_
 | ((first | refine A_alloc rfl ?_ | refine A_box rfl rfl ?_ | refine A_boxC rfl rfl ?_ | refine A_makeN rfl rfl rfl (by omega) ?_ | refine A_make rfl rfl rfl (by omega) ?_ | refine A_bld1 rfl rfl ?_ | refine A_bld2 rfl rfl rfl ?_ | refine A_bld4 rfl rfl rfl rfl rfl ?_) <;> intro pz hpz)
 | refine A_bld0 rfl ?_ | (refine A_app rfl rfl rfl (by first | omega | (simp; done) | (simp; omega)) (by first | omega | (simp; done) | (simp; omega)) (by omega) ?_; intro pz) | (refine A_appN (enc := ic) rfl (by decide) rfl rfl (by first | omega | (simp; done) | (simp; omega)) (by omega) ?_; intro pz)
 | refine A_chk1 rfl rfl rfl ?_ | refine A_chk2 rfl rfl rfl rfl ?_ | refine A_chk3 rfl rfl rfl rfl rfl ?_ | refine A_chk4 rfl rfl rfl rfl rfl rfl ?_ | refine A_chkI rfl (by assumption) rfl (by simp) ?_
 | refine A_ret1 rfl (by first | exact (RP.t rfl RP.nil) | exact (RP.c rfl inferInstance rfl (by simp) RP.nil)) ?_ | refine A_ret rfl (by first | exact (RP.t rfl (RP.t rfl RP.nil)) | exact (RP.c rfl inferInstance rfl (by simp) (RP.t rfl RP.nil)) | exact (RP.t rfl (RP.t rfl (RP.t rfl RP.nil))) | exact (RP.c rfl inferInstance rfl (by simp) (RP.t rfl (RP.t rfl RP.nil))) | exact (RP.c rfl inferInstance rfl (by simp) (RP.t rfl (RP.t rfl (RP.t rfl (RP.t rfl RP.nil)))))) ?_ | refine A_ret0 rfl ?_)
  · refine A_round rfl [] (len_xs - (i + 1)) (by omega) ?_
    exact ⟨i + 1, n + 1, rfl, rfl, rfl, by omega, by simp only [dif]; rw [if_neg (by assumption)]; omega⟩
  · refine A_round rfl [] (len_xs - (i + 1)) (by omega) ?_
    exact ⟨i + 1, n, rfl, rfl, rfl, by omega, by simp only [dif]; rw [if_pos (by assumption)]; omega⟩
  · have hi' : i = len_xs := by omega
    subst hi'; subst hn
    exact R_v rfl
/-- Two fields of as many rows and columns. -/
def VF2 (r c : Int) (xs : List Int) (r2 c2 : Int) (ys : List Int) : Prop := (VF r c xs ∧ VF r2 c2 ys) ∧ r = r2 ∧ c = c2
theorem VF2.len {r c r2 c2 : Int} {xs ys : List Int} (h : VF2 r c xs r2 c2 ys) : xs.length = ys.length := by
  obtain ⟨⟨h1, h2⟩, rfl, rfl⟩ := h
  have := h1.2.2.1; have := h2.2.2.1; omega
end Go.Proofs.Ytkeabhhndcpejaa
