/- Sums of heaps settle. -/
import Derived.Test.YtckobcjjbpnkcaaXsettleS
import Derived.Test.YtckobcjjbpnkcaaXcount
import Derived.Test.YtckobcjjbpnkcaaFB
namespace Go.Proofs.Ytckobcjjbpnkcaa
open Go Go.RowKit
set_option linter.unusedVariables false
set_option linter.unusedSimpArgs false
set_option maxRecDepth 100000
set_option maxHeartbeats 8000000
-- impl.AddHeaps
def L34 : AFun := ⟨21, [.cell true 3 4, .t 5],
 (.seq (.ops false [⟨(some 2), .box 25 (.t 0), none, []⟩,
   ⟨(some 3), .box 25 (.t 1), none, []⟩,
   ⟨(some 4), .alloc 25 [.int .i64 0, .int .i64 0, .sl 0 0 0], none, []⟩,
   ⟨(some 5), .mv (.k (bv false)), none, []⟩])
 (.seq (.seq (.ops false [⟨(some 7), .load true 3 (.t 2), none, []⟩,
    ⟨(some 8), .load true 3 (.t 3), none, []⟩,
    ⟨(some 9), .call (.f 70) [(.t 7), (.t 8)], none, []⟩,
    ⟨(some 10), .un .not (.t 9), none, []⟩])
  (.cond (.t 10) (.seq (.ops false [⟨(some 11), .build [.int .i64 0, .int .i64 0, .sl 0 0 0] [], none, []⟩,
     ⟨none, .store 3 (.t 4) (.t 11), none, []⟩,
     ⟨(some 5), .mv (.k (bv false)), none, []⟩])
   .ret)
   .skip))
 (.seq (.ops false [⟨(some 12), .fieldA 0 (.t 2), none, []⟩,
   ⟨(some 13), .load false 1 (.t 12), none, []⟩,
   ⟨(some 14), .fieldA 1 (.t 2), none, []⟩,
   ⟨(some 15), .load false 1 (.t 14), none, []⟩,
   ⟨(some 16), .mkFn 75 [(.t 2), (.t 3)], none, []⟩,
   ⟨(some 17), .call (.f 44) [(.t 13), (.t 15), (.t 16)], none, []⟩,
   ⟨(some 6), .alloc 25 [.int .i64 0, .int .i64 0, .sl 0 0 0], none, []⟩,
   ⟨none, .store 3 (.t 6) (.t 17), none, []⟩])
 (.seq (.ops false [⟨(some 18), .load true 3 (.t 6), none, []⟩,
   ⟨(some 19), .call (.f 74) [(.t 18)], none, []⟩])
 (.seq (.ops false [⟨(some 20), .load true 3 (.t 6), none, []⟩,
   ⟨none, .store 3 (.t 4) (.t 20), none, []⟩,
   ⟨(some 5), .mv (.k (bv true)), none, []⟩])
 .ret)))))⟩
theorem code34 : acode Try.prog hints 34 = some L34 := by kernel_rfl

-- impl.AddHeaps$1
def L75 : AFun := ⟨16, [.t 6],
 (.seq (.ops false [⟨(some 6), .mv (.k (iv 0)), none, []⟩])
 (.seq (.ops true [⟨(some 7), .load true 3 (.t 2), none, []⟩,
   ⟨(some 8), .mv (.t 0), none, []⟩,
   ⟨(some 9), .mv (.t 1), none, []⟩,
   ⟨(some 10), .call (.f 68) [(.t 7), (.t 8), (.t 9)], none, []⟩,
   ⟨(some 11), .load true 3 (.t 3), none, [0]⟩,
   ⟨(some 12), .mv (.t 0), none, []⟩,
   ⟨(some 13), .mv (.t 1), none, []⟩,
   ⟨(some 14), .call (.f 68) [(.t 11), (.t 12), (.t 13)], none, []⟩,
   ⟨(some 15), .bin .add (.t 10) (.t 14), none, []⟩,
   ⟨(some 6), .mv (.t 15), none, []⟩])
 .ret))⟩
theorem code75 : acode Try.prog hints 75 = some L75 := by kernel_rfl


def addG (xs ys : List Int) (C i k : Int) : Int := cel xs C i k + cel ys C i k
theorem addG_at {R C n : Nat} {xs ys : List Int} (h : n < R * C) : (mk R C (addG xs ys C)).getD n 0 = xs.getD n 0 + ys.getD n 0 := by
  have h0 : (mk R C (addG xs ys C)).getD n 0 = addG xs ys C ((n / C : Nat) : Int) ((n % C : Nat) : Int) := getD_map_range h
  rw [h0, addG, cel, cel, toNat_cell, (div_mod_lt h).2.2]
theorem addG_in {R C : Nat} {xs ys : List Int} (hx : ∀ c, 0 ≤ xs.getD c 0 ∧ xs.getD c 0 ≤ 9) (hy : ∀ c, 0 ≤ ys.getD c 0 ∧ ys.getD c 0 ≤ 9) : ∀ c, 0 ≤ (mk R C (addG xs ys C)).getD c 0 ∧ (mk R C (addG xs ys C)).getD c 0 ≤ 18 := fun c => by
  by_cases hc : c < R * C
  · rw [addG_at hc]; have := hx c; have := hy c; omega
  · rw [List.getD_eq_getElem?_getD, List.getElem?_eq_none (by simp; omega)]; exact ⟨Int.le_refl 0, by decide⟩
theorem vf_nine {r c : Int} {xs : List Int} (h : VF r c xs) : ∀ n, 0 ≤ xs.getD n 0 ∧ xs.getD n 0 ≤ 9 := fun n => by
  by_cases hn : n < xs.length
  · exact h.2.2.2 _ (getD_mem (d := 0) hn)
  · rw [List.getD_eq_getElem?_getD, List.getElem?_eq_none (by omega)]; exact ⟨Int.le_refl 0, by decide⟩
theorem c_addHeaps1 {s : St} [Wf s] {qa qb R C : Nat} {id_xs off_xs len_xs id_ys off_ys len_ys : Nat} {xs ys : List Int} [h1 : Ref s qa [ic R, ic C, .sl id_xs off_xs len_xs]] [h2 : Ref s qb [ic R, ic C, .sl id_ys off_ys len_ys]] [h_xs : ArgE ic s id_xs off_xs xs] [h_ys : ArgE ic s id_ys off_ys ys] (hl_xs : xs.length = len_xs) (hl_ys : ys.length = len_ys) (hx : ∀ c, 0 ≤ xs.getD c 0 ∧ xs.getD c 0 ≤ 9) (hy : ∀ c, 0 ≤ ys.getD c 0 ∧ ys.getD c 0 ≤ 9)
    (hl : len_xs = R * C ∧ len_ys = R * C) (hb : R ≤ 24 ∧ C ≤ 24) {i k : Nat} (hi : i < R) (hk : k < C) : FnV 75 [iv i, iv k, .c (.ptr qa 0), .c (.ptr qb 0)] s (iv (addG xs ys C i k)) := by
  have hcc : R * C ≤ 576 := Nat.mul_le_mul hb.1 hb.2
  have hm := cell_nat hi hk
  have k1 : 0 ≤ cel xs C i k ∧ cel xs C i k ≤ 9 := hx _
  have k2 : 0 ≤ cel ys C i k ∧ cel ys C i k ≤ 9 := hy _
  refine F_start code75 ?_
  repeat' (first
 | refine A_go rfl ?_ | refine A_ifT rfl rfl ?_ | refine A_ifF rfl rfl ?_
 | refine A_add rfl rfl rfl (by omega) ?_
 | refine A_callV rfl rfl (fun s H => c_at (xs := xs)) ?_
 | refine A_callV rfl rfl (fun s H => c_at (xs := ys)) ?_
 | refine A_p (by rfl) rfl ?_
 | refine A_ldW rfl (by simp) rfl ?_
 | refine A_chk1 rfl rfl rfl ?_ | refine A_chk2 rfl rfl rfl rfl ?_ | refine A_chk3 rfl rfl rfl rfl rfl ?_ | refine A_chk4 rfl rfl rfl rfl rfl rfl ?_ | refine A_chkI rfl (by assumption) rfl (by simp) ?_
 | refine A_ret1 rfl (by exact (RP.t rfl RP.nil)) ?_)
  exact R_v rfl
theorem c_implAddHeaps {s : St} [Wf s] {r c r2 c2 : Int} {id_xs off_xs len_xs : Nat} {xs : List Int} [h_xs : ArgE ic s id_xs off_xs xs] (hl_xs : xs.length = len_xs := by first | rfl | simp | omega | (simp; omega)) {id_ys off_ys len_ys : Nat} {ys : List Int} [h_ys : ArgE ic s id_ys off_ys ys] (hl_ys : ys.length = len_ys := by first | rfl | simp | omega | (simp; omega)) (hb : len_xs ≤ 2000000 ∧ len_ys ≤ 2000000 := by omega) :
    Fn [] 34 [.agg [ic r, ic c, .sl id_xs off_xs len_xs], .agg [ic r2, ic c2, .sl id_ys off_ys len_ys]] s (FldRes (VF2 r c xs r2 c2 ys) r c (settled r.toNat c.toNat (mk r.toNat c.toNat (addG xs ys c))).1) := by
  refine F_start code34 ?_
  by_cases hv : VF2 r c xs r2 c2 ys
  case neg =>
    repeat' (first
 | refine A_go rfl ?_ | refine A_ifT rfl rfl ?_ | refine A_ifF rfl rfl ?_
 | (refine A_callB rfl rfl (fun s H => c_alike) ?_ ?_ <;> intro hc <;> try first | contradiction | (exfalso; omega) | exact absurd rfl hc | exact absurd (And.intro rfl rfl) hc | exact absurd (And.intro rfl (And.intro rfl rfl)) hc | exact absurd (Eq.trans (by assumption) (Eq.symm (by assumption))) hc)
 | refine A_fld rfl rfl ?_ | refine A_mk3 rfl rfl rfl rfl ?_ | refine A_mk23 rfl rfl rfl ?_ | refine A_mk2 rfl rfl rfl ?_ | refine A_mk13 rfl rfl ?_ | refine A_p (by rfl) rfl ?_
 | refine A_ldI rfl (by first | omega | (simp; done) | (simp; omega)) rfl ?_ | refine A_ldB rfl (by first | omega | (simp; done) | (simp; omega)) rfl ?_ | refine A_ld rfl (by rfl) rfl ?_
 | refine A_ldW rfl (by simp) rfl ?_
 | refine A_stW rfl rfl (by simp) rfl ?_
 | ((first | refine A_alloc rfl ?_ | refine A_box rfl rfl ?_ | refine A_boxC rfl rfl ?_) <;> intro pz hpz)
 | refine A_ret rfl (by exact (RP.c rfl inferInstance rfl (by simp) (RP.t rfl RP.nil))) ?_)
    exact R_fldN hv
  have hll := hv.len
  obtain ⟨⟨v1, v2⟩, rfl, rfl⟩ := id hv
  have hx := vf_nine v1
  have hy := vf_nine v2
  obtain ⟨R, C, rfl, rfl, h1, h2, h3, h4⟩ := v1.nat
  have hg := addG_in (R := R) (C := C) hx hy
  have hsl := settled_len (R := R) (C := C) (x0 := mk R C (addG xs ys C)) (by simp) (by omega) hg
  simp only [Int.toNat_natCast]
  repeat' (first
 | refine A_go rfl ?_ | refine A_ifT rfl rfl ?_ | refine A_ifF rfl rfl ?_
 | (refine A_callB rfl rfl (fun s H => c_alike) ?_ ?_ <;> intro hc <;> try first | contradiction | (exfalso; omega) | exact absurd rfl hc | exact absurd (And.intro rfl rfl) hc | exact absurd (And.intro rfl (And.intro rfl rfl)) hc | exact absurd (Eq.trans (by assumption) (Eq.symm (by assumption))) hc)
 | (refine A_callM rfl rfl (fun s H => c_madeField (addG xs ys C) (by omega) (fun s L H i k hi hk => c_addHeaps1 hl_xs hl_ys hx hy (by omega) (by omega) hi hk)) ?_; rintro _ _ ⟨pz, rfl, rfl⟩) | (refine A_callM0 rfl rfl (fun s H => c_madeField (addG xs ys C) (by omega) (fun s L H i k hi hk => c_addHeaps1 hl_xs hl_ys hx hy (by omega) (by omega) hi hk)) ?_; rintro _ _ ⟨pz, rfl, rfl⟩)
 | (refine A_callM rfl rfl (fun s H => c_settle (x0 := mk R C (addG xs ys C)) (hx := hg)) ?_; rintro _ _ ⟨rfl, rfl⟩) | (refine A_callM0 rfl rfl (fun s H => c_settle (x0 := mk R C (addG xs ys C)) (hx := hg)) ?_; rintro _ _ ⟨rfl, rfl⟩)
 | refine A_fld rfl rfl ?_ | refine A_mk3 rfl rfl rfl rfl ?_ | refine A_mk23 rfl rfl rfl ?_ | refine A_mk2 rfl rfl rfl ?_ | refine A_mk13 rfl rfl ?_ | refine A_p (by rfl) rfl ?_
 | refine A_ldI rfl (by first | omega | (simp; done) | (simp; omega)) rfl ?_ | refine A_ldB rfl (by first | omega | (simp; done) | (simp; omega)) rfl ?_ | refine A_ld rfl (by rfl) rfl ?_
 | refine A_ldW rfl (by simp) rfl ?_
 | refine A_stW rfl rfl (by simp) rfl ?_
 | ((first | refine A_alloc rfl ?_ | refine A_box rfl rfl ?_ | refine A_boxC rfl rfl ?_) <;> intro pz hpz)
 | refine A_ret rfl (by exact (RP.c rfl inferInstance rfl (by simp) (RP.t rfl RP.nil))) ?_)
  exact R_fld hv (by omega) (by omega)
end Go.Proofs.Ytckobcjjbpnkcaa
