/- What madeField, l04New and NewField do. -/
import Derived.Test.YtlhidckolillaaaXvalid
import Derived.Test.YtlhidckolillaaaXmade
import Derived.Test.YtlhidckolillaaaXfield
import Derived.Test.YtlhidckolillaaaFB
namespace Go.Proofs.Ytlhidckolillaaa
open Go Go.RowKit
set_option linter.unusedVariables false
set_option linter.unusedSimpArgs false
set_option maxRecDepth 100000
set_option maxHeartbeats 8000000
-- impl.madeField
def L44 : AFun := ⟨33, [.cell true 3 6],
 (.seq (.ops false [⟨(some 6), .alloc 26 [.int .i64 0, .int .i64 0, .sl 0 0 0], none, []⟩])
 (.seq (.ops false [⟨(some 10), .mv (.t 0), none, []⟩,
   ⟨(some 11), .mv (.t 1), none, []⟩,
   ⟨(some 12), .build [.int .i64 0, .int .i64 0, .sl 0 0 0] [(0, 1, (.t 10)), (1, 1, (.t 11))], none, []⟩,
   ⟨(some 7), .alloc 26 [.int .i64 0, .int .i64 0, .sl 0 0 0], none, []⟩,
   ⟨none, .store 3 (.t 7) (.t 12), none, []⟩])
 (.seq (.seq (.ops false [⟨(some 13), .mv (.t 0), none, []⟩,
    ⟨(some 14), .mv (.k (iv 0)), none, []⟩])
  (.block 0 (.loop [1, 2, 6, 7, 13, 14] (.seq (.ops false [⟨(some 15), .bin .lss (.t 14) (.t 13), none, []⟩])
    (.seq (.cond (.t 15) .skip
      (.exit 0))
    (.seq (.block 1 (.seq (.ops false [⟨(some 16), .mv (.t 14), none, []⟩,
        ⟨(some 8), .mv (.t 16), none, []⟩])
      (.seq (.ops false [⟨(some 17), .mv (.t 1), none, []⟩,
        ⟨(some 18), .mv (.k (iv 0)), none, []⟩])
      (.block 2 (.loop [1, 2, 6, 7, 8, 13, 14, 17, 18] (.seq (.ops false [⟨(some 19), .bin .lss (.t 18) (.t 17), none, []⟩])
        (.seq (.cond (.t 19) .skip
          (.exit 2))
        (.seq (.block 3 (.seq (.ops false [⟨(some 20), .mv (.t 18), none, []⟩,
            ⟨(some 9), .mv (.t 20), none, []⟩])
          (.ops true [⟨(some 23), .mv (.t 2), none, []⟩,
           ⟨(some 24), .mv (.t 8), none, []⟩,
           ⟨(some 25), .mv (.t 9), none, []⟩,
           ⟨(some 26), .call (.t 23) [(.t 24), (.t 25)], none, []⟩,
           ⟨(some 21), .fieldA 2 (.t 7), none, []⟩,
           ⟨(some 22), .load false 1 (.t 21), none, [0]⟩,
           ⟨(some 27), .buildS 2 1 1 [.int .i64 0] [(0, 1, (.t 26))], none, []⟩,
           ⟨(some 28), .append 2 1 8 (.t 22) (.t 27), none, []⟩,
           ⟨(some 29), .fieldA 2 (.t 7), none, []⟩,
           ⟨none, .store 1 (.t 29) (.t 28), none, []⟩])))
        (.ops false [⟨(some 30), .bin .add (.t 18) (.k (iv 1)), none, []⟩,
         ⟨(some 18), .mv (.t 30), none, []⟩])))))))))
    (.ops false [⟨(some 31), .bin .add (.t 14) (.k (iv 1)), none, []⟩,
     ⟨(some 14), .mv (.t 31), none, []⟩])))))))
 (.seq (.ops false [⟨(some 32), .load true 3 (.t 7), none, []⟩,
   ⟨none, .store 3 (.t 6) (.t 32), none, []⟩])
 .ret))))⟩
theorem code44 : acode Try.prog hints 44 = some L44 := by kernel_rfl

-- spec.l04New
def L40 : AFun := ⟨12, [.cell true 3 4],
 (.seq (.ops false [⟨(some 4), .alloc 26 [.int .i64 0, .int .i64 0, .sl 0 0 0], none, []⟩])
 (.seq (.ops false [⟨(some 5), .mv (.t 0), none, []⟩,
   ⟨(some 6), .mv (.t 1), none, []⟩,
   ⟨(some 7), .mv (.t 0), none, []⟩,
   ⟨(some 8), .mv (.t 1), none, []⟩,
   ⟨(some 9), .bin .mul (.t 7) (.t 8), none, []⟩,
   ⟨(some 10), .makeS 2 1 8 [.int .i64 0] (.t 9) (.t 9), none, []⟩,
   ⟨(some 11), .build [.int .i64 0, .int .i64 0, .sl 0 0 0] [(0, 1, (.t 5)), (1, 1, (.t 6)), (2, 1, (.t 10))], none, []⟩,
   ⟨none, .store 3 (.t 4) (.t 11), none, []⟩])
 .ret))⟩
theorem code40 : acode Try.prog hints 40 = some L40 := by kernel_rfl

-- impl.NewField
def L29 : AFun := ⟨18, [.cell true 3 4, .t 5],
 (.seq (.ops false [⟨(some 4), .alloc 26 [.int .i64 0, .int .i64 0, .sl 0 0 0], none, []⟩,
   ⟨(some 5), .mv (.k (bv false)), none, []⟩])
 (.seq (.seq (.ops false [⟨(some 6), .mv (.t 0), none, []⟩,
    ⟨(some 7), .call (.f 64) [(.t 6)], none, []⟩,
    ⟨(some 8), .un .not (.t 7), none, []⟩,
    ⟨(some 9), .mv (.t 8), none, []⟩,
    ⟨(some 10), .mv (.t 1), (some (9, false)), []⟩,
    ⟨(some 11), .call (.f 64) [(.t 10)], (some (9, false)), []⟩,
    ⟨(some 12), .un .not (.t 11), (some (9, false)), []⟩,
    ⟨(some 13), .pick (.t 9) (.k (bv true)) (.t 12), none, []⟩])
  (.cond (.t 13) (.seq (.ops false [⟨(some 14), .build [.int .i64 0, .int .i64 0, .sl 0 0 0] [], none, []⟩,
     ⟨none, .store 3 (.t 4) (.t 14), none, []⟩,
     ⟨(some 5), .mv (.k (bv false)), none, []⟩])
   .ret)
   .skip))
 (.seq (.ops false [⟨(some 15), .mv (.t 0), none, []⟩,
   ⟨(some 16), .mv (.t 1), none, []⟩,
   ⟨(some 17), .call (.f 44) [(.t 15), (.t 16), (.f 65)], none, []⟩,
   ⟨none, .store 3 (.t 4) (.t 17), none, []⟩,
   ⟨(some 5), .mv (.k (bv true)), none, []⟩])
 .ret)))⟩
theorem code29 : acode Try.prog hints 29 = some L29 := by kernel_rfl

-- impl.NewField$1
def L65 : AFun := ⟨5, [.t 4],
 (.seq (.ops false [⟨(some 4), .mv (.k (iv 0)), none, []⟩])
 (.seq (.ops false [⟨(some 4), .mv (.k (iv 0)), none, []⟩])
 .ret))⟩
theorem code65 : acode Try.prog hints 65 = some L65 := by kernel_rfl


theorem c_madeField {s : St} [Wf s] {r c : Nat} {fn : Nat} {caps : List (Nat × Nat)} (g : Int → Int → Int) (hr : r ≤ 24 ∧ c ≤ 24)
    (hg : ∀ s1 L1, Own [] s s1 L1 → ∀ i k : Nat, i < r → k < c → FnV fn ([iv i, iv k] ++ caps.map fun p => AV.c (.ptr p.1 p.2)) s1 (iv (g i k))) :
    Fn [] 44 [iv r, iv c, .c (.fn fn caps)] s fun R N => ∃ p, R = .agg (fld r c p (r * c)) ∧ N = [(p, ints (mk r c g))] := by
  refine F_start code44 ?_
  repeat' (first
 | refine A_go rfl ?_ | refine A_ifT rfl rfl ?_ | refine A_ifF rfl rfl ?_
 | refine A_add rfl rfl rfl (by omega) ?_
 | ((first | refine A_lt rfl rfl rfl ?_ ?_) <;> intro hc <;> try first | contradiction | (exfalso; omega) | exact absurd rfl hc)
 | refine A_fld rfl rfl ?_ | refine A_mk3 rfl rfl rfl rfl ?_ | refine A_mk23 rfl rfl rfl ?_ | refine A_mk2 rfl rfl rfl ?_ | refine A_mk13 rfl rfl ?_ | refine A_p (by rfl) rfl ?_
 | refine A_ldI rfl (by first | omega | (simp; done) | (simp; omega)) rfl ?_ | refine A_ldB rfl (by first | omega | (simp; done) | (simp; omega)) rfl ?_ | refine A_ld rfl (by rfl) rfl ?_
 | refine A_ldW rfl (by simp) rfl ?_
 | refine A_st rfl rfl rfl ?_ | refine A_stE rfl rfl (by first | omega | (simp; done) | (simp; omega)) rfl ?_
 | refine A_stW rfl rfl (by simp) rfl ?_
 | ((first | refine A_alloc rfl ?_ | refine A_bld1 rfl rfl ?_ | refine A_bld2 rfl rfl rfl ?_ | refine A_bld4 rfl rfl rfl rfl rfl ?_) <;> intro pz hpz)
 | refine A_bld0 rfl ?_
 | (refine A_app rfl rfl rfl (by first | omega | (simp; done) | (simp; omega)) (by first | omega | (simp; done) | (simp; omega)) (by omega) ?_; intro pz) | (refine A_appN (enc := ic) rfl (by decide) rfl rfl (by first | omega | (simp; done) | (simp; omega)) (by omega) ?_; intro pz)
 | refine A_chk1 rfl rfl rfl ?_ | refine A_chk2 rfl rfl rfl rfl ?_ | refine A_chk3 rfl rfl rfl rfl rfl ?_ | refine A_chk4 rfl rfl rfl rfl rfl rfl ?_ | refine A_chkI rfl (by assumption) rfl (by simp) ?_
 | refine A_ret1 rfl (by exact (RP.c rfl inferInstance rfl (by simp) RP.nil)) ?_)
  rename_i p6 h6
  obtain ⟨p7, hEq⟩ : ∃ p, p = pz := ⟨_, rfl⟩; subst hEq
  have hz : ∀ n, n ≤ r * c → ((mk r c g).take n).length = n := fun n h => by simp; omega
  refine A_loopX rfl (fun m fr L => ∃ (i q : Nat) (ys : List Int), m = r - i ∧ fr = [(1, iv c), (2, .c (.fn fn caps)), (6, .c (.ptr p6 0)), (7, .c (.ptr p7 0)), (13, iv r), (14, iv i)] ∧
    L = [(p7, .rw 26 3 (fld r c q (i * c))), (p6, .rw 26 3 (fld 0 0 0 0)), (q, ints ys)] ∧ i ≤ r ∧ ys = (mk r c g).take (i * c)) (n := r)
    ⟨[(p7, .rw 26 3 (fld r c 0 0)), (p6, .rw 26 3 (fld 0 0 0 0)), (0, ints [])], ⟨0, 0, [], rfl, rfl, by rw [Nat.zero_mul], by omega, by simp⟩, inferInstance⟩ ?_
  rintro m fr L ⟨i, q, ys, rfl, rfl, rfl, hi, hys⟩
  repeat' (first
 | refine A_go rfl ?_ | refine A_ifT rfl rfl ?_ | refine A_ifF rfl rfl ?_
 | refine A_add rfl rfl rfl (by omega) ?_
 | ((first | refine A_lt rfl rfl rfl ?_ ?_) <;> intro hc <;> try first | contradiction | (exfalso; omega) | exact absurd rfl hc)
 | refine A_fld rfl rfl ?_ | refine A_mk3 rfl rfl rfl rfl ?_ | refine A_mk23 rfl rfl rfl ?_ | refine A_mk2 rfl rfl rfl ?_ | refine A_mk13 rfl rfl ?_ | refine A_p (by rfl) rfl ?_
 | refine A_ldI rfl (by first | omega | (simp; done) | (simp; omega)) rfl ?_ | refine A_ldB rfl (by first | omega | (simp; done) | (simp; omega)) rfl ?_ | refine A_ld rfl (by rfl) rfl ?_
 | refine A_ldW rfl (by simp) rfl ?_
 | refine A_st rfl rfl rfl ?_ | refine A_stE rfl rfl (by first | omega | (simp; done) | (simp; omega)) rfl ?_
 | refine A_stW rfl rfl (by simp) rfl ?_
 | ((first | refine A_alloc rfl ?_ | refine A_bld1 rfl rfl ?_ | refine A_bld2 rfl rfl rfl ?_ | refine A_bld4 rfl rfl rfl rfl rfl ?_) <;> intro pz hpz)
 | refine A_bld0 rfl ?_
 | (refine A_app rfl rfl rfl (by first | omega | (simp; done) | (simp; omega)) (by first | omega | (simp; done) | (simp; omega)) (by omega) ?_; intro pz) | (refine A_appN (enc := ic) rfl (by decide) rfl rfl (by first | omega | (simp; done) | (simp; omega)) (by omega) ?_; intro pz)
 | refine A_chk1 rfl rfl rfl ?_ | refine A_chk2 rfl rfl rfl rfl ?_ | refine A_chk3 rfl rfl rfl rfl rfl ?_ | refine A_chk4 rfl rfl rfl rfl rfl rfl ?_ | refine A_chkI rfl (by assumption) rfl (by simp) ?_
 | refine A_ret1 rfl (by exact (RP.c rfl inferInstance rfl (by simp) RP.nil)) ?_)
  · refine A_loop rfl [p7, p6, q] (fun m fr L => ∃ (k q : Nat) (ys : List Int), m = c - k ∧ fr = [(1, iv c), (2, .c (.fn fn caps)), (6, .c (.ptr p6 0)), (7, .c (.ptr p7 0)), (8, iv i), (13, iv r), (14, iv i), (17, iv c), (18, iv k)] ∧
      L = [(p7, .rw 26 3 (fld r c q (i * c + k))), (p6, .rw 26 3 (fld 0 0 0 0)), (q, ints ys)] ∧ k ≤ c ∧ ys = (mk r c g).take (i * c + k)) c
      ⟨0, q, ys, rfl, rfl, rfl, by omega, hys⟩ ?_
    rintro m fr L ⟨k, q, ys, rfl, rfl, rfl, hk, hys⟩
    have hr' : i < r := by omega
    have hle : i * c + k ≤ r * c := by
      have : (i + 1) * c ≤ r * c := Nat.mul_le_mul_right c hr'
      rw [Nat.add_mul] at this; omega
    have hcc : r * c ≤ 576 := Nat.mul_le_mul hr.1 hr.2
    have hl : ys.length = i * c + k := by rw [hys]; exact hz _ hle
    repeat' (first
 | refine A_go rfl ?_ | refine A_ifT rfl rfl ?_ | refine A_ifF rfl rfl ?_
 | refine A_add rfl rfl rfl (by omega) ?_
 | ((first | refine A_lt rfl rfl rfl ?_ ?_) <;> intro hc <;> try first | contradiction | (exfalso; omega) | exact absurd rfl hc)
 | refine A_callV rfl rfl (fun s H => hg s _ H i k hr' (by omega)) ?_
 | refine A_fld rfl rfl ?_ | refine A_mk3 rfl rfl rfl rfl ?_ | refine A_mk23 rfl rfl rfl ?_ | refine A_mk2 rfl rfl rfl ?_ | refine A_mk13 rfl rfl ?_ | refine A_p (by rfl) rfl ?_
 | refine A_ldI rfl (by first | omega | (simp; done) | (simp; omega)) rfl ?_ | refine A_ldB rfl (by first | omega | (simp; done) | (simp; omega)) rfl ?_ | refine A_ld rfl (by rfl) rfl ?_
 | refine A_ldW rfl (by simp) rfl ?_
 | refine A_st rfl rfl rfl ?_ | refine A_stE rfl rfl (by first | omega | (simp; done) | (simp; omega)) rfl ?_
 | refine A_stW rfl rfl (by simp) rfl ?_
 | ((first | refine A_alloc rfl ?_ | refine A_bld1 rfl rfl ?_ | refine A_bld2 rfl rfl rfl ?_ | refine A_bld4 rfl rfl rfl rfl rfl ?_) <;> intro pz hpz)
 | refine A_bld0 rfl ?_
 | (refine A_app rfl rfl rfl (by first | omega | (simp; done) | (simp; omega)) (by first | omega | (simp; done) | (simp; omega)) (by omega) ?_; intro pz) | (refine A_appN (enc := ic) rfl (by decide) rfl rfl (by first | omega | (simp; done) | (simp; omega)) (by omega) ?_; intro pz)
 | refine A_chk1 rfl rfl rfl ?_ | refine A_chk2 rfl rfl rfl rfl ?_ | refine A_chk3 rfl rfl rfl rfl rfl ?_ | refine A_chk4 rfl rfl rfl rfl rfl rfl ?_ | refine A_chkI rfl (by assumption) rfl (by simp) ?_
 | refine A_ret1 rfl (by exact (RP.c rfl inferInstance rfl (by simp) RP.nil)) ?_)
    · refine A_round rfl [p7, p6, pz] (c - (k + 1)) (by omega) ?_
      exact ⟨k + 1, pz, _, rfl, rfl, rfl, by omega, by rw [hys, ← mk_get (g := g) hr' (show k < c by omega), mk_snoc (lt_mul hr' (by omega))]; rfl⟩
    · have e : i * c + k = (i + 1) * c := by rw [Nat.add_mul]; omega
      refine A_round rfl [p7, p6, q] (r - (i + 1)) (by omega) ?_
      exact ⟨i + 1, q, ys, rfl, rfl, by rw [e], by omega, by rw [hys, e]⟩
  · have hi' : i = r := by omega
    subst hi'
    rw [mk_full] at hys; subst hys
    exact R_s ⟨q, rfl, rfl⟩
theorem c_l04New {s : St} [Wf s] {r c : Nat} (h : r ≤ 24 ∧ c ≤ 24 := by omega) : Fn [] 40 [iv r, iv c] s fun R N => ∃ p, R = .agg (fld r c p (r * c)) ∧ N = [(p, ints (List.replicate (r * c) 0))] := by
  have hm := side_mul (r := r) (c := c) (by omega) (by omega)
  have e : ((r : Int) * c).toNat = r * c := by rw [← Int.natCast_mul]; rfl
  refine F_start code40 ?_
  repeat' (first
 | refine A_go rfl ?_ | refine A_ifT rfl rfl ?_ | refine A_ifF rfl rfl ?_
 | refine A_mul rfl rfl rfl (by omega) ?_
 | refine A_mk3 rfl rfl rfl rfl ?_ | refine A_mk23 rfl rfl rfl ?_ | refine A_mk2 rfl rfl rfl ?_ | refine A_mk13 rfl rfl ?_ | refine A_p (by rfl) rfl ?_
 | refine A_stW rfl rfl (by simp) rfl ?_
 | ((first | refine A_alloc rfl ?_ | refine A_makeN rfl rfl rfl (by omega) ?_ | refine A_make rfl rfl rfl (by omega) ?_) <;> intro pz hpz)
 | refine A_ret1 rfl (by exact (RP.c rfl inferInstance rfl (by simp) RP.nil)) ?_)

  exact R_s ⟨pz, rfl, rfl⟩
theorem mk_zero {r c : Nat} : List.replicate (r * c) 0 = mk r c fun _ _ => 0 :=
  mk_eq (by simp) fun i k hi hk => by rw [List.getD_eq_getElem?_getD, List.getElem?_replicate, if_pos (lt_mul hi hk)]; rfl
theorem c_NewField1 {s : St} [Wf s] {i k : Int} : FnV 65 [iv i, iv k] s (iv 0) := by
  refine F_start code65 ?_
  repeat' (first
 | refine A_go rfl ?_ | refine A_ifT rfl rfl ?_ | refine A_ifF rfl rfl ?_
 | refine A_p (by rfl) rfl ?_
 | refine A_ret1 rfl (by exact (RP.t rfl RP.nil)) ?_)
  exact R_v rfl
theorem c_implNewField {s : St} [Wf s] {r c : Int} : Fn [] 29 [iv r, iv c] s (FldRes ((1 ≤ r ∧ r ≤ 24) ∧ 1 ≤ c ∧ c ≤ 24) r c (mk r.toNat c.toNat fun _ _ => 0)) := by
  refine F_start code29 ?_
  by_cases hv : (1 ≤ r ∧ r ≤ 24) ∧ 1 ≤ c ∧ c ≤ 24
  · obtain ⟨R, rfl⟩ : ∃ R : Nat, r = R := ⟨r.toNat, by omega⟩
    obtain ⟨C, rfl⟩ : ∃ C : Nat, c = C := ⟨c.toNat, by omega⟩
    have hcc : R * C ≤ 576 := Nat.mul_le_mul (show R ≤ 24 by omega) (show C ≤ 24 by omega)
    repeat' (first
 | refine A_go rfl ?_ | refine A_ifT rfl rfl ?_ | refine A_ifF rfl rfl ?_
 | refine A_offP rfl rfl ?_ | refine A_offH rfl rfl ?_ | refine A_off0 rfl rfl ?_
 | (refine A_callB rfl rfl (fun s H => c_isSide) ?_ ?_ <;> intro hc <;> try first | contradiction | (exfalso; omega) | exact absurd rfl hc | exact absurd (And.intro rfl rfl) hc | exact absurd (And.intro rfl (And.intro rfl rfl)) hc | exact absurd (Eq.trans (by assumption) (Eq.symm (by assumption))) hc)
 | (refine A_callM rfl rfl (fun s H => c_madeField (fun _ _ => 0) (by omega) (fun s L H i k hi hk => c_NewField1)) ?_; rintro _ _ ⟨pz, rfl, rfl⟩) | (refine A_callM0 rfl rfl (fun s H => c_madeField (fun _ _ => 0) (by omega) (fun s L H i k hi hk => c_NewField1)) ?_; rintro _ _ ⟨pz, rfl, rfl⟩)
 | refine A_mk3 rfl rfl rfl rfl ?_ | refine A_mk23 rfl rfl rfl ?_ | refine A_mk2 rfl rfl rfl ?_ | refine A_mk13 rfl rfl ?_ | refine A_p (by rfl) rfl ?_
 | refine A_stW rfl rfl (by simp) rfl ?_
 | ((first | refine A_alloc rfl ?_) <;> intro pz hpz)
 | refine A_ret rfl (by exact (RP.c rfl inferInstance rfl (by simp) (RP.t rfl RP.nil))) ?_)
    simp only [Int.toNat_natCast]
    exact R_fld hv (by simp) (by omega)
  · repeat' (first
 | refine A_go rfl ?_ | refine A_ifT rfl rfl ?_ | refine A_ifF rfl rfl ?_
 | refine A_offP rfl rfl ?_ | refine A_offH rfl rfl ?_ | refine A_off0 rfl rfl ?_
 | (refine A_callB rfl rfl (fun s H => c_isSide) ?_ ?_ <;> intro hc <;> try first | contradiction | (exfalso; omega) | exact absurd rfl hc | exact absurd (And.intro rfl rfl) hc | exact absurd (And.intro rfl (And.intro rfl rfl)) hc | exact absurd (Eq.trans (by assumption) (Eq.symm (by assumption))) hc)
 | refine A_mk3 rfl rfl rfl rfl ?_ | refine A_mk23 rfl rfl rfl ?_ | refine A_mk2 rfl rfl rfl ?_ | refine A_mk13 rfl rfl ?_ | refine A_p (by rfl) rfl ?_
 | refine A_stW rfl rfl (by simp) rfl ?_
 | ((first | refine A_alloc rfl ?_) <;> intro pz hpz)
 | refine A_ret rfl (by exact (RP.c rfl inferInstance rfl (by simp) (RP.t rfl RP.nil))) ?_)
    all_goals exact R_fldN hv

end Go.Proofs.Ytlhidckolillaaa
