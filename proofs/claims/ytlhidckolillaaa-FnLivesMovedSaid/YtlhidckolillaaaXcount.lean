/- Cells are counted. -/
import Derived.Test.YtlhidckolillaaaXfieldAt
import Derived.Test.YtlhidckolillaaaFB
namespace Go.Proofs.Ytlhidckolillaaa
open Go Go.RowKit
set_option linter.unusedVariables false
set_option linter.unusedSimpArgs false
set_option maxRecDepth 100000
set_option maxHeartbeats 8000000
-- (impl.Field).count
def L66 : AFun := ⟨22, [.t 4],
 (.seq (.ops false [⟨(some 2), .box 26 (.t 0), none, []⟩,
   ⟨(some 4), .mv (.k (iv 0)), none, []⟩])
 (.seq (.ops false [⟨(some 5), .mv (.k (iv 0)), none, []⟩])
 (.seq (.seq (.ops false [⟨(some 8), .fieldA 2 (.t 2), none, []⟩,
    ⟨(some 9), .load false 1 (.t 8), none, []⟩,
    ⟨(some 10), .len false (.t 9), none, []⟩,
    ⟨(some 11), .mv (.k (iv 0)), none, []⟩])
  (.block 0 (.loop [1, 5, 9, 10, 11] (.seq (.ops false [⟨(some 12), .bin .lss (.t 11) (.t 10), none, []⟩])
    (.seq (.cond (.t 12) .skip
      (.exit 0))
    (.seq (.block 1 (.seq (.ops false [⟨(some 13), .idxA 1 (.t 9) (.t 11), none, []⟩,
        ⟨(some 14), .load false 1 (.t 13), none, []⟩,
        ⟨(some 7), .mv (.t 14), none, []⟩])
      (.seq (.ops false [⟨(some 15), .mv (.t 7), none, []⟩,
        ⟨(some 16), .mv (.t 1), none, []⟩,
        ⟨(some 17), .bin .eql (.t 15) (.t 16), none, []⟩])
      (.cond (.t 17) (.ops false [⟨(some 18), .mv (.t 5), none, []⟩,
        ⟨(some 19), .bin .add (.t 18) (.k (iv 1)), none, []⟩,
        ⟨(some 5), .mv (.t 19), none, []⟩])
       .skip))))
    (.ops false [⟨(some 20), .bin .add (.t 11) (.k (iv 1)), none, []⟩,
     ⟨(some 11), .mv (.t 20), none, []⟩])))))))
 (.seq (.ops false [⟨(some 21), .mv (.t 5), none, []⟩,
   ⟨(some 4), .mv (.t 21), none, []⟩])
 .ret))))⟩
theorem code66 : acode Try.prog hints 66 = some L66 := by kernel_rfl

-- impl.alike
def L71 : AFun := ⟨25, [.t 4],
 (.seq (.ops false [⟨(some 2), .box 26 (.t 0), none, []⟩,
   ⟨(some 3), .box 26 (.t 1), none, []⟩,
   ⟨(some 4), .mv (.k (bv false)), none, []⟩])
 (.seq (.ops false [⟨(some 5), .load true 3 (.t 2), none, []⟩,
   ⟨(some 6), .call (.f 55) [(.t 5)], none, []⟩,
   ⟨(some 7), .mv (.t 6), none, []⟩,
   ⟨(some 8), .load true 3 (.t 3), (some (7, true)), []⟩,
   ⟨(some 9), .call (.f 55) [(.t 8)], (some (7, true)), []⟩,
   ⟨(some 10), .pick (.t 7) (.t 9) (.k (bv false)), none, []⟩,
   ⟨(some 11), .mv (.t 10), none, []⟩,
   ⟨(some 12), .fieldA 0 (.t 2), (some (11, true)), []⟩,
   ⟨(some 13), .load false 1 (.t 12), (some (11, true)), []⟩,
   ⟨(some 14), .fieldA 0 (.t 3), (some (11, true)), []⟩,
   ⟨(some 15), .load false 1 (.t 14), (some (11, true)), []⟩,
   ⟨(some 16), .bin .eql (.t 13) (.t 15), (some (11, true)), []⟩,
   ⟨(some 17), .pick (.t 11) (.t 16) (.k (bv false)), none, []⟩,
   ⟨(some 18), .mv (.t 17), none, []⟩,
   ⟨(some 19), .fieldA 1 (.t 2), (some (18, true)), []⟩,
   ⟨(some 20), .load false 1 (.t 19), (some (18, true)), []⟩,
   ⟨(some 21), .fieldA 1 (.t 3), (some (18, true)), []⟩,
   ⟨(some 22), .load false 1 (.t 21), (some (18, true)), []⟩,
   ⟨(some 23), .bin .eql (.t 20) (.t 22), (some (18, true)), []⟩,
   ⟨(some 24), .pick (.t 18) (.t 23) (.k (bv false)), none, []⟩,
   ⟨(some 4), .mv (.t 24), none, []⟩])
 .ret))⟩
theorem code71 : acode Try.prog hints 71 = some L71 := by kernel_rfl

-- impl.CellsApart
def L36 : AFun := ⟨32, [.t 4, .t 5],
 (.seq (.ops false [⟨(some 2), .box 26 (.t 0), none, []⟩,
   ⟨(some 3), .box 26 (.t 1), none, []⟩,
   ⟨(some 4), .mv (.k (iv 0)), none, []⟩,
   ⟨(some 5), .mv (.k (bv false)), none, []⟩])
 (.seq (.seq (.ops false [⟨(some 9), .load true 3 (.t 2), none, []⟩,
    ⟨(some 10), .load true 3 (.t 3), none, []⟩,
    ⟨(some 11), .call (.f 71) [(.t 9), (.t 10)], none, []⟩,
    ⟨(some 12), .un .not (.t 11), none, []⟩])
  (.cond (.t 12) (.seq (.ops false [⟨(some 4), .mv (.k (iv 0)), none, []⟩,
     ⟨(some 5), .mv (.k (bv false)), none, []⟩])
   .ret)
   .skip))
 (.seq (.ops false [⟨(some 6), .mv (.k (iv 0)), none, []⟩])
 (.seq (.seq (.ops false [⟨(some 13), .fieldA 2 (.t 2), none, []⟩,
    ⟨(some 14), .load false 1 (.t 13), none, []⟩,
    ⟨(some 15), .len false (.t 14), none, []⟩,
    ⟨(some 16), .mv (.k (iv 0)), none, []⟩])
  (.block 0 (.loop [3, 6, 14, 15, 16] (.seq (.ops false [⟨(some 17), .bin .lss (.t 16) (.t 15), none, []⟩])
    (.seq (.cond (.t 17) .skip
      (.exit 0))
    (.seq (.block 1 (.seq (.ops false [⟨(some 18), .mv (.t 16), none, []⟩,
        ⟨(some 19), .idxA 1 (.t 14) (.t 16), none, []⟩,
        ⟨(some 20), .load false 1 (.t 19), none, []⟩,
        ⟨(some 7), .mv (.t 18), none, []⟩,
        ⟨(some 8), .mv (.t 20), none, []⟩])
      (.seq (.ops false [⟨(some 21), .mv (.t 8), none, []⟩,
        ⟨(some 22), .fieldA 2 (.t 3), none, []⟩,
        ⟨(some 23), .load false 1 (.t 22), none, []⟩,
        ⟨(some 24), .mv (.t 7), none, []⟩,
        ⟨(some 25), .idxA 1 (.t 23) (.t 24), none, []⟩,
        ⟨(some 26), .load false 1 (.t 25), none, []⟩,
        ⟨(some 27), .bin .neq (.t 21) (.t 26), none, []⟩])
      (.cond (.t 27) (.ops false [⟨(some 28), .mv (.t 6), none, []⟩,
        ⟨(some 29), .bin .add (.t 28) (.k (iv 1)), none, []⟩,
        ⟨(some 6), .mv (.t 29), none, []⟩])
       .skip))))
    (.ops false [⟨(some 30), .bin .add (.t 16) (.k (iv 1)), none, []⟩,
     ⟨(some 16), .mv (.t 30), none, []⟩])))))))
 (.seq (.ops false [⟨(some 31), .mv (.t 6), none, []⟩,
   ⟨(some 4), .mv (.t 31), none, []⟩,
   ⟨(some 5), .mv (.k (bv true)), none, []⟩])
 .ret)))))⟩
theorem code36 : acode Try.prog hints 36 = some L36 := by kernel_rfl


def cnt (xs : List Int) (a : Int) : Nat → Nat
  | 0 => 0
  | n + 1 => cnt xs a n + if xs.getD n 0 = a then 1 else 0
theorem cnt_le {xs : List Int} {a : Int} : ∀ n, cnt xs a n ≤ n
  | 0 => Nat.le_refl _
  | n + 1 => by have := cnt_le (xs := xs) (a := a) n; simp only [cnt]; split <;> omega
def dif (xs ys : List Int) : Nat → Nat
  | 0 => 0
  | n + 1 => dif xs ys n + if xs.getD n 0 = ys.getD n 0 then 0 else 1
theorem dif_le {xs ys : List Int} : ∀ n, dif xs ys n ≤ n
  | 0 => Nat.le_refl _
  | n + 1 => by have := dif_le (xs := xs) (ys := ys) n; simp only [dif]; split <;> omega
theorem vf_len {r c : Int} {xs : List Int} (h : VF r c xs) : xs.length ≤ 576 := by
  have := side_mul (r := r) (c := c) (by have := h.1; omega) (by have := h.2.1; omega)
  have := h.2.2.1; omega
theorem c_count {s : St} [Wf s] {r c a : Int} {id_xs off_xs len_xs : Nat} {xs : List Int} [h_xs : ArgE ic s id_xs off_xs xs] (hl_xs : xs.length = len_xs := by first | rfl | simp | omega | (simp; omega)) (hb : len_xs ≤ 2000000 := by omega) : FnV 66 [.agg [ic r, ic c, .sl id_xs off_xs len_xs], iv a] s (iv (cnt xs a len_xs)) := by
  refine F_start code66 ?_
  repeat' (first
 | refine A_go rfl ?_ | refine A_ifT rfl rfl ?_ | refine A_ifF rfl rfl ?_
 | refine A_add rfl rfl rfl (by omega) ?_
 | ((first | refine A_lt rfl rfl rfl ?_ ?_ | refine A_eq rfl rfl rfl ?_ ?_) <;> intro hc <;> try first | contradiction | (exfalso; omega) | exact absurd rfl hc)
 | refine A_idxN1 rfl rfl rfl (by omega) ?_ | refine A_idx1 rfl rfl rfl (by omega) ?_
 | refine A_fld rfl rfl ?_ | refine A_p (by rfl) rfl ?_
 | refine A_ldI rfl (by first | omega | (simp; done) | (simp; omega)) rfl ?_ | refine A_ldB rfl (by first | omega | (simp; done) | (simp; omega)) rfl ?_ | refine A_ld rfl (by rfl) rfl ?_
 | ((first | refine A_box rfl rfl ?_ | refine A_boxC rfl rfl ?_) <;> intro pz hpz)
 | refine A_ret1 rfl (by exact (RP.t rfl RP.nil)) ?_)
  refine A_loop rfl [] (fun m fr L => ∃ (i : Nat) (n : Nat), m = len_xs - i ∧ fr = [(1, iv a), (5, iv n), (9, .c (.sl id_xs off_xs len_xs)), (10, iv len_xs), (11, iv i)] ∧ L = [] ∧ i ≤ len_xs ∧ n = cnt xs a i) len_xs ⟨0, 0, rfl, rfl, rfl, by omega, rfl⟩ ?_
  rintro m fr L ⟨i, n, rfl, rfl, rfl, hi, hn⟩
  have hc := cnt_le (xs := xs) (a := a) i
  repeat' (first
 | refine A_go rfl ?_ | refine A_ifT rfl rfl ?_ | refine A_ifF rfl rfl ?_
 | refine A_add rfl rfl rfl (by omega) ?_
 | ((first | refine A_lt rfl rfl rfl ?_ ?_ | refine A_eq rfl rfl rfl ?_ ?_) <;> intro hc <;> try first | contradiction | (exfalso; omega) | exact absurd rfl hc)
 | refine A_idxN1 rfl rfl rfl (by omega) ?_ | refine A_idx1 rfl rfl rfl (by omega) ?_
 | refine A_fld rfl rfl ?_ | refine A_p (by rfl) rfl ?_
 | refine A_ldI rfl (by first | omega | (simp; done) | (simp; omega)) rfl ?_ | refine A_ldB rfl (by first | omega | (simp; done) | (simp; omega)) rfl ?_ | refine A_ld rfl (by rfl) rfl ?_
 | ((first | refine A_box rfl rfl ?_ | refine A_boxC rfl rfl ?_) <;> intro pz hpz)
 | refine A_ret1 rfl (by exact (RP.t rfl RP.nil)) ?_)
  · refine A_round rfl [] (len_xs - (i + 1)) (by omega) ?_
    exact ⟨i + 1, n + 1, rfl, rfl, rfl, by omega, by simp only [cnt]; rw [if_pos (by assumption)]; omega⟩
  · refine A_round rfl [] (len_xs - (i + 1)) (by omega) ?_
    exact ⟨i + 1, n, rfl, rfl, rfl, by omega, by simp only [cnt]; rw [if_neg (by assumption)]; omega⟩
  · have hi' : i = len_xs := by omega
    subst hi'; subst hn
    exact R_v rfl
/-- Two fields of as many rows and columns. -/
def VF2 (r c : Int) (xs : List Int) (r2 c2 : Int) (ys : List Int) : Prop := (VF r c xs ∧ VF r2 c2 ys) ∧ r = r2 ∧ c = c2
theorem VF2.len {r c r2 c2 : Int} {xs ys : List Int} (h : VF2 r c xs r2 c2 ys) : xs.length = ys.length := by
  obtain ⟨⟨h1, h2⟩, rfl, rfl⟩ := h
  have := h1.2.2.1; have := h2.2.2.1; omega
theorem c_alike {s : St} [Wf s] {r c r2 c2 : Int} {id_xs off_xs len_xs : Nat} {xs : List Int} [h_xs : ArgE ic s id_xs off_xs xs] (hl_xs : xs.length = len_xs := by first | rfl | simp | omega | (simp; omega)) {id_ys off_ys len_ys : Nat} {ys : List Int} [h_ys : ArgE ic s id_ys off_ys ys] (hl_ys : ys.length = len_ys := by first | rfl | simp | omega | (simp; omega)) (hb : len_xs ≤ 2000000 ∧ len_ys ≤ 2000000 := by omega) : FnB 71 [.agg [ic r, ic c, .sl id_xs off_xs len_xs], .agg [ic r2, ic c2, .sl id_ys off_ys len_ys]] s (VF2 r c xs r2 c2 ys) := by
  refine F_start code71 ?_
  repeat' (first
 | refine A_go rfl ?_ | refine A_ifT rfl rfl ?_ | refine A_ifF rfl rfl ?_
 | refine A_offP rfl rfl ?_ | refine A_offH rfl rfl ?_ | refine A_off0 rfl rfl ?_
 | ((first | refine A_eq rfl rfl rfl ?_ ?_) <;> intro hc <;> try first | contradiction | (exfalso; omega) | exact absurd rfl hc)
 | (refine A_callB rfl rfl (fun s H => c_implValidField (xs := xs)) ?_ ?_ <;> intro hc <;> try first | contradiction | (exfalso; omega) | exact absurd rfl hc | exact absurd (And.intro rfl rfl) hc | exact absurd (And.intro rfl (And.intro rfl rfl)) hc | exact absurd (Eq.trans (by assumption) (Eq.symm (by assumption))) hc)
 | (refine A_callB rfl rfl (fun s H => c_implValidField (xs := ys)) ?_ ?_ <;> intro hc <;> try first | contradiction | (exfalso; omega) | exact absurd rfl hc | exact absurd (And.intro rfl rfl) hc | exact absurd (And.intro rfl (And.intro rfl rfl)) hc | exact absurd (Eq.trans (by assumption) (Eq.symm (by assumption))) hc)
 | refine A_fld rfl rfl ?_ | refine A_p (by rfl) rfl ?_
 | refine A_ldI rfl (by first | omega | (simp; done) | (simp; omega)) rfl ?_ | refine A_ldB rfl (by first | omega | (simp; done) | (simp; omega)) rfl ?_ | refine A_ld rfl (by rfl) rfl ?_
 | refine A_ldW rfl (by simp) rfl ?_
 | ((first | refine A_box rfl rfl ?_ | refine A_boxC rfl rfl ?_) <;> intro pz hpz)
 | refine A_ret1 rfl (by exact (RP.t rfl RP.nil)) ?_)
  all_goals first | exact R_t ⟨⟨by assumption, by assumption⟩, by assumption, by assumption⟩ | exact R_f (fun h => absurd h.1.1 (by assumption)) | exact R_f (fun h => absurd h.1.2 (by assumption)) | exact R_f (fun h => absurd h.2.1 (by assumption)) | exact R_f (fun h => absurd h.2.2 (by assumption))
theorem c_implCellsApart {s : St} [Wf s] {r c r2 c2 : Int} {id_xs off_xs len_xs : Nat} {xs : List Int} [h_xs : ArgE ic s id_xs off_xs xs] (hl_xs : xs.length = len_xs := by first | rfl | simp | omega | (simp; omega)) {id_ys off_ys len_ys : Nat} {ys : List Int} [h_ys : ArgE ic s id_ys off_ys ys] (hl_ys : ys.length = len_ys := by first | rfl | simp | omega | (simp; omega)) (hb : len_xs ≤ 2000000 ∧ len_ys ≤ 2000000 := by omega) : FnV 36 [.agg [ic r, ic c, .sl id_xs off_xs len_xs], .agg [ic r2, ic c2, .sl id_ys off_ys len_ys]] s (numV (VF2 r c xs r2 c2 ys) (dif xs ys len_xs)) := by
  refine F_start code36 ?_
  by_cases hv : VF2 r c xs r2 c2 ys
  · have hl := hv.len
    repeat' (first
 | refine A_go rfl ?_ | refine A_ifT rfl rfl ?_ | refine A_ifF rfl rfl ?_
 | refine A_add rfl rfl rfl (by omega) ?_
 | ((first | refine A_lt rfl rfl rfl ?_ ?_ | refine A_ne rfl rfl rfl ?_ ?_) <;> intro hc <;> try first | contradiction | (exfalso; omega) | exact absurd rfl hc)
 | refine A_idxN1 rfl rfl rfl (by omega) ?_ | refine A_idx1 rfl rfl rfl (by omega) ?_
 | (refine A_callB rfl rfl (fun s H => c_alike) ?_ ?_ <;> intro hc <;> try first | contradiction | (exfalso; omega) | exact absurd rfl hc | exact absurd (And.intro rfl rfl) hc | exact absurd (And.intro rfl (And.intro rfl rfl)) hc | exact absurd (Eq.trans (by assumption) (Eq.symm (by assumption))) hc)
 | refine A_fld rfl rfl ?_ | refine A_p (by rfl) rfl ?_
 | refine A_ldI rfl (by first | omega | (simp; done) | (simp; omega)) rfl ?_ | refine A_ldB rfl (by first | omega | (simp; done) | (simp; omega)) rfl ?_ | refine A_ld rfl (by rfl) rfl ?_
 | refine A_ldW rfl (by simp) rfl ?_
 | ((first | refine A_box rfl rfl ?_ | refine A_boxC rfl rfl ?_) <;> intro pz hpz)
 | refine A_ret rfl (by exact (RP.t rfl (RP.t rfl RP.nil))) ?_)
    rename_i q hq
    obtain ⟨q2, hEq⟩ : ∃ p, p = pz := ⟨_, rfl⟩; subst hEq
    refine A_loop rfl [q2] (fun m fr L => ∃ (i : Nat) (n : Nat), m = len_xs - i ∧ fr = [(3, .c (.ptr q2 0)), (6, iv n), (14, .c (.sl id_xs off_xs len_xs)), (15, iv len_xs), (16, iv i)] ∧ L = [(q2, .rw 26 3 [ic r2, ic c2, .sl id_ys off_ys len_ys])] ∧ i ≤ len_xs ∧ n = dif xs ys i) len_xs ⟨0, 0, rfl, rfl, rfl, by omega, rfl⟩ ?_
    rintro m fr L ⟨i, n, rfl, rfl, rfl, hi, hn⟩
    have hc := dif_le (xs := xs) (ys := ys) i
    repeat' (first
 | refine A_go rfl ?_ | refine A_ifT rfl rfl ?_ | refine A_ifF rfl rfl ?_
 | refine A_add rfl rfl rfl (by omega) ?_
 | ((first | refine A_lt rfl rfl rfl ?_ ?_ | refine A_ne rfl rfl rfl ?_ ?_) <;> intro hc <;> try first | contradiction | (exfalso; omega) | exact absurd rfl hc)
 | refine A_idxN1 rfl rfl rfl (by omega) ?_ | refine A_idx1 rfl rfl rfl (by omega) ?_
 | refine A_fld rfl rfl ?_ | refine A_p (by rfl) rfl ?_
 | refine A_ldI rfl (by first | omega | (simp; done) | (simp; omega)) rfl ?_ | refine A_ldB rfl (by first | omega | (simp; done) | (simp; omega)) rfl ?_ | refine A_ld rfl (by rfl) rfl ?_
 | refine A_ldW rfl (by simp) rfl ?_
 | ((first | refine A_box rfl rfl ?_ | refine A_boxC rfl rfl ?_) <;> intro pz hpz)
 | refine A_ret rfl (by exact (RP.t rfl (RP.t rfl RP.nil))) ?_)
    · refine A_round rfl [q2] (len_xs - (i + 1)) (by omega) ?_
      exact ⟨i + 1, n + 1, rfl, rfl, rfl, by omega, by simp only [dif]; rw [if_neg (by assumption)]; omega⟩
    · refine A_round rfl [q2] (len_xs - (i + 1)) (by omega) ?_
      exact ⟨i + 1, n, rfl, rfl, rfl, by omega, by simp only [dif]; rw [if_pos (by assumption)]; omega⟩
    · have hi' : i = len_xs := by omega
      subst hi'; subst hn
      exact R_num hv rfl
  · repeat' (first
 | refine A_go rfl ?_ | refine A_ifT rfl rfl ?_ | refine A_ifF rfl rfl ?_
 | refine A_add rfl rfl rfl (by omega) ?_
 | ((first | refine A_lt rfl rfl rfl ?_ ?_ | refine A_ne rfl rfl rfl ?_ ?_) <;> intro hc <;> try first | contradiction | (exfalso; omega) | exact absurd rfl hc)
 | refine A_idxN1 rfl rfl rfl (by omega) ?_ | refine A_idx1 rfl rfl rfl (by omega) ?_
 | (refine A_callB rfl rfl (fun s H => c_alike) ?_ ?_ <;> intro hc <;> try first | contradiction | (exfalso; omega) | exact absurd rfl hc | exact absurd (And.intro rfl rfl) hc | exact absurd (And.intro rfl (And.intro rfl rfl)) hc | exact absurd (Eq.trans (by assumption) (Eq.symm (by assumption))) hc)
 | refine A_fld rfl rfl ?_ | refine A_p (by rfl) rfl ?_
 | refine A_ldI rfl (by first | omega | (simp; done) | (simp; omega)) rfl ?_ | refine A_ldB rfl (by first | omega | (simp; done) | (simp; omega)) rfl ?_ | refine A_ld rfl (by rfl) rfl ?_
 | refine A_ldW rfl (by simp) rfl ?_
 | ((first | refine A_box rfl rfl ?_ | refine A_boxC rfl rfl ?_) <;> intro pz hpz)
 | refine A_ret rfl (by exact (RP.t rfl (RP.t rfl RP.nil))) ?_)
    exact R_numN hv

end Go.Proofs.Ytlhidckolillaaa
