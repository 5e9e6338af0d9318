/- Which fields lead through. -/
import Derived.Test.YtckobcjjbpnkcaaXclusters
import Derived.Test.YtckobcjjbpnkcaaXsearch
import Derived.Test.YtckobcjjbpnkcaaXpart
import Derived.Test.YtckobcjjbpnkcaaFB
namespace Go.Proofs.Ytckobcjjbpnkcaa
open Go Go.RowKit
set_option linter.unusedVariables false
set_option linter.unusedSimpArgs false
set_option maxRecDepth 100000
set_option maxHeartbeats 8000000
-- (impl.Field).through
def L54 : AFun := ⟨27, [.t 2],
 (.seq (.ops false [⟨(some 1), .box 25 (.t 0), none, []⟩,
   ⟨(some 2), .mv (.k (bv false)), none, []⟩])
 (.seq (.ops false [⟨(some 7), .load true 3 (.t 1), none, []⟩,
   ⟨(some 8), .load true 3 (.t 1), none, []⟩,
   ⟨(some 9), .mkBound 72 [(.t 8)], none, []⟩,
   ⟨(some 10), .call (.f 71) [(.t 7), (.t 9)], none, []⟩,
   ⟨(some 6), .mv (.t 10), none, []⟩,
   ⟨(some 11), .ext (.t 6) 0, none, []⟩,
   ⟨(some 12), .ext (.t 6) 1, none, []⟩,
   ⟨(some 3), .mv (.t 11), none, []⟩,
   ⟨(some 4), .mv (.t 12), none, []⟩])
 (.seq (.ops false [⟨(some 13), .mv (.t 3), none, []⟩,
   ⟨(some 14), .fieldA 0 (.t 1), none, []⟩,
   ⟨(some 15), .load false 1 (.t 14), none, []⟩,
   ⟨(some 16), .bin .sub (.t 15) (.k (iv 1)), none, []⟩,
   ⟨(some 17), .fieldA 1 (.t 1), none, []⟩,
   ⟨(some 18), .load false 1 (.t 17), none, []⟩,
   ⟨(some 19), .bin .mul (.t 16) (.t 18), none, []⟩,
   ⟨(some 20), .slice 1 (.t 13) (some (.t 19)) none, none, []⟩,
   ⟨(some 5), .alloc 23 [.sl 0 0 0], none, []⟩,
   ⟨none, .store 1 (.t 5) (.t 20), none, []⟩])
 (.seq (.ops false [⟨(some 21), .mv (.t 3), none, []⟩,
   ⟨(some 22), .fieldA 1 (.t 1), none, []⟩,
   ⟨(some 23), .load false 1 (.t 22), none, []⟩,
   ⟨(some 24), .slice 1 (.t 21) none (some (.t 23)), none, []⟩,
   ⟨(some 25), .mkFn 81 [(.t 5)], none, []⟩,
   ⟨(some 26), .call (.f 80) [(.t 24), (.t 25)], none, []⟩,
   ⟨(some 2), .mv (.t 26), none, []⟩])
 .ret))))⟩
theorem code54 : acode Try.prog hints 54 = some L54 := by kernel_rfl

-- (impl.Field).through$1
def L81 : AFun := ⟨11, [.t 3],
 (.seq (.ops false [⟨(some 3), .mv (.k (bv false)), none, []⟩])
 (.seq (.ops false [⟨(some 4), .mv (.t 0), none, []⟩,
   ⟨(some 5), .bin .gtr (.t 4) (.k (iv 0)), none, []⟩,
   ⟨(some 6), .mv (.t 5), none, []⟩,
   ⟨(some 7), .load false 1 (.t 1), (some (6, true)), []⟩,
   ⟨(some 8), .mv (.t 0), (some (6, true)), []⟩,
   ⟨(some 9), .call (.f 82) [(.t 7), (.t 8)], (some (6, true)), []⟩,
   ⟨(some 10), .pick (.t 6) (.t 9) (.k (bv false)), none, []⟩,
   ⟨(some 3), .mv (.t 10), none, []⟩])
 .ret))⟩
theorem code81 : acode Try.prog hints 81 = some L81 := by kernel_rfl

-- impl.LeadsThrough
def L31 : AFun := ⟨9, [.t 2, .t 3],
 (.seq (.ops false [⟨(some 1), .box 25 (.t 0), none, []⟩,
   ⟨(some 2), .mv (.k (bv false)), none, []⟩,
   ⟨(some 3), .mv (.k (bv false)), none, []⟩])
 (.seq (.seq (.ops false [⟨(some 4), .load true 3 (.t 1), none, []⟩,
    ⟨(some 5), .call (.f 25) [(.t 4)], none, []⟩,
    ⟨(some 6), .un .not (.t 5), none, []⟩])
  (.cond (.t 6) (.seq (.ops false [⟨(some 2), .mv (.k (bv false)), none, []⟩,
     ⟨(some 3), .mv (.k (bv false)), none, []⟩])
   .ret)
   .skip))
 (.seq (.ops false [⟨(some 7), .load true 3 (.t 1), none, []⟩,
   ⟨(some 8), .call (.f 54) [(.t 7)], none, []⟩,
   ⟨(some 2), .mv (.t 8), none, []⟩,
   ⟨(some 3), .mv (.k (bv true)), none, []⟩])
 .ret)))⟩
theorem code31 : acode Try.prog hints 31 = some L31 := by kernel_rfl

-- spec.l04Through
def L49 : AFun := ⟨50, [.t 2],
 (.seq (.ops false [⟨(some 2), .mv (.k (bv false)), none, []⟩])
 (.seq (.ops false [⟨(some 9), .mv (.t 0), none, []⟩,
   ⟨(some 10), .call (.f 78) [(.t 9)], none, []⟩,
   ⟨(some 8), .mv (.t 10), none, []⟩,
   ⟨(some 11), .ext (.t 8) 0, none, []⟩,
   ⟨(some 12), .ext (.t 8) 1, none, []⟩,
   ⟨(some 3), .mv (.t 11), none, []⟩,
   ⟨(some 4), .mv (.t 12), none, []⟩])
 (.seq (.ops false [⟨(some 13), .mv (.t 3), none, []⟩,
   ⟨(some 14), .len false (.t 13), none, []⟩,
   ⟨(some 5), .mv (.t 14), none, []⟩])
 (.seq (.seq (.ops false [⟨(some 6), .mv (.k (iv 0)), none, []⟩])
  (.block 0 (.loop [0, 3, 5, 6] (.seq (.seq (.ops false [⟨(some 15), .mv (.t 6), none, []⟩,
       ⟨(some 16), .mv (.t 0), none, []⟩,
       ⟨(some 17), .nilChk (.t 16), none, []⟩,
       ⟨(some 18), .fieldA 1 (.t 17), none, []⟩,
       ⟨(some 19), .load false 1 (.t 18), none, []⟩,
       ⟨(some 20), .bin .lss (.t 15) (.t 19), none, []⟩])
     (.cond (.t 20) .skip
      (.exit 0)))
    (.seq (.block 1 (.seq (.ops false [⟨(some 23), .mv (.t 5), none, []⟩,
        ⟨(some 24), .mv (.t 0), none, []⟩,
        ⟨(some 25), .nilChk (.t 24), none, []⟩,
        ⟨(some 26), .fieldA 1 (.t 25), none, []⟩,
        ⟨(some 27), .load false 1 (.t 26), none, []⟩,
        ⟨(some 28), .bin .sub (.t 23) (.t 27), none, []⟩,
        ⟨(some 7), .mv (.t 28), none, []⟩])
      (.block 2 (.loop [0, 3, 5, 6, 7] (.seq (.seq (.ops false [⟨(some 29), .mv (.t 7), none, []⟩,
           ⟨(some 30), .mv (.t 5), none, []⟩,
           ⟨(some 31), .bin .lss (.t 29) (.t 30), none, []⟩])
         (.cond (.t 31) .skip
          (.exit 2)))
        (.seq (.block 3 (.seq (.ops true [⟨(some 34), .mv (.t 3), none, []⟩,
            ⟨(some 35), .mv (.t 6), none, []⟩,
            ⟨(some 36), .idxA 1 (.t 34) (.t 35), none, []⟩,
            ⟨(some 37), .load false 1 (.t 36), none, []⟩,
            ⟨(some 38), .bin .gtr (.t 37) (.k (iv 0)), none, []⟩,
            ⟨(some 39), .mv (.t 38), none, []⟩,
            ⟨(some 40), .mv (.t 3), (some (39, true)), []⟩,
            ⟨(some 41), .mv (.t 6), (some (39, true)), []⟩,
            ⟨(some 42), .idxA 1 (.t 40) (.t 41), (some (39, true)), []⟩,
            ⟨(some 43), .load false 1 (.t 42), (some (39, true)), []⟩,
            ⟨(some 44), .mv (.t 3), (some (39, true)), []⟩,
            ⟨(some 45), .mv (.t 7), (some (39, true)), []⟩,
            ⟨(some 46), .idxA 1 (.t 44) (.t 45), (some (39, true)), []⟩,
            ⟨(some 47), .load false 1 (.t 46), (some (39, true)), []⟩,
            ⟨(some 48), .bin .eql (.t 43) (.t 47), (some (39, true)), []⟩,
            ⟨(some 49), .pick (.t 39) (.t 48) (.k (bv false)), none, []⟩])
          (.cond (.t 49) (.seq (.ops false [⟨(some 2), .mv (.k (bv true)), none, []⟩])
           .ret)
           .skip)))
        (.ops false [⟨(some 32), .mv (.t 7), none, []⟩,
         ⟨(some 33), .bin .add (.t 32) (.k (iv 1)), none, []⟩,
         ⟨(some 7), .mv (.t 33), none, []⟩])))))))
    (.ops false [⟨(some 21), .mv (.t 6), none, []⟩,
     ⟨(some 22), .bin .add (.t 21) (.k (iv 1)), none, []⟩,
     ⟨(some 6), .mv (.t 22), none, []⟩]))))))
 (.seq (.ops false [⟨(some 2), .mv (.k (bv false)), none, []⟩])
 .ret)))))⟩
theorem code49 : acode Try.prog hints 49 = some L49 := by kernel_rfl


/-- A cluster has cells in the first and in the last row. -/
def Thr (R C : Nat) (xs : List Int) : Prop := ∃ i, i < C ∧ 0 < (cluAll R C xs xs.length).1.getD i 0 ∧ ∃ k, R * C - C ≤ k ∧ k < R * C ∧ (cluAll R C xs xs.length).1.getD k 0 = (cluAll R C xs xs.length).1.getD i 0
theorem mem_part {cs : List Int} {a n : Nat} {x : Int} (h : a + n ≤ cs.length) : x ∈ (cs.drop a).take n ↔ ∃ k, a ≤ k ∧ k < a + n ∧ cs.getD k 0 = x := by
  constructor
  · intro hx
    obtain ⟨i, hi, e⟩ := mem_get (d := 0) hx
    have hi2 : i < n := by simp at hi; omega
    refine ⟨a + i, by omega, by omega, ?_⟩
    rw [getD_take hi2, List.getD_eq_getElem?_getD, List.getElem?_drop, ← List.getD_eq_getElem?_getD] at e
    exact e
  · rintro ⟨k, h1, h2, e⟩
    have hg : ((cs.drop a).take n).getD (k - a) 0 = x := by
      rw [getD_take (by omega), List.getD_eq_getElem?_getD, List.getElem?_drop, ← List.getD_eq_getElem?_getD, show a + (k - a) = k by omega]; exact e
    rw [← hg]; exact getD_mem (by simp; omega)
theorem c_through1 {s : St} [Wf s] {q id off len : Nat} {z : Int} {cs : List Int} [hq : Ref s q [.sl id off len]] [h : ArgE ic s id off cs] (hl : cs.length = len) (hb : len ≤ 2000000) : FnB 81 [iv z, .c (.ptr q 0)] s (0 < z ∧ z ∈ cs) := by
  refine F_start code81 ?_
  repeat' (first
 | refine A_go rfl ?_ | refine A_ifT rfl rfl ?_ | refine A_ifF rfl rfl ?_
 | refine A_offP rfl rfl ?_ | refine A_offH rfl rfl ?_ | refine A_off0 rfl rfl ?_
 | ((first | refine A_gt rfl rfl rfl ?_ ?_) <;> intro hc <;> try first | contradiction | (exfalso; omega) | exact absurd rfl hc)
 | (refine A_callB rfl rfl (fun s H => c_containsInt (zs := cs)) ?_ ?_ <;> intro hc <;> try first | contradiction | (exfalso; omega) | exact absurd rfl hc | exact absurd (And.intro rfl rfl) hc | exact absurd (And.intro rfl (And.intro rfl rfl)) hc | exact absurd (Eq.trans (by assumption) (Eq.symm (by assumption))) hc)
 | refine A_p (by rfl) rfl ?_
 | refine A_ldI rfl (by first | omega | (simp; done) | (simp; omega)) rfl ?_ | refine A_ldB rfl (by first | omega | (simp; done) | (simp; omega)) rfl ?_ | refine A_ld rfl (by rfl) rfl ?_
 | refine A_ret1 rfl (by exact (RP.t rfl RP.nil)) ?_)
  · exact R_t ⟨by assumption, hc⟩
  · exact R_f fun h => hc h.2
  · exact R_f fun h => by have := h.1; omega
theorem c_through {s : St} [Wf s] {R C : Nat} {id_xs off_xs len_xs : Nat} {xs : List Int} [h_xs : ArgE ic s id_xs off_xs xs] (hl_xs : xs.length = len_xs := by first | rfl | simp | omega | (simp; omega)) (hl : len_xs = R * C := by omega) (hb : (1 ≤ R ∧ R ≤ 24) ∧ 1 ≤ C ∧ C ≤ 24 := by omega) :
    FnB 54 [.agg [ic R, ic C, .sl id_xs off_xs len_xs]] s (Thr R C xs) := by
  have hcc : R * C ≤ 576 := Nat.mul_le_mul hb.1.2 hb.2.2
  have hC : C ≤ R * C := Nat.le_mul_of_pos_left C (by omega)
  have e : ((R * C : Nat) : Int) = (R : Int) * C := by push_cast; rfl
  have e2 : ((R : Int) - 1) * C = ((R * C - C : Nat) : Int) := by rw [Int.sub_mul]; omega
  have ho := (cluAll_ok (R := R) (C := C) (xs := xs) len_xs (by omega)).1
  have hk : ((R : Int) - 1) * C < R * C := by omega
  have hk0 : 0 ≤ ((R : Int) - 1) * C := by omega
  refine F_start code54 ?_
  repeat' (first
 | refine A_go rfl ?_ | refine A_ifT rfl rfl ?_ | refine A_ifF rfl rfl ?_
 | refine A_sub rfl rfl rfl (by omega) ?_ | refine A_mul rfl rfl rfl (by omega) ?_
 | (refine A_callM rfl rfl (fun s H => c_clusters) ?_; rintro _ _ ⟨pz, rfl, rfl⟩) | (refine A_callM0 rfl rfl (fun s H => c_clusters) ?_; rintro _ _ ⟨pz, rfl, rfl⟩)
 | refine A_fld rfl rfl ?_ | refine A_p (by rfl) rfl ?_
 | refine A_ldI rfl (by first | omega | (simp; done) | (simp; omega)) rfl ?_ | refine A_ldB rfl (by first | omega | (simp; done) | (simp; omega)) rfl ?_ | refine A_ld rfl (by rfl) rfl ?_
 | refine A_ldW rfl (by simp) rfl ?_
 | refine A_st rfl rfl rfl ?_ | refine A_stE rfl rfl (by first | omega | (simp; done) | (simp; omega)) rfl ?_
 | ((first | refine A_alloc rfl ?_ | refine A_box rfl rfl ?_ | refine A_boxC rfl rfl ?_) <;> intro pz hpz)
 | refine A_ret1 rfl (by exact (RP.t rfl RP.nil)) ?_)
  obtain ⟨pc, hEq⟩ : ∃ p, p = pz := ⟨_, rfl⟩; subst hEq
  have e3 : (((R : Int) - 1) * C).toNat = R * C - C := by rw [e2]; rfl
  generalize hcl : (cluAll R C xs len_xs).1 = cl at *
  have hlen : R * C - (R * C - C) = C := by omega
  repeat' (first
 | refine A_go rfl ?_ | refine A_ifT rfl rfl ?_ | refine A_ifF rfl rfl ?_
 | refine A_sub rfl rfl rfl (by omega) ?_ | refine A_mul rfl rfl rfl (by omega) ?_
 | refine A_slFrom rfl rfl rfl (by omega) ?_
 | refine A_slTo rfl rfl rfl (by omega) ?_
 | refine A_fld rfl rfl ?_ | refine A_p (by rfl) rfl ?_
 | refine A_ldI rfl (by first | omega | (simp; done) | (simp; omega)) rfl ?_ | refine A_ldB rfl (by first | omega | (simp; done) | (simp; omega)) rfl ?_ | refine A_ld rfl (by rfl) rfl ?_
 | refine A_ldW rfl (by simp) rfl ?_
 | refine A_st rfl rfl rfl ?_ | refine A_stE rfl rfl (by first | omega | (simp; done) | (simp; omega)) rfl ?_
 | ((first | refine A_alloc rfl ?_ | refine A_box rfl rfl ?_ | refine A_boxC rfl rfl ?_) <;> intro pz hpz)
 | refine A_ret1 rfl (by exact (RP.t rfl RP.nil)) ?_)
  simp only [e3, Nat.mul_one, Int.toNat_natCast]
  have hthr : Thr R C xs ↔ ∃ z ∈ (cl.drop 0).take C, 0 < z ∧ z ∈ (cl.drop (R * C - C)).take C := by
    unfold Thr
    rw [hl_xs, hcl]
    constructor
    · rintro ⟨i, h1, h2, k, h3, h4, h5⟩
      exact ⟨cl.getD i 0, (mem_part (by omega)).2 ⟨i, by omega, by omega, rfl⟩, h2, (mem_part (by omega)).2 ⟨k, h3, by omega, h5⟩⟩
    · rintro ⟨z, h1, h2, h3⟩
      obtain ⟨i, h4, h5, rfl⟩ := (mem_part (by omega)).1 h1
      obtain ⟨k, h6, h7, h8⟩ := (mem_part (by omega)).1 h3
      exact ⟨i, by omega, h2, k, h6, by omega, h8⟩
  refine A_callB rfl rfl (fun s' H => c_containsInts (zs := (cl.drop 0).take C) (h := (inferInstance : ArgE ic s' pc 0 cl).part (a := 0) (n := C) (by omega) (by omega)) (by simp; omega) (fun z => 0 < z ∧ z ∈ (cl.drop (R * C - C)).take C) (fun s1 L1 K z hz => ?_) (by omega)) ?_ ?_
  · have h1 := (inferInstance : ArgE ic s1 pc 0 cl).part (a := R * C - C) (n := C) (by omega) (by omega)
    exact c_through1 (h := h1) (by simp; omega) (by omega)
  · intro hc
    repeat' (first
 | refine A_go rfl ?_ | refine A_ifT rfl rfl ?_ | refine A_ifF rfl rfl ?_
 | refine A_sub rfl rfl rfl (by omega) ?_ | refine A_mul rfl rfl rfl (by omega) ?_
 | refine A_fld rfl rfl ?_ | refine A_p (by rfl) rfl ?_
 | refine A_ldI rfl (by first | omega | (simp; done) | (simp; omega)) rfl ?_ | refine A_ldB rfl (by first | omega | (simp; done) | (simp; omega)) rfl ?_ | refine A_ld rfl (by rfl) rfl ?_
 | refine A_ldW rfl (by simp) rfl ?_
 | refine A_st rfl rfl rfl ?_ | refine A_stE rfl rfl (by first | omega | (simp; done) | (simp; omega)) rfl ?_
 | ((first | refine A_alloc rfl ?_ | refine A_box rfl rfl ?_ | refine A_boxC rfl rfl ?_) <;> intro pz hpz)
 | refine A_ret1 rfl (by exact (RP.t rfl RP.nil)) ?_)
    exact R_t (hthr.2 hc)
  · intro hc
    repeat' (first
 | refine A_go rfl ?_ | refine A_ifT rfl rfl ?_ | refine A_ifF rfl rfl ?_
 | refine A_sub rfl rfl rfl (by omega) ?_ | refine A_mul rfl rfl rfl (by omega) ?_
 | refine A_fld rfl rfl ?_ | refine A_p (by rfl) rfl ?_
 | refine A_ldI rfl (by first | omega | (simp; done) | (simp; omega)) rfl ?_ | refine A_ldB rfl (by first | omega | (simp; done) | (simp; omega)) rfl ?_ | refine A_ld rfl (by rfl) rfl ?_
 | refine A_ldW rfl (by simp) rfl ?_
 | refine A_st rfl rfl rfl ?_ | refine A_stE rfl rfl (by first | omega | (simp; done) | (simp; omega)) rfl ?_
 | ((first | refine A_alloc rfl ?_ | refine A_box rfl rfl ?_ | refine A_boxC rfl rfl ?_) <;> intro pz hpz)
 | refine A_ret1 rfl (by exact (RP.t rfl RP.nil)) ?_)
    exact R_f fun h => hc (hthr.1 h)
theorem c_l04Through {s : St} [Wf s] {q R C : Nat} {id_xs off_xs len_xs : Nat} {xs : List Int} [hq : Ref s q [ic R, ic C, .sl id_xs off_xs len_xs]] [h_xs : ArgE ic s id_xs off_xs xs] (hl_xs : xs.length = len_xs := by first | rfl | simp | omega) (hl : len_xs = R * C := by omega) (hb : (1 ≤ R ∧ R ≤ 24) ∧ 1 ≤ C ∧ C ≤ 24 := by omega) :
    FnB 49 [.c (.ptr q 0)] s (Thr R C xs) := by
  have hcc : R * C ≤ 576 := Nat.mul_le_mul hb.1.2 hb.2.2
  have hC : C ≤ R * C := Nat.le_mul_of_pos_left C (by omega)
  have ho := (cluAll_ok (R := R) (C := C) (xs := xs) len_xs (by omega)).1
  refine F_start code49 ?_
  repeat' (first
 | refine A_go rfl ?_ | refine A_ifT rfl rfl ?_ | refine A_ifF rfl rfl ?_
 | refine A_offP rfl rfl ?_ | refine A_offH rfl rfl ?_ | refine A_off0 rfl rfl ?_
 | refine A_add rfl rfl rfl (by omega) ?_ | refine A_sub rfl rfl rfl (by omega) ?_
 | ((first | refine A_lt rfl rfl rfl ?_ ?_ | refine A_gt rfl rfl rfl ?_ ?_ | refine A_eq rfl rfl rfl ?_ ?_) <;> intro hc <;> try first | contradiction | (exfalso; omega) | exact absurd rfl hc)
 | refine A_idxN1 rfl rfl rfl (by omega) ?_ | refine A_idx1 rfl rfl rfl (by omega) ?_
 | (refine A_callM rfl rfl (fun s H => c_l04Clusters) ?_; rintro _ _ ⟨pz, rfl, rfl⟩) | (refine A_callM0 rfl rfl (fun s H => c_l04Clusters) ?_; rintro _ _ ⟨pz, rfl, rfl⟩)
 | refine A_fld rfl rfl ?_ | refine A_p (by rfl) rfl ?_
 | refine A_ldI rfl (by first | omega | (simp; done) | (simp; omega)) rfl ?_ | refine A_ldB rfl (by first | omega | (simp; done) | (simp; omega)) rfl ?_ | refine A_ld rfl (by rfl) rfl ?_
 | refine A_ret1 rfl (by exact (RP.t rfl RP.nil)) ?_)
  have hthr : Thr R C xs ↔ ∃ i, i < C ∧ 0 < (cluAll R C xs len_xs).1.getD i 0 ∧ ∃ k, k < C ∧ (cluAll R C xs len_xs).1.getD (R * C - C + k) 0 = (cluAll R C xs len_xs).1.getD i 0 := by
    unfold Thr
    rw [hl_xs]
    constructor
    · rintro ⟨i, h1, h2, k, h3, h4, h5⟩
      exact ⟨i, h1, h2, k - (R * C - C), by omega, by rw [show R * C - C + (k - (R * C - C)) = k by omega]; exact h5⟩
    · rintro ⟨i, h1, h2, k, h3, h5⟩
      exact ⟨i, h1, h2, _, by omega, by omega, h5⟩
  generalize (cluAll R C xs len_xs).1 = cl at *
  obtain ⟨pc, hEq⟩ : ∃ p, p = pz := ⟨_, rfl⟩; subst hEq
  refine A_loop rfl [pc] (fun m fr L => ∃ (i : Nat), m = C - i ∧ fr = [(0, .c (.ptr q 0)), (3, .c (.sl pc 0 len_xs)), (5, iv len_xs), (6, iv i)] ∧ L = [(pc, ints cl)] ∧ i ≤ C ∧ ∀ j, j < i → ¬ (0 < cl.getD j 0 ∧ ∃ k, k < C ∧ cl.getD (R * C - C + k) 0 = cl.getD j 0)) C ⟨0, rfl, rfl, rfl, by omega, fun j hj => by omega⟩ ?_
  rintro m fr L ⟨i, rfl, rfl, rfl, hi, ht⟩
  by_cases hi' : i < C
  case neg =>
    obtain rfl : C = i := by omega
    repeat' (first
 | refine A_go rfl ?_ | refine A_ifT rfl rfl ?_ | refine A_ifF rfl rfl ?_
 | refine A_offP rfl rfl ?_ | refine A_offH rfl rfl ?_ | refine A_off0 rfl rfl ?_
 | refine A_add rfl rfl rfl (by omega) ?_ | refine A_sub rfl rfl rfl (by omega) ?_
 | ((first | refine A_lt rfl rfl rfl ?_ ?_ | refine A_gt rfl rfl rfl ?_ ?_ | refine A_eq rfl rfl rfl ?_ ?_) <;> intro hc <;> try first | contradiction | (exfalso; omega) | exact absurd rfl hc)
 | refine A_idxN1 rfl rfl rfl (by omega) ?_ | refine A_idx1 rfl rfl rfl (by omega) ?_
 | refine A_fld rfl rfl ?_ | refine A_p (by rfl) rfl ?_
 | refine A_ldI rfl (by first | omega | (simp; done) | (simp; omega)) rfl ?_ | refine A_ldB rfl (by first | omega | (simp; done) | (simp; omega)) rfl ?_ | refine A_ld rfl (by rfl) rfl ?_
 | refine A_ret1 rfl (by exact (RP.t rfl RP.nil)) ?_)
    exact R_f fun h => by obtain ⟨i, h1, h2, h3⟩ := hthr.1 h; exact ht i h1 ⟨h2, h3⟩
  repeat' (first
 | refine A_go rfl ?_ | refine A_ifT rfl rfl ?_ | refine A_ifF rfl rfl ?_
 | refine A_offP rfl rfl ?_ | refine A_offH rfl rfl ?_ | refine A_off0 rfl rfl ?_
 | refine A_add rfl rfl rfl (by omega) ?_ | refine A_sub rfl rfl rfl (by omega) ?_
 | ((first | refine A_lt rfl rfl rfl ?_ ?_ | refine A_gt rfl rfl rfl ?_ ?_ | refine A_eq rfl rfl rfl ?_ ?_) <;> intro hc <;> try first | contradiction | (exfalso; omega) | exact absurd rfl hc)
 | refine A_idxN1 rfl rfl rfl (by omega) ?_ | refine A_idx1 rfl rfl rfl (by omega) ?_
 | refine A_fld rfl rfl ?_ | refine A_p (by rfl) rfl ?_
 | refine A_ldI rfl (by first | omega | (simp; done) | (simp; omega)) rfl ?_ | refine A_ldB rfl (by first | omega | (simp; done) | (simp; omega)) rfl ?_ | refine A_ld rfl (by rfl) rfl ?_
 | refine A_ret1 rfl (by exact (RP.t rfl RP.nil)) ?_)
  refine A_loop rfl [pc] (fun m fr L => ∃ (k : Nat), m = C - k ∧ fr = [(0, .c (.ptr q 0)), (3, .c (.sl pc 0 len_xs)), (5, iv len_xs), (6, iv i), (7, iv ((R * C - C + k : Nat) : Int))] ∧ L = [(pc, ints cl)] ∧ k ≤ C ∧ ∀ j, j < k → ¬ (0 < cl.getD i 0 ∧ cl.getD (R * C - C + j) 0 = cl.getD i 0)) C ⟨0, rfl, by rw [show ((len_xs : Int) - C) = ((R * C - C + 0 : Nat) : Int) by omega]; rfl, rfl, by omega, fun j hj => by omega⟩ ?_
  rintro m fr L ⟨k, rfl, rfl, rfl, hk, ht2⟩
  by_cases hk' : k < C
  case neg =>
    obtain rfl : C = k := by omega
    repeat' (first
 | refine A_go rfl ?_ | refine A_ifT rfl rfl ?_ | refine A_ifF rfl rfl ?_
 | refine A_offP rfl rfl ?_ | refine A_offH rfl rfl ?_ | refine A_off0 rfl rfl ?_
 | refine A_add rfl rfl rfl (by omega) ?_ | refine A_sub rfl rfl rfl (by omega) ?_
 | ((first | refine A_lt rfl rfl rfl ?_ ?_ | refine A_gt rfl rfl rfl ?_ ?_ | refine A_eq rfl rfl rfl ?_ ?_) <;> intro hc <;> try first | contradiction | (exfalso; omega) | exact absurd rfl hc)
 | refine A_idxN1 rfl rfl rfl (by omega) ?_ | refine A_idx1 rfl rfl rfl (by omega) ?_
 | refine A_fld rfl rfl ?_ | refine A_p (by rfl) rfl ?_
 | refine A_ldI rfl (by first | omega | (simp; done) | (simp; omega)) rfl ?_ | refine A_ldB rfl (by first | omega | (simp; done) | (simp; omega)) rfl ?_ | refine A_ld rfl (by rfl) rfl ?_
 | refine A_ret1 rfl (by exact (RP.t rfl RP.nil)) ?_)
    refine A_round rfl [pc] (C - (i + 1)) (by omega) ?_
    refine ⟨i + 1, rfl, rfl, rfl, by omega, fun j hj => ?_⟩
    by_cases e : j = i
    · subst e; rintro ⟨g1, k, g2, g3⟩; exact ht2 k g2 ⟨g1, g3⟩
    · exact ht j (by omega)
  repeat' (first
 | refine A_go rfl ?_ | refine A_ifT rfl rfl ?_ | refine A_ifF rfl rfl ?_
 | refine A_offP rfl rfl ?_ | refine A_offH rfl rfl ?_ | refine A_off0 rfl rfl ?_
 | refine A_add rfl rfl rfl (by omega) ?_ | refine A_sub rfl rfl rfl (by omega) ?_
 | ((first | refine A_lt rfl rfl rfl ?_ ?_ | refine A_gt rfl rfl rfl ?_ ?_ | refine A_eq rfl rfl rfl ?_ ?_) <;> intro hc <;> try first | contradiction | (exfalso; omega) | exact absurd rfl hc)
 | refine A_idxN1 rfl rfl rfl (by omega) ?_ | refine A_idx1 rfl rfl rfl (by omega) ?_
 | refine A_fld rfl rfl ?_ | refine A_p (by rfl) rfl ?_
 | refine A_ldI rfl (by first | omega | (simp; done) | (simp; omega)) rfl ?_ | refine A_ldB rfl (by first | omega | (simp; done) | (simp; omega)) rfl ?_ | refine A_ld rfl (by rfl) rfl ?_
 | refine A_ret1 rfl (by exact (RP.t rfl RP.nil)) ?_)
  · rename_i h0
    exact R_t (hthr.2 ⟨i, hi', by assumption, k, hk', hc.symm⟩)
  · refine A_round rfl [pc] (C - (k + 1)) (by omega) ?_
    refine ⟨k + 1, rfl, rfl, rfl, by omega, fun j hj => ?_⟩
    by_cases e : j = k
    · subst e; rintro ⟨_, g⟩; exact hc g.symm
    · exact ht2 j (by omega)
  · refine A_round rfl [pc] (C - (k + 1)) (by omega) ?_
    refine ⟨k + 1, rfl, rfl, rfl, by omega, fun j hj => ?_⟩
    rintro ⟨g, _⟩; omega
theorem c_implLeadsThrough {s : St} [Wf s] {r c : Int} {id_xs off_xs len_xs : Nat} {xs : List Int} [h_xs : ArgE ic s id_xs off_xs xs] (hl_xs : xs.length = len_xs := by first | rfl | simp | omega | (simp; omega)) (hb : len_xs ≤ 2000000 := by omega) : FnV 31 [.agg [ic r, ic c, .sl id_xs off_xs len_xs]] s (boolV (VF r c xs) (Thr r.toNat c.toNat xs)) := by
  refine F_start code31 ?_
  by_cases hv : VF r c xs
  case neg =>
    repeat' (first
 | refine A_go rfl ?_ | refine A_ifT rfl rfl ?_ | refine A_ifF rfl rfl ?_
 | (refine A_callB rfl rfl (fun s H => c_implValidField) ?_ ?_ <;> intro hc <;> try first | contradiction | (exfalso; omega) | exact absurd rfl hc | exact absurd (And.intro rfl rfl) hc | exact absurd (And.intro rfl (And.intro rfl rfl)) hc | exact absurd (Eq.trans (by assumption) (Eq.symm (by assumption))) hc)
 | refine A_p (by rfl) rfl ?_
 | refine A_ldW rfl (by simp) rfl ?_
 | ((first | refine A_box rfl rfl ?_ | refine A_boxC rfl rfl ?_) <;> intro pz hpz)
 | refine A_ret rfl (by exact (RP.t rfl (RP.t rfl RP.nil))) ?_)
    exact R_bn hv
  obtain ⟨R, C, rfl, rfl, h1, h2, h3, h4⟩ := hv.nat
  simp only [Int.toNat_natCast]
  repeat' (first
 | refine A_go rfl ?_ | refine A_ifT rfl rfl ?_ | refine A_ifF rfl rfl ?_
 | (refine A_callB rfl rfl (fun s H => c_implValidField) ?_ ?_ <;> intro hc <;> try first | contradiction | (exfalso; omega) | exact absurd rfl hc | exact absurd (And.intro rfl rfl) hc | exact absurd (And.intro rfl (And.intro rfl rfl)) hc | exact absurd (Eq.trans (by assumption) (Eq.symm (by assumption))) hc)
 | (refine A_callB rfl rfl (fun s H => c_through) ?_ ?_ <;> intro hc <;> try first | contradiction | (exfalso; omega) | exact absurd rfl hc | exact absurd (And.intro rfl rfl) hc | exact absurd (And.intro rfl (And.intro rfl rfl)) hc | exact absurd (Eq.trans (by assumption) (Eq.symm (by assumption))) hc)
 | refine A_p (by rfl) rfl ?_
 | refine A_ldW rfl (by simp) rfl ?_
 | ((first | refine A_box rfl rfl ?_ | refine A_boxC rfl rfl ?_) <;> intro pz hpz)
 | refine A_ret rfl (by exact (RP.t rfl (RP.t rfl RP.nil))) ?_)
  · exact R_bt hv hc
  · exact R_bf hv hc
end Go.Proofs.Ytckobcjjbpnkcaa
