/- Which words can come. -/
import Derived.Test.YtafdjnhlhepibaaXcomesC
import Derived.Test.YtafdjnhlhepibaaXkeepsCount
import Derived.Test.YtafdjnhlhepibaaFB
namespace Go.Proofs.Ytafdjnhlhepibaa
open Go Go.RowKit
set_option linter.unusedVariables false
set_option linter.unusedSimpArgs false
set_option maxRecDepth 100000
set_option maxHeartbeats 8000000
-- impl.canCome
def L104 : AFun := ⟨29, [.t 6],
 (.seq (.ops false [⟨(some 3), .box 30 (.t 0), none, []⟩,
   ⟨(some 6), .mv (.k (bv false)), none, []⟩])
 (.seq (.ops true [⟨(some 7), .load true 3 (.t 3), none, []⟩,
   ⟨(some 8), .call (.f 66) [(.t 7)], none, []⟩,
   ⟨(some 9), .mv (.t 8), none, []⟩,
   ⟨(some 10), .mv (.t 2), (some (9, true)), []⟩,
   ⟨(some 11), .call (.f 72) [(.t 10), (.k (iv 0)), (.k (iv 4))], (some (9, true)), []⟩,
   ⟨(some 12), .pick (.t 9) (.t 11) (.k (bv false)), none, []⟩,
   ⟨(some 13), .mv (.t 12), none, []⟩,
   ⟨(some 14), .mv (.t 1), (some (13, true)), []⟩,
   ⟨(some 15), .call (.f 72) [(.t 14), (.k (iv 1)), (.k (iv 12))], (some (13, true)), []⟩,
   ⟨(some 16), .pick (.t 13) (.t 15) (.k (bv false)), none, []⟩,
   ⟨(some 17), .mv (.t 16), none, []⟩,
   ⟨(some 25), .load true 3 (.t 3), (some (17, true)), []⟩,
   ⟨(some 26), .call (.f 80) [(.t 25), (.k (iv 14)), (.k (iv 9))], (some (17, true)), []⟩,
   ⟨(some 18), .mv (.t 1), (some (17, true)), []⟩,
   ⟨(some 19), .fieldA 1 (.t 3), (some (17, true)), []⟩,
   ⟨(some 20), .load false 1 (.t 19), (some (17, true)), [3]⟩,
   ⟨(some 21), .bin .mul (.k (iv 2)) (.t 20), (some (17, true)), []⟩,
   ⟨(some 22), .mv (.t 2), (some (17, true)), []⟩,
   ⟨(some 23), .bin .mul (.t 21) (.t 22), (some (17, true)), []⟩,
   ⟨(some 24), .bin .add (.t 18) (.t 23), (some (17, true)), []⟩,
   ⟨(some 27), .bin .leq (.t 24) (.t 26), (some (17, true)), []⟩,
   ⟨(some 28), .pick (.t 17) (.t 27) (.k (bv false)), none, []⟩,
   ⟨(some 6), .mv (.t 28), none, []⟩])
 .ret))⟩
theorem code104 : acode Try.prog hints 104 = some L104 := by kernel_rfl

-- impl.CanCome
def L55 : AFun := ⟨30, [.t 6, .t 7],
 (.seq (.ops false [⟨(some 3), .box 30 (.t 0), none, []⟩,
   ⟨(some 6), .mv (.k (bv false)), none, []⟩,
   ⟨(some 7), .mv (.k (bv false)), none, []⟩])
 (.seq (.seq (.ops false [⟨(some 8), .load true 3 (.t 3), none, []⟩,
    ⟨(some 9), .mv (.t 1), none, []⟩,
    ⟨(some 10), .call (.f 103) [(.t 8), (.t 9)], none, []⟩,
    ⟨(some 11), .un .not (.t 10), none, []⟩,
    ⟨(some 12), .mv (.t 11), none, []⟩,
    ⟨(some 13), .load true 3 (.t 3), (some (12, false)), []⟩,
    ⟨(some 14), .mv (.t 1), (some (12, false)), []⟩,
    ⟨(some 15), .len false (.t 14), (some (12, false)), []⟩,
    ⟨(some 16), .mv (.t 2), (some (12, false)), []⟩,
    ⟨(some 17), .call (.f 104) [(.t 13), (.t 15), (.t 16)], (some (12, false)), []⟩,
    ⟨(some 18), .un .not (.t 17), (some (12, false)), []⟩,
    ⟨(some 19), .pick (.t 12) (.k (bv true)) (.t 18), none, []⟩])
  (.cond (.t 19) (.seq (.ops false [⟨(some 6), .mv (.k (bv false)), none, []⟩,
     ⟨(some 7), .mv (.k (bv false)), none, []⟩])
   .ret)
   .skip))
 (.seq (.ops true [⟨(some 20), .load true 3 (.t 3), none, []⟩,
   ⟨(some 21), .mv (.t 1), none, []⟩,
   ⟨(some 22), .len false (.t 21), none, []⟩,
   ⟨(some 23), .mv (.t 2), none, []⟩,
   ⟨(some 24), .call (.f 105) [(.t 20), (.t 22), (.t 23)], none, []⟩,
   ⟨(some 25), .mv (.t 1), none, []⟩,
   ⟨(some 26), .fieldA 0 (.t 3), none, []⟩,
   ⟨(some 27), .load false 1 (.t 26), none, [0]⟩,
   ⟨(some 28), .call (.f 106) [(.t 25), (.t 27)], none, []⟩,
   ⟨(some 29), .lookup false false (.bool false) (.t 24) (.t 28), none, []⟩,
   ⟨(some 6), .mv (.t 29), none, []⟩,
   ⟨(some 7), .mv (.k (bv true)), none, []⟩])
 .ret)))⟩
theorem code55 : acode Try.prog hints 55 = some L55 := by kernel_rfl

-- impl.WordsThatCome
def L56 : AFun := ⟨18, [.t 6, .t 7],
 (.seq (.ops false [⟨(some 3), .box 30 (.t 0), none, []⟩,
   ⟨(some 6), .mv (.k (iv 0)), none, []⟩,
   ⟨(some 7), .mv (.k (bv false)), none, []⟩])
 (.seq (.seq (.ops false [⟨(some 8), .load true 3 (.t 3), none, []⟩,
    ⟨(some 9), .mv (.t 1), none, []⟩,
    ⟨(some 10), .mv (.t 2), none, []⟩,
    ⟨(some 11), .call (.f 104) [(.t 8), (.t 9), (.t 10)], none, []⟩,
    ⟨(some 12), .un .not (.t 11), none, []⟩])
  (.cond (.t 12) (.seq (.ops false [⟨(some 6), .mv (.k (iv 0)), none, []⟩,
     ⟨(some 7), .mv (.k (bv false)), none, []⟩])
   .ret)
   .skip))
 (.seq (.ops false [⟨(some 13), .load true 3 (.t 3), none, []⟩,
   ⟨(some 14), .mv (.t 1), none, []⟩,
   ⟨(some 15), .mv (.t 2), none, []⟩,
   ⟨(some 16), .call (.f 105) [(.t 13), (.t 14), (.t 15)], none, []⟩,
   ⟨(some 17), .mlen (.t 16), none, []⟩,
   ⟨(some 6), .mv (.t 17), none, []⟩,
   ⟨(some 7), .mv (.k (bv true)), none, []⟩])
 .ret)))⟩
theorem code56 : acode Try.prog hints 56 = some L56 := by kernel_rfl

-- spec.WordsThatCome
def L57 : AFun := ⟨42, [.t 6, .t 7],
 (.seq (.ops false [⟨(some 3), .box 30 (.t 0), none, []⟩,
   ⟨(some 6), .mv (.k (iv 0)), none, []⟩,
   ⟨(some 7), .mv (.k (bv false)), none, []⟩])
 (.seq (.seq (.ops false [⟨(some 11), .call (.f 63) [(.t 3)], none, []⟩,
    ⟨(some 12), .un .not (.t 11), none, []⟩,
    ⟨(some 13), .mv (.t 12), none, []⟩,
    ⟨(some 14), .mv (.t 1), (some (13, false)), []⟩,
    ⟨(some 15), .call (.f 60) [(.t 14), (.k (iv 1)), (.k (iv 12))], (some (13, false)), []⟩,
    ⟨(some 16), .un .not (.t 15), (some (13, false)), []⟩,
    ⟨(some 17), .pick (.t 13) (.k (bv true)) (.t 16), none, []⟩,
    ⟨(some 18), .mv (.t 17), none, []⟩,
    ⟨(some 19), .mv (.t 2), (some (18, false)), []⟩,
    ⟨(some 20), .call (.f 60) [(.t 19), (.k (iv 0)), (.k (iv 4))], (some (18, false)), []⟩,
    ⟨(some 21), .un .not (.t 20), (some (18, false)), []⟩,
    ⟨(some 22), .pick (.t 18) (.k (bv true)) (.t 21), none, []⟩])
  (.cond (.t 22) (.seq (.ops false [⟨(some 6), .mv (.k (iv 0)), none, []⟩,
     ⟨(some 7), .mv (.k (bv false)), none, []⟩])
   .ret)
   .skip))
 (.seq (.ops false [⟨(some 23), .mv (.t 1), none, []⟩,
   ⟨(some 24), .mv (.t 2), none, []⟩,
   ⟨(some 25), .call (.f 107) [(.t 3), (.t 23), (.t 24)], none, []⟩,
   ⟨(some 8), .mv (.t 25), none, []⟩])
 (.seq (.seq (.ops false [⟨(some 26), .mv (.t 8), none, []⟩,
    ⟨(some 27), .len false (.t 26), none, []⟩,
    ⟨(some 28), .bin .eql (.t 27) (.k (iv 0)), none, []⟩])
  (.cond (.t 28) (.seq (.ops false [⟨(some 6), .mv (.k (iv 0)), none, []⟩,
     ⟨(some 7), .mv (.k (bv false)), none, []⟩])
   .ret)
   .skip))
 (.seq (.ops false [⟨(some 9), .mv (.k (iv 0)), none, []⟩])
 (.seq (.seq (.ops false [⟨(some 29), .mv (.t 8), none, []⟩,
    ⟨(some 30), .len false (.t 29), none, []⟩,
    ⟨(some 31), .mv (.k (iv 0)), none, []⟩])
  (.block 0 (.loop [8, 9, 30, 31] (.seq (.ops false [⟨(some 32), .bin .lss (.t 31) (.t 30), none, []⟩])
    (.seq (.cond (.t 32) .skip
      (.exit 0))
    (.seq (.block 1 (.seq (.ops false [⟨(some 33), .mv (.t 31), none, []⟩,
        ⟨(some 10), .mv (.t 33), none, []⟩])
      (.seq (.ops false [⟨(some 34), .mv (.t 8), none, []⟩,
        ⟨(some 35), .mv (.t 10), none, []⟩,
        ⟨(some 36), .idxA 1 (.t 34) (.t 35), none, []⟩,
        ⟨(some 37), .load false 1 (.t 36), none, []⟩])
      (.cond (.t 37) (.ops false [⟨(some 38), .mv (.t 9), none, []⟩,
        ⟨(some 39), .bin .add (.t 38) (.k (iv 1)), none, []⟩,
        ⟨(some 9), .mv (.t 39), none, []⟩])
       .skip))))
    (.ops false [⟨(some 40), .bin .add (.t 31) (.k (iv 1)), none, []⟩,
     ⟨(some 31), .mv (.t 40), none, []⟩])))))))
 (.seq (.ops false [⟨(some 41), .mv (.t 9), none, []⟩,
   ⟨(some 6), .mv (.t 41), none, []⟩,
   ⟨(some 7), .mv (.k (bv true)), none, []⟩])
 .ret)))))))⟩
theorem code57 : acode Try.prog hints 57 = some L57 := by kernel_rfl


theorem c_canCome {s : St} [Wf s] {st re n T : Int} {id_xs off_xs len_xs : Nat} {xs : List Int} [h_xs : ArgE ic s id_xs off_xs xs] (hl_xs : xs.length = len_xs := by first | rfl | simp | omega | (simp; omega)) (hb : len_xs ≤ 2000000 := by omega) : FnB 104 [.agg [ic st, ic re, .sl id_xs off_xs len_xs], iv n, iv T] s (CmP st re xs n T) := by
  refine F_start code104 ?_
  by_cases hv : VR st re xs
  case neg =>
    repeat' (first
 | refine A_go rfl ?_ | refine A_ifT rfl rfl ?_ | refine A_ifF rfl rfl ?_
 | refine A_offP rfl rfl ?_ | refine A_offH rfl rfl ?_ | refine A_off0 rfl rfl ?_
 | refine A_add rfl rfl rfl (by omega) ?_ | refine A_mul rfl rfl rfl (by omega) ?_
 | ((first | refine A_le rfl rfl rfl ?_ ?_) <;> intro hc <;> try first | contradiction | (exfalso; omega) | exact absurd rfl hc)
 | (refine A_callB rfl rfl (fun s H => c_ValidRule) ?_ ?_ <;> intro hc <;> try first | contradiction | (exfalso; omega) | exact absurd rfl hc | exact absurd (And.intro rfl rfl) hc | exact absurd (And.intro rfl (And.intro rfl rfl)) hc | exact absurd (Eq.trans (by assumption) (Eq.symm (by assumption))) hc)
 | refine A_fld rfl rfl ?_ | refine A_p (by rfl) rfl ?_
 | refine A_ldI rfl (by first | omega | (simp; done) | (simp; omega)) rfl ?_ | refine A_ldB rfl (by first | omega | (simp; done) | (simp; omega)) rfl ?_ | refine A_ld rfl (by rfl) rfl ?_
 | refine A_ldW rfl (by simp) rfl ?_
 | ((first | refine A_box rfl rfl ?_ | refine A_boxC rfl rfl ?_) <;> intro pz hpz)
 | refine A_chk1 rfl rfl rfl ?_ | refine A_chk2 rfl rfl rfl rfl ?_ | refine A_chk3 rfl rfl rfl rfl rfl ?_ | refine A_chk4 rfl rfl rfl rfl rfl rfl ?_ | refine A_chkI rfl (by assumption) rfl (by simp) ?_
 | refine A_ret1 rfl (by exact (RP.t rfl RP.nil)) ?_)
    exact R_f fun h => hv h.1
  have hre := hv.2.1
  by_cases hT : 0 ≤ T ∧ T ≤ 4
  case neg =>
    repeat' (first
 | refine A_go rfl ?_ | refine A_ifT rfl rfl ?_ | refine A_ifF rfl rfl ?_
 | refine A_offP rfl rfl ?_ | refine A_offH rfl rfl ?_ | refine A_off0 rfl rfl ?_
 | refine A_add rfl rfl rfl (by omega) ?_ | refine A_mul rfl rfl rfl (by omega) ?_
 | ((first | refine A_le rfl rfl rfl ?_ ?_) <;> intro hc <;> try first | contradiction | (exfalso; omega) | exact absurd rfl hc)
 | (refine A_callB rfl rfl (fun s H => c_ValidRule) ?_ ?_ <;> intro hc <;> try first | contradiction | (exfalso; omega) | exact absurd rfl hc | exact absurd (And.intro rfl rfl) hc | exact absurd (And.intro rfl (And.intro rfl rfl)) hc | exact absurd (Eq.trans (by assumption) (Eq.symm (by assumption))) hc)
 | (refine A_callB rfl rfl (fun s H => c_within) ?_ ?_ <;> intro hc <;> try first | contradiction | (exfalso; omega) | exact absurd rfl hc | exact absurd (And.intro rfl rfl) hc | exact absurd (And.intro rfl (And.intro rfl rfl)) hc | exact absurd (Eq.trans (by assumption) (Eq.symm (by assumption))) hc)
 | refine A_fld rfl rfl ?_ | refine A_p (by rfl) rfl ?_
 | refine A_ldI rfl (by first | omega | (simp; done) | (simp; omega)) rfl ?_ | refine A_ldB rfl (by first | omega | (simp; done) | (simp; omega)) rfl ?_ | refine A_ld rfl (by rfl) rfl ?_
 | refine A_ldW rfl (by simp) rfl ?_
 | ((first | refine A_box rfl rfl ?_ | refine A_boxC rfl rfl ?_) <;> intro pz hpz)
 | refine A_chk1 rfl rfl rfl ?_ | refine A_chk2 rfl rfl rfl rfl ?_ | refine A_chk3 rfl rfl rfl rfl rfl ?_ | refine A_chk4 rfl rfl rfl rfl rfl rfl ?_ | refine A_chkI rfl (by assumption) rfl (by simp) ?_
 | refine A_ret1 rfl (by exact (RP.t rfl RP.nil)) ?_)
    exact R_f fun h => hT h.2.1
  by_cases hn : 1 ≤ n ∧ n ≤ 12
  case neg =>
    repeat' (first
 | refine A_go rfl ?_ | refine A_ifT rfl rfl ?_ | refine A_ifF rfl rfl ?_
 | refine A_offP rfl rfl ?_ | refine A_offH rfl rfl ?_ | refine A_off0 rfl rfl ?_
 | refine A_add rfl rfl rfl (by omega) ?_ | refine A_mul rfl rfl rfl (by omega) ?_
 | ((first | refine A_le rfl rfl rfl ?_ ?_) <;> intro hc <;> try first | contradiction | (exfalso; omega) | exact absurd rfl hc)
 | (refine A_callB rfl rfl (fun s H => c_ValidRule) ?_ ?_ <;> intro hc <;> try first | contradiction | (exfalso; omega) | exact absurd rfl hc | exact absurd (And.intro rfl rfl) hc | exact absurd (And.intro rfl (And.intro rfl rfl)) hc | exact absurd (Eq.trans (by assumption) (Eq.symm (by assumption))) hc)
 | (refine A_callB rfl rfl (fun s H => c_within) ?_ ?_ <;> intro hc <;> try first | contradiction | (exfalso; omega) | exact absurd rfl hc | exact absurd (And.intro rfl rfl) hc | exact absurd (And.intro rfl (And.intro rfl rfl)) hc | exact absurd (Eq.trans (by assumption) (Eq.symm (by assumption))) hc)
 | refine A_fld rfl rfl ?_ | refine A_p (by rfl) rfl ?_
 | refine A_ldI rfl (by first | omega | (simp; done) | (simp; omega)) rfl ?_ | refine A_ldB rfl (by first | omega | (simp; done) | (simp; omega)) rfl ?_ | refine A_ld rfl (by rfl) rfl ?_
 | refine A_ldW rfl (by simp) rfl ?_
 | ((first | refine A_box rfl rfl ?_ | refine A_boxC rfl rfl ?_) <;> intro pz hpz)
 | refine A_chk1 rfl rfl rfl ?_ | refine A_chk2 rfl rfl rfl rfl ?_ | refine A_chk3 rfl rfl rfl rfl rfl ?_ | refine A_chk4 rfl rfl rfl rfl rfl rfl ?_ | refine A_chkI rfl (by assumption) rfl (by simp) ?_
 | refine A_ret1 rfl (by exact (RP.t rfl RP.nil)) ?_)
    exact R_f fun h => hn h.2.2.1
  have hm := re_mul hre hT
  repeat' (first
 | refine A_go rfl ?_ | refine A_ifT rfl rfl ?_ | refine A_ifF rfl rfl ?_
 | refine A_offP rfl rfl ?_ | refine A_offH rfl rfl ?_ | refine A_off0 rfl rfl ?_
 | refine A_add rfl rfl rfl (by omega) ?_ | refine A_mul rfl rfl rfl (by omega) ?_
 | ((first | refine A_le rfl rfl rfl ?_ ?_) <;> intro hc <;> try first | contradiction | (exfalso; omega) | exact absurd rfl hc)
 | (refine A_callB rfl rfl (fun s H => c_ValidRule) ?_ ?_ <;> intro hc <;> try first | contradiction | (exfalso; omega) | exact absurd rfl hc | exact absurd (And.intro rfl rfl) hc | exact absurd (And.intro rfl (And.intro rfl rfl)) hc | exact absurd (Eq.trans (by assumption) (Eq.symm (by assumption))) hc)
 | (refine A_callB rfl rfl (fun s H => c_within) ?_ ?_ <;> intro hc <;> try first | contradiction | (exfalso; omega) | exact absurd rfl hc | exact absurd (And.intro rfl rfl) hc | exact absurd (And.intro rfl (And.intro rfl rfl)) hc | exact absurd (Eq.trans (by assumption) (Eq.symm (by assumption))) hc)
 | refine A_callV rfl rfl (fun s H => c_mostCells) ?_
 | refine A_fld rfl rfl ?_ | refine A_p (by rfl) rfl ?_
 | refine A_ldI rfl (by first | omega | (simp; done) | (simp; omega)) rfl ?_ | refine A_ldB rfl (by first | omega | (simp; done) | (simp; omega)) rfl ?_ | refine A_ld rfl (by rfl) rfl ?_
 | refine A_ldW rfl (by simp) rfl ?_
 | ((first | refine A_box rfl rfl ?_ | refine A_boxC rfl rfl ?_) <;> intro pz hpz)
 | refine A_chk1 rfl rfl rfl ?_ | refine A_chk2 rfl rfl rfl rfl ?_ | refine A_chk3 rfl rfl rfl rfl rfl ?_ | refine A_chk4 rfl rfl rfl rfl rfl rfl ?_ | refine A_chkI rfl (by assumption) rfl (by simp) ?_
 | refine A_ret1 rfl (by exact (RP.t rfl RP.nil)) ?_)
  · exact R_t ⟨hv, hT, hn, hc⟩
  · exact R_f fun h => by have := h.2.2.2; omega
def comN (st re : Int) (xs : List Int) (n T : Int) : Int := (cimg st.toNat (2 * re + 1).toNat xs n.toNat T.toNat).2
theorem comN_eq {S w n T : Nat} {re : Int} {xs : List Int} (hw : 2 * re + 1 = w) : comN S re xs n T = (cimg S w xs n T).2 := by
  rw [comN, hw]; simp only [Int.toNat_natCast]
theorem c_implWordsThatCome {s : St} [Wf s] {st re n0 T0 : Int} {id_xs off_xs len_xs : Nat} {xs : List Int} [h_xs : ArgE ic s id_xs off_xs xs] (hl_xs : xs.length = len_xs := by first | rfl | simp | omega | (simp; omega)) (hb : len_xs ≤ 2000000 := by omega) : FnV 56 [.agg [ic st, ic re, .sl id_xs off_xs len_xs], iv n0, iv T0] s (numV (CmP st re xs n0 T0) (comN st re xs n0 T0)) := by
  refine F_start code56 ?_
  by_cases hp : CmP st re xs n0 T0
  case neg =>
    repeat' (first
 | refine A_go rfl ?_ | refine A_ifT rfl rfl ?_ | refine A_ifF rfl rfl ?_
 | (refine A_callB rfl rfl (fun s H => c_canCome) ?_ ?_ <;> intro hc <;> try first | contradiction | (exfalso; omega) | exact absurd rfl hc | exact absurd (And.intro rfl rfl) hc | exact absurd (And.intro rfl (And.intro rfl rfl)) hc | exact absurd (Eq.trans (by assumption) (Eq.symm (by assumption))) hc)
 | refine A_p (by rfl) rfl ?_
 | refine A_ldW rfl (by simp) rfl ?_
 | ((first | refine A_box rfl rfl ?_ | refine A_boxC rfl rfl ?_) <;> intro pz hpz)
 | refine A_ret rfl (by exact (RP.t rfl (RP.t rfl RP.nil))) ?_)
    exact R_numN hp
  obtain ⟨S, w, E, rfl, hS, hw, hw1, hE, hl, hEb, hdg⟩ := hp.1.nat
  obtain ⟨n, T, rfl, rfl, hn, hT, hlong⟩ := cm_nat hp hw hS
  repeat' (first
 | refine A_go rfl ?_ | refine A_ifT rfl rfl ?_ | refine A_ifF rfl rfl ?_
 | (refine A_callB rfl rfl (fun s H => c_canCome) ?_ ?_ <;> intro hc <;> try first | contradiction | (exfalso; omega) | exact absurd rfl hc | exact absurd (And.intro rfl rfl) hc | exact absurd (And.intro rfl (And.intro rfl rfl)) hc | exact absurd (Eq.trans (by assumption) (Eq.symm (by assumption))) hc)
 | (refine A_callM rfl rfl (fun s H => c_come (hd := hdg) (hE := hE) (hl := hl) (hn := hn) (hT := hT) (hlong := hlong)) ?_; rintro _ _ ⟨pz, ks, rfl, rfl, hks⟩) | (refine A_callM0 rfl rfl (fun s H => c_come (hd := hdg) (hE := hE) (hl := hl) (hn := hn) (hT := hT) (hlong := hlong)) ?_; rintro _ _ ⟨pz, ks, rfl, rfl, hks⟩)
 | refine A_mlen rfl rfl ?_
 | refine A_p (by rfl) rfl ?_
 | refine A_ldW rfl (by simp) rfl ?_
 | ((first | refine A_box rfl rfl ?_ | refine A_boxC rfl rfl ?_) <;> intro pz hpz)
 | refine A_ret rfl (by exact (RP.t rfl (RP.t rfl RP.nil))) ?_)
  exact R_num hp (by rw [comN_eq hw, List.length_map]; exact hks.1)
theorem c_specWordsThatCome {s : St} [Wf s] {st re n0 T0 : Int} {id_xs off_xs len_xs : Nat} {xs : List Int} [h_xs : ArgE ic s id_xs off_xs xs] (hl_xs : xs.length = len_xs := by first | rfl | simp | omega | (simp; omega)) (hb : len_xs ≤ 2000000 := by omega) : FnV 57 [.agg [ic st, ic re, .sl id_xs off_xs len_xs], iv n0, iv T0] s (numV (CmP st re xs n0 T0) (comN st re xs n0 T0)) := by
  refine F_start code57 ?_
  by_cases hv : VR st re xs
  case neg =>
    repeat' (first
 | refine A_go rfl ?_ | refine A_ifT rfl rfl ?_ | refine A_ifF rfl rfl ?_
 | refine A_offP rfl rfl ?_ | refine A_offH rfl rfl ?_ | refine A_off0 rfl rfl ?_
 | refine A_add rfl rfl rfl (by omega) ?_
 | ((first | refine A_lt rfl rfl rfl ?_ ?_ | refine A_eq rfl rfl rfl ?_ ?_) <;> intro hc <;> try first | contradiction | (exfalso; omega) | exact absurd rfl hc)
 | refine A_idxN1 rfl rfl rfl (by omega) ?_ | refine A_idx1 rfl rfl rfl (by omega) ?_
 | (refine A_callB rfl rfl (fun s H => c_l02Is) ?_ ?_ <;> intro hc <;> try first | contradiction | (exfalso; omega) | exact absurd rfl hc | exact absurd (And.intro rfl rfl) hc | exact absurd (And.intro rfl (And.intro rfl rfl)) hc | exact absurd (Eq.trans (by assumption) (Eq.symm (by assumption))) hc)
 | refine A_p (by rfl) rfl ?_
 | refine A_ldI rfl (by first | omega | (simp; done) | (simp; omega)) rfl ?_ | refine A_ldB rfl (by first | omega | (simp; done) | (simp; omega)) rfl ?_ | refine A_ld rfl (by rfl) rfl ?_
 | ((first | refine A_box rfl rfl ?_ | refine A_boxC rfl rfl ?_) <;> intro pz hpz)
 | refine A_ret rfl (by exact (RP.t rfl (RP.t rfl RP.nil))) ?_)
    exact R_numN fun h => hv h.1
  by_cases hn0 : 1 ≤ n0 ∧ n0 ≤ 12
  case neg =>
    repeat' (first
 | refine A_go rfl ?_ | refine A_ifT rfl rfl ?_ | refine A_ifF rfl rfl ?_
 | refine A_offP rfl rfl ?_ | refine A_offH rfl rfl ?_ | refine A_off0 rfl rfl ?_
 | refine A_add rfl rfl rfl (by omega) ?_
 | ((first | refine A_lt rfl rfl rfl ?_ ?_ | refine A_eq rfl rfl rfl ?_ ?_) <;> intro hc <;> try first | contradiction | (exfalso; omega) | exact absurd rfl hc)
 | refine A_idxN1 rfl rfl rfl (by omega) ?_ | refine A_idx1 rfl rfl rfl (by omega) ?_
 | (refine A_callB rfl rfl (fun s H => c_l02Is) ?_ ?_ <;> intro hc <;> try first | contradiction | (exfalso; omega) | exact absurd rfl hc | exact absurd (And.intro rfl rfl) hc | exact absurd (And.intro rfl (And.intro rfl rfl)) hc | exact absurd (Eq.trans (by assumption) (Eq.symm (by assumption))) hc)
 | (refine A_callB rfl rfl (fun s H => c_l00In) ?_ ?_ <;> intro hc <;> try first | contradiction | (exfalso; omega) | exact absurd rfl hc | exact absurd (And.intro rfl rfl) hc | exact absurd (And.intro rfl (And.intro rfl rfl)) hc | exact absurd (Eq.trans (by assumption) (Eq.symm (by assumption))) hc)
 | refine A_p (by rfl) rfl ?_
 | refine A_ldI rfl (by first | omega | (simp; done) | (simp; omega)) rfl ?_ | refine A_ldB rfl (by first | omega | (simp; done) | (simp; omega)) rfl ?_ | refine A_ld rfl (by rfl) rfl ?_
 | ((first | refine A_box rfl rfl ?_ | refine A_boxC rfl rfl ?_) <;> intro pz hpz)
 | refine A_ret rfl (by exact (RP.t rfl (RP.t rfl RP.nil))) ?_)
    exact R_numN fun h => hn0 h.2.2.1
  by_cases hT0 : 0 ≤ T0 ∧ T0 ≤ 4
  case neg =>
    repeat' (first
 | refine A_go rfl ?_ | refine A_ifT rfl rfl ?_ | refine A_ifF rfl rfl ?_
 | refine A_offP rfl rfl ?_ | refine A_offH rfl rfl ?_ | refine A_off0 rfl rfl ?_
 | refine A_add rfl rfl rfl (by omega) ?_
 | ((first | refine A_lt rfl rfl rfl ?_ ?_ | refine A_eq rfl rfl rfl ?_ ?_) <;> intro hc <;> try first | contradiction | (exfalso; omega) | exact absurd rfl hc)
 | refine A_idxN1 rfl rfl rfl (by omega) ?_ | refine A_idx1 rfl rfl rfl (by omega) ?_
 | (refine A_callB rfl rfl (fun s H => c_l02Is) ?_ ?_ <;> intro hc <;> try first | contradiction | (exfalso; omega) | exact absurd rfl hc | exact absurd (And.intro rfl rfl) hc | exact absurd (And.intro rfl (And.intro rfl rfl)) hc | exact absurd (Eq.trans (by assumption) (Eq.symm (by assumption))) hc)
 | (refine A_callB rfl rfl (fun s H => c_l00In) ?_ ?_ <;> intro hc <;> try first | contradiction | (exfalso; omega) | exact absurd rfl hc | exact absurd (And.intro rfl rfl) hc | exact absurd (And.intro rfl (And.intro rfl rfl)) hc | exact absurd (Eq.trans (by assumption) (Eq.symm (by assumption))) hc)
 | refine A_p (by rfl) rfl ?_
 | refine A_ldI rfl (by first | omega | (simp; done) | (simp; omega)) rfl ?_ | refine A_ldB rfl (by first | omega | (simp; done) | (simp; omega)) rfl ?_ | refine A_ld rfl (by rfl) rfl ?_
 | ((first | refine A_box rfl rfl ?_ | refine A_boxC rfl rfl ?_) <;> intro pz hpz)
 | refine A_ret rfl (by exact (RP.t rfl (RP.t rfl RP.nil))) ?_)
    exact R_numN fun h => hT0 h.2.1
  obtain ⟨S, w, E, rfl, hS, hw, hw1, hE, hl, hEb, hdg⟩ := hv.nat
  by_cases hm : n0 + 2 * re * T0 ≤ most S 14 9
  case neg =>
    repeat' (first
 | refine A_go rfl ?_ | refine A_ifT rfl rfl ?_ | refine A_ifF rfl rfl ?_
 | refine A_offP rfl rfl ?_ | refine A_offH rfl rfl ?_ | refine A_off0 rfl rfl ?_
 | refine A_add rfl rfl rfl (by omega) ?_
 | ((first | refine A_lt rfl rfl rfl ?_ ?_ | refine A_eq rfl rfl rfl ?_ ?_) <;> intro hc <;> try first | contradiction | (exfalso; omega) | exact absurd rfl hc)
 | refine A_idxN1 rfl rfl rfl (by omega) ?_ | refine A_idx1 rfl rfl rfl (by omega) ?_
 | (refine A_callB rfl rfl (fun s H => c_l02Is) ?_ ?_ <;> intro hc <;> try first | contradiction | (exfalso; omega) | exact absurd rfl hc | exact absurd (And.intro rfl rfl) hc | exact absurd (And.intro rfl (And.intro rfl rfl)) hc | exact absurd (Eq.trans (by assumption) (Eq.symm (by assumption))) hc)
 | (refine A_callB rfl rfl (fun s H => c_l00In) ?_ ?_ <;> intro hc <;> try first | contradiction | (exfalso; omega) | exact absurd rfl hc | exact absurd (And.intro rfl rfl) hc | exact absurd (And.intro rfl (And.intro rfl rfl)) hc | exact absurd (Eq.trans (by assumption) (Eq.symm (by assumption))) hc)
 | refine A_callV rfl rfl (fun s H => c_l03ComeN (hv := hv) (hn := hn0) (hT := hT0) (hml := hm)) ?_
 | refine A_p (by rfl) rfl ?_
 | refine A_ldI rfl (by first | omega | (simp; done) | (simp; omega)) rfl ?_ | refine A_ldB rfl (by first | omega | (simp; done) | (simp; omega)) rfl ?_ | refine A_ld rfl (by rfl) rfl ?_
 | ((first | refine A_box rfl rfl ?_ | refine A_boxC rfl rfl ?_) <;> intro pz hpz)
 | refine A_ret rfl (by exact (RP.t rfl (RP.t rfl RP.nil))) ?_)
    exact R_numN fun h => hm h.2.2.2
  have hp : CmP S re xs n0 T0 := ⟨hv, hT0, hn0, hm⟩
  obtain ⟨n, T, rfl, rfl, hn, hT, hlong⟩ := cm_nat hp hw hS
  have hSn : 0 < S ^ n ∧ S ^ n ≤ 19683 := by
    have : S ^ n ≤ S ^ (n + (w - 1) * T) := Nat.pow_le_pow_right (by omega) (by omega)
    have : 0 < S ^ n := Nat.pow_pos (by omega)
    omega
  have hil : (cimg S w xs n T).1.length = S ^ n := (img_ok (N := S ^ n) (ts := cms S w xs n T) (S ^ (n + (w - 1) * T))).1
  have htr := img_trues (N := S ^ n) (ts := cms S w xs n T) (S ^ (n + (w - 1) * T)) (fun i hi => cms_in hS.1 hE (by omega) hl hdg hi)
  repeat' (first
 | refine A_go rfl ?_ | refine A_ifT rfl rfl ?_ | refine A_ifF rfl rfl ?_
 | refine A_offP rfl rfl ?_ | refine A_offH rfl rfl ?_ | refine A_off0 rfl rfl ?_
 | refine A_add rfl rfl rfl (by omega) ?_
 | ((first | refine A_lt rfl rfl rfl ?_ ?_ | refine A_eq rfl rfl rfl ?_ ?_) <;> intro hc <;> try first | contradiction | (exfalso; omega) | exact absurd rfl hc)
 | refine A_idxN1 rfl rfl rfl (by omega) ?_ | refine A_idx1 rfl rfl rfl (by omega) ?_
 | (refine A_callB rfl rfl (fun s H => c_l02Is) ?_ ?_ <;> intro hc <;> try first | contradiction | (exfalso; omega) | exact absurd rfl hc | exact absurd (And.intro rfl rfl) hc | exact absurd (And.intro rfl (And.intro rfl rfl)) hc | exact absurd (Eq.trans (by assumption) (Eq.symm (by assumption))) hc)
 | (refine A_callB rfl rfl (fun s H => c_l00In) ?_ ?_ <;> intro hc <;> try first | contradiction | (exfalso; omega) | exact absurd rfl hc | exact absurd (And.intro rfl rfl) hc | exact absurd (And.intro rfl (And.intro rfl rfl)) hc | exact absurd (Eq.trans (by assumption) (Eq.symm (by assumption))) hc)
 | (refine A_callM rfl rfl (fun s H => c_l03Come (hp := hp) (hd := hdg) (hE := hE) (hl := hl) (hn := hn) (hT := hT) (hlong := hlong)) ?_; rintro _ _ ⟨pz, rfl, rfl⟩) | (refine A_callM0 rfl rfl (fun s H => c_l03Come (hp := hp) (hd := hdg) (hE := hE) (hl := hl) (hn := hn) (hT := hT) (hlong := hlong)) ?_; rintro _ _ ⟨pz, rfl, rfl⟩)
 | refine A_p (by rfl) rfl ?_
 | refine A_ldI rfl (by first | omega | (simp; done) | (simp; omega)) rfl ?_ | refine A_ldB rfl (by first | omega | (simp; done) | (simp; omega)) rfl ?_ | refine A_ld rfl (by rfl) rfl ?_
 | ((first | refine A_box rfl rfl ?_ | refine A_boxC rfl rfl ?_) <;> intro pz hpz)
 | refine A_ret rfl (by exact (RP.t rfl (RP.t rfl RP.nil))) ?_)
  obtain ⟨pb, hEq⟩ : ∃ p, p = pz := ⟨_, rfl⟩; subst hEq
  refine A_loop rfl [pb] (fun m fr L => ∃ (i : Nat) (t : Int), m = S ^ n - i ∧ fr = [(8, .c (.sl pb 0 (S ^ n))), (9, iv t), (30, iv ((S ^ n : Nat) : Int)), (31, iv i)] ∧ L = [(pb, bools (cimg S w xs n T).1)] ∧ i ≤ S ^ n ∧ t = trues (cimg S w xs n T).1 i) (S ^ n) ⟨0, 0, rfl, rfl, rfl, by omega, rfl⟩ ?_
  rintro m fr L ⟨i, t, rfl, rfl, rfl, hi, ht⟩
  have hti := trues_in (bs := (cimg S w xs n T).1) i
  by_cases hi' : i < S ^ n
  · repeat' (first
 | refine A_go rfl ?_ | refine A_ifT rfl rfl ?_ | refine A_ifF rfl rfl ?_
 | refine A_offP rfl rfl ?_ | refine A_offH rfl rfl ?_ | refine A_off0 rfl rfl ?_
 | refine A_add rfl rfl rfl (by omega) ?_
 | ((first | refine A_lt rfl rfl rfl ?_ ?_ | refine A_eq rfl rfl rfl ?_ ?_) <;> intro hc <;> try first | contradiction | (exfalso; omega) | exact absurd rfl hc)
 | refine A_idxN1 rfl rfl rfl (by omega) ?_ | refine A_idx1 rfl rfl rfl (by omega) ?_
 | (refine A_ifB rfl rfl ?_ ?_ <;> intro hc)
 | refine A_p (by rfl) rfl ?_
 | refine A_ldI rfl (by first | omega | (simp; done) | (simp; omega)) rfl ?_ | refine A_ldB rfl (by first | omega | (simp; done) | (simp; omega)) rfl ?_ | refine A_ld rfl (by rfl) rfl ?_
 | ((first | refine A_box rfl rfl ?_ | refine A_boxC rfl rfl ?_) <;> intro pz hpz)
 | refine A_ret rfl (by exact (RP.t rfl (RP.t rfl RP.nil))) ?_)
    · refine A_round rfl [pb] (S ^ n - (i + 1)) (by omega) ?_
      refine ⟨i + 1, _, rfl, rfl, rfl, by omega, ?_⟩
      rw [trues, if_pos (by simpa using hc), ht]
    · refine A_round rfl [pb] (S ^ n - (i + 1)) (by omega) ?_
      refine ⟨i + 1, _, rfl, rfl, rfl, by omega, ?_⟩
      rw [trues, if_neg (by simpa using hc), ht]
  · obtain rfl : S ^ n = i := by omega
    repeat' (first
 | refine A_go rfl ?_ | refine A_ifT rfl rfl ?_ | refine A_ifF rfl rfl ?_
 | refine A_offP rfl rfl ?_ | refine A_offH rfl rfl ?_ | refine A_off0 rfl rfl ?_
 | refine A_add rfl rfl rfl (by omega) ?_
 | ((first | refine A_lt rfl rfl rfl ?_ ?_ | refine A_eq rfl rfl rfl ?_ ?_) <;> intro hc <;> try first | contradiction | (exfalso; omega) | exact absurd rfl hc)
 | refine A_idxN1 rfl rfl rfl (by omega) ?_ | refine A_idx1 rfl rfl rfl (by omega) ?_
 | refine A_p (by rfl) rfl ?_
 | refine A_ldI rfl (by first | omega | (simp; done) | (simp; omega)) rfl ?_ | refine A_ldB rfl (by first | omega | (simp; done) | (simp; omega)) rfl ?_ | refine A_ld rfl (by rfl) rfl ?_
 | ((first | refine A_box rfl rfl ?_ | refine A_boxC rfl rfl ?_) <;> intro pz hpz)
 | refine A_ret rfl (by exact (RP.t rfl (RP.t rfl RP.nil))) ?_)
    exact R_num hp (by rw [comN_eq hw, ht]; exact htr)
/-- A word that is asked for, and whether it comes. -/
abbrev CcP (st re : Int) (xs ws : List Int) (T : Int) : Prop := (VR st re xs ∧ (1 ≤ ws.length ∧ ws.length ≤ 12) ∧ ∀ x ∈ ws, 0 ≤ x ∧ x ≤ st - 1) ∧ CmP st re xs ws.length T
def comB (st re : Int) (xs ws : List Int) (T : Int) : Prop := (cimg st.toNat (2 * re + 1).toNat xs ws.length T.toNat).1.getD (nm st.toNat ws) false = true
theorem comB_eq {S w T : Nat} {re : Int} {xs ws : List Int} (hw : 2 * re + 1 = w) : comB S re xs ws T = ((cimg S w xs ws.length T).1.getD (nm S ws) false = true) := by
  rw [comB, hw]; simp only [Int.toNat_natCast]
theorem c_implCanCome {s : St} [Wf s] {st re T0 : Int} {id_xs off_xs len_xs : Nat} {xs : List Int} [h_xs : ArgE ic s id_xs off_xs xs] (hl_xs : xs.length = len_xs := by first | rfl | simp | omega | (simp; omega)) {id_ws off_ws len_ws : Nat} {ws : List Int} [h_ws : ArgE ic s id_ws off_ws ws] (hl_ws : ws.length = len_ws := by first | rfl | simp | omega | (simp; omega)) (hb : len_xs ≤ 2000000 ∧ len_ws ≤ 2000000 := by omega) : FnV 55 [.agg [ic st, ic re, .sl id_xs off_xs len_xs], .c (.sl id_ws off_ws len_ws), iv T0] s (boolV (CcP st re xs ws T0) (comB st re xs ws T0)) := by
  subst hl_ws
  refine F_start code55 ?_
  by_cases hw0 : VR st re xs ∧ (1 ≤ ws.length ∧ ws.length ≤ 12) ∧ ∀ x ∈ ws, 0 ≤ x ∧ x ≤ st - 1
  case neg =>
    repeat' (first
 | refine A_go rfl ?_ | refine A_ifT rfl rfl ?_ | refine A_ifF rfl rfl ?_
 | refine A_offP rfl rfl ?_ | refine A_offH rfl rfl ?_ | refine A_off0 rfl rfl ?_
 | (refine A_callB rfl rfl (fun s H => c_worded (ws := ws)) ?_ ?_ <;> intro hc <;> try first | contradiction | (exfalso; omega) | exact absurd rfl hc | exact absurd (And.intro rfl rfl) hc | exact absurd (And.intro rfl (And.intro rfl rfl)) hc | exact absurd (Eq.trans (by assumption) (Eq.symm (by assumption))) hc)
 | refine A_fld rfl rfl ?_ | refine A_p (by rfl) rfl ?_
 | refine A_ldI rfl (by first | omega | (simp; done) | (simp; omega)) rfl ?_ | refine A_ldB rfl (by first | omega | (simp; done) | (simp; omega)) rfl ?_ | refine A_ld rfl (by rfl) rfl ?_
 | refine A_ldW rfl (by simp) rfl ?_
 | ((first | refine A_box rfl rfl ?_ | refine A_boxC rfl rfl ?_) <;> intro pz hpz)
 | refine A_chk1 rfl rfl rfl ?_ | refine A_chk2 rfl rfl rfl rfl ?_ | refine A_chk3 rfl rfl rfl rfl rfl ?_ | refine A_chk4 rfl rfl rfl rfl rfl rfl ?_ | refine A_chkI rfl (by assumption) rfl (by simp) ?_
 | refine A_ret rfl (by exact (RP.t rfl (RP.t rfl RP.nil))) ?_)
    exact R_bn fun h => hw0 h.1
  by_cases hp : CmP st re xs ws.length T0
  case neg =>
    repeat' (first
 | refine A_go rfl ?_ | refine A_ifT rfl rfl ?_ | refine A_ifF rfl rfl ?_
 | refine A_offP rfl rfl ?_ | refine A_offH rfl rfl ?_ | refine A_off0 rfl rfl ?_
 | (refine A_callB rfl rfl (fun s H => c_worded (ws := ws)) ?_ ?_ <;> intro hc <;> try first | contradiction | (exfalso; omega) | exact absurd rfl hc | exact absurd (And.intro rfl rfl) hc | exact absurd (And.intro rfl (And.intro rfl rfl)) hc | exact absurd (Eq.trans (by assumption) (Eq.symm (by assumption))) hc)
 | (refine A_callB rfl rfl (fun s H => c_canCome) ?_ ?_ <;> intro hc <;> try first | contradiction | (exfalso; omega) | exact absurd rfl hc | exact absurd (And.intro rfl rfl) hc | exact absurd (And.intro rfl (And.intro rfl rfl)) hc | exact absurd (Eq.trans (by assumption) (Eq.symm (by assumption))) hc)
 | refine A_fld rfl rfl ?_ | refine A_p (by rfl) rfl ?_
 | refine A_ldI rfl (by first | omega | (simp; done) | (simp; omega)) rfl ?_ | refine A_ldB rfl (by first | omega | (simp; done) | (simp; omega)) rfl ?_ | refine A_ld rfl (by rfl) rfl ?_
 | refine A_ldW rfl (by simp) rfl ?_
 | ((first | refine A_box rfl rfl ?_ | refine A_boxC rfl rfl ?_) <;> intro pz hpz)
 | refine A_chk1 rfl rfl rfl ?_ | refine A_chk2 rfl rfl rfl rfl ?_ | refine A_chk3 rfl rfl rfl rfl rfl ?_ | refine A_chk4 rfl rfl rfl rfl rfl rfl ?_ | refine A_chkI rfl (by assumption) rfl (by simp) ?_
 | refine A_ret rfl (by exact (RP.t rfl (RP.t rfl RP.nil))) ?_)
    exact R_bn fun h => hp h.2
  obtain ⟨S, w, E, rfl, hS, hw, hw1, hE, hl, hEb, hdg⟩ := hp.1.nat
  obtain ⟨n, T, hnn, rfl, hn, hT, hlong⟩ := cm_nat hp hw hS
  obtain rfl : ws.length = n := by omega
  repeat' (first
 | refine A_go rfl ?_ | refine A_ifT rfl rfl ?_ | refine A_ifF rfl rfl ?_
 | refine A_offP rfl rfl ?_ | refine A_offH rfl rfl ?_ | refine A_off0 rfl rfl ?_
 | (refine A_callB rfl rfl (fun s H => c_worded (ws := ws)) ?_ ?_ <;> intro hc <;> try first | contradiction | (exfalso; omega) | exact absurd rfl hc | exact absurd (And.intro rfl rfl) hc | exact absurd (And.intro rfl (And.intro rfl rfl)) hc | exact absurd (Eq.trans (by assumption) (Eq.symm (by assumption))) hc)
 | (refine A_callB rfl rfl (fun s H => c_canCome) ?_ ?_ <;> intro hc <;> try first | contradiction | (exfalso; omega) | exact absurd rfl hc | exact absurd (And.intro rfl rfl) hc | exact absurd (And.intro rfl (And.intro rfl rfl)) hc | exact absurd (Eq.trans (by assumption) (Eq.symm (by assumption))) hc)
 | (refine A_callM rfl rfl (fun s H => c_come (hd := hdg) (hE := hE) (hl := hl) (hn := hn) (hT := hT) (hlong := hlong)) ?_; rintro _ _ ⟨pz, ks, rfl, rfl, hks⟩) | (refine A_callM0 rfl rfl (fun s H => c_come (hd := hdg) (hE := hE) (hl := hl) (hn := hn) (hT := hT) (hlong := hlong)) ?_; rintro _ _ ⟨pz, ks, rfl, rfl, hks⟩)
 | refine A_callV rfl rfl (fun s H => c_numberOf (ys := ws) (h := hw0.2.2)) ?_
 | refine A_look rfl rfl scan_st rfl ?_
 | refine A_fld rfl rfl ?_ | refine A_p (by rfl) rfl ?_
 | refine A_ldI rfl (by first | omega | (simp; done) | (simp; omega)) rfl ?_ | refine A_ldB rfl (by first | omega | (simp; done) | (simp; omega)) rfl ?_ | refine A_ld rfl (by rfl) rfl ?_
 | refine A_ldW rfl (by simp) rfl ?_
 | ((first | refine A_box rfl rfl ?_ | refine A_boxC rfl rfl ?_) <;> intro pz hpz)
 | refine A_chk1 rfl rfl rfl ?_ | refine A_chk2 rfl rfl rfl rfl ?_ | refine A_chk3 rfl rfl rfl rfl rfl ?_ | refine A_chk4 rfl rfl rfl rfl rfl rfl ?_ | refine A_chkI rfl (by assumption) rfl (by simp) ?_
 | refine A_ret rfl (by exact (RP.t rfl (RP.t rfl RP.nil))) ?_)
  have hkk := hks.2 (nm S ws)
  by_cases hc : ((nm S ws : Nat) : Int) ∈ ks
  · rw [if_pos hc]
    exact R_bt ⟨hw0, hp⟩ (by rw [comB_eq hw]; exact hkk.1 hc)
  · rw [if_neg hc]
    exact R_bf ⟨hw0, hp⟩ (by rw [comB_eq hw]; exact fun h => hc (hkk.2 h))
end Go.Proofs.Ytafdjnhlhepibaa
