/- How many rings lead to a ring. -/
import Derived.Test.YtkeabhhndcpejaaXpaths
import Derived.Test.YtkeabhhndcpejaaFB
namespace Go.Proofs.Ytkeabhhndcpejaa
open Go Go.RowKit
set_option linter.unusedVariables false
set_option linter.unusedSimpArgs false
set_option maxRecDepth 100000
set_option maxHeartbeats 8000000
-- (impl.Rule).label
def L119 : AFun := ⟨17, [.t 6],
 (.seq (.ops false [⟨(some 3), .box 28 (.t 0), none, []⟩,
   ⟨(some 6), .mv (.k (iv 0)), none, []⟩])
 (.seq (.ops false [⟨(some 7), .mv (.t 1), none, []⟩,
   ⟨(some 8), .mv (.t 2), none, []⟩,
   ⟨(some 9), .fieldA 1 (.t 3), none, []⟩,
   ⟨(some 10), .load false 1 (.t 9), none, []⟩,
   ⟨(some 11), .bin .add (.t 8) (.t 10), none, []⟩,
   ⟨(some 12), .mv (.t 1), none, []⟩,
   ⟨(some 13), .len false (.t 12), none, []⟩,
   ⟨(some 14), .bin .rem (.t 11) (.t 13), none, []⟩,
   ⟨(some 15), .idxA 1 (.t 7) (.t 14), none, []⟩,
   ⟨(some 16), .load false 1 (.t 15), none, []⟩,
   ⟨(some 6), .mv (.t 16), none, []⟩])
 .ret))⟩
theorem code119 : acode Try.prog hints 119 = some L119 := by kernel_rfl

-- impl.backRing
def L98 : AFun := ⟨16, [.t 4],
 (.seq (.ops false [⟨(some 2), .box 28 (.t 0), none, []⟩,
   ⟨(some 4), .mv (.k (bv false)), none, []⟩])
 (.seq (.ops false [⟨(some 5), .load true 3 (.t 2), none, []⟩,
   ⟨(some 6), .mv (.t 1), none, []⟩,
   ⟨(some 7), .buildS 22 1 1 [.sl 0 0 0] [(0, 1, (.t 6))], none, []⟩,
   ⟨(some 8), .call (.f 56) [(.t 5), (.t 7)], none, []⟩,
   ⟨(some 9), .mv (.t 8), none, []⟩,
   ⟨(some 10), .mv (.t 1), (some (9, true)), []⟩,
   ⟨(some 11), .len false (.t 10), (some (9, true)), []⟩,
   ⟨(some 12), .load true 3 (.t 2), (some (9, true)), []⟩,
   ⟨(some 13), .call (.f 81) [(.t 12)], (some (9, true)), []⟩,
   ⟨(some 14), .call (.f 57) [(.t 11), (.t 13), (.k (iv 16))], (some (9, true)), []⟩,
   ⟨(some 15), .pick (.t 9) (.t 14) (.k (bv false)), none, []⟩,
   ⟨(some 4), .mv (.t 15), none, []⟩])
 .ret))⟩
theorem code98 : acode Try.prog hints 98 = some L98 := by kernel_rfl

-- (impl.Rule).mostCells
def L82 : AFun := ⟨12, [.t 6],
 (.seq (.ops false [⟨(some 3), .box 28 (.t 0), none, []⟩,
   ⟨(some 6), .mv (.k (iv 0)), none, []⟩])
 (.seq (.seq (.ops false [⟨(some 7), .fieldA 0 (.t 3), none, []⟩,
    ⟨(some 8), .load false 1 (.t 7), none, []⟩,
    ⟨(some 9), .bin .eql (.t 8) (.k (iv 2)), none, []⟩])
  (.cond (.t 9) (.seq (.ops false [⟨(some 10), .mv (.t 1), none, []⟩,
     ⟨(some 6), .mv (.t 10), none, []⟩])
   .ret)
   .skip))
 (.seq (.ops false [⟨(some 11), .mv (.t 2), none, []⟩,
   ⟨(some 6), .mv (.t 11), none, []⟩])
 .ret)))⟩
theorem code82 : acode Try.prog hints 82 = some L82 := by kernel_rfl

-- spec.l03Ring
def L96 : AFun := ⟨27, [.t 4],
 (.seq (.ops false [⟨(some 4), .mv (.k (bv false)), none, []⟩])
 (.seq (.ops false [⟨(some 5), .mv (.t 0), none, []⟩,
   ⟨(some 6), .call (.f 59) [(.t 5)], none, []⟩,
   ⟨(some 7), .mv (.t 6), none, []⟩,
   ⟨(some 8), .mv (.t 1), (some (7, true)), []⟩,
   ⟨(some 9), .mv (.t 0), (some (7, true)), []⟩,
   ⟨(some 10), .nilChk (.t 9), (some (7, true)), []⟩,
   ⟨(some 11), .fieldA 0 (.t 10), (some (7, true)), []⟩,
   ⟨(some 12), .load false 1 (.t 11), (some (7, true)), []⟩,
   ⟨(some 13), .call (.f 52) [(.t 8), (.t 12)], (some (7, true)), []⟩,
   ⟨(some 14), .pick (.t 7) (.t 13) (.k (bv false)), none, []⟩,
   ⟨(some 15), .mv (.t 14), none, []⟩,
   ⟨(some 16), .mv (.t 1), (some (15, true)), []⟩,
   ⟨(some 17), .len false (.t 16), (some (15, true)), []⟩,
   ⟨(some 18), .mv (.t 0), (some (15, true)), []⟩,
   ⟨(some 19), .call (.f 109) [(.t 18)], (some (15, true)), []⟩,
   ⟨(some 20), .bin .geq (.t 17) (.t 19), (some (15, true)), []⟩,
   ⟨(some 21), .pick (.t 15) (.t 20) (.k (bv false)), none, []⟩,
   ⟨(some 22), .mv (.t 21), none, []⟩,
   ⟨(some 23), .mv (.t 1), (some (22, true)), []⟩,
   ⟨(some 24), .len false (.t 23), (some (22, true)), []⟩,
   ⟨(some 25), .bin .leq (.t 24) (.k (iv 16)), (some (22, true)), []⟩,
   ⟨(some 26), .pick (.t 22) (.t 25) (.k (bv false)), none, []⟩,
   ⟨(some 4), .mv (.t 26), none, []⟩])
 .ret))⟩
theorem code96 : acode Try.prog hints 96 = some L96 := by kernel_rfl


theorem c_label {s : St} [Wf s] {S : Nat} {re : Int} {v : AC} {at_ : Nat} {id_ys off_ys len_ys : Nat} {ys : List Int} [h_ys : ArgE ic s id_ys off_ys ys] (hl_ys : ys.length = len_ys := by first | rfl | simp | omega | (simp; omega)) (hre : 0 ≤ re ∧ re ≤ 2 := by omega) (hat : at_ < len_ys := by omega) (hb : len_ys ≤ 64 := by omega) :
    FnV 119 [.agg [ic S, ic re, v], .c (.sl id_ys off_ys len_ys), iv at_] s (iv ((labI re ys).getD at_ 0)) := by
  have e := emod_in (a := (at_ : Int) + re) (b := len_ys) (by omega)
  refine F_start code119 ?_
  repeat' (first
 | refine A_go rfl ?_ | refine A_ifT rfl rfl ?_ | refine A_ifF rfl rfl ?_
 | refine A_add rfl rfl rfl (by omega) ?_ | refine A_rem rfl rfl rfl (by omega) ?_ | refine A_remT rfl rfl rfl (by omega) ?_
 | refine A_idxN1 rfl rfl rfl (by omega) ?_ | refine A_idx1 rfl rfl rfl (by omega) ?_
 | refine A_fld rfl rfl ?_ | refine A_p (by rfl) rfl ?_
 | refine A_ldI rfl (by first | omega | (simp; done) | (simp; omega)) rfl ?_ | refine A_ldB rfl (by first | omega | (simp; done) | (simp; omega)) rfl ?_ | refine A_ld rfl (by rfl) rfl ?_
 | ((first | refine A_box rfl rfl ?_ | refine A_boxC rfl rfl ?_) <;> intro pz hpz)
 | refine A_ret1 rfl (by exact (RP.t rfl RP.nil)) ?_)
  exact R_v (by rw [labI_get (by omega), hl_ys])
/-- A ring to which one may go back. -/
def BackP (st re : Int) (xs ys : List Int) : Prop := (VR st re xs ∧ RG st ys) ∧ 2 * re + 1 ≤ ys.length ∧ ys.length ≤ 16
theorem c_backRing {s : St} [Wf s] {st re : Int} {id_xs off_xs len_xs : Nat} {xs : List Int} [h_xs : ArgE ic s id_xs off_xs xs] (hl_xs : xs.length = len_xs := by first | rfl | simp | omega | (simp; omega)) {id_ys off_ys len_ys : Nat} {ys : List Int} [h_ys : ArgE ic s id_ys off_ys ys] (hl_ys : ys.length = len_ys := by first | rfl | simp | omega | (simp; omega)) (hb : len_xs ≤ 2000000 ∧ len_ys ≤ 2000000 := by omega) : FnB 98 [.agg [ic st, ic re, .sl id_xs off_xs len_xs], .c (.sl id_ys off_ys len_ys)] s (BackP st re xs ys) := by
  refine F_start code98 ?_
  by_cases hv : VR st re xs ∧ RG st ys
  case neg =>
    repeat' (first
 | refine A_go rfl ?_ | refine A_ifT rfl rfl ?_ | refine A_ifF rfl rfl ?_
 | refine A_offP rfl rfl ?_ | refine A_offH rfl rfl ?_ | refine A_off0 rfl rfl ?_
 | (refine A_bld1 (enc := rc) (a := ⟨_, _, _, ys⟩) rfl rfl ?_ <;> intro pz hpz)
 | (refine A_callB rfl rfl (fun s H => c_ringed1 (ys := ys)) ?_ ?_ <;> intro hc <;> try first | contradiction | (exfalso; omega) | exact absurd rfl hc | exact absurd (And.intro rfl rfl) hc | exact absurd (And.intro rfl (And.intro rfl rfl)) hc | exact absurd (Eq.trans (by assumption) (Eq.symm (by assumption))) hc)
 | refine A_p (by rfl) rfl ?_
 | refine A_ldW rfl (by simp) rfl ?_
 | ((first | refine A_box rfl rfl ?_ | refine A_boxC rfl rfl ?_ | refine A_bld1 rfl rfl ?_ | refine A_bld2 rfl rfl rfl ?_ | refine A_bld4 rfl rfl rfl rfl rfl ?_) <;> intro pz hpz)
 | refine A_bld0 rfl ?_
 | refine A_ret1 rfl (by exact (RP.t rfl RP.nil)) ?_)
    exact R_f fun h => hv h.1
  have hv1 := hv.1.2.1
  repeat' (first
 | refine A_go rfl ?_ | refine A_ifT rfl rfl ?_ | refine A_ifF rfl rfl ?_
 | refine A_offP rfl rfl ?_ | refine A_offH rfl rfl ?_ | refine A_off0 rfl rfl ?_
 | (refine A_bld1 (enc := rc) (a := ⟨_, _, _, ys⟩) rfl rfl ?_ <;> intro pz hpz)
 | (refine A_callB rfl rfl (fun s H => c_ringed1 (ys := ys)) ?_ ?_ <;> intro hc <;> try first | contradiction | (exfalso; omega) | exact absurd rfl hc | exact absurd (And.intro rfl rfl) hc | exact absurd (And.intro rfl (And.intro rfl rfl)) hc | exact absurd (Eq.trans (by assumption) (Eq.symm (by assumption))) hc)
 | refine A_callV rfl rfl (fun s H => c_cells) ?_
 | (refine A_callB rfl rfl (fun s H => c_within) ?_ ?_ <;> intro hc <;> try first | contradiction | (exfalso; omega) | exact absurd rfl hc | exact absurd (And.intro rfl rfl) hc | exact absurd (And.intro rfl (And.intro rfl rfl)) hc | exact absurd (Eq.trans (by assumption) (Eq.symm (by assumption))) hc)
 | refine A_p (by rfl) rfl ?_
 | refine A_ldW rfl (by simp) rfl ?_
 | ((first | refine A_box rfl rfl ?_ | refine A_boxC rfl rfl ?_ | refine A_bld1 rfl rfl ?_ | refine A_bld2 rfl rfl rfl ?_ | refine A_bld4 rfl rfl rfl rfl rfl ?_) <;> intro pz hpz)
 | refine A_bld0 rfl ?_
 | refine A_ret1 rfl (by exact (RP.t rfl RP.nil)) ?_)
  · exact R_t ⟨hv, by omega, by omega⟩
  · exact R_f fun h => hc ⟨by have := h.2.1; omega, by have := h.2.2; omega⟩
theorem c_l03Ring {s : St} [Wf s] {q : Nat} {st re : Int} {id_xs off_xs len_xs : Nat} {xs : List Int} [hq : Ref s q [ic st, ic re, .sl id_xs off_xs len_xs]] [h_xs : ArgE ic s id_xs off_xs xs] (hl_xs : xs.length = len_xs := by first | rfl | simp | omega) {id_ys off_ys len_ys : Nat} {ys : List Int} [h_ys : ArgE ic s id_ys off_ys ys] (hl_ys : ys.length = len_ys := by first | rfl | simp | omega | (simp; omega)) (hb : len_xs ≤ 2000000 ∧ len_ys ≤ 2000000 := by omega) : FnB 96 [.c (.ptr q 0), .c (.sl id_ys off_ys len_ys)] s (BackP st re xs ys) := by
  refine F_start code96 ?_
  by_cases hv : VR st re xs
  case neg =>
    repeat' (first
 | refine A_go rfl ?_ | refine A_ifT rfl rfl ?_ | refine A_ifF rfl rfl ?_
 | refine A_offP rfl rfl ?_ | refine A_offH rfl rfl ?_ | refine A_off0 rfl rfl ?_
 | ((first | refine A_le rfl rfl rfl ?_ ?_ | refine A_ge rfl rfl rfl ?_ ?_) <;> intro hc <;> try first | contradiction | (exfalso; omega) | exact absurd rfl hc)
 | (refine A_callB rfl rfl (fun s H => c_l02Is) ?_ ?_ <;> intro hc <;> try first | contradiction | (exfalso; omega) | exact absurd rfl hc | exact absurd (And.intro rfl rfl) hc | exact absurd (And.intro rfl (And.intro rfl rfl)) hc | exact absurd (Eq.trans (by assumption) (Eq.symm (by assumption))) hc)
 | refine A_fld rfl rfl ?_ | refine A_p (by rfl) rfl ?_
 | refine A_ldI rfl (by first | omega | (simp; done) | (simp; omega)) rfl ?_ | refine A_ldB rfl (by first | omega | (simp; done) | (simp; omega)) rfl ?_ | refine A_ld rfl (by rfl) rfl ?_
 | refine A_ret1 rfl (by exact (RP.t rfl RP.nil)) ?_)
    exact R_f fun h => hv h.1.1
  have hv0 := hv.1
  by_cases hr : RG st ys
  case neg =>
    repeat' (first
 | refine A_go rfl ?_ | refine A_ifT rfl rfl ?_ | refine A_ifF rfl rfl ?_
 | refine A_offP rfl rfl ?_ | refine A_offH rfl rfl ?_ | refine A_off0 rfl rfl ?_
 | ((first | refine A_le rfl rfl rfl ?_ ?_ | refine A_ge rfl rfl rfl ?_ ?_) <;> intro hc <;> try first | contradiction | (exfalso; omega) | exact absurd rfl hc)
 | (refine A_callB rfl rfl (fun s H => c_l02Is) ?_ ?_ <;> intro hc <;> try first | contradiction | (exfalso; omega) | exact absurd rfl hc | exact absurd (And.intro rfl rfl) hc | exact absurd (And.intro rfl (And.intro rfl rfl)) hc | exact absurd (Eq.trans (by assumption) (Eq.symm (by assumption))) hc)
 | (refine A_callB rfl rfl (fun s H => c_l02Ring (xs := ys)) ?_ ?_ <;> intro hc <;> try first | contradiction | (exfalso; omega) | exact absurd rfl hc | exact absurd (And.intro rfl rfl) hc | exact absurd (And.intro rfl (And.intro rfl rfl)) hc | exact absurd (Eq.trans (by assumption) (Eq.symm (by assumption))) hc)
 | refine A_fld rfl rfl ?_ | refine A_p (by rfl) rfl ?_
 | refine A_ldI rfl (by first | omega | (simp; done) | (simp; omega)) rfl ?_ | refine A_ldB rfl (by first | omega | (simp; done) | (simp; omega)) rfl ?_ | refine A_ld rfl (by rfl) rfl ?_
 | refine A_ret1 rfl (by exact (RP.t rfl RP.nil)) ?_)
    exact R_f fun h => hr h.1.2
  obtain ⟨S, w, E, rfl, hS, hw, hw1, hE, hl, hEb, hdg⟩ := hv.nat
  repeat' (first
 | refine A_go rfl ?_ | refine A_ifT rfl rfl ?_ | refine A_ifF rfl rfl ?_
 | refine A_offP rfl rfl ?_ | refine A_offH rfl rfl ?_ | refine A_off0 rfl rfl ?_
 | ((first | refine A_le rfl rfl rfl ?_ ?_ | refine A_ge rfl rfl rfl ?_ ?_) <;> intro hc <;> try first | contradiction | (exfalso; omega) | exact absurd rfl hc)
 | (refine A_callB rfl rfl (fun s H => c_l02Is) ?_ ?_ <;> intro hc <;> try first | contradiction | (exfalso; omega) | exact absurd rfl hc | exact absurd (And.intro rfl rfl) hc | exact absurd (And.intro rfl (And.intro rfl rfl)) hc | exact absurd (Eq.trans (by assumption) (Eq.symm (by assumption))) hc)
 | (refine A_callB rfl rfl (fun s H => c_l02Ring (xs := ys)) ?_ ?_ <;> intro hc <;> try first | contradiction | (exfalso; omega) | exact absurd rfl hc | exact absurd (And.intro rfl rfl) hc | exact absurd (And.intro rfl (And.intro rfl rfl)) hc | exact absurd (Eq.trans (by assumption) (Eq.symm (by assumption))) hc)
 | refine A_callV rfl rfl (fun s H => c_l03Wide (w := w)) ?_
 | refine A_fld rfl rfl ?_ | refine A_p (by rfl) rfl ?_
 | refine A_ldI rfl (by first | omega | (simp; done) | (simp; omega)) rfl ?_ | refine A_ldB rfl (by first | omega | (simp; done) | (simp; omega)) rfl ?_ | refine A_ld rfl (by rfl) rfl ?_
 | refine A_ret1 rfl (by exact (RP.t rfl RP.nil)) ?_)
  · exact R_t ⟨⟨hv, hr⟩, by omega, by omega⟩
  all_goals exact R_f fun h => by have := h.2.1; have := h.2.2; omega
def cbkR (st re : Int) (xs ys : List Int) : Int := cbk st.toNat (st.toNat ^ (2 * re).toNat) xs ys
end Go.Proofs.Ytkeabhhndcpejaa
