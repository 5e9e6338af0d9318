/- Heaps and fires, where all is in order. -/
import Derived.Test.YtckobcjjbpnkcaaXheapL
import Derived.Test.YtckobcjjbpnkcaaXburnL
import Derived.Test.YtckobcjjbpnkcaaXmovedOk
import Derived.Test.YtckobcjjbpnkcaaXdraw
import Derived.Test.YtckobcjjbpnkcaaXclusters
import Derived.Test.YtckobcjjbpnkcaaFB
namespace Go.Proofs.Ytckobcjjbpnkcaa
open Go Go.RowKit
set_option linter.unusedVariables false
set_option linter.unusedSimpArgs false
set_option maxRecDepth 100000
set_option maxHeartbeats 8000000


theorem vf_rc {R C : Nat} {xs : List Int} (h : VF R C xs) : xs.length = R * C ∧ (R ≤ 24 ∧ C ≤ 24) ∧ 1 ≤ R ∧ 1 ≤ C := by
  obtain ⟨R', C', e1, e2, h1, h2, h3, h4⟩ := h.nat
  obtain rfl : R = R' := by omega
  obtain rfl : C = C' := by omega
  exact ⟨h3, ⟨h1.2, h2.2⟩, h1.1, h2.1⟩
theorem c_settleOk {s : St} [Wf s] {R C T : Nat} {id_xs off_xs len_xs : Nat} {xs : List Int} [h_xs : ArgE ic s id_xs off_xs xs] (hl_xs : xs.length = len_xs := by first | rfl | simp | omega | (simp; omega)) (hv : VF R C xs := by assumption) (hT : R * C = T) : Fn [] 33 [.agg [ic R, ic C, .sl id_xs off_xs len_xs]] s fun V N => ∃ p, V = .tup [.agg (fld R C p T), .c (ic (settled R C xs).2), .c (.bool true)] ∧ N = [(p, ints (settled R C xs).1)] := by
  have hb := vf_len hv
  obtain ⟨h1, h2, _⟩ := vf_rc hv
  refine (c_implSettleHeap (r := R) (c := C) (xs := xs)).mono fun V N k => ?_
  obtain ⟨p, rfl, rfl, _⟩ := k
  simp only [Int.toNat_natCast]
  exact ⟨p, by simp only [sel_t hv, tt_t hv]; rw [settled_len h1 h2 (vf_cells hv), hT], by rw [sel_t hv]⟩
theorem c_addOk {s : St} [Wf s] {R C T : Nat} {id_xs off_xs len_xs : Nat} {xs : List Int} [h_xs : ArgE ic s id_xs off_xs xs] (hl_xs : xs.length = len_xs := by first | rfl | simp | omega | (simp; omega)) {id_ys off_ys len_ys : Nat} {ys : List Int} [h_ys : ArgE ic s id_ys off_ys ys] (hl_ys : ys.length = len_ys := by first | rfl | simp | omega | (simp; omega)) (hv : VF R C xs := by assumption) (hv2 : VF R C ys := by assumption) (hT : R * C = T) : Fn [] 34 [.agg [ic R, ic C, .sl id_xs off_xs len_xs], .agg [ic R, ic C, .sl id_ys off_ys len_ys]] s fun V N => ∃ p, V = .tup [.agg (fld R C p T), .c (.bool true)] ∧ N = [(p, ints (settled R C (addH R C xs ys)).1)] := by
  have hb := vf_len hv
  have hb2 := vf_len hv2
  obtain ⟨h1, h2, _⟩ := vf_rc hv
  have h : VF2 R C xs R C ys := ⟨⟨hv, hv2⟩, rfl, rfl⟩
  refine (c_implAddHeaps (r := R) (c := C) (xs := xs) (r2 := R) (c2 := C) (ys := ys)).mono fun V N k => ?_
  obtain ⟨p, h3, h4⟩ := fr_fld h k
  simp only [Int.toNat_natCast] at h3 h4
  refine ⟨p, ?_, h4⟩
  rw [h3, settled_len (by simp) h2 (addG_in (vf_nine hv) (vf_nine hv2)), hT]
theorem c_burnOk {s : St} [Wf s] {R C T : Nat} {id_xs off_xs len_xs : Nat} {xs : List Int} [h_xs : ArgE ic s id_xs off_xs xs] (hl_xs : xs.length = len_xs := by first | rfl | simp | omega | (simp; omega)) (hv : VF R C xs := by assumption) (hT : R * C = T) : Fn [] 35 [.agg [ic R, ic C, .sl id_xs off_xs len_xs]] s fun V N => ∃ p, V = .tup [.agg (fld R C p T), .c (ic (burnE R C xs)), .c (.bool true)] ∧ N = [(p, ints (burnN R C xs (burnE R C xs)))] := by
  have hb := vf_len hv
  obtain ⟨h1, h2, _⟩ := vf_rc hv
  refine (c_implBurnAll (r := R) (c := C) (xs := xs)).mono fun V N k => ?_
  obtain ⟨p, rfl, rfl, _⟩ := k
  simp only [Int.toNat_natCast]
  exact ⟨p, by simp only [sel_t hv, tt_t hv]; rw [burnN_len h1, hT], by rw [sel_t hv]⟩
theorem c_fireOk {s : St} [Wf s] {R C T : Nat} {id_xs off_xs len_xs : Nat} {xs : List Int} [h_xs : ArgE ic s id_xs off_xs xs] (hl_xs : xs.length = len_xs := by first | rfl | simp | omega | (simp; omega)) (hv : VF R C xs := by assumption) (hT : R * C = T) : Fn [] 36 [.agg [ic R, ic C, .sl id_xs off_xs len_xs]] s fun V N => ∃ p, V = .tup [.agg (fld R C p T), .c (.bool true)] ∧ N = [(p, ints (mk R C (burnV xs R C)))] := by
  have hb := vf_len hv
  refine (c_implFireStep (r := R) (c := C) (xs := xs)).mono fun V N k => ?_
  obtain ⟨p, h3, h4⟩ := fr_fld hv k
  simp only [Int.toNat_natCast] at h3 h4
  refine ⟨p, ?_, h4⟩
  rw [h3, mk_len, hT]
theorem settled_vf {R C : Nat} {xs : List Int} (h : VF R C xs) : VF R C (settled R C xs).1 := by
  obtain ⟨h1, h2, h3, h4⟩ := vf_rc h
  have hl := settled_len h1 h2 (vf_cells h)
  have e : ((R * C : Nat) : Int) = (R : Int) * C := by push_cast; rfl
  refine ⟨by omega, by omega, by omega, fun y hy => ?_⟩
  obtain ⟨j, hj, rfl⟩ := mem_get (d := 0) hy
  have := settled_three h1 h2 (vf_cells h) j
  omega
theorem c_cluYes {s : St} [Wf s] {R C T : Nat} {id_xs off_xs len_xs : Nat} {xs : List Int} [h_xs : ArgE ic s id_xs off_xs xs] (hl_xs : xs.length = len_xs := by first | rfl | simp | omega | (simp; omega)) (hv : VF R C xs := by assumption) (hT : R * C = T) : Fn [] 32 [.agg [ic R, ic C, .sl id_xs off_xs len_xs]] s fun V N => ∃ p, V = .tup [.c (.sl p 0 T), .c (ic (cluAll R C xs T).2), .c (.bool true)] ∧ N = [(p, ints (cluAll R C xs T).1)] := by
  have hb := vf_len hv
  refine (c_implClustersOf (r := R) (c := C) (xs := xs)).mono fun V N k => ?_
  obtain ⟨R', C', e1, e2, h1, h2, h3, h4⟩ := hv.nat
  obtain rfl : R = R' := by omega
  obtain rfl : C = C' := by omega
  obtain ⟨p, rfl, rfl, _⟩ := k
  simp only [Int.toNat_natCast]
  rw [hT] at h3
  have hl := (cluAll_ok (R := R) (C := C) (xs := xs) T (by omega)).1
  refine ⟨p, ?_, ?_⟩
  · simp only [sel_t hv, tt_t hv, h3, hl, hT]
  · rw [sel_t hv, h3]

end Go.Proofs.Ytckobcjjbpnkcaa
