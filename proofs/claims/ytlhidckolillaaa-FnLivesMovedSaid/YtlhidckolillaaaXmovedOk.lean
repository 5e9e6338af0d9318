/- Fields that are known to be valid, moved. -/
import Derived.Test.YtlhidckolillaaaXmoveds
import Derived.Test.YtlhidckolillaaaXsameField
import Derived.Test.YtlhidckolillaaaFB
namespace Go.Proofs.Ytlhidckolillaaa
open Go Go.RowKit
set_option linter.unusedVariables false
set_option linter.unusedSimpArgs false
set_option maxRecDepth 100000
set_option maxHeartbeats 8000000


theorem fr_fld {P : Prop} {r c : Int} {ys : List Int} (h : P) {R : AV} {N : Objs} (k : FldRes P r c ys R N) : ∃ p, R = .tup [.agg (fld r c p ys.length), .c (.bool true)] ∧ N = [(p, ints ys)] := by
  obtain ⟨p, rfl, rfl, _⟩ := k
  exact ⟨p, by simp only [sel_t h, tt_t h], by rw [sel_t h]⟩
theorem fr_fldN {P : Prop} {r c : Int} {ys : List Int} (h : ¬ P) {R : AV} {N : Objs} (k : FldRes P r c ys R N) : ∃ p, R = .tup [.agg (fld 0 0 p 0), .c (.bool false)] ∧ N = [(p, ints [])] := by
  obtain ⟨p, rfl, rfl, _⟩ := k
  exact ⟨p, by simp only [sel_f h, tt_f h, List.length_nil], by rw [sel_f h]⟩
theorem VF.cel {R C : Nat} {xs : List Int} (h : VF R C xs) {i k : Int} (hi : 0 ≤ i ∧ i < R) (hk : 0 ≤ k ∧ k < C) : 0 ≤ cel xs C i k ∧ cel xs C i k ≤ 9 := by
  have := cell_in (r := R) (c := C) hi hk
  exact h.2.2.2 _ (getD_mem (by have := h.2.2.1; omega))
theorem VF.mk {R C M N : Nat} {xs : List Int} (h : VF R C xs) {g : Int → Int → Int} (hM : 1 ≤ M ∧ M ≤ 24) (hN : 1 ≤ N ∧ N ≤ 24) (hg : ∀ i k : Nat, i < M → k < N → 0 ≤ g i k ∧ g i k ≤ 9) : VF M N (mk M N g) :=
  ⟨by omega, by omega, by simp, mk_cell (i := 0) (k := 0) hg⟩
theorem VF.turn {R C : Nat} {xs : List Int} (h : VF R C xs) : VF C R (turn R C xs) := by
  have h1 := h.1; have h2 := h.2.1
  exact h.mk (by omega) (by omega) fun i k hi hk => h.cel (by omega) (by omega)
theorem VF.mirr {R C : Nat} {xs : List Int} (h : VF R C xs) : VF R C (mirr R C xs) := by
  have h1 := h.1; have h2 := h.2.1
  exact h.mk (by omega) (by omega) fun i k hi hk => h.cel (by omega) (by omega)
theorem VF.shif {R C : Nat} {xs : List Int} (h : VF R C xs) (a b : Int) : VF R C (shif R C xs a b) := by
  have h1 := h.1; have h2 := h.2.1
  exact h.mk (by omega) (by omega) fun i k hi hk => h.cel (em_in (by omega)) (em_in (by omega))
theorem c_turnOk {s : St} [Wf s] {R C : Nat} {id_xs off_xs len_xs : Nat} {xs : List Int} [h_xs : ArgE ic s id_xs off_xs xs] (hl_xs : xs.length = len_xs := by first | rfl | simp | omega | (simp; omega)) (hv : VF R C xs := by assumption) : Fn [] 21 [.agg [ic R, ic C, .sl id_xs off_xs len_xs]] s fun V N => ∃ p, V = .tup [.agg (fld C R p (C * R)), .c (.bool true)] ∧ N = [(p, ints (turn R C xs))] := by
  have hb := vf_len hv
  refine (c_implTurnField (r := R) (c := C) (xs := xs)).mono fun V N h => ?_
  obtain ⟨p, h1, h2⟩ := fr_fld hv h
  simp only [Int.toNat_natCast, mk_len] at h1 h2
  exact ⟨p, h1, h2⟩
theorem c_mirrOk {s : St} [Wf s] {R C : Nat} {id_xs off_xs len_xs : Nat} {xs : List Int} [h_xs : ArgE ic s id_xs off_xs xs] (hl_xs : xs.length = len_xs := by first | rfl | simp | omega | (simp; omega)) (hv : VF R C xs := by assumption) : Fn [] 22 [.agg [ic R, ic C, .sl id_xs off_xs len_xs]] s fun V N => ∃ p, V = .tup [.agg (fld R C p (R * C)), .c (.bool true)] ∧ N = [(p, ints (mirr R C xs))] := by
  have hb := vf_len hv
  refine (c_implMirrorField (r := R) (c := C) (xs := xs)).mono fun V N h => ?_
  obtain ⟨p, h1, h2⟩ := fr_fld hv h
  simp only [Int.toNat_natCast, mk_len] at h1 h2
  exact ⟨p, h1, h2⟩
theorem c_shifOk {s : St} [Wf s] {R C : Nat} {row col : Int} {id_xs off_xs len_xs : Nat} {xs : List Int} [h_xs : ArgE ic s id_xs off_xs xs] (hl_xs : xs.length = len_xs := by first | rfl | simp | omega | (simp; omega)) (hs : Shf row col := by assumption) (hv : VF R C xs := by assumption) : Fn [] 25 [.agg [ic R, ic C, .sl id_xs off_xs len_xs], iv row, iv col] s fun V N => ∃ p, V = .tup [.agg (fld R C p (R * C)), .c (.bool true)] ∧ N = [(p, ints (shif R C xs row col))] := by
  have hb := vf_len hv
  refine (c_implShiftField (r := R) (c := C) (xs := xs)).mono fun V N h => ?_
  obtain ⟨p, h1, h2⟩ := fr_fld ⟨hv, hs⟩ h
  simp only [Int.toNat_natCast, mk_len] at h1 h2
  exact ⟨p, h1, h2⟩
def cutt (C : Nat) (xs : List Int) (row col M N : Nat) : List Int := mk M N fun i k => cel xs C ((row : Int) + i) ((col : Int) + k)
theorem c_newOk {s : St} [Wf s] {R C : Nat} (h : (1 ≤ R ∧ R ≤ 24) ∧ 1 ≤ C ∧ C ≤ 24 := by omega) : Fn [] 29 [iv R, iv C] s fun V L => ∃ p, V = .tup [.agg (fld R C p (R * C)), .c (.bool true)] ∧ L = [(p, ints (mk R C fun _ _ => 0))] := by
  refine (c_implNewField (r := R) (c := C)).mono fun V L k => ?_
  obtain ⟨p, h1, h2⟩ := fr_fld (by omega) k
  simp only [Int.toNat_natCast, mk_len] at h1 h2
  exact ⟨p, h1, h2⟩
theorem c_sameOk {s : St} [Wf s] {R C : Int} {id off len id2 off2 len2 : Nat} {xs ys : List Int} [hx : ArgE ic s id off xs] [hy : ArgE ic s id2 off2 ys] (h : xs = ys := by first | rfl | assumption) (hl : xs.length = len := by first | rfl | simp | omega | (simp; omega)) (hl2 : ys.length = len2 := by first | rfl | simp | omega | (simp; omega)) (hb : len ≤ 2000000 := by omega) :
    FnV 24 [.agg [ic R, ic C, .sl id off len], .agg [ic R, ic C, .sl id2 off2 len2]] s (bv true) := by
  refine (c_implSameField (r := R) (c := C) (xs := xs) (r2 := R) (c2 := C) (ys := ys)).mono fun V L k => ?_
  rw [tt_t ⟨rfl, rfl, h⟩] at k; exact k
theorem c_validOk {s : St} [Wf s] {R C : Nat} {id_xs off_xs len_xs : Nat} {xs : List Int} [h_xs : ArgE ic s id_xs off_xs xs] (hl_xs : xs.length = len_xs := by first | rfl | simp | omega | (simp; omega)) (hv : VF R C xs := by assumption) : FnV 55 [.agg [ic R, ic C, .sl id_xs off_xs len_xs]] s (bv true) := by
  have hb := vf_len hv
  refine (c_implValidField (r := R) (c := C) (xs := xs)).mono fun V L k => ?_
  rw [tt_t hv] at k; exact k
theorem c_apartOk {s : St} [Wf s] {R C : Nat} {id_xs off_xs len_xs : Nat} {xs : List Int} [h_xs : ArgE ic s id_xs off_xs xs] (hl_xs : xs.length = len_xs := by first | rfl | simp | omega | (simp; omega)) {id_ys off_ys len_ys : Nat} {ys : List Int} [h_ys : ArgE ic s id_ys off_ys ys] (hl_ys : ys.length = len_ys := by first | rfl | simp | omega | (simp; omega)) (hv : VF R C xs := by assumption) (hv2 : VF R C ys := by assumption) : FnV 36 [.agg [ic R, ic C, .sl id_xs off_xs len_xs], .agg [ic R, ic C, .sl id_ys off_ys len_ys]] s (.tup [.c (ic (dif xs ys len_xs)), .c (.bool true)]) := by
  have hb := vf_len hv
  have hb2 := vf_len hv2
  have h : VF2 R C xs R C ys := ⟨⟨hv, hv2⟩, rfl, rfl⟩
  refine (c_implCellsApart (r := R) (c := C) (xs := xs) (r2 := R) (c2 := C) (ys := ys)).mono fun V L k => ?_
  rw [numV, sel_t h, tt_t h] at k; exact k

end Go.Proofs.Ytlhidckolillaaa
