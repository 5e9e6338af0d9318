/- Rings that lead to one, where all is in order. -/
import Derived.Test.YtlmbgaoeplffkaaXallBack
import Derived.Test.YtlmbgaoeplffkaaXfirstBack
import Derived.Test.YtlmbgaoeplffkaaXshared
import Derived.Test.YtlmbgaoeplffkaaFB
namespace Go.Proofs.Ytlmbgaoeplffkaa
open Go Go.RowKit
set_option linter.unusedVariables false
set_option linter.unusedSimpArgs false
set_option maxRecDepth 100000
set_option maxHeartbeats 8000000


theorem c_allYes {s : St} [Wf s] {st re : Int} {id_xs off_xs len_xs : Nat} {xs : List Int} [h_xs : ArgE ic s id_xs off_xs xs] (hl_xs : xs.length = len_xs := by first | rfl | simp | omega | (simp; omega)) {id_to off_to len_to : Nat} {to : List Int} [h_to : ArgE ic s id_to off_to to] (hl_to : to.length = len_to := by first | rfl | simp | omega | (simp; omega)) (h : AbP st re xs to) (hb : len_xs ≤ 2000000 ∧ len_to ≤ 2000000 := by omega) :
    Fn [] 11 [.agg [ic st, ic re, .sl id_xs off_xs len_xs], .c (.sl id_to off_to len_to)] s fun R N => ∃ p zs, R = .tup [.c (.sl p 0 zs.length), .c (.bool true)] ∧ RowsOk zs ∧ zs.map Row.xs = fwdL st re xs to ∧ N = (p, orow zs) :: mobs zs :=
  (c_implAllBack (xs := xs) (to := to)).mono fun R N k => by
    obtain ⟨p, zs, rfl, hok, hN, hm, _⟩ := k
    rw [sel_t h] at hm
    exact ⟨p, zs, by rw [tt_t h], hok.h, hm, hN⟩
theorem c_fstAny {s : St} [Wf s] {st re : Int} {t : Bool} {id_xs off_xs len_xs : Nat} {xs : List Int} [h_xs : ArgE ic s id_xs off_xs xs] (hl_xs : xs.length = len_xs := by first | rfl | simp | omega | (simp; omega)) {id_to off_to len_to : Nat} {to : List Int} [h_to : ArgE ic s id_to off_to to] (hl_to : to.length = len_to := by first | rfl | simp | omega | (simp; omega)) (h : BackP st re xs to) (ht : t = true ↔ fwdL st re xs to ≠ []) (hb : len_xs ≤ 2000000 ∧ len_to ≤ 2000000 := by omega) :
    Fn [] 12 [.agg [ic st, ic re, .sl id_xs off_xs len_xs], .c (.sl id_to off_to len_to)] s fun R N => ∃ p, R = .tup [.c (.sl p 0 (fbR st re xs to).length), .c (.bool t)] ∧ N = [(p, ints (fbR st re xs to))] :=
  (c_implFirstBack (xs := xs) (to := to)).mono fun R N k => by
    obtain ⟨p, rfl, rfl, _⟩ := k
    cases t with
    | true =>
      have hp : FbP st re xs to := ⟨h, ht.1 rfl⟩
      exact ⟨p, by simp only [sel_t hp, tt_t hp], by rw [sel_t hp]⟩
    | false =>
      have hf : fwdL st re xs to = [] := Classical.byContradiction fun g => by have := ht.2 g; cases this
      have hp : ¬ FbP st re xs to := fun g => g.2 hf
      have he : fbR st re xs to = [] := by rw [fbR, hf]; rfl
      exact ⟨p, by simp only [sel_f hp, tt_f hp, he], by rw [sel_f hp, he]⟩
theorem c_cshYes {s : St} [Wf s] {st re workers : Int} {id_xs off_xs len_xs : Nat} {xs : List Int} [h_xs : ArgE ic s id_xs off_xs xs] (hl_xs : xs.length = len_xs := by first | rfl | simp | omega | (simp; omega)) {idr offr n : Nat} {zs : List Row} [hr : ArgE rc s idr offr zs] [ha : ArgAll s zs] [hok : Fact' (RowsOk zs)] (h : CsP st re xs zs workers) (hn : zs.length = n := by first | rfl | omega) (hb : len_xs ≤ 2000000 ∧ n ≤ 2000000 ∧ slen zs ≤ 2000000 := by omega) :
    Fn [] 13 [.agg [ic st, ic re, .sl id_xs off_xs len_xs], .c (.sl idr offr n), iv workers] s fun R N => ∃ p, R = .tup [.c (.sl p 0 n), .c (.bool true)] ∧ N = [(p, ints (csR st re xs zs))] :=
  (c_implCountsShared (xs := xs) (zs := zs)).mono fun R N k => by
    obtain ⟨p, rfl, rfl, _⟩ := k
    exact ⟨p, by simp only [sel_t h, tt_t h, csR, List.length_map, hn], by rw [sel_t h]⟩

end Go.Proofs.Ytlmbgaoeplffkaa
