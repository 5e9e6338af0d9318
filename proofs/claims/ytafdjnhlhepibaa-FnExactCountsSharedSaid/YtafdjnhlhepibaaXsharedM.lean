/- Rings that are run, or counted, side by side: what hangs on the lists' contents alone. -/
import Derived.Test.YtafdjnhlhepibaaXshared
import Derived.Test.YtafdjnhlhepibaaXmatArg
import Derived.Test.YtafdjnhlhepibaaXruleLaws
import Derived.Test.YtafdjnhlhepibaaFB
namespace Go.Proofs.Ytafdjnhlhepibaa
open Go Go.RowKit
set_option linter.unusedVariables false
set_option linter.unusedSimpArgs false
set_option maxRecDepth 100000
set_option maxHeartbeats 8000000


class BorMo (s : St) (p : Nat) (zs : outParam (List Row)) : Prop where
  own : Own (p :: zs.map Row.id) s s ((p, orow zs) :: mobs zs)
instance borMoOwn {B : List Nat} {b s : St} {L L' M : Objs} {p : Nat} {zs : List Row} [H : Own B b s L] [h : Del L p (orow zs) L'] [k : DelsM L' zs M] : BorMo s p zs := ⟨(borMOwn (L := L) (L' := L') (M := M) (B := B) (b := b)).own⟩
theorem c_markM {s : St} [Wf s] {p len : Nat} {zs : List Row} {k : Int} [hx : BorMo s p zs] [hok : Fact' (RowsOk zs)] (hl : zs.length = len := by first | rfl | simp | omega) (hb : 0 ≤ k ∧ k + slen zs ≤ 9223372036854775807 := by omega) (hlb : len ≤ 2000000 := by omega) :
    Fn (p :: zs.map Row.id) 20 [.c (.sl p 0 len), iv k] s fun r N => r = iv (k + slen zs) ∧ N = (p, orow (mkRows k zs)) :: mobs (mkRows k zs) := by
  haveI : BorM s p zs := ⟨hx.own⟩
  exact c_markInt64SS (zs := zs) (hl := hl) (hb := hb) (hlb := hlb)
abbrev ShM (st re : Int) (xs : List Int) (yss : List (List Int)) (steps workers : Int) : Prop := ((1 ≤ yss.length ∧ yss.length ≤ 16) ∧ 1 ≤ workers ∧ workers ≤ 8) ∧ ∀ y ∈ yss, RunP st re xs y steps
def shM (st re : Int) (xs : List Int) (steps : Int) (yss : List (List Int)) : List (List Int) := yss.map fun y => runR st re xs y steps.toNat
theorem sh_eq {st re steps workers : Int} {xs : List Int} {zs : List Row} {yss : List (List Int)} (h : zs.map Row.xs = yss) : ShP st re xs zs steps workers = ShM st re xs yss steps workers ∧ shR st re xs steps zs = shM st re xs steps yss := by
  subst h
  exact ⟨by simp [ShP, ShM], by simp [shR, shM]⟩
theorem c_iRuns {s : St} [Wf s] {st re steps workers : Int} {id_xs off_xs len_xs : Nat} {xs : List Int} [h_xs : ArgE ic s id_xs off_xs xs] (hl_xs : xs.length = len_xs := by first | rfl | simp | omega | (simp; omega)) {idr offr n : Nat} {zs : List Row} [hr : ArgE rc s idr offr zs] [ha : ArgAll s zs] [hok : Fact' (RowsOk zs)] {yss : List (List Int)} (hm : zs.map Row.xs = yss := by assumption) (hn : zs.length = n := by first | rfl | omega) (hb : len_xs ≤ 2000000 ∧ n ≤ 2000000 ∧ slen zs ≤ 2000000 := by omega) :
    Fn [] 16 [.agg [ic st, ic re, .sl id_xs off_xs len_xs], .c (.sl idr offr n), iv steps, iv workers] s fun R N => ∃ p ws, R = .tup [.c (.sl p 0 ws.length), .c (.bool (tt (ShM st re xs yss steps workers)))] ∧ Fact' (RowsOk ws) ∧ MatOut (ShM st re xs yss steps workers) (shM st re xs steps yss) p ws N := by
  have h := c_implRunsShared (s := s) (st := st) (re := re) (steps := steps) (workers := workers) (id_xs := id_xs) (off_xs := off_xs) (xs := xs) (hl_xs := hl_xs) (idr := idr) (offr := offr) (zs := zs) (hn := hn) (hb := hb)
  obtain ⟨e1, e2⟩ := sh_eq (st := st) (re := re) (steps := steps) (workers := workers) (xs := xs) hm
  rw [e1, e2] at h; exact h
theorem c_sRuns {s : St} [Wf s] {st re steps workers : Int} {id_xs off_xs len_xs : Nat} {xs : List Int} [h_xs : ArgE ic s id_xs off_xs xs] (hl_xs : xs.length = len_xs := by first | rfl | simp | omega | (simp; omega)) {idr offr n : Nat} {zs : List Row} [hr : ArgE rc s idr offr zs] [ha : ArgAll s zs] [hok : Fact' (RowsOk zs)] {yss : List (List Int)} (hm : zs.map Row.xs = yss := by assumption) (hn : zs.length = n := by first | rfl | omega) (hb : len_xs ≤ 2000000 ∧ n ≤ 2000000 ∧ slen zs ≤ 2000000 := by omega) :
    Fn [] 13 [.agg [ic st, ic re, .sl id_xs off_xs len_xs], .c (.sl idr offr n), iv steps, iv workers] s fun R N => ∃ p ws, R = .tup [.c (.sl p 0 ws.length), .c (.bool (tt (ShM st re xs yss steps workers)))] ∧ Fact' (RowsOk ws) ∧ MatOut (ShM st re xs yss steps workers) (shM st re xs steps yss) p ws N := by
  have h := c_specRunsShared (s := s) (st := st) (re := re) (steps := steps) (workers := workers) (id_xs := id_xs) (off_xs := off_xs) (xs := xs) (hl_xs := hl_xs) (idr := idr) (offr := offr) (zs := zs) (hn := hn) (hb := hb)
  obtain ⟨e1, e2⟩ := sh_eq (st := st) (re := re) (steps := steps) (workers := workers) (xs := xs) hm
  rw [e1, e2] at h; exact h
abbrev CsM (st re : Int) (xs : List Int) (yss : List (List Int)) (workers : Int) : Prop := (VR st re xs ∧ yss.length ≤ 16 ∧ 1 ≤ workers ∧ workers ≤ 8) ∧ ∀ y ∈ yss, BackP st re xs y
def csM (st re : Int) (xs : List Int) (yss : List (List Int)) : List Int := yss.map fun y => cbkR st re xs y
theorem cs_eq {st re workers : Int} {xs : List Int} {zs : List Row} {yss : List (List Int)} (h : zs.map Row.xs = yss) : CsP st re xs zs workers = CsM st re xs yss workers ∧ csR st re xs zs = csM st re xs yss := by
  subst h
  exact ⟨by simp [CsP, CsM], by simp [csR, csM]⟩
theorem c_iCounts {s : St} [Wf s] {st re workers : Int} {id_xs off_xs len_xs : Nat} {xs : List Int} [h_xs : ArgE ic s id_xs off_xs xs] (hl_xs : xs.length = len_xs := by first | rfl | simp | omega | (simp; omega)) {idr offr n : Nat} {zs : List Row} [hr : ArgE rc s idr offr zs] [ha : ArgAll s zs] [hok : Fact' (RowsOk zs)] {yss : List (List Int)} (hm : zs.map Row.xs = yss := by assumption) (hn : zs.length = n := by first | rfl | omega) (hb : len_xs ≤ 2000000 ∧ n ≤ 2000000 ∧ slen zs ≤ 2000000 := by omega) :
    Fn [] 23 [.agg [ic st, ic re, .sl id_xs off_xs len_xs], .c (.sl idr offr n), iv workers] s (IntsRes (CsM st re xs yss workers) (csM st re xs yss)) := by
  have h := c_implCountsShared (s := s) (st := st) (re := re) (workers := workers) (id_xs := id_xs) (off_xs := off_xs) (xs := xs) (hl_xs := hl_xs) (idr := idr) (offr := offr) (zs := zs) (hn := hn) (hb := hb)
  obtain ⟨e1, e2⟩ := cs_eq (st := st) (re := re) (workers := workers) (xs := xs) hm
  rw [e1, e2] at h; exact h
theorem c_sCounts {s : St} [Wf s] {st re workers : Int} {id_xs off_xs len_xs : Nat} {xs : List Int} [h_xs : ArgE ic s id_xs off_xs xs] (hl_xs : xs.length = len_xs := by first | rfl | simp | omega | (simp; omega)) {idr offr n : Nat} {zs : List Row} [hr : ArgE rc s idr offr zs] [ha : ArgAll s zs] [hok : Fact' (RowsOk zs)] {yss : List (List Int)} (hm : zs.map Row.xs = yss := by assumption) (hn : zs.length = n := by first | rfl | omega) (hb : len_xs ≤ 2000000 ∧ n ≤ 2000000 ∧ slen zs ≤ 2000000 := by omega) :
    Fn [] 22 [.agg [ic st, ic re, .sl id_xs off_xs len_xs], .c (.sl idr offr n), iv workers] s (IntsRes (CsM st re xs yss workers) (csM st re xs yss)) := by
  have h := c_specCountsShared (s := s) (st := st) (re := re) (workers := workers) (id_xs := id_xs) (off_xs := off_xs) (xs := xs) (hl_xs := hl_xs) (idr := idr) (offr := offr) (zs := zs) (hn := hn) (hb := hb)
  obtain ⟨e1, e2⟩ := cs_eq (st := st) (re := re) (workers := workers) (xs := xs) hm
  rw [e1, e2] at h; exact h

end Go.Proofs.Ytafdjnhlhepibaa
