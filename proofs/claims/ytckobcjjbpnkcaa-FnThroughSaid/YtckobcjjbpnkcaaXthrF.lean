/- Shares that are eighths; draws with them. -/
import Derived.Test.YtckobcjjbpnkcaaXfloatL
import Derived.Test.YtckobcjjbpnkcaaXthruL
import Derived.Test.YtckobcjjbpnkcaaXcountT
import Derived.Test.YtckobcjjbpnkcaaXthrough
import Derived.Test.YtckobcjjbpnkcaaXclusters
import Derived.Test.YtckobcjjbpnkcaaXdrawField
import Derived.Test.YtckobcjjbpnkcaaXmovedOk
import Derived.Test.YtckobcjjbpnkcaaXdraw
import Derived.Test.YtckobcjjbpnkcaaFB
namespace Go.Proofs.Ytckobcjjbpnkcaa
open Go Go.RowKit
set_option linter.unusedVariables false
set_option linter.unusedSimpArgs false
set_option maxRecDepth 100000
set_option maxHeartbeats 8000000


def shV (i : Nat) : Nat := [0, 1040187392, 1048576000, 1052770304, 1056964608, 1059061760, 1061158912, 1063256064, 1065353216].getD i 0
def adV (i : Nat) : Nat := [1048576000, 1052770304, 1056964608, 1059061760, 1061158912, 1063256064, 1065353216, 1066401792, 1067450368].getD i 0
def mnV (i : Nat) : Nat := [1048576000, 1052770304, 1056964608, 1059061760, 1061158912, 1063256064, 1065353216, 1065353216, 1065353216].getD i 0
theorem sh_div : ∀ i : Nat, i < 9 → Ieee.Format.div Ieee.single (FloatKind.nearest .f32 (i : Int)) 1090519040 = some (shV i) := by decide
theorem sh_add : ∀ i, i < 9 → Ieee.Format.add Ieee.single (shV i) 1048576000 = some (adV i) := by decide
theorem sh_ord : ∀ i, i < 9 → (Ieee.Format.order Ieee.single 1065353216 (adV i) = some .gt ∧ mnV i = adV i) ∨ (Ieee.Format.order Ieee.single 1065353216 (adV i) = some .eq ∧ mnV i = adV i) ∨ (Ieee.Format.order Ieee.single 1065353216 (adV i) = some .lt ∧ mnV i = 1065353216) := by decide
theorem sh_neg : (FloatKind.decode .f32 1065353216).neg = false := by decide
instance : DecidablePred ShareP := fun a => by unfold ShareP; infer_instance
theorem sh_ok : ∀ i, i < 9 → (ShareP (shV i) ∧ ShareP (mnV i)) ∧ (shV i < 2139095040 ∧ mnV i < 2139095040) ∧ val (shV i) ≤ val (mnV i) := by decide
theorem sh_ends : ShareP 1065353216 ∧ ShareP 0 := by decide
section
variable {B : List Nat} {b : St} {L : Objs} {l : List AStep} {hist : List Objs} {fr : Frm} {kk : KK} {d : Nat} {chk : List Nat} {g : Option (Nat × Bool)}
theorem A_div8 {x : Opd} {i : Nat} (hx : ev fr x = some (.c (.float .f32 (FloatKind.nearest .f32 (i : Int))))) (hg : gon fr g = some true) (hn : i < 9)
    (h : At B b L l hist ((d, .c (.float .f32 (shV i))) :: fr) kk) : At B b L (⟨some d, .bin .quo x (.k (.c (.float .f32 1090519040))), g, chk⟩ :: l) hist fr kk := by
  refine A_p ?_ hg h
  have hy : ev fr (.k (.c (.float .f32 1090519040))) = some (.c (.float .f32 1090519040)) := rfl
  simp only [evP, hx, hy, Option.bind_some, binV, if_true, floatBin]
  show Option.map AV.c ((Ieee.Format.div Ieee.single _ _).map _) = _
  rw [sh_div i hn]; rfl
theorem A_addQ {x : Opd} {i : Nat} (hx : ev fr x = some (.c (.float .f32 (shV i)))) (hg : gon fr g = some true) (hn : i < 9)
    (h : At B b L l hist ((d, .c (.float .f32 (adV i))) :: fr) kk) : At B b L (⟨some d, .bin .add x (.k (.c (.float .f32 1048576000))), g, chk⟩ :: l) hist fr kk := by
  refine A_p ?_ hg h
  have hy : ev fr (.k (.c (.float .f32 1048576000))) = some (.c (.float .f32 1048576000)) := rfl
  simp only [evP, hx, hy, Option.bind_some, binV, if_true, floatBin]
  show Option.map AV.c ((Ieee.Format.add Ieee.single _ _).map _) = _
  rw [sh_add i hn]; rfl
theorem A_minQ {y : Opd} {i : Nat} (hy : ev fr y = some (.c (.float .f32 (adV i)))) (hg : gon fr g = some true) (hn : i < 9)
    (h : At B b L l hist ((d, .c (.float .f32 (mnV i))) :: fr) kk) : At B b L (⟨some d, .minmax false (.k (.c (.float .f32 1065353216))) y, g, chk⟩ :: l) hist fr kk := by
  refine A_p ?_ hg h
  have hx : ev fr (.k (.c (.float .f32 1065353216))) = some (.c (.float .f32 1065353216)) := rfl
  simp only [evP, hx, hy, Option.bind_some, minmaxV, if_true]
  have ho := sh_ord i hn
  have hf : FloatKind.format .f32 = Ieee.single := rfl
  rw [hf]
  rcases ho with ⟨h1, h2⟩ | ⟨h1, h2⟩ | ⟨h1, h2⟩
  · simp only [h1, h2]; rfl
  · simp only [h1, h2, sh_neg]; rfl
  · simp only [h1, h2]; rfl
end
theorem c_thrOk {s : St} [Wf s] {R C : Nat} {id_xs off_xs len_xs : Nat} {xs : List Int} [h_xs : ArgE ic s id_xs off_xs xs] (hl_xs : xs.length = len_xs := by first | rfl | simp | omega | (simp; omega)) (hv : VF R C xs := by assumption) : FnV 31 [.agg [ic R, ic C, .sl id_xs off_xs len_xs]] s (.tup [.c (.bool (tt (Thr R C xs))), .c (.bool true)]) := by
  have hb := vf_len hv
  refine (c_implLeadsThrough (r := R) (c := C) (xs := xs)).mono fun V L k => ?_
  simp only [Int.toNat_natCast] at k
  by_cases h : Thr R C xs
  · rw [tt_t h]; rw [boolV, tt_t ⟨hv, h⟩, tt_t hv] at k; exact k
  · rw [tt_f h]; rw [boolV, tt_f (fun g => h g.2), tt_t hv] at k; exact k
theorem c_cluOk {s : St} [Wf s] {R C T : Nat} {id_xs off_xs len_xs : Nat} {xs : List Int} [h_xs : ArgE ic s id_xs off_xs xs] (hl_xs : xs.length = len_xs := by first | rfl | simp | omega | (simp; omega)) (hv : VF R C xs := by assumption) (hT : R * C = T) : Fn [] 32 [.agg [ic R, ic C, .sl id_xs off_xs len_xs]] s fun V N => ∃ p, V = .tup [.c (.sl p 0 T), .c (ic (cluAll R C xs T).2), .c (.bool true)] ∧ N = [(p, ints (cluAll R C xs T).1)] := by
  have hb := vf_len hv
  refine (c_implClustersOf (r := R) (c := C) (xs := xs)).mono fun V N k => ?_
  obtain ⟨R', C', e1, e2, h1, h2, h3, h4⟩ := hv.nat
  obtain rfl : R = R' := by omega
  obtain rfl : C = C' := by omega
  obtain ⟨p, rfl, rfl, _⟩ := k
  simp only [Int.toNat_natCast]
  rw [hT] at h3
  have hl := (cluAll_ok (R := R) (C := C) (xs := xs) T (by omega)).1
  refine ⟨p, ?_, ?_⟩
  · simp only [sel_t hv, tt_t hv, h3, hl, hT]
  · rw [sel_t hv, h3]
theorem c_cthOk {s : St} [Wf s] {R C T : Nat} (hp : SmlP R C) (hT : R * C = T) : Fn [] 14 [iv R, iv C] s fun V N => ∃ p, V = .tup [.c (.sl p 0 (T + 1)), .c (.bool true)] ∧ N = [(p, ints (thrR R C))] := by
  refine (c_implCountThrough (r := R) (c := C)).mono fun V N k => ?_
  obtain ⟨p, rfl, rfl, _⟩ := k
  refine ⟨p, ?_, by rw [sel_t hp]⟩
  simp only [sel_t hp, tt_t hp]
  rw [show (thrR R C).length = T + 1 by rw [thrR]; simp only [Int.toNat_natCast, hT]; simp]
theorem c_drawOk {s : St} [Wf s] {R C T : Nat} {sh : Nat} {x : Int} (hp : ShareP sh := by assumption) (hR : (1 ≤ R ∧ R ≤ 24) ∧ 1 ≤ C ∧ C ≤ 24 := by omega) (hx : 0 ≤ x ∧ x ≤ 4294967295 := by omega) (hT : R * C = T) :
    Fn [] 9 [iv R, iv C, .c (.float .f32 sh), iv x] s fun V N => ∃ p, V = .tup [.agg (fld R C p T), .c (ic (sdN x T)), .c (.bool true)] ∧ N = [(p, ints (drawL sh x T))] := by
  refine (c_implDrawField (r := R) (c := C) (x := x) (sh := sh)).mono fun V N k => ?_
  have hd : DrawP R C sh x := ⟨by omega, hp, hx⟩
  obtain ⟨p, rfl, rfl, _⟩ := k
  simp only [Int.toNat_natCast, hT]
  exact ⟨p, by simp only [sel_t hd, tt_t hd, drawL_len], by rw [sel_t hd]⟩

end Go.Proofs.Ytckobcjjbpnkcaa
