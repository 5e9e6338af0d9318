/- Words of what rings become can come, and no more come later. -/
import Derived.Test.YtafdjnhlhepibaaXcomesC
import Derived.Test.YtafdjnhlhepibaaXturns
import Derived.Test.YtafdjnhlhepibaaFB
namespace Go.Proofs.Ytafdjnhlhepibaa
open Go Go.RowKit
set_option linter.unusedVariables false
set_option linter.unusedSimpArgs false
set_option maxRecDepth 100000
set_option maxHeartbeats 8000000


theorem hood_congr {S : Int} {ys : List Int} {a b : Int} (h : a % ys.length = b % ys.length) : ∀ m, hoodN S ys a m = hoodN S ys b m
  | 0 => rfl
  | m + 1 => by
    have e : (a + m) % (ys.length : Int) = (b + m) % (ys.length : Int) := by rw [Int.add_emod, h, ← Int.add_emod]
    rw [hoodN, hoodN, hood_congr h m, e]
theorem hoodL_len {S : Nat} {ys : List Int} {a : Int} {w : Nat} : (hoodL S ys a w).length = w := by simp [hoodL]
theorem hoodL_dg {S w : Nat} {ys : List Int} {a : Int} (hr : RG S ys) : DG S (hoodL S ys a w) := fun x hx => by
  obtain ⟨k, hk, rfl⟩ := mem_get (d := 0) hx
  rw [hoodL_get (by rw [hoodL_len] at hk; exact hk)]
  exact hr.cell _
theorem wnd_shr {S w m : Nat} {re : Int} {xs ys : List Int} (hv : VR S re xs) (hr : RG S ys) (hw : 2 * re + 1 = w) {a : Int} : shr S w xs (hoodL S ys a (m + (w - 1))) = hoodL S (stepR S re xs ys) (a + re) m := by
  have hre := hv.2.1
  have hn := hr.1
  refine ext_getD 0 (by rw [shr_len, hoodL_len, hoodL_len]; omega) fun i hi => ?_
  have hi' : i < m := by rw [shr_len, hoodL_len] at hi; omega
  have e1 : ((hoodL S ys a (m + (w - 1))).drop i).take w = hoodL S ys (a + i) w := by
    refine ext_getD 0 (by simp [hoodL]; omega) fun k hk => ?_
    have hk' : k < w := by simp [hoodL] at hk; omega
    rw [getD_take hk', List.getD_eq_getElem?_getD, List.getElem?_drop, ← List.getD_eq_getElem?_getD, hoodL_get (by omega), hoodL_get hk']
    congr 2
    rw [show a + ((i + k : Nat) : Int) = a + i + k by omega]
  have hp : (0 : Int) < ys.length := by omega
  have g1 := Int.emod_nonneg (a + re + i) (show (ys.length : Int) ≠ 0 by omega)
  have g2 := Int.emod_lt_of_pos (a + re + i) hp
  rw [shr_get (by rw [hoodL_len]; omega), hoodL_get hi', stepR_len, stepR_get (by omega), told, show bh S xs (hoodL S ys a (m + (w - 1))) w i = xs.getD (nm S (((hoodL S ys a (m + (w - 1))).drop i).take w)) 0 from rfl, e1, Int.toNat_of_nonneg g1]
  congr 1
  have h1 := hoodL_nm (a := a + i) (w := w) hr w (Nat.le_refl w)
  have h2 : ((a + re + i) % (ys.length : Int) - re) % (ys.length : Int) = (a + i) % (ys.length : Int) := by
    rw [Int.sub_emod, Int.emod_emod, ← Int.sub_emod]
    congr 1
    omega
  rw [show (2 * re + 1).toNat = w by omega, hood_congr h2 w, ← h1, nm, hoodL_len]
  rfl
theorem ahd_wnd {S w n T : Nat} {re : Int} {xs ys : List Int} (hv : VR S re xs) (hr : RG S ys) (hw : 2 * re + 1 = w) {a : Int} : ∀ t : Nat, t ≤ T → ahd S w xs (hoodL S ys a (n + (w - 1) * T)) t = hoodL S (runR S re xs ys t) (a + re * t) (n + (w - 1) * (T - t))
  | 0, _ => by rw [ahd, Nat.sub_zero]; simp [runR]
  | t + 1, h => by
    have e : n + (w - 1) * (T - t) = (n + (w - 1) * (T - (t + 1))) + (w - 1) := by
      rw [show T - t = (T - (t + 1)) + 1 by omega, Nat.mul_add, Nat.mul_one]; omega
    rw [ahd, ahd_wnd hv hr hw t (by omega), e, wnd_shr hv (runR_rg hv hr t) hw]
    show hoodL S (runR S re xs ys (t + 1)) _ _ = _
    congr 1
    push_cast
    rw [Int.mul_add, Int.mul_one]; omega
theorem ahd_shr {S w : Nat} {xs ys : List Int} : ∀ t, ahd S w xs ys (t + 1) = ahd S w xs (shr S w xs ys) t
  | 0 => rfl
  | t + 1 => by rw [ahd, ahd_shr t]; rfl
/-- What is true of an image. -/
theorem img_get {N : Nat} {ts : List Int} {k : Nat} (hk : k < N) : ∀ m, (∀ i, i < m → 0 ≤ ts.getD i 0 ∧ ts.getD i 0 < N) → ((img N ts m).1.getD k false = true ↔ ∃ i, i < m ∧ ts.getD i 0 = k)
  | 0, _ => by
    rw [img, List.getD_eq_getElem?_getD, List.getElem?_replicate, if_pos hk]
    simp
  | m + 1, h => by
    have h1 := h m (by omega)
    have hl := (img_ok (N := N) (ts := ts) m).1
    rw [img_set, getD_set (by omega)]
    have ih := img_get hk m fun i hi => h i (by omega)
    by_cases e : (ts.getD m 0).toNat = k
    · rw [if_pos e]
      exact ⟨fun _ => ⟨m, by omega, by omega⟩, fun _ => rfl⟩
    · rw [if_neg e, ih]
      constructor
      · rintro ⟨i, hi, h2⟩; exact ⟨i, by omega, h2⟩
      · rintro ⟨i, hi, h2⟩
        by_cases e2 : i = m
        · subst e2; omega
        · exact ⟨i, by omega, h2⟩
theorem trues_le {us bs : List Bool} : ∀ m : Nat, (∀ k, k < m → us.getD k false = true → bs.getD k false = true) → trues us m ≤ trues bs m
  | 0, _ => Int.le_refl _
  | m + 1, h => by
    have ih := trues_le m fun k hk => h k (by omega)
    have h1 := h m (by omega)
    rw [trues, trues]
    by_cases e : us.getD m false = true
    · rw [if_pos e, if_pos (h1 e)]; omega
    · rw [if_neg e]; split <;> omega
theorem trues_one {bs : List Bool} {k : Nat} (hk : bs.getD k false = true) : ∀ m : Nat, k < m → 1 ≤ trues bs m
  | 0, h => by omega
  | m + 1, h => by
    have h0 := (trues_in (bs := bs) m).1
    rw [trues]
    by_cases e : k = m
    · subst e; rw [if_pos hk]; omega
    · have := trues_one hk m (by omega); split <;> omega
theorem trues_all {bs : List Bool} : ∀ m : Nat, (∀ k, k < m → bs.getD k false = true) → trues bs m = m
  | 0, _ => rfl
  | m + 1, h => by
    rw [trues, if_pos (h m (by omega)), trues_all m fun k hk => h k (by omega)]; rfl
/-- A word comes iff there is one that leads to it. -/
theorem cimg_get {S w E n T : Nat} {xs ws : List Int} (hS : 2 ≤ S) (hE : E = S ^ (w - 1)) (hw : 1 ≤ w) (hl : xs.length = E * S) (hd : DG S xs) (hws : DG S ws) (hwl : ws.length = n) : (cimg S w xs n T).1.getD (nm S ws) false = true ↔ ∃ ys, DG S ys ∧ ys.length = n + (w - 1) * T ∧ ahd S w xs ys T = ws := by
  have hk : nm S ws < S ^ n := by rw [← hwl]; exact nm_lt (by omega) hws _ (Nat.le_refl _)
  rw [img_get hk _ fun i hi => cms_in hS hE hw hl hd hi]
  constructor
  · rintro ⟨i, hi, h⟩
    rw [cms_get hi] at h
    have hdd : DG S (dg S i (n + (w - 1) * T)) := dg_mem (by omega)
    refine ⟨_, hdd, by simp, ?_⟩
    have e := ahd_len (S := S) (xs := xs) (n := n) (T := T) (ys := dg S i (n + (w - 1) * T)) hw (by simp) T (Nat.le_refl _)
    rw [Nat.sub_self, Nat.mul_zero, Nat.add_zero] at e
    exact nm_inj (ahd_dg hS hE hw hl hd hdd T) hws (by omega) (by omega) (by rw [cmn] at h; omega)
  · rintro ⟨ys, hy, hyl, rfl⟩
    have hi : nm S ys < S ^ (n + (w - 1) * T) := by rw [← hyl]; exact nm_lt (by omega) hy _ (Nat.le_refl _)
    refine ⟨nm S ys, hi, ?_⟩
    rw [cms_get hi, cmn, ← hyl, dg_nm (by omega) hy]
/-- No more come later. -/
theorem cms_later {S w E n T : Nat} {xs : List Int} (hS : 2 ≤ S) (hE : E = S ^ (w - 1)) (hw : 1 ≤ w) (hl : xs.length = E * S) (hd : DG S xs) : (cimg S w xs n (T + 1)).2 ≤ (cimg S w xs n T).2 := by
  rw [← img_trues _ fun i hi => cms_in hS hE hw hl hd hi, ← img_trues _ fun i hi => cms_in hS hE hw hl hd hi]
  refine trues_le _ fun k hk h => ?_
  have hdk : DG S (dg S k n) := dg_mem (by omega)
  have e := nm_dg (S := S) (n := k) (w := n) (by omega) hk
  rw [← e] at h ⊢
  obtain ⟨ys, h1, h2, h3⟩ := (cimg_get hS hE hw hl hd hdk (by simp)).1 h
  refine (cimg_get hS hE hw hl hd hdk (by simp)).2 ⟨shr S w xs ys, shr_dg hS hE hw hl hd h1, ?_, by rw [← ahd_shr]; exact h3⟩
  rw [shr_len, h2, Nat.mul_add, Nat.mul_one]; omega
/-- All come at once. -/
theorem cms_none {S w E n : Nat} {xs : List Int} (hS : 2 ≤ S) (hE : E = S ^ (w - 1)) (hw : 1 ≤ w) (hl : xs.length = E * S) (hd : DG S xs) : (cimg S w xs n 0).2 = (S ^ n : Nat) := by
  rw [← img_trues _ fun i hi => cms_in hS hE hw hl hd hi]
  refine trues_all _ fun k hk => ?_
  have hdk : DG S (dg S k n) := dg_mem (by omega)
  have e := nm_dg (S := S) (n := k) (w := n) (by omega) hk
  rw [← e]
  exact (cimg_get hS hE hw hl hd hdk (by simp)).2 ⟨dg S k n, hdk, by simp, rfl⟩
/-- Words of what rings become can come. -/
theorem ring_comes {S w E n T : Nat} {re : Int} {xs ys : List Int} (hv : VR S re xs) (hr : RG S ys) (hw : 2 * re + 1 = w) (hE : E = S ^ (w - 1)) (hl : xs.length = E * S) (hd : DG S xs) : (cimg S w xs n T).1.getD (nm S (hoodL S (runR S re xs ys T) 0 n)) false = true := by
  have hre := hv.2.1
  refine (cimg_get (by have := hv.1.1; omega) hE (by omega) hl hd (hoodL_dg (runR_rg hv hr T)) hoodL_len).2 ⟨hoodL S ys (0 - re * T) (n + (w - 1) * T), hoodL_dg hr, hoodL_len, ?_⟩
  rw [ahd_wnd hv hr hw T (Nat.le_refl T), Nat.sub_self, Nat.mul_zero, Nat.add_zero, Int.sub_add_cancel]
theorem cms_pos {S w E n T : Nat} {xs ws : List Int} (hS : 2 ≤ S) (hE : E = S ^ (w - 1)) (hw : 1 ≤ w) (hl : xs.length = E * S) (hd : DG S xs) (hws : DG S ws) (hwl : ws.length = n) (h : (cimg S w xs n T).1.getD (nm S ws) false = true) : 1 ≤ (cimg S w xs n T).2 := by
  rw [← img_trues _ fun i hi => cms_in hS hE hw hl hd hi]
  exact trues_one h _ (by rw [← hwl]; exact nm_lt (by omega) hws _ (Nat.le_refl _))
theorem cms_most {S w E n T : Nat} {xs : List Int} (hS : 2 ≤ S) (hE : E = S ^ (w - 1)) (hw : 1 ≤ w) (hl : xs.length = E * S) (hd : DG S xs) : (cimg S w xs n T).2 ≤ (S ^ n : Nat) := by
  rw [← img_trues _ fun i hi => cms_in hS hE hw hl hd hi]
  exact (trues_in _).2
theorem hood_take {S n : Nat} {ys : List Int} (h : n ≤ ys.length) : hoodL S ys 0 n = ys.take n := by
  refine ext_getD 0 (by rw [hoodL_len]; simp; omega) fun i hi => ?_
  rw [hoodL_len] at hi
  rw [hoodL_get hi, getD_take hi, Int.zero_add, Int.emod_eq_of_lt (by omega) (by omega), Int.toNat_natCast]

end Go.Proofs.Ytafdjnhlhepibaa
