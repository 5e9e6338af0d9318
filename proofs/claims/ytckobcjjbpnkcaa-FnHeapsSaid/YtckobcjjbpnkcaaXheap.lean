/- Heaps: what falls in the end is the same, whatever the order. -/
import Derived.Test.YtckobcjjbpnkcaaXclusters
import Derived.Test.YtckobcjjbpnkcaaXsums
import Derived.Test.YtckobcjjbpnkcaaFB
namespace Go.Proofs.Ytckobcjjbpnkcaa
open Go Go.RowKit
set_option linter.unusedVariables false
set_option linter.unusedSimpArgs false
set_option maxRecDepth 100000
set_option maxHeartbeats 8000000


def addL (b : Int) (zs : List Int) (y : Int) : List Int := zs.set y.toNat (zs.getD y.toNat 0 + b)
theorem addL_len {b : Int} : ∀ (l : List Int) (zs : List Int), (l.foldl (addL b) zs).length = zs.length
  | [], _ => rfl
  | y :: l, zs => by rw [List.foldl_cons, addL_len l]; simp [addL]
theorem add_get {b : Int} {c : Nat} : ∀ (l : List Int) (zs : List Int), (∀ y ∈ l, 0 ≤ y ∧ y < (zs.length : Int)) → (l.foldl (addL b) zs).getD c 0 = zs.getD c 0 + b * (l.count (c : Int) : Nat)
  | [], zs, _ => by simp
  | y :: l, zs, h => by
    have hy := h y (by simp)
    rw [List.foldl_cons, add_get l _ (fun x hx => by simp only [addL, List.length_set]; exact h x (by simp [hx])), addL, getD_set (by omega), List.count_cons]
    by_cases e : y.toNat = c
    · have : y = (c : Int) := by omega
      subst this
      rw [if_pos e]; simp
      rw [Int.mul_add]; omega
    · rw [if_neg e, if_neg (by simp; omega), Nat.add_zero]
/-- Whether the 'j'th neighbour of (i, k) is (a, b). -/
def isN (i k a b : Int) (j : Nat) : Nat := if posR i j = a ∧ posC k j = b then 1 else 0
theorem nbl_count {R C i k a b : Int} (ha : 0 ≤ a ∧ a < R) (hb : 0 ≤ b ∧ b < C) : ∀ j, (nbl R C i k (j + 1)).count (a * C + b) = (nbl R C i k j).count (a * C + b) + isN i k a b j := by
  intro j
  by_cases hin : InF R C (posR i j) (posC k j)
  · rw [nbl_t hin, List.count_append, isN]
    congr 1
    rw [List.count_singleton]
    by_cases e : posR i j = a ∧ posC k j = b
    · rw [if_pos e, e.1, e.2]; simp
    · rw [if_neg e, if_neg ?_]
      intro h
      have h' : posR i j * C + posC k j = a * C + b := by simpa using h
      obtain ⟨d1, d2⟩ := cell_div (a := posR i j) (b := posC k j) (C := C) hin.2
      obtain ⟨d3, d4⟩ := cell_div (a := a) (b := b) (C := C) hb
      rw [h'] at d1 d2
      exact e ⟨by rw [← d1, d3], by rw [← d2, d4]⟩
  · rw [nbl_f hin, isN, if_neg, Nat.add_zero]
    rintro ⟨rfl, rfl⟩
    exact hin ⟨ha, hb⟩
theorem nbl_count4 {R C i k a b : Int} (ha : 0 ≤ a ∧ a < R) (hb : 0 ≤ b ∧ b < C) : (nbl R C i k 4).count (a * C + b) = (if i - 1 = a ∧ k = b then 1 else 0) + (if i + 1 = a ∧ k = b then 1 else 0) + (if i = a ∧ k - 1 = b then 1 else 0) + (if i = a ∧ k + 1 = b then 1 else 0) := by
  rw [nbl_count ha hb 3, nbl_count ha hb 2, nbl_count ha hb 1, nbl_count ha hb 0]
  simp [nbl, isN, posR, posC]
theorem nbs_nat {R C c : Nat} : nbs R C (c : Int) = nbl R C ((c / C : Nat) : Int) ((c % C : Nat) : Int) 4 := rfl
theorem nb_sym {R C c x : Nat} (hc : c < R * C) (hx : x < R * C) : (nbs R C (c : Int)).count (x : Int) = (nbs R C (x : Int)).count (c : Int) := by
  obtain ⟨c1, c2, c3⟩ := div_mod_lt hc
  obtain ⟨x1, x2, x3⟩ := div_mod_lt hx
  have ec : (c : Int) = ((c / C : Nat) : Int) * C + ((c % C : Nat) : Int) := by rw [← Int.natCast_mul, ← Int.natCast_add, c3]
  have ex : (x : Int) = ((x / C : Nat) : Int) * C + ((x % C : Nat) : Int) := by rw [← Int.natCast_mul, ← Int.natCast_add, x3]
  rw [nbs_nat, nbs_nat]
  conv => lhs; rw [ex]
  conv => rhs; rw [ec]
  clear ec ex c3 x3 hc hx
  generalize c / C = i at *
  generalize c % C = k at *
  generalize x / C = a at *
  generalize x % C = b at *
  rw [nbl_count4 (by omega) (by omega), nbl_count4 (by omega) (by omega)]
  generalize (i : Int) = i
  generalize (k : Int) = k
  generalize (a : Int) = a
  generalize (b : Int) = b
  have e1 : (a - 1 = i ∧ b = k) = (i + 1 = a ∧ k = b) := propext (by omega)
  have e2 : (a + 1 = i ∧ b = k) = (i - 1 = a ∧ k = b) := propext (by omega)
  have e3 : (a = i ∧ b - 1 = k) = (i = a ∧ k + 1 = b) := propext (by omega)
  have e4 : (a = i ∧ b + 1 = k) = (i = a ∧ k - 1 = b) := propext (by omega)
  simp only [e1, e2, e3, e4]
  omega
theorem nb_self {R C c : Nat} (hc : c < R * C) : (nbs R C (c : Int)).count (c : Int) = 0 := by
  obtain ⟨c1, c2, c3⟩ := div_mod_lt hc
  have ec : (c : Int) = ((c / C : Nat) : Int) * C + ((c % C : Nat) : Int) := by rw [← Int.natCast_mul, ← Int.natCast_add, c3]
  rw [nbs_nat]
  conv => lhs; rw [ec]
  clear ec c3 hc
  generalize c / C = i at *
  generalize c % C = k at *
  rw [nbl_count4 (by omega) (by omega), if_neg (by omega), if_neg (by omega), if_neg (by omega), if_neg (by omega)]
def sN (u : Nat → Int) : List Int → Int
  | [] => 0
  | y :: l => u y.toNat + sN u l
theorem sN_app {u : Nat → Int} : ∀ (l m : List Int), sN u (l ++ m) = sN u l + sN u m
  | [], m => by simp [sN]
  | y :: l, m => by rw [List.cons_append, sN, sN, sN_app l m]; omega
def upN (u : Nat → Int) (x : Nat) (b : Int) : Nat → Int := fun c => if c = x then u c + b else u c
theorem sN_upd {u : Nat → Int} {x : Nat} {b : Int} : ∀ (l : List Int), (∀ y ∈ l, 0 ≤ y) → sN (upN u x b) l = sN u l + b * (l.count (x : Int) : Nat)
  | [], _ => by simp [sN]
  | y :: l, h => by
    have hy := h y (by simp)
    rw [sN, sN, sN_upd l (fun z hz => h z (by simp [hz])), List.count_cons, upN]
    by_cases e : y.toNat = x
    · have : y = (x : Int) := by omega
      subst this
      rw [if_pos e]; simp
      rw [Int.mul_add]; omega
    · rw [if_neg e, if_neg (by simp; omega), Nat.add_zero]; omega
theorem sN_mono {u v : Nat → Int} {n : Nat} (h : ∀ c, c < n → u c ≤ v c) : ∀ (l : List Int), (∀ y ∈ l, 0 ≤ y ∧ y < (n : Int)) → sN u l ≤ sN v l
  | [], _ => Int.le_refl 0
  | y :: l, hl => by
    have := sN_mono h l (fun z hz => hl z (by simp [hz]))
    have := hl y (by simp)
    have := h y.toNat (by omega)
    rw [sN, sN]; omega
theorem sN_nn {u : Nat → Int} (h : ∀ c, 0 ≤ u c) : ∀ (l : List Int), 0 ≤ sN u l
  | [] => Int.le_refl 0
  | y :: l => by have := sN_nn h l; have := h y.toNat; rw [sN]; omega
theorem sN_le {u : Nat → Int} {M : Int} (h : ∀ c, u c ≤ M) : ∀ (l : List Int), sN u l ≤ M * l.length
  | [] => by simp [sN]
  | y :: l => by have := sN_le h l; have := h y.toNat; rw [sN]; simp only [List.length_cons]; push_cast; rw [Int.mul_add]; omega
/-- How often cells may fall so that all come to rest. -/
def Stab (R C : Nat) (x0 : List Int) (v : Nat → Int) : Prop := (∀ c, 0 ≤ v c) ∧ ∀ c, c < R * C → x0.getD c 0 - 4 * v c + sN v (nbs R C (c : Int)) ≤ 3
structure HpOk (R C : Nat) (x0 zs : List Int) (u : Nat → Int) : Prop where
  len : zs.length = R * C
  eq : ∀ c, c < R * C → zs.getD c 0 = x0.getD c 0 - 4 * u c + sN u (nbs R C (c : Int))
  nn : ∀ c, 0 ≤ u c
  leg : ∀ v, Stab R C x0 v → ∀ c, c < R * C → u c ≤ v c
theorem nbs_nat_in {R C : Nat} {x : Int} : ∀ y ∈ nbs R C x, 0 ≤ y ∧ y < ((R * C : Nat) : Int) := fun y hy => by
  have := nbs_in y hy
  have e : ((R * C : Nat) : Int) = (R : Int) * C := by push_cast; rfl
  omega
theorem HpOk.start {R C : Nat} {x0 : List Int} (hl : x0.length = R * C) : HpOk R C x0 x0 (fun _ => 0) := by
  have hz : ∀ l, sN (fun _ => 0) l = 0 := fun l => by induction l with | nil => rfl | cons y l ih => rw [sN, ih]; rfl
  exact ⟨hl, fun c _ => by rw [hz]; omega, fun _ => Int.le_refl 0, fun v hv c _ => hv.1 c⟩
/-- A cell falls 'b' times. -/
theorem HpOk.fall {R C x : Nat} {x0 zs : List Int} {u : Nat → Int} {b : Int} (h : HpOk R C x0 zs u) (hx : x < R * C) (hb : 0 ≤ b) (hz : 4 * b ≤ zs.getD x 0) : HpOk R C x0 ((nbs R C (x : Int)).foldl (addL b) (zs.set x (zs.getD x 0 - 4 * b))) (upN u x b) := by
  have hl := h.len
  refine ⟨by rw [addL_len]; simp [hl], fun c hc => ?_, fun c => ?_, fun v hv c hc => ?_⟩
  · rw [add_get _ _ (fun y hy => by rw [List.length_set, hl]; exact nbs_nat_in y hy), getD_set (by omega), sN_upd _ (fun y hy => (nbs_nat_in y hy).1), nb_sym hc hx, upN]
    have e := h.eq c hc
    by_cases hcx : x = c
    · subst hcx; rw [if_pos rfl, if_pos rfl]; omega
    · rw [if_neg hcx, if_neg (fun g => hcx g.symm), e]; omega
  · have := h.nn c; unfold upN; split <;> omega
  · have h1 := h.leg v hv c hc
    unfold upN; split
    · rename_i e; subst e
      have h2 := hv.2 c hc
      have h3 := sN_mono (h.leg v hv) (nbs R C (c : Int)) nbs_nat_in
      have h4 := h.eq c hc
      omega
    · exact h1
/-- What is left in the end, and how often cells fell. -/
def Fin (R C : Nat) (x0 : List Int) (p : List Int × Int) : Prop := ∃ u, HpOk R C x0 p.1 u ∧ (∀ c, c < R * C → p.1.getD c 0 ≤ 3) ∧ p.2 = sg u (R * C)
theorem HpOk.stab {R C : Nat} {x0 zs : List Int} {u : Nat → Int} (h : HpOk R C x0 zs u) (h3 : ∀ c, c < R * C → zs.getD c 0 ≤ 3) : Stab R C x0 u :=
  ⟨h.nn, fun c hc => by have := h.eq c hc; have := h3 c hc; omega⟩
theorem Fin.uniq {R C : Nat} {x0 : List Int} {p q : List Int × Int} (hp : Fin R C x0 p) (hq : Fin R C x0 q) : p = q := by
  obtain ⟨u, a1, a2, a3⟩ := hp
  obtain ⟨v, b1, b2, b3⟩ := hq
  have e : ∀ c, c < R * C → u c = v c := fun c hc => by
    have := a1.leg v (b1.stab b2) c hc
    have := b1.leg u (a1.stab a2) c hc
    omega
  have e1 : p.1 = q.1 := ext_getD 0 (by rw [a1.len, b1.len]) fun c hc => by
    rw [a1.len] at hc
    have s1 := sN_mono (fun c hc => Int.le_of_eq (e c hc)) (nbs R C (c : Int)) nbs_nat_in
    have s2 := sN_mono (fun c hc => Int.le_of_eq (e c hc).symm) (nbs R C (c : Int)) nbs_nat_in
    rw [a1.eq c hc, b1.eq c hc, e c hc]; omega
  have e2 : p.2 = q.2 := by rw [a3, b3]; exact sg_congr e
  exact Prod.ext e1 e2
noncomputable def settled (R C : Nat) (x0 : List Int) : List Int × Int := Classical.epsilon (Fin R C x0)
theorem settled_eq {R C : Nat} {x0 : List Int} {p : List Int × Int} (h : Fin R C x0 p) : settled R C x0 = p := (Classical.epsilon_spec ⟨p, h⟩ : Fin R C x0 (settled R C x0)).uniq h
/-- So often is often enough. -/
def wR (R : Nat) (i : Int) : Int := 8 * ((i + 1) * ((R : Int) - i))
def wS (R C : Nat) (c : Nat) : Int := if c < R * C then wR R ((c / C : Nat) : Int) else 0
theorem wR_in {R : Nat} {i : Int} (hR : R ≤ 24) (h : -1 ≤ i ∧ i ≤ R) : 0 ≤ wR R i ∧ wR R i ≤ 5000 := by
  have h1 := Int.mul_nonneg (show 0 ≤ i + 1 by omega) (show 0 ≤ (R : Int) - i by omega)
  have h2 := Int.mul_le_mul (show i + 1 ≤ 25 by omega) (show (R : Int) - i ≤ 25 by omega) (by omega) (by omega)
  unfold wR; omega
theorem wS_in {R C : Nat} (hR : R ≤ 24) (c : Nat) : 0 ≤ wS R C c ∧ wS R C c ≤ 5000 := by
  unfold wS
  split
  · rename_i hc
    have h := (div_mod_lt hc).1
    generalize c / C = i at *
    exact wR_in hR (by omega)
  · omega
theorem wS_nbl {R C : Nat} {i k : Int} (hR : R ≤ 24) (hi : 0 ≤ i ∧ i < R) : ∀ j, sN (wS R C) (nbl R C i k (j + 1)) ≤ sN (wS R C) (nbl R C i k j) + wR R (posR i j) := by
  intro j
  have hw := (wR_in (i := posR i j) hR (by unfold posR; split <;> omega)).1
  by_cases hin : InF R C (posR i j) (posC k j)
  · rw [nbl_t hin, sN_app, sN, sN, Int.add_zero]
    have : wS R C (posR i j * C + posC k j).toNat = wR R (posR i j) := by
      obtain ⟨a, ha⟩ : ∃ a : Nat, posR i j = a := ⟨(posR i j).toNat, by have := hin.1; omega⟩
      obtain ⟨b, hb⟩ : ∃ b : Nat, posC k j = b := ⟨(posC k j).toNat, by have := hin.2; omega⟩
      have h1 := hin.1
      have h2 := hin.2
      rw [ha] at h1
      rw [hb] at h2
      rw [ha, hb, toNat_cell, wS, if_pos (lt_mul (by omega) (by omega))]
      congr 2
      rw [Nat.mul_comm, Nat.mul_add_div (by omega), Nat.div_eq_of_lt (by omega), Nat.add_zero]
    rw [this]; exact Int.le_refl _
  · rw [nbl_f hin]; omega
theorem wS_stab {R C : Nat} {x0 : List Int} (hR : R ≤ 24) (hx : ∀ c, x0.getD c 0 ≤ 18) : Stab R C x0 (wS R C) := by
  refine ⟨fun c => (wS_in hR c).1, fun c hc => ?_⟩
  obtain ⟨c1, c2, c3⟩ := div_mod_lt hc
  rw [nbs_nat]
  have hw : wS R C c = wR R ((c / C : Nat) : Int) := by rw [wS, if_pos hc]
  have hx' := hx c
  rw [hw]
  clear c3 hw hc
  generalize c / C = i at *
  generalize c % C = k at *
  have hi : (0 : Int) ≤ (i : Int) ∧ (i : Int) < R := by omega
  have h3 : sN (wS R C) (nbl R C (i : Int) (k : Int) 4) ≤ sN (wS R C) (nbl R C (i : Int) (k : Int) 3) + wR R (posR (i : Int) 3) := wS_nbl hR hi 3
  have h2 : sN (wS R C) (nbl R C (i : Int) (k : Int) 3) ≤ sN (wS R C) (nbl R C (i : Int) (k : Int) 2) + wR R (posR (i : Int) 2) := wS_nbl hR hi 2
  have h1 : sN (wS R C) (nbl R C (i : Int) (k : Int) 2) ≤ sN (wS R C) (nbl R C (i : Int) (k : Int) 1) + wR R (posR (i : Int) 1) := wS_nbl hR hi 1
  have h0 : sN (wS R C) (nbl R C (i : Int) (k : Int) 1) ≤ sN (wS R C) (nbl R C (i : Int) (k : Int) 0) + wR R (posR (i : Int) 0) := wS_nbl hR hi 0
  have e3 : posR (i : Int) 3 = i := rfl
  have e2 : posR (i : Int) 2 = i := rfl
  have e1 : posR (i : Int) 1 = i + 1 := rfl
  have e0 : posR (i : Int) 0 = i - 1 := rfl
  rw [e3] at h3
  rw [e2] at h2
  rw [e1] at h1
  rw [e0] at h0
  have hz : sN (wS R C) (nbl R C (i : Int) (k : Int) 0) = 0 := rfl
  have key : wR R ((i : Int) - 1) + wR R ((i : Int) + 1) = 2 * wR R (i : Int) - 16 := by
    unfold wR
    generalize (i : Int) = i
    generalize (R : Int) = R
    have f1 : (i - 1 + 1) * (R - (i - 1)) = i * R - i * i + i := by rw [show i - 1 + 1 = i by omega, Int.mul_sub, Int.mul_sub]; omega
    have f2 : (i + 1 + 1) * (R - (i + 1)) = i * R - i * i - i + 2 * R - 2 * i - 2 := by rw [Int.mul_sub, Int.add_mul, Int.add_mul, Int.mul_add, Int.add_mul, Int.add_mul]; omega
    have f3 : (i + 1) * (R - i) = i * R - i * i + R - i := by rw [Int.mul_sub, Int.add_mul, Int.add_mul]; omega
    rw [f1, f2, f3]; omega
  omega

end Go.Proofs.Ytckobcjjbpnkcaa
