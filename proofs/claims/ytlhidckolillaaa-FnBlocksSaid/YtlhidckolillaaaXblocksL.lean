/- Blocks lead back; ants change one cell a step. -/
import Derived.Test.YtlhidckolillaaaXblocksP
import Derived.Test.YtlhidckolillaaaXbackTable
import Derived.Test.YtlhidckolillaaaXant
import Derived.Test.YtlhidckolillaaaXcount
import Derived.Test.YtlhidckolillaaaXmoveds
import Derived.Test.YtlhidckolillaaaFB
namespace Go.Proofs.Ytlhidckolillaaa
open Go Go.RowKit
set_option linter.unusedVariables false
set_option linter.unusedSimpArgs false
set_option maxRecDepth 100000
set_option maxHeartbeats 8000000

/-! ### tables and their backs -/
theorem Turn.in {t : List Int} (h : Turn t) {i : Nat} (hi : i < 16) : 0 ≤ t.getD i 0 ∧ t.getD i 0 ≤ 15 := (h.2 i (by rw [h.1]; exact hi)).1
theorem Turn.inj {t : List Int} (h : Turn t) {i j : Nat} (hi : i < 16) (hj : j < 16) (e : t.getD i 0 = t.getD j 0) : i = j := by
  rcases Nat.lt_trichotomy i j with g | g | g
  · exact absurd (by rw [← e]; exact mem_take g (by have := h.1; omega)) (h.2 j (by rw [h.1]; exact hj)).2
  · exact g
  · exact absurd (by rw [e]; exact mem_take g (by have := h.1; omega)) (h.2 i (by rw [h.1]; exact hi)).2
theorem Turn.of {t : List Int} (hl : t.length = 16) (h1 : ∀ i, i < 16 → 0 ≤ t.getD i 0 ∧ t.getD i 0 ≤ 15) (h2 : ∀ i j, i < 16 → j < 16 → t.getD i 0 = t.getD j 0 → i = j) : Turn t := by
  refine ⟨hl, fun j hj => ?_⟩
  rw [hl] at hj
  refine ⟨h1 j hj, fun hm => ?_⟩
  obtain ⟨i, hi, e⟩ := mem_get (d := 0) hm
  have hij : i < j := by simp at hi; omega
  rw [getD_take hij] at e
  have := h2 i j (by omega) hj e
  omega
theorem bak_at {t : List Int} (h : Turn t) : ∀ n, n ≤ 16 → ∀ i, i < n → (bak t n).getD (t.getD i 0).toNat 0 = i
  | 0, _, i, hi => by omega
  | n + 1, hn, i, hi => by
    have h1 := h.in (i := n) (by omega)
    have h2 := h.in (i := i) (by omega)
    rw [bak, getD_set (by rw [bak_len]; omega)]
    by_cases e : i = n
    · subst e; rw [if_pos rfl]
    · rw [if_neg (fun g => e (h.inj (by omega) (by omega) (by omega)))]
      exact bak_at h n (by omega) i (by omega)
theorem bak_on {t : List Int} (h : Turn t) {j : Nat} (hj : j < 16) : ∃ i, i < 16 ∧ t.getD i 0 = j := by
  -- sixteen different numbers below sixteen are all of them
  apply Classical.byContradiction; intro hno
  have hno' : ∀ i, i < 16 → t.getD i 0 ≠ j := fun i hi e => hno ⟨i, hi, e⟩
  -- without 'j' there is room for fifteen only
  have key : ∀ (m : Nat) (f : Nat → Nat), (∀ i, i < m + 1 → f i < m) → (∀ a b, a < m + 1 → b < m + 1 → f a = f b → a = b) → False := by
    intro m
    induction m with
    | zero => intro f h1 _; have := h1 0 (by omega); omega
    | succ m ih =>
      intro f h1 h2
      refine ih (fun i => if f i = m then f (m + 1) else f i) (fun i hi => ?_) (fun a b ha hb e => ?_)
      · show (if f i = m then f (m + 1) else f i) < m
        have a1 := h1 i (by omega)
        have a2 := h1 (m + 1) (by omega)
        split
        · rename_i g
          have : f (m + 1) ≠ m := fun q => by have := h2 i (m + 1) (by omega) (by omega) (by omega); omega
          omega
        · omega
      · have e' : (if f a = m then f (m + 1) else f a) = (if f b = m then f (m + 1) else f b) := e
        by_cases ga : f a = m
        · rw [if_pos ga] at e'
          by_cases gb : f b = m
          · exact h2 a b (by omega) (by omega) (by omega)
          · rw [if_neg gb] at e'
            have := h2 (m + 1) b (by omega) (by omega) e'; omega
        · rw [if_neg ga] at e'
          by_cases gb : f b = m
          · rw [if_pos gb] at e'
            have := h2 a (m + 1) (by omega) (by omega) e'; omega
          · rw [if_neg gb] at e'
            exact h2 a b (by omega) (by omega) e'
  refine key 15 (fun i => if t.getD i 0 = 15 then j else (t.getD i 0).toNat) (fun i hi => ?_) (fun a b ha hb e => ?_)
  · show (if t.getD i 0 = 15 then j else (t.getD i 0).toNat) < 15
    have a1 := h.in (i := i) (by omega)
    have a2 := hno' i (by omega)
    split
    · omega
    · omega
  · have e' : (if t.getD a 0 = 15 then j else (t.getD a 0).toNat) = (if t.getD b 0 = 15 then j else (t.getD b 0).toNat) := e
    have a1 := h.in (i := a) (by omega)
    have a2 := h.in (i := b) (by omega)
    have b1 := hno' a (by omega)
    have b2 := hno' b (by omega)
    refine h.inj (by omega) (by omega) ?_
    split at e' <;> split at e' <;> omega
theorem bak_turn {t : List Int} (h : Turn t) : Turn (bak t 16) := by
  refine Turn.of (bak_len 16) (fun j hj => ?_) (fun i j hi hj e => ?_)
  · obtain ⟨i, hi, e⟩ := bak_on h hj
    have := bak_at h 16 (Nat.le_refl _) i hi
    rw [e, Int.toNat_natCast] at this; omega
  · obtain ⟨a, ha, ea⟩ := bak_on h hi
    obtain ⟨b, hb, eb⟩ := bak_on h hj
    have h1 := bak_at h 16 (Nat.le_refl _) a ha
    have h2 := bak_at h 16 (Nat.le_refl _) b hb
    rw [ea, Int.toNat_natCast] at h1
    rw [eb, Int.toNat_natCast] at h2
    have : a = b := by omega
    subst this; omega
theorem bak_bak {t : List Int} (h : Turn t) : bak (bak t 16) 16 = t := by
  refine ext_getD 0 (by rw [bak_len, h.1]) fun i hi => ?_
  rw [bak_len] at hi
  have h1 := bak_at h 16 (Nat.le_refl _) i hi
  have h2 := h.in hi
  have h3 := bak_at (bak_turn h) 16 (Nat.le_refl _) (t.getD i 0).toNat (by omega)
  rw [h1, Int.toNat_natCast] at h3
  omega
/-! ### blocks -/
theorem look_true {R C : Int} {xs : List Int} {i k : Int} : lookV R C xs i k true = cel xs C (i % R) (k % C) := by simp [lookV]
/-- What a field is behind a step, around a block that begins at (a, b). -/
theorem blk_bits {z : Int} (h : 0 ≤ z ∧ z ≤ 15) : z / 1 % 2 + z / 2 % 2 * 2 + z / 4 % 2 * 4 + z / 8 % 2 * 8 = z := by omega
theorem blkV_look {xs tab : List Int} {R C : Nat} {f : Int} (hR : (R : Int) % 2 = 0 ∧ 0 < R) (hC : (C : Int) % 2 = 0 ∧ 0 < C) {a b i k : Int} (hi : 0 ≤ i ∧ i ≤ 1) (hk : 0 ≤ k ∧ k ≤ 1) (ha : (a - f) % 2 = 0) (hb : (b - f) % 2 = 0) :
    lookV R C (mk R C (blkV xs tab R C f)) (a + i) (b + k) true = tab.getD (blkQ xs R C a b).toNat 0 / pw (2 * i + k) % 2 := by
  have m1 := emod_in (a := a + i) (b := (R : Int)) (by omega)
  have m2 := emod_in (a := b + k) (b := (C : Int)) (by omega)
  rw [look_true, cel_mk m1 m2, blkV]
  have e1 : ((a + i) % (R : Int) - f) % 2 = i := by
    have : (a + i) % (R : Int) % 2 = (a + i) % 2 := Int.emod_emod_of_dvd _ (by have := hR.1; omega)
    omega
  have e2 : ((b + k) % (C : Int) - f) % 2 = k := by
    have : (b + k) % (C : Int) % 2 = (b + k) % 2 := Int.emod_emod_of_dvd _ (by have := hC.1; omega)
    omega
  rw [e1, e2, blkQ_mod (a' := a) (b' := b)]
  · rw [Int.emod_sub_emod]; congr 1; omega
  · rw [Int.emod_sub_emod]; congr 1; omega
theorem blkQ_step {xs tab : List Int} {R C : Nat} {f : Int} (ht : ∀ n, n < 16 → 0 ≤ tab.getD n 0 ∧ tab.getD n 0 ≤ 15) (hp : PL R C xs) (hR : (R : Int) % 2 = 0 ∧ 0 < R) (hC : (C : Int) % 2 = 0 ∧ 0 < C) {a b : Int} (ha : (a - f) % 2 = 0) (hb : (b - f) % 2 = 0) :
    blkQ (mk R C (blkV xs tab R C f)) R C a b = tab.getD (blkQ xs R C a b).toNat 0 := by
  have g1 := blkV_look (xs := xs) (tab := tab) (i := 0) (k := 0) hR hC (by omega) (by omega) ha hb
  have g2 := blkV_look (xs := xs) (tab := tab) (i := 0) (k := 1) hR hC (by omega) (by omega) ha hb
  have g3 := blkV_look (xs := xs) (tab := tab) (i := 1) (k := 0) hR hC (by omega) (by omega) ha hb
  have g4 := blkV_look (xs := xs) (tab := tab) (i := 1) (k := 1) hR hC (by omega) (by omega) ha hb
  rw [Int.add_zero, Int.add_zero] at g1
  rw [Int.add_zero] at g2 g3
  have hq := blkQ_in hp a b
  have hz := ht (blkQ xs R C a b).toNat (by omega)
  have p0 : pw (2 * 0 + 0) = 1 := by decide
  have p1 : pw (2 * 0 + 1) = 2 := by decide
  have p2 : pw (2 * 1 + 0) = 4 := by decide
  have p3 : pw (2 * 1 + 1) = 8 := by decide
  rw [p0] at g1
  rw [p1] at g2
  rw [p2] at g3
  rw [p3] at g4
  rw [blkQ, g1, g2, g3, g4]
  exact blk_bits hz
/-- A cell is its bit of the block's number. -/
theorem blk_cell {R C : Nat} {xs : List Int} (hp : PL R C xs) {f : Int} (hR : (R : Int) % 2 = 0 ∧ 0 < R) (hC : (C : Int) % 2 = 0 ∧ 0 < C) {i k : Nat} (hi : i < R) (hk : k < C) :
    blkQ xs R C ((i : Int) - ((i : Int) - f) % 2) ((k : Int) - ((k : Int) - f) % 2) / pw (2 * (((i : Int) - f) % 2) + ((k : Int) - f) % 2) % 2 = cel xs C i k := by
  have b1 := emod_in (a := (i : Int) - f) (b := 2) (by omega)
  have b2 := emod_in (a := (k : Int) - f) (b := 2) (by omega)
  obtain ⟨u, hu⟩ : ∃ u, ((i : Int) - f) % 2 = u := ⟨_, rfl⟩
  obtain ⟨v, hv⟩ : ∃ u, ((k : Int) - f) % 2 = u := ⟨_, rfl⟩
  rw [hu] at b1 ⊢
  rw [hv] at b2 ⊢
  have l1 := look_in hp ((i : Int) - u) ((k : Int) - v) true
  have l2 := look_in hp ((i : Int) - u) ((k : Int) - v + 1) true
  have l3 := look_in hp ((i : Int) - u + 1) ((k : Int) - v) true
  have l4 := look_in hp ((i : Int) - u + 1) ((k : Int) - v + 1) true
  have own : ∀ a b : Int, a = i → b = k → lookV R C xs a b true = cel xs C i k := fun a b e1 e2 => by
    rw [look_true, e1, e2, Int.emod_eq_of_lt (by omega) (by omega), Int.emod_eq_of_lt (by omega) (by omega)]
  have p0 : pw (2 * 0 + 0) = 1 := by decide
  have p1 : pw (2 * 0 + 1) = 2 := by decide
  have p2 : pw (2 * 1 + 0) = 4 := by decide
  have p3 : pw (2 * 1 + 1) = 8 := by decide
  unfold blkQ
  obtain rfl | rfl : u = 0 ∨ u = 1 := by omega
  · obtain rfl | rfl : v = 0 ∨ v = 1 := by omega
    · rw [p0]; have := own ((i : Int) - 0) ((k : Int) - 0) (by omega) (by omega); omega
    · rw [p1]; have := own ((i : Int) - 0) ((k : Int) - 1 + 1) (by omega) (by omega); omega
  · obtain rfl | rfl : v = 0 ∨ v = 1 := by omega
    · rw [p2]; have := own ((i : Int) - 1 + 1) ((k : Int) - 0) (by omega) (by omega); omega
    · rw [p3]; have := own ((i : Int) - 1 + 1) ((k : Int) - 1 + 1) (by omega) (by omega); omega
theorem blk_back {R C : Nat} {xs tab : List Int} (hp : PL R C xs) (ht : Turn tab) {f : Int} (hR : (R : Int) % 2 = 0 ∧ 0 < R) (hC : (C : Int) % 2 = 0 ∧ 0 < C) (hl : xs.length = R * C) :
    mk R C (blkV (mk R C (blkV xs tab R C f)) (bak tab 16) R C f) = xs := by
  refine (mk_eq hl fun i k hi hk => ?_).symm
  have b1 := emod_in (a := (i : Int) - f) (b := 2) (by omega)
  have b2 := emod_in (a := (k : Int) - f) (b := 2) (by omega)
  have hq := blkQ_in hp ((i : Int) - ((i : Int) - f) % 2) ((k : Int) - ((k : Int) - f) % 2)
  have hb := bak_at ht 16 (Nat.le_refl _) (blkQ xs R C ((i : Int) - ((i : Int) - f) % 2) ((k : Int) - ((k : Int) - f) % 2)).toNat (by omega)
  rw [blkV, blkQ_step (fun n hn => ht.in hn) hp hR hC (by omega) (by omega), hb, ← cel_nat, ← blk_cell hp (f := f) hR hC hi hk]
  rw [show (((blkQ xs R C ((i : Int) - ((i : Int) - f) % 2) ((k : Int) - ((k : Int) - f) % 2)).toNat : Nat) : Int) = blkQ xs R C ((i : Int) - ((i : Int) - f) % 2) ((k : Int) - ((k : Int) - f) % 2) by omega]
theorem blk_same {R C : Nat} {xs tab : List Int} (hp : PL R C xs) (ht : ∀ n : Nat, n < 16 → tab.getD n 0 = n) {f : Int} (hR : (R : Int) % 2 = 0 ∧ 0 < R) (hC : (C : Int) % 2 = 0 ∧ 0 < C) (hl : xs.length = R * C) :
    mk R C (blkV xs tab R C f) = xs := by
  refine (mk_eq hl fun i k hi hk => ?_).symm
  have hq := blkQ_in hp ((i : Int) - ((i : Int) - f) % 2) ((k : Int) - ((k : Int) - f) % 2)
  rw [blkV, ht _ (by omega), ← cel_nat, ← blk_cell hp (f := f) hR hC hi hk]
  rw [show (((blkQ xs R C ((i : Int) - ((i : Int) - f) % 2) ((k : Int) - ((k : Int) - f) % 2)).toNat : Nat) : Int) = blkQ xs R C ((i : Int) - ((i : Int) - f) % 2) ((k : Int) - ((k : Int) - f) % 2) by omega]
theorem blk_pl {R C : Nat} {xs tab : List Int} {f : Int} (hp : PL R C xs) : PL R C (mk R C (blkV xs tab R C f)) := by
  refine ⟨⟨hp.1.1, hp.1.2.1, by simp, fun y hy => ?_⟩, fun y hy => ?_⟩
  all_goals
    obtain ⟨j, hj, rfl⟩ := mem_get (d := 0) hy
    rw [mk_len] at hj
    obtain ⟨h1, h2, h3⟩ := div_mod_lt hj
    rw [← h3, mk_get h1 h2, blkV]
    omega
/-! ### ants -/
theorem antRun_one {R C : Int} {A : Ant} : ∀ n, antRun R C (antRun R C A 1) n = antRun R C A (n + 1)
  | 0 => rfl
  | n + 1 => by rw [antRun, antRun_one n]; rfl
theorem dif_set {xs ys : List Int} {j : Nat} {v : Int} (hj : j < ys.length) : ∀ n, ((dif (ys.set j v) xs n : Nat) : Int) = (dif ys xs n : Nat) + if j < n then (if v = xs.getD j 0 then 0 else 1) - (if ys.getD j 0 = xs.getD j 0 then 0 else 1) else 0
  | 0 => by simp [dif]
  | n + 1 => by
    have ih := dif_set (xs := xs) (v := v) hj n
    have e1 : ((dif (ys.set j v) xs (n + 1) : Nat) : Int) = (dif (ys.set j v) xs n : Nat) + if (if j = n then v else ys.getD n 0) = xs.getD n 0 then 0 else 1 := by
      rw [← getD_set hj, dif]; push_cast; split <;> rfl
    have e2 : ((dif ys xs (n + 1) : Nat) : Int) = (dif ys xs n : Nat) + if ys.getD n 0 = xs.getD n 0 then 0 else 1 := by
      rw [dif]; push_cast; split <;> rfl
    rw [e1, e2, ih]
    generalize ((dif ys xs n : Nat) : Int) = D
    by_cases e : j = n
    · subst e
      simp only [Nat.lt_irrefl, if_false, if_true, Nat.lt_add_one]
      omega
    · by_cases h2 : j < n
      · simp only [e, h2, if_false, if_true, show j < n + 1 by omega]
        omega
      · simp only [e, h2, if_false, show ¬ j < n + 1 by omega]
        omega
/-- How many cells differ: not more than steps, and as odd as they. -/
theorem ant_dif {R C : Nat} {xs : List Int} {row col way : Int} (hx : ∀ n, xs.getD n 0 = 0 ∨ xs.getD n 0 = 1) (h0 : ∀ n, AntOk R C (antRun R C (xs, row, col, way) n)) : ∀ n : Nat, ((dif (antRun R C (xs, row, col, way) n).1 xs (R * C) : Nat) : Int) ≤ n ∧ (((dif (antRun R C (xs, row, col, way) n).1 xs (R * C) : Nat) : Int) - n) % 2 = 0
  | 0 => by
    have : ∀ n, dif xs xs n = 0 := fun n => by induction n with | zero => rfl | succ n ih => rw [dif, ih, if_pos rfl]
    show ((dif xs xs (R * C) : Nat) : Int) ≤ _ ∧ _
    have h := this (R * C)
    constructor
    · rw [h]; exact Int.le_refl _
    · show (((dif xs xs (R * C) : Nat) : Int) - _) % 2 = 0
      rw [h]; rfl
  | n + 1 => by
    have ih := ant_dif hx h0 n
    have hok := h0 n
    obtain ⟨⟨zs, r, c, w⟩, hA⟩ : ∃ A, antRun R C (xs, row, col, way) n = A := ⟨_, rfl⟩
    rw [antRun, hA]
    rw [hA] at ih hok
    have hat := hok.at
    obtain ⟨k1, k2, k3, k4, k5⟩ := hok
    have hz := k2 _ (getD_mem (d := 0) (show (r * C + c).toNat < zs.length by omega))
    have hxx := hx (r * C + c).toNat
    have hd := dif_set (xs := xs) (v := 1 - zs.getD (r * C + c).toNat 0) (show (r * C + c).toNat < zs.length by omega) (R * C)
    rw [if_pos (by omega)] at hd
    have e : (antStep R C (zs, r, c, w)).1 = zs.set (r * C + c).toNat (1 - zs.getD (r * C + c).toNat 0) := rfl
    rw [e, hd]
    simp only at ih
    push_cast
    obtain g | g : zs.getD (r * C + c).toNat 0 = 0 ∨ zs.getD (r * C + c).toNat 0 = 1 := by omega
    · rw [g]
      rcases hxx with q | q <;> rw [q] <;> simp <;> omega
    · rw [g]
      rcases hxx with q | q <;> rw [q] <;> simp <;> omega

end Go.Proofs.Ytlhidckolillaaa
