/- Blocks of cells become other ones: plain facts. -/
import Derived.Test.YtlhidckolillaaaXbits
import Derived.Test.YtlhidckolillaaaXturn
import Derived.Test.YtlhidckolillaaaXfieldAt
import Derived.Test.YtlhidckolillaaaXplain
import Derived.Test.YtlhidckolillaaaFB
namespace Go.Proofs.Ytlhidckolillaaa
open Go Go.RowKit
set_option linter.unusedVariables false
set_option linter.unusedSimpArgs false
set_option maxRecDepth 100000
set_option maxHeartbeats 8000000


def pw (s : Int) : Int := if s = 0 then 1 else if s = 1 then 2 else if s = 2 then 4 else 8
theorem pw_in (s : Int) (h : 0 ≤ s ∧ s ≤ 3) : (s = 0 ∧ pw s = 1) ∨ (s = 1 ∧ pw s = 2) ∨ (s = 2 ∧ pw s = 4) ∨ (s = 3 ∧ pw s = 8) := by
  unfold pw; (repeat' split) <;> omega
/-- The number of the block that begins at a cell. -/
def blkQ (xs : List Int) (R C a b : Int) : Int := lookV R C xs a b true + lookV R C xs a (b + 1) true * 2 + lookV R C xs (a + 1) b true * 4 + lookV R C xs (a + 1) (b + 1) true * 8
/-- The same of its first cells only. -/
def blkT (xs : List Int) (R C a b : Int) : Nat → Int
  | 0 => 0
  | 1 => lookV R C xs a b true
  | 2 => lookV R C xs a b true + lookV R C xs a (b + 1) true * 2
  | 3 => lookV R C xs a b true + lookV R C xs a (b + 1) true * 2 + lookV R C xs (a + 1) b true * 4
  | _ => blkQ xs R C a b
/-- A cell behind a step of blocks. -/
def blkV (xs tab : List Int) (R C from_ i k : Int) : Int := tab.getD (blkQ xs R C (i - (i - from_) % 2) (k - (k - from_) % 2)).toNat 0 / pw (2 * ((i - from_) % 2) + (k - from_) % 2) % 2
theorem look_in {R C : Int} {xs : List Int} (h : PL R C xs) (i k : Int) (t : Bool) : 0 ≤ lookV R C xs i k t ∧ lookV R C xs i k t ≤ 1 := by
  have hz : ∀ n : Nat, 0 ≤ xs.getD n 0 ∧ xs.getD n 0 ≤ 1 := fun n => by
    by_cases hn : n < xs.length
    · exact h.2 _ (getD_mem hn)
    · rw [List.getD_eq_getElem?_getD, List.getElem?_eq_none (by omega)]; exact ⟨Int.le_refl 0, by decide⟩
  unfold lookV
  split
  · exact hz _
  · split
    · exact hz _
    · omega
theorem blkQ_in {R C : Int} {xs : List Int} (h : PL R C xs) (a b : Int) : 0 ≤ blkQ xs R C a b ∧ blkQ xs R C a b ≤ 15 := by
  have h1 := look_in h a b true
  have h2 := look_in h a (b + 1) true
  have h3 := look_in h (a + 1) b true
  have h4 := look_in h (a + 1) (b + 1) true
  unfold blkQ; omega
theorem blkT_in {R C : Int} {xs : List Int} (h : PL R C xs) (a b : Int) {t : Nat} (ht : t ≤ 3) : 0 ≤ blkT xs R C a b t ∧ blkT xs R C a b t < pw t := by
  have h1 := look_in h a b true
  have h2 := look_in h a (b + 1) true
  have h3 := look_in h (a + 1) b true
  obtain rfl | rfl | rfl | rfl : t = 0 ∨ t = 1 ∨ t = 2 ∨ t = 3 := by omega
  · exact ⟨Int.le_refl 0, (by decide : (0 : Int) < pw ((0 : Nat) : Int))⟩
  · have e : pw ((1 : Nat) : Int) = 2 := by decide
    rw [e]; simp only [blkT]; omega
  · have e : pw ((2 : Nat) : Int) = 4 := by decide
    rw [e]; simp only [blkT]; omega
  · have e : pw ((3 : Nat) : Int) = 8 := by decide
    rw [e]; simp only [blkT]; omega
theorem blkT_succ {R C : Int} {xs : List Int} (a b : Int) {t : Nat} (ht : t ≤ 3) : blkT xs R C a b (t + 1) = blkT xs R C a b t + lookV R C xs (a + (t : Int) / 2) (b + (t : Int) % 2) true * pw t := by
  obtain rfl | rfl | rfl | rfl : t = 0 ∨ t = 1 ∨ t = 2 ∨ t = 3 := by omega
  · have e : pw ((0 : Nat) : Int) = 1 := by decide
    have e1 : a + ((0 : Nat) : Int) / 2 = a := by omega
    have e2 : b + ((0 : Nat) : Int) % 2 = b := by omega
    rw [e, e1, e2]; simp only [blkT]; omega
  · have e : pw ((1 : Nat) : Int) = 2 := by decide
    have e1 : a + ((1 : Nat) : Int) / 2 = a := by omega
    have e2 : b + ((1 : Nat) : Int) % 2 = b + 1 := by omega
    rw [e, e1, e2]; rfl
  · have e : pw ((2 : Nat) : Int) = 4 := by decide
    have e1 : a + ((2 : Nat) : Int) / 2 = a + 1 := by omega
    have e2 : b + ((2 : Nat) : Int) % 2 = b := by omega
    rw [e, e1, e2]; rfl
  · have e : pw ((3 : Nat) : Int) = 8 := by decide
    have e1 : a + ((3 : Nat) : Int) / 2 = a + 1 := by omega
    have e2 : b + ((3 : Nat) : Int) % 2 = b + 1 := by omega
    rw [e, e1, e2]; rfl
theorem blkQ_mod {xs : List Int} {R C a a' b b' : Int} (ha : a % R = a' % R) (hb : b % C = b' % C) : blkQ xs R C a b = blkQ xs R C a' b' := by
  have e1 : (a + 1) % R = (a' + 1) % R := by rw [Int.add_emod, ha, ← Int.add_emod]
  have e2 : (b + 1) % C = (b' + 1) % C := by rw [Int.add_emod, hb, ← Int.add_emod]
  simp only [blkQ, lookV, if_true, ha, hb, e1, e2]
/-- Where a cell of a block comes to lie. -/
theorem blk_off {R x f : Int} {a : Int} (h2 : R % 2 = 0) (ha : 0 ≤ a ∧ a ≤ 1) : ((x + a) % R - f) % 2 = (x + a - f) % 2 := by
  have : (x + a) % R % 2 = (x + a) % 2 := Int.emod_emod_of_dvd _ (by omega)
  omega
theorem blkV_at {xs tab : List Int} {R C f : Int} {I K : Nat} {a b : Int} (hR : R % 2 = 0) (hC : C % 2 = 0) (ha : 0 ≤ a ∧ a ≤ 1) (hb : 0 ≤ b ∧ b ≤ 1) :
    blkV xs tab R C f ((f + 2 * I + a) % R) ((f + 2 * K + b) % C) = tab.getD (blkQ xs R C (f + 2 * I) (f + 2 * K)).toNat 0 / pw (2 * a + b) % 2 := by
  have e1 : ((f + 2 * (I : Int) + a) % R - f) % 2 = a := by rw [blk_off hR ha]; omega
  have e2 : ((f + 2 * (K : Int) + b) % C - f) % 2 = b := by rw [blk_off hC hb]; omega
  rw [blkV, e1, e2, blkQ_mod (a' := f + 2 * I) (b' := f + 2 * K)]
  · rw [Int.emod_sub_emod]; congr 1; omega
  · rw [Int.emod_sub_emod]; congr 1; omega
/-- Which cells are done: 'u', 'v' are a cell's distances from the first block. -/
def BDone (I K t : Nat) (u v : Int) : Prop := u < 2 * I ∨ (u < 2 * I + 2 ∧ v < 2 * K) ∨ (u < 2 * I + 2 ∧ v < 2 * K + 2 ∧ 2 * (u - 2 * I) + (v - 2 * K) < t)
def BInv (xs tab : List Int) (R C : Nat) (f : Int) (I K t : Nat) (ys : List Int) : Prop := ys.length = R * C ∧ ∀ r c : Nat, r < R → c < C → BDone I K t (((r : Int) - f) % R) (((c : Int) - f) % C) → ys.getD (r * C + c) 0 = blkV xs tab R C f r c
theorem BInv.set {xs tab ys : List Int} {R C : Nat} {f : Int} {I K t : Nat} {a b : Int} (hf : 0 ≤ f ∧ f ≤ 1) (hR : (R : Int) % 2 = 0 ∧ 0 < R) (hC : (C : Int) % 2 = 0 ∧ 0 < C) (hI : 2 * I + 2 ≤ R) (hK : 2 * K + 2 ≤ C) (hab : (0 ≤ a ∧ a ≤ 1) ∧ 0 ≤ b ∧ b ≤ 1) (ht : 2 * a + b = (t : Int)) (h : BInv xs tab R C f I K t ys) :
    BInv xs tab R C f I K (t + 1) (ys.set ((f + 2 * I + a) % R * C + (f + 2 * K + b) % C).toNat (tab.getD (blkQ xs R C (f + 2 * I) (f + 2 * K)).toNat 0 / pw t % 2)) := by
  have m1 := emod_in (a := f + 2 * I + a) (b := (R : Int)) (by omega)
  have m2 := emod_in (a := f + 2 * K + b) (b := (C : Int)) (by omega)
  have hV := blkV_at (xs := xs) (tab := tab) (f := f) (I := I) (K := K) hR.1 hC.1 hab.1 hab.2
  have q1 : ((f + 2 * I + a) % (R : Int) - f) % (R : Int) = 2 * I + a := by
    rw [Int.emod_sub_emod, show f + 2 * (I : Int) + a - f = 2 * I + a by omega]; exact Int.emod_eq_of_lt (by omega) (by omega)
  have q2 : ((f + 2 * K + b) % (C : Int) - f) % (C : Int) = 2 * K + b := by
    rw [Int.emod_sub_emod, show f + 2 * (K : Int) + b - f = 2 * K + b by omega]; exact Int.emod_eq_of_lt (by omega) (by omega)
  rw [ht] at hV
  have back : ∀ {n : Nat} {r : Nat} {z : Int}, r < n → ((r : Int) - f) % n = z → (z + f) % n = r := fun {n r z} hr e => by
    rw [← e, Int.emod_add_emod, show (r : Int) - f + f = r by omega]; exact Int.emod_eq_of_lt (by omega) (by omega)
  generalize hr0 : (f + 2 * I + a) % (R : Int) = x0 at *
  generalize hc0 : (f + 2 * K + b) % (C : Int) = y0 at *
  obtain ⟨r0, rfl⟩ : ∃ n : Nat, x0 = n := ⟨x0.toNat, by omega⟩
  obtain ⟨c0, rfl⟩ : ∃ n : Nat, y0 = n := ⟨y0.toNat, by omega⟩
  have ei : ((r0 : Int) * C + c0).toNat = r0 * C + c0 := by
    have : (r0 : Int) * C + c0 = ((r0 * C + c0 : Nat) : Int) := by push_cast; rfl
    rw [this]; rfl
  rw [ei]
  refine ⟨by simpa using h.1, fun r c hr hc hd => ?_⟩
  have hlt : r0 * C + c0 < ys.length := by rw [h.1]; exact lt_mul (by omega) (by omega)
  rw [getD_set hlt]
  by_cases e : r * C + c = r0 * C + c0
  · obtain ⟨rfl, rfl⟩ : r = r0 ∧ c = c0 := by
      have h1 := Nat.div_add_mod (r * C + c) C
      have d1 : (r * C + c) / C = r := by rw [Nat.mul_comm, Nat.mul_add_div (by omega), Nat.div_eq_of_lt hc]; rfl
      have d2 : (r0 * C + c0) / C = r0 := by rw [Nat.mul_comm, Nat.mul_add_div (by omega), Nat.div_eq_of_lt (by omega)]; rfl
      rw [e] at d1
      have : r = r0 := by omega
      subst this
      exact ⟨rfl, by omega⟩
    rw [if_pos rfl, hV]
  · rw [if_neg (fun x => e x.symm)]
    refine h.2 r c hr hc ?_
    have w1 := emod_in (a := (r : Int) - f) (b := (R : Int)) (by omega)
    have w2 := emod_in (a := (c : Int) - f) (b := (C : Int)) (by omega)
    obtain ⟨u, hu⟩ : ∃ u, ((r : Int) - f) % R = u := ⟨_, rfl⟩
    obtain ⟨v, hv⟩ : ∃ u, ((c : Int) - f) % C = u := ⟨_, rfl⟩
    have b1 := back hr hu
    have b2 := back hc hv
    have b3 := back (show r0 < R by omega) q1
    have b4 := back (show c0 < C by omega) q2
    rw [hu, hv] at hd ⊢
    rw [hu] at w1
    rw [hv] at w2
    unfold BDone at hd ⊢
    apply Classical.byContradiction; intro hn
    obtain ⟨rfl, rfl⟩ : u = 2 * I + a ∧ v = 2 * K + b := by omega
    rw [b3] at b1
    rw [b4] at b2
    exact e (by rw [Int.ofNat_inj.1 b1, Int.ofNat_inj.1 b2])
theorem BInv.next {xs tab ys : List Int} {R C : Nat} {f : Int} {I K : Nat} (h : BInv xs tab R C f I K 4 ys) : BInv xs tab R C f I (K + 1) 0 ys :=
  ⟨h.1, fun r c hr hc hd => h.2 r c hr hc (by unfold BDone at hd ⊢; omega)⟩
theorem BInv.row {xs tab ys : List Int} {R C : Nat} {f : Int} {I K : Nat} (hK : C ≤ 2 * K) (hC : 0 < C) (h : BInv xs tab R C f I K 0 ys) : BInv xs tab R C f (I + 1) 0 0 ys :=
  ⟨h.1, fun r c hr hc hd => h.2 r c hr hc (by
    have w2 := emod_in (a := (c : Int) - f) (b := (C : Int)) (by omega)
    have w3 : 0 ≤ ((c : Int) - f) % C := w2.1
    unfold BDone at hd ⊢; omega)⟩
theorem BInv.zero {xs tab : List Int} {R C : Nat} {f : Int} (hR : 0 < R) (hC : 0 < C) : BInv xs tab R C f 0 0 0 (List.replicate (R * C) 0) :=
  ⟨by simp, fun r c hr hc hd => by
    have w1 := emod_in (a := (r : Int) - f) (b := (R : Int)) (by omega)
    have w2 := emod_in (a := (c : Int) - f) (b := (C : Int)) (by omega)
    unfold BDone at hd; omega⟩
theorem BInv.full {xs tab ys : List Int} {R C : Nat} {f : Int} {I : Nat} (hI : R ≤ 2 * I) (hR : 0 < R) (h : BInv xs tab R C f I 0 0 ys) : ys = mk R C (blkV xs tab R C f) :=
  mk_eq h.1 fun r c hr hc => h.2 r c hr hc (.inl (by
    have w1 := emod_in (a := (r : Int) - f) (b := (R : Int)) (by omega)
    omega))

end Go.Proofs.Ytlhidckolillaaa
