/- Steps of rules that add, as products round and round. -/
import Derived.Test.YtafdjnhlhepibaaXadds
import Derived.Test.YtafdjnhlhepibaaXrun
import Derived.Test.YtafdjnhlhepibaaXmoveds
import Derived.Test.YtafdjnhlhepibaaXpigeon
import Derived.Test.YtafdjnhlhepibaaFB
namespace Go.Proofs.Ytafdjnhlhepibaa
open Go Go.RowKit
set_option linter.unusedVariables false
set_option linter.unusedSimpArgs false
set_option maxRecDepth 100000
set_option maxHeartbeats 8000000


/-- What the first cell gives to all cells in a step: the first 'm' terms. -/
def onc (S R n : Nat) (ts : List Int) : Nat → List Int
  | 0 => List.replicate n 0
  | m + 1 => (onc S R n ts m).set ((R + 2 * n - m) % n) (((onc S R n ts m).getD ((R + 2 * n - m) % n) 0 + ts.getD m 0) % S)
@[simp] theorem onc_len {S R n : Nat} {ts : List Int} : ∀ m, (onc S R n ts m).length = n
  | 0 => by simp [onc]
  | m + 1 => by rw [onc]; simp [onc_len m]
theorem onc_get {S R n : Nat} {ts : List Int} (hn : 0 < n) {k : Nat} (hk : k < n) : ∀ m, (onc S R n ts m).getD k 0 = (sg (fun t => if (R + 2 * n - t) % n = k then ts.getD t 0 else 0) m) % S
  | 0 => by rw [onc, List.getD_eq_getElem?_getD, List.getElem?_replicate, if_pos hk]; rfl
  | m + 1 => by
    have hl := Nat.mod_lt (R + 2 * n - m) hn
    rw [onc, getD_set (by simpa using hl), sg, onc_get hn hl m, onc_get hn hk m]
    by_cases h : (R + 2 * n - m) % n = k
    · rw [if_pos h, if_pos h, h, Int.emod_add_emod]
    · rw [if_neg h, if_neg h, Int.add_zero]
/-- Sums of products, round and round: the first 'm' pairs. -/
def arn (n : Nat) (a b : List Int) : Nat → List Int
  | 0 => List.replicate n 0
  | m + 1 => (arn n a b m).set ((m % n + m / n) % n) ((arn n a b m).getD ((m % n + m / n) % n) 0 + a.getD (m % n) 0 * b.getD (m / n) 0)
@[simp] theorem arn_len {n : Nat} {a b : List Int} : ∀ m, (arn n a b m).length = n
  | 0 => by simp [arn]
  | m + 1 => by rw [arn]; simp [arn_len m]
theorem arn_get {n : Nat} {a b : List Int} (hn : 0 < n) {j : Nat} (hj : j < n) : ∀ m, (arn n a b m).getD j 0 = sg (fun t => if (t % n + t / n) % n = j then a.getD (t % n) 0 * b.getD (t / n) 0 else 0) m
  | 0 => by rw [arn, List.getD_eq_getElem?_getD, List.getElem?_replicate, if_pos hj]; rfl
  | m + 1 => by
    have hl := Nat.mod_lt (m % n + m / n) hn
    rw [arn, getD_set (by simpa using hl), sg, ← arn_get hn hj m]
    by_cases h : (m % n + m / n) % n = j
    · rw [if_pos h, if_pos h, h]
    · rw [if_neg h, if_neg h, Int.add_zero]
/-- A step of a rule that adds. -/
def turA (S : Nat) (a b : List Int) : List Int := (arn a.length a b (a.length * a.length)).map fun x => x % S
@[simp] theorem turA_len {S : Nat} {a b : List Int} : (turA S a b).length = a.length := by simp [turA]
theorem sg_emod {f g : Nat → Int} {S : Int} : ∀ {n}, (∀ i, i < n → f i % S = g i % S) → sg f n % S = sg g n % S
  | 0, _ => rfl
  | n + 1, h => by rw [sg, sg, Int.add_emod, sg_emod (fun i hi => h i (by omega)), h n (by omega), ← Int.add_emod]
theorem sg_mul {f : Nat → Int} {c : Int} : ∀ {n}, sg (fun i => c * f i) n = c * sg f n
  | 0 => by simp [sg]
  | n + 1 => by rw [sg, sg, sg_mul, Int.mul_add]
theorem turA_get {S : Nat} {a b : List Int} (hn : 0 < a.length) {j : Nat} (hj : j < a.length) : (turA S a b).getD j 0 = (sg (fun k => a.getD ((j + a.length - k) % a.length) 0 * b.getD k 0) a.length) % S := by
  have h1 : (turA S a b).getD j 0 = (arn a.length a b (a.length * a.length)).getD j 0 % S := by
    rw [turA, List.getD_eq_getElem?_getD, List.getElem?_map, List.getD_eq_getElem?_getD, List.getElem?_eq_getElem (by simpa using hj)]; rfl
  rw [h1, arn_get hn hj, sg_rc]
  congr 1
  refine sg_congr fun k hk => ?_
  have e1 : ∀ i, i < a.length → (if ((k * a.length + i) % a.length + (k * a.length + i) / a.length) % a.length = j then a.getD ((k * a.length + i) % a.length) 0 * b.getD ((k * a.length + i) / a.length) 0 else 0) = if i = (j + a.length - k) % a.length then a.getD i 0 * b.getD k 0 else 0 := fun i hi => by
    have d1 : (k * a.length + i) / a.length = k := by rw [Nat.mul_comm, Nat.mul_add_div hn, Nat.div_eq_of_lt hi, Nat.add_zero]
    have d2 : (k * a.length + i) % a.length = i := by rw [Nat.mul_comm, Nat.mul_add_mod, Nat.mod_eq_of_lt hi]
    rw [d1, d2]
    have key : (i + k) % a.length = j ↔ i = (j + a.length - k) % a.length := by
      generalize a.length = n at *
      by_cases g1 : i + k < n
      · rw [Nat.mod_eq_of_lt g1]
        by_cases g2 : j < k
        · rw [Nat.mod_eq_of_lt (by omega)]; omega
        · rw [Nat.mod_eq_sub_mod (by omega), Nat.mod_eq_of_lt (by omega)]; omega
      · rw [Nat.mod_eq_sub_mod (by omega), Nat.mod_eq_of_lt (by omega)]
        by_cases g2 : j < k
        · rw [Nat.mod_eq_of_lt (by omega)]; omega
        · rw [Nat.mod_eq_sub_mod (by omega), Nat.mod_eq_of_lt (by omega)]; omega
    by_cases h : (i + k) % a.length = j
    · rw [if_pos h, if_pos (key.1 h)]
    · rw [if_neg h, if_neg fun g => h (key.2 g)]
  rw [sg_congr e1, sg_one (f := fun i => a.getD i 0 * b.getD k 0), if_pos (Nat.mod_lt _ hn)]
/-- The sum over the neighbourhood of a cell. -/
theorem turA_onc {S R n : Nat} {a ts : List Int} (hl : a.length = n) (hn : 0 < n) (w : Nat) {j : Nat} (hj : j < n) (hR : R ≤ n) (hw : w ≤ R + 2 * n) : (turA S a (onc S R n ts w)).getD j 0 = (sg (fun t => ts.getD t 0 * a.getD ((j + n + n - R + t) % n) 0) w) % S := by
  subst hl
  rw [turA_get hn hj]
  have e1 : ∀ k, k < a.length → (a.getD ((j + a.length - k) % a.length) 0 * (onc S R a.length ts w).getD k 0) % S = (sg (fun t => if (R + 2 * a.length - t) % a.length = k then a.getD ((j + a.length - k) % a.length) 0 * ts.getD t 0 else 0) w) % S := fun k hk => by
    rw [onc_get hn hk, Int.mul_emod, Int.emod_emod, ← Int.mul_emod, ← sg_mul]
    congr 1
    exact sg_congr fun t _ => by split <;> simp
  rw [sg_emod e1, sg_swap]
  congr 1
  refine sg_congr fun t ht => ?_
  have e2 : ∀ k, (if (R + 2 * a.length - t) % a.length = k then a.getD ((j + a.length - k) % a.length) 0 * ts.getD t 0 else 0) = if k = (R + 2 * a.length - t) % a.length then a.getD ((j + a.length - k) % a.length) 0 * ts.getD t 0 else 0 := fun k => by
    by_cases h : (R + 2 * a.length - t) % a.length = k
    · rw [if_pos h, if_pos h.symm]
    · rw [if_neg h, if_neg fun g => h g.symm]
  rw [sg_congr fun k _ => e2 k, sg_one (f := fun k => a.getD ((j + a.length - k) % a.length) 0 * ts.getD t 0), if_pos (Nat.mod_lt _ hn), Int.mul_comm]
  congr 2
  generalize a.length = n at *
  have h1 := Nat.mod_lt (R + 2 * n - t) hn
  have h2 := Nat.div_add_mod (R + 2 * n - t) n
  generalize (R + 2 * n - t) % n = r at *
  generalize (R + 2 * n - t) / n = q at *
  have e : j + n + n - R + t + n * q = (j + n - r) + n * 3 := by omega
  have a1 := Nat.add_mul_mod_self_left (j + n + n - R + t) n q
  have a2 := Nat.add_mul_mod_self_left (j + n - r) n 3
  rw [← a1, ← a2, e]
theorem dotN_sg {ws cs : List Int} : ∀ m, dotN ws cs m = sg (fun t => ws.getD t 0 * cs.getD t 0) m
  | 0 => rfl
  | m + 1 => by rw [dotN, sg, dotN_sg m]
/-- The neighbourhood of a cell. -/
def hoodL (S : Nat) (ys : List Int) (a : Int) (w : Nat) : List Int := (List.range w).map fun k : Nat => ys.getD ((a + k) % ys.length).toNat 0
theorem hoodL_get {S : Nat} {ys : List Int} {a : Int} {w k : Nat} (h : k < w) : (hoodL S ys a w).getD k 0 = ys.getD ((a + k) % ys.length).toNat 0 := getD_map_range h
theorem hoodL_nm {S : Nat} {ys : List Int} {a : Int} {w : Nat} (hr : RG S ys) : ∀ m, m ≤ w → ((nmN S (hoodL S ys a w) m : Nat) : Int) = hoodN S ys a m
  | 0, _ => rfl
  | m + 1, h => by
    have hc := hr.cell (a + m)
    rw [nmN, hoodN, ← hoodL_nm (w := w) hr m (by omega), hoodL_get (k := m) (w := w) (by omega)]
    push_cast
    rw [Int.toNat_of_nonneg hc.1]
theorem turA_step {S w : Nat} {re : Int} {xs a : List Int} (hA : Adds S w xs) (hv : VR S re xs) (hr : RG S a) (hw : 2 * re + 1 = w) (hwn : w ≤ a.length) : turA S a (onc S re.toNat a.length (trm S w xs) w) = stepR S re xs a := by
  have hre := hv.2.1
  have hS := hv.1
  refine ext_getD 0 (by simp) fun j hj => ?_
  rw [turA_len] at hj
  have hd : DG S (hoodL S a (j - re) w) := fun x hx => by
    obtain ⟨k, hk, rfl⟩ := mem_get (d := 0) hx
    rw [hoodL_get (by simpa [hoodL] using hk)]
    exact hr.cell _
  have hn : nm S (hoodL S a (j - re) w) = (hoodN S a (j - re) w).toNat := by
    have h1 := hoodL_nm (a := (j : Int) - re) (w := w) hr w (Nat.le_refl w)
    have h2 : (hoodL S a (j - re) w).length = w := by simp [hoodL]
    rw [nm, h2]; omega
  have ht := (told_in hv hr j).1
  rw [show (2 * re + 1).toNat = w by omega] at ht
  have h3 := hA _ ht
  rw [← hn] at h3
  have h4 := dg_nm (S := S) (by omega) hd
  have h5 : (hoodL S a (j - re) w).length = w := by simp [hoodL]
  rw [h5] at h4
  rw [h4, hn] at h3
  rw [turA_onc rfl (by omega) w hj (by omega) (by omega), stepR_get hj, told, show (2 * re + 1).toNat = w by omega, ← h3, dotN_sg]
  congr 1
  refine sg_congr fun t ht => ?_
  rw [hoodL_get ht]
  congr 2
  have e : (((j + a.length + a.length - re.toNat + t : Nat)) : Int) = ((j : Int) - re + t) + (a.length : Int) * 2 := by omega
  have e2 : (((j + a.length + a.length - re.toNat + t) % a.length : Nat) : Int) = ((j : Int) - re + t) % a.length := by
    push_cast
    have := e
    push_cast at this
    rw [this, Int.add_mul_emod_self_left]
  omega

end Go.Proofs.Ytafdjnhlhepibaa
