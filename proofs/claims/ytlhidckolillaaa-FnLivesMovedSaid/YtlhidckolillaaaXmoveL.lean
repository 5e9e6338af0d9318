/- Lives of turned, mirrored and shifted fields: plain facts. -/
import Derived.Test.YtlhidckolillaaaXmoveOf
import Derived.Test.YtlhidckolillaaaXmovedOk
import Derived.Test.YtlhidckolillaaaFB
namespace Go.Proofs.Ytlhidckolillaaa
open Go Go.RowKit
set_option linter.unusedVariables false
set_option linter.unusedSimpArgs false
set_option maxRecDepth 100000
set_option maxHeartbeats 8000000


theorem aro_nine {R C : Int} {xs : List Int} {i k : Int} {t : Bool} : aroV R C xs i k t = lookV R C xs (i - 1) (k - 1) t + lookV R C xs (i - 1) k t + lookV R C xs (i - 1) (k + 1) t + lookV R C xs i (k - 1) t + lookV R C xs i k t + lookV R C xs i (k + 1) t + lookV R C xs (i + 1) (k - 1) t + lookV R C xs (i + 1) k t + lookV R C xs (i + 1) (k + 1) t - cel xs C i k := by
  have e : ∀ a b : Nat, b < 3 → ∀ r c : Int, r = i - 1 + a → c = k - 1 + b → lk R C xs i k t (a * 3 + b) = lookV R C xs r c t := fun a b hb r c hr hc => lk_at hb hr hc
  have e0 := e 0 0 (by omega) (i - 1) (k - 1) (by omega) (by omega)
  have e1 := e 0 1 (by omega) (i - 1) k (by omega) (by omega)
  have e2 := e 0 2 (by omega) (i - 1) (k + 1) (by omega) (by omega)
  have e3 := e 1 0 (by omega) i (k - 1) (by omega) (by omega)
  have e4 := e 1 1 (by omega) i k (by omega) (by omega)
  have e5 := e 1 2 (by omega) i (k + 1) (by omega) (by omega)
  have e6 := e 2 0 (by omega) (i + 1) (k - 1) (by omega) (by omega)
  have e7 := e 2 1 (by omega) (i + 1) k (by omega) (by omega)
  have e8 := e 2 2 (by omega) (i + 1) (k + 1) (by omega) (by omega)
  have s : sg (lk R C xs i k t) 9 = 0 + lk R C xs i k t (0 * 3 + 0) + lk R C xs i k t (0 * 3 + 1) + lk R C xs i k t (0 * 3 + 2) + lk R C xs i k t (1 * 3 + 0) + lk R C xs i k t (1 * 3 + 1) + lk R C xs i k t (1 * 3 + 2) + lk R C xs i k t (2 * 3 + 0) + lk R C xs i k t (2 * 3 + 1) + lk R C xs i k t (2 * 3 + 2) := rfl
  unfold aroV
  rw [s, e0, e1, e2, e3, e4, e5, e6, e7, e8]
  omega
theorem emod_flip {n k : Int} (hn : 0 < n) : (n - 1 - k) % n = n - 1 - k % n := by
  have h := em_in (a := k) (n := n) hn
  have e : n - 1 - k = (n - 1 - k % n) + n * (-(k / n)) := by
    have := Int.emod_add_mul_ediv k n
    rw [Int.mul_neg]; omega
  rw [e, Int.add_mul_emod_self_left]
  exact Int.emod_eq_of_lt (by omega) (by omega)
/-! ### what stands where -/
theorem look_turn {R C : Nat} {xs : List Int} (hR : 0 < R) (hC : 0 < C) (i k : Int) (t : Bool) : lookV C R (turn R C xs) i k t = lookV R C xs ((R : Int) - 1 - k) i t := by
  unfold lookV turn
  cases t with
  | true =>
    have h1 := em_in (a := i) (n := C) (by omega)
    have h2 := em_in (a := k) (n := R) (by omega)
    rw [if_pos rfl, if_pos rfl, cel_mk h1 h2, emod_flip (by omega)]
  | false =>
    rw [if_neg (show ¬ (false = true) by decide), if_neg (show ¬ (false = true) by decide)]
    by_cases h : (0 ≤ i ∧ i < (C : Int)) ∧ 0 ≤ k ∧ k < (R : Int)
    · rw [if_pos h, if_pos ⟨by omega, by omega⟩, cel_mk h.1 h.2]
    · rw [if_neg h, if_neg (fun g => h ⟨by omega, by omega⟩)]
theorem look_mirr {R C : Nat} {xs : List Int} (hR : 0 < R) (hC : 0 < C) (i k : Int) (t : Bool) : lookV R C (mirr R C xs) i k t = lookV R C xs i ((C : Int) - 1 - k) t := by
  unfold lookV mirr
  cases t with
  | true =>
    have h1 := em_in (a := i) (n := R) (by omega)
    have h2 := em_in (a := k) (n := C) (by omega)
    rw [if_pos rfl, if_pos rfl, cel_mk h1 h2, emod_flip (by omega)]
  | false =>
    rw [if_neg (show ¬ (false = true) by decide), if_neg (show ¬ (false = true) by decide)]
    by_cases h : (0 ≤ i ∧ i < (R : Int)) ∧ 0 ≤ k ∧ k < (C : Int)
    · rw [if_pos h, if_pos ⟨by omega, by omega⟩, cel_mk h.1 h.2]
    · rw [if_neg h, if_neg (fun g => h ⟨by omega, by omega⟩)]
theorem look_shif {R C : Nat} {xs : List Int} {a b : Int} (hR : 0 < R) (hC : 0 < C) (i k : Int) : lookV R C (shif R C xs a b) i k true = lookV R C xs (i - a) (k - b) true := by
  unfold lookV shif
  have h1 := em_in (a := i) (n := R) (by omega)
  have h2 := em_in (a := k) (n := C) (by omega)
  rw [if_pos rfl, if_pos rfl, cel_mk h1 h2, shG, em_sub, em_sub]
/-! ### neighbours -/
theorem aro_turn {R C : Nat} {xs : List Int} {i k : Int} {t : Bool} (hR : 0 < R) (hC : 0 < C) (hi : 0 ≤ i ∧ i < C) (hk : 0 ≤ k ∧ k < R) : aroV C R (turn R C xs) i k t = aroV R C xs ((R : Int) - 1 - k) i t := by
  have hc : cel (turn R C xs) R i k = cel xs C ((R : Int) - 1 - k) i := by rw [turn, cel_mk hi hk]
  rw [aro_nine, aro_nine, hc]
  simp only [look_turn hR hC]
  rw [show (R : Int) - 1 - (k - 1) = (R : Int) - 1 - k + 1 by omega, show (R : Int) - 1 - (k + 1) = (R : Int) - 1 - k - 1 by omega]
  omega
theorem aro_mirr {R C : Nat} {xs : List Int} {i k : Int} {t : Bool} (hR : 0 < R) (hC : 0 < C) (hi : 0 ≤ i ∧ i < R) (hk : 0 ≤ k ∧ k < C) : aroV R C (mirr R C xs) i k t = aroV R C xs i ((C : Int) - 1 - k) t := by
  have hc : cel (mirr R C xs) C i k = cel xs C i ((C : Int) - 1 - k) := by rw [mirr, cel_mk hi hk]
  rw [aro_nine, aro_nine, hc]
  simp only [look_mirr hR hC]
  rw [show (C : Int) - 1 - (k - 1) = (C : Int) - 1 - k + 1 by omega, show (C : Int) - 1 - (k + 1) = (C : Int) - 1 - k - 1 by omega]
  omega
theorem look_mod {R C i k : Int} {xs : List Int} : lookV R C xs (i % R) (k % C) true = lookV R C xs i k true := by
  unfold lookV
  rw [if_pos rfl, if_pos rfl, Int.emod_emod, Int.emod_emod]
theorem look_modA {R C i k a b : Int} {xs : List Int} : lookV R C xs (i % R + a) (k % C + b) true = lookV R C xs (i + a) (k + b) true := by
  unfold lookV
  rw [if_pos rfl, if_pos rfl, Int.emod_add_emod, Int.emod_add_emod]
theorem aro_mod {R C : Nat} {xs : List Int} {i k : Int} : aroV R C xs (i % R) (k % C) true + cel xs C (i % R) (k % C) = lookV R C xs (i - 1) (k - 1) true + lookV R C xs (i - 1) k true + lookV R C xs (i - 1) (k + 1) true + lookV R C xs i (k - 1) true + lookV R C xs i k true + lookV R C xs i (k + 1) true + lookV R C xs (i + 1) (k - 1) true + lookV R C xs (i + 1) k true + lookV R C xs (i + 1) (k + 1) true := by
  have e : ∀ a b u v x y : Int, u = i % (R : Int) + a → v = k % (C : Int) + b → x = i + a → y = k + b → lookV R C xs u v true = lookV R C xs x y true := by
    intro a b u v x y h1 h2 h3 h4
    subst h1; subst h2; subst h3; subst h4
    exact look_modA
  obtain ⟨I, hI⟩ : ∃ I, i % (R : Int) = I := ⟨_, rfl⟩
  obtain ⟨K, hK⟩ : ∃ K, k % (C : Int) = K := ⟨_, rfl⟩
  rw [hI, hK] at e
  rw [hI, hK]
  rw [aro_nine]
  rw [e (-1) (-1) (I - 1) (K - 1) (i - 1) (k - 1) (by omega) (by omega) (by omega) (by omega),
    e (-1) (0) (I - 1) K (i - 1) k (by omega) (by omega) (by omega) (by omega),
    e (-1) (1) (I - 1) (K + 1) (i - 1) (k + 1) (by omega) (by omega) (by omega) (by omega),
    e (0) (-1) I (K - 1) i (k - 1) (by omega) (by omega) (by omega) (by omega),
    e (0) (0) I K i k (by omega) (by omega) (by omega) (by omega),
    e (0) (1) I (K + 1) i (k + 1) (by omega) (by omega) (by omega) (by omega),
    e (1) (-1) (I + 1) (K - 1) (i + 1) (k - 1) (by omega) (by omega) (by omega) (by omega),
    e (1) (0) (I + 1) K (i + 1) k (by omega) (by omega) (by omega) (by omega),
    e (1) (1) (I + 1) (K + 1) (i + 1) (k + 1) (by omega) (by omega) (by omega) (by omega)]
  omega
theorem aro_shif {R C : Nat} {xs : List Int} {i k a b : Int} (hR : 0 < R) (hC : 0 < C) (hi : 0 ≤ i ∧ i < R) (hk : 0 ≤ k ∧ k < C) : aroV R C (shif R C xs a b) i k true = aroV R C xs ((i - a) % R) ((k - b) % C) true := by
  have hc : cel (shif R C xs a b) C i k = cel xs C ((i - a) % R) ((k - b) % C) := by rw [shif, cel_mk hi hk, shG]
  have hm := aro_mod (R := R) (C := C) (xs := xs) (i := i - a) (k := k - b)
  rw [aro_nine, hc]
  simp only [look_shif hR hC]
  rw [show i - 1 - a = i - a - 1 by omega, show i + 1 - a = i - a + 1 by omega, show k - 1 - b = k - b - 1 by omega, show k + 1 - b = k - b + 1 by omega]
  omega
/-! ### steps -/
theorem life_turn {bo sy : List Int} {R C : Nat} {xs : List Int} {t : Bool} (hR : 0 < R) (hC : 0 < C) : mk C R (lifeV bo sy (turn R C xs) C R t) = turn R C (mk R C (lifeV bo sy xs R C t)) := by
  refine mk_ext fun i k hi hk => ?_
  rw [cel_mk (by omega) (by omega), lifeV, lifeV, aro_turn hR hC (by omega) (by omega), turn, cel_mk (by omega) (by omega)]
theorem life_mirr {bo sy : List Int} {R C : Nat} {xs : List Int} {t : Bool} (hR : 0 < R) (hC : 0 < C) : mk R C (lifeV bo sy (mirr R C xs) R C t) = mirr R C (mk R C (lifeV bo sy xs R C t)) := by
  refine mk_ext fun i k hi hk => ?_
  rw [cel_mk (by omega) (by omega), lifeV, lifeV, aro_mirr hR hC (by omega) (by omega), mirr, cel_mk (by omega) (by omega)]
theorem life_shif {bo sy : List Int} {R C : Nat} {xs : List Int} {a b : Int} (hR : 0 < R) (hC : 0 < C) : mk R C (lifeV bo sy (shif R C xs a b) R C true) = shif R C (mk R C (lifeV bo sy xs R C true)) a b := by
  refine mk_ext fun i k hi hk => ?_
  rw [shG, cel_mk (em_in (by omega)) (em_in (by omega)), lifeV, lifeV, aro_shif hR hC (by omega) (by omega), shif, cel_mk (by omega) (by omega), shG]
theorem lifeN_turn {bo sy : List Int} {R C : Nat} {xs : List Int} {t : Bool} (hR : 0 < R) (hC : 0 < C) : ∀ n, lifeN bo sy C R t (turn R C xs) n = turn R C (lifeN bo sy R C t xs n)
  | 0 => rfl
  | n + 1 => by rw [lifeN, lifeN_turn hR hC n, life_turn hR hC, lifeN]
theorem lifeN_mirr {bo sy : List Int} {R C : Nat} {xs : List Int} {t : Bool} (hR : 0 < R) (hC : 0 < C) : ∀ n, lifeN bo sy R C t (mirr R C xs) n = mirr R C (lifeN bo sy R C t xs n)
  | 0 => rfl
  | n + 1 => by rw [lifeN, lifeN_mirr hR hC n, life_mirr hR hC, lifeN]
theorem lifeN_shif {bo sy : List Int} {R C : Nat} {xs : List Int} {a b : Int} (hR : 0 < R) (hC : 0 < C) : ∀ n, lifeN bo sy R C true (shif R C xs a b) n = shif R C (lifeN bo sy R C true xs n) a b
  | 0 => rfl
  | n + 1 => by rw [lifeN, lifeN_shif hR hC n, life_shif hR hC, lifeN]
/-! ### plain fields, moved -/
theorem PL.turn {R C : Nat} {xs : List Int} (h : PL R C xs) : PL C R (turn R C xs) := by
  have hv := h.1
  have h1 := hv.1; have h2 := hv.2.1
  refine ⟨VF.turn hv, fun y hy => ?_⟩
  obtain ⟨j, hj, rfl⟩ := mem_get (d := 0) hy
  rw [Go.Proofs.Ytlhidckolillaaa.turn, mk_len] at hj
  obtain ⟨q1, q2, q3⟩ := div_mod_lt hj
  rw [← q3, Go.Proofs.Ytlhidckolillaaa.turn, mk_get q1 q2]
  generalize j / R = a at *
  generalize j % R = c at *
  exact (cel_in h (by omega) (by omega)).1
theorem PL.mirr {R C : Nat} {xs : List Int} (h : PL R C xs) : PL R C (mirr R C xs) := by
  have hv := h.1
  refine ⟨VF.mirr hv, fun y hy => ?_⟩
  obtain ⟨j, hj, rfl⟩ := mem_get (d := 0) hy
  rw [Go.Proofs.Ytlhidckolillaaa.mirr, mk_len] at hj
  obtain ⟨q1, q2, q3⟩ := div_mod_lt hj
  rw [← q3, Go.Proofs.Ytlhidckolillaaa.mirr, mk_get q1 q2]
  generalize j / C = a at *
  generalize j % C = c at *
  exact (cel_in h (by omega) (by omega)).1
theorem PL.shif {R C : Nat} {xs : List Int} {a b : Int} (h : PL R C xs) : PL R C (shif R C xs a b) := by
  have hv := h.1
  have h1 := hv.1; have h2 := hv.2.1
  refine ⟨VF.shif hv a b, fun y hy => ?_⟩
  obtain ⟨j, hj, rfl⟩ := mem_get (d := 0) hy
  rw [Go.Proofs.Ytlhidckolillaaa.shif, mk_len] at hj
  obtain ⟨q1, q2, q3⟩ := div_mod_lt hj
  rw [← q3, Go.Proofs.Ytlhidckolillaaa.shif, mk_get q1 q2, shG]
  exact (cel_in h (em_in (by omega)) (em_in (by omega))).1
/-- Nothing comes out of nothing, just if 0 is not among what births need. -/
theorem calm_iff {bo sy : List Int} {R C : Nat} {t : Bool} (hR : 0 < R) (hC : 0 < C) (hs : Cnts bo) : mk R C (lifeV bo sy (mk R C fun _ _ => 0) R C t) = mk R C (fun _ _ => 0) ↔ (bo.length = 0 ∨ bo.getD 0 0 ≠ 0) := by
  have hz : ∀ i k : Int, lookV R C (mk R C fun _ _ => 0) i k t = 0 := fun i k => by
    unfold lookV
    split
    · exact cel_mk (em_in (by omega)) (em_in (by omega))
    · split
      · rename_i h; exact cel_mk h.1 h.2
      · rfl
  have hl : ∀ i k : Int, (0 ≤ i ∧ i < R) → (0 ≤ k ∧ k < C) → lifeV bo sy (mk R C fun _ _ => 0) R C t i k = if (0 : Int) ∈ bo then 1 else 0 := fun i k hi hk => by
    have hc : cel (mk R C fun _ _ => 0) C i k = 0 := cel_mk hi hk
    rw [lifeV, aro_nine, hc]
    simp only [hz]
    rw [becV, if_pos rfl]; rfl
  have h0 : (0 : Int) ∈ bo ↔ ¬ (bo.length = 0 ∨ bo.getD 0 0 ≠ 0) := by
    constructor
    · intro h
      obtain ⟨j, hj, e⟩ := mem_get (d := 0) h
      rintro (g | g)
      · omega
      · have up : ∀ n, n < bo.length → bo.getD 0 0 ≤ bo.getD n 0 := fun n => by
          induction n with
          | zero => intro _; exact Int.le_refl _
          | succ n ih => intro hn; have := ih (by omega); have := hs.1 n hn; omega
        have := up j hj
        have := (hs.2 _ (getD_mem (d := 0) (show 0 < bo.length by omega))).1
        omega
    · intro h
      have h1 : bo.length ≠ 0 := fun e => h (.inl e)
      have h2 : bo.getD 0 0 = 0 := Classical.byContradiction fun e => h (.inr e)
      have := getD_mem (d := 0) (show 0 < bo.length by omega)
      rw [h2] at this; exact this
  constructor
  · intro e
    refine Classical.byContradiction fun g => ?_
    have hm := h0.2 g
    have q1 : (mk R C (lifeV bo sy (mk R C fun _ _ => 0) R C t)).getD (0 * C + 0) 0 = 1 := by rw [mk_get hR hC, hl _ _ (by omega) (by omega), if_pos hm]
    rw [e, mk_get hR hC] at q1
    exact absurd q1 (by decide)
  · intro g
    have hm : (0 : Int) ∉ bo := fun h => h0.1 h g
    exact mk_ext fun i k hi hk => by rw [hl _ _ (by omega) (by omega), if_neg hm]

end Go.Proofs.Ytlhidckolillaaa
