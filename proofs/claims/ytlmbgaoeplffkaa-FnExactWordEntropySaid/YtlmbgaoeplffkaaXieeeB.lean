/- Numbers of single and double precision: how great they are, by powers of two. -/
import Derived.Test.YtlmbgaoeplffkaaXlists
import Derived.Test.YtlmbgaoeplffkaaFB
namespace Go.Proofs.Ytlmbgaoeplffkaa
open Go Go.RowKit
set_option linter.unusedVariables false
set_option linter.unusedSimpArgs false
set_option maxRecDepth 100000
set_option maxHeartbeats 8000000


/-- How great a number is, by powers of two. -/
def FLe (m : Nat) (p j : Int) : Prop := m = 0 ∨ (p ≤ j ∧ m ≤ 2 ^ (j - p).toNat)
def FGe (m : Nat) (p k : Int) : Prop := m ≠ 0 ∧ k ≤ p + (m.log2 : Int)
theorem p2_pos (n : Nat) : 0 < 2 ^ n := Nat.pow_pos (by decide)
theorem p2_le {a c : Nat} (h : a ≤ c) : 2 ^ a ≤ 2 ^ c := Nat.pow_le_pow_right (by decide) h
theorem FLe.mono {m : Nat} {p j j' : Int} (h : FLe m p j) (hj : j ≤ j') : FLe m p j' := by
  rcases h with h | ⟨h1, h2⟩
  · exact .inl h
  · exact .inr ⟨by omega, Nat.le_trans h2 (p2_le (by omega))⟩
theorem FGe.mono {m : Nat} {p k k' : Int} (h : FGe m p k) (hk : k' ≤ k) : FGe m p k' := ⟨h.1, by have := h.2; omega⟩
theorem log_lt (m : Nat) : m < 2 ^ (m.log2 + 1) := Nat.lt_log2_self
theorem log_le {m : Nat} (h : m ≠ 0) : 2 ^ m.log2 ≤ m := Nat.log2_self_le h
theorem le_log {m k : Nat} (h : m ≠ 0) (hk : 2 ^ k ≤ m) : k ≤ m.log2 := (Nat.le_log2 h).2 hk
theorem log_of_le {m k : Nat} (h : m ≠ 0) (hk : m ≤ 2 ^ k) : m.log2 ≤ k := by
  have := log_le h
  by_cases g : m.log2 ≤ k
  · exact g
  · exfalso
    have h1 : 2 ^ (k + 1) ≤ 2 ^ m.log2 := p2_le (by omega)
    rw [Nat.pow_succ] at h1
    have := p2_pos k
    omega
/-! ### cutting -/
theorem cut_le {neg : Bool} {n d B : Nat} (h : n ≤ B * 2 ^ d) : Ieee.Toward.cut .even neg n d ≤ B := by
  unfold Ieee.Toward.cut
  simp only [Nat.one_shiftLeft]
  by_cases hd : d ≤ n.log2 + 2
  · rw [Nat.min_eq_left hd]
    have hg := p2_pos d
    generalize 2 ^ d = g at *
    have hq : n / g ≤ B := by rw [Nat.div_le_iff_le_mul hg]; omega
    by_cases hr : n % g = 0
    · rw [hr]
      have : (decide (g < 2 * 0) || (g == 2 * 0 && n / g % 2 == 1)) = false := by
        simp; omega
      rw [this]; exact hq
    · have : n / g < B := by
        rw [Nat.div_lt_iff_lt_mul hg]
        rcases Nat.lt_or_ge n (B * g) with q | q
        · exact q
        · exfalso
          have : n = B * g := by omega
          rw [this, Nat.mul_mod_left] at hr; exact hr rfl
      have h2 : ∀ b : Bool, b.toNat ≤ 1 := by decide
      have := h2 (decide (g < 2 * (n % g)) || (g == 2 * (n % g) && n / g % 2 == 1))
      omega
  · rw [Nat.min_eq_right (by omega)]
    have hn := log_lt n
    have e : 2 ^ (n.log2 + 2) = 2 * 2 ^ (n.log2 + 1) := by rw [Nat.pow_succ 2 (n.log2 + 1)]; omega
    rw [e]
    generalize 2 ^ (n.log2 + 1) = g at *
    rw [Nat.div_eq_of_lt (by omega), Nat.mod_eq_of_lt (by omega)]
    have : (decide (2 * g < 2 * n) || (2 * g == 2 * n && 0 % 2 == 1)) = false := by simp; omega
    rw [this]; exact Nat.zero_le _
theorem cut_ge {neg : Bool} {n d B : Nat} (h : B * 2 ^ d ≤ n) : B ≤ Ieee.Toward.cut .even neg n d := by
  unfold Ieee.Toward.cut
  simp only [Nat.one_shiftLeft]
  by_cases hd : d ≤ n.log2 + 2
  · rw [Nat.min_eq_left hd]
    have hg := p2_pos d
    have : B ≤ n / 2 ^ d := by rw [Nat.le_div_iff_mul_le hg]; exact h
    omega
  · have hn := log_lt n
    have h1 : 2 ^ (n.log2 + 1) ≤ 2 ^ d := p2_le (by omega)
    have : B = 0 := by
      rcases Nat.eq_zero_or_pos B with q | q
      · exact q
      · exfalso
        have := Nat.mul_le_mul_right (2 ^ d) q
        omega
    rw [this]; exact Nat.zero_le _
/-! ### words -/
section
variable (f : Ieee.Format)
theorem inf_sum : f.infRung + f.binade = f.signWeight := by
  unfold Ieee.Format.infRung Ieee.Format.binade Ieee.Format.signWeight
  have := p2_pos f.exponentBits
  rw [Nat.pow_add, ← Nat.succ_mul]; congr 1; omega
/-- What a rung stands for. -/
def rungM (r : Nat) : Nat := if r < f.binade then r else f.binade + r % f.binade
def rungP (r : Nat) : Int := if r < f.binade then f.leastPlace else f.leastPlace + (r / f.binade - 1 : Nat)
theorem read_word {s : Bool} {r : Nat} (h : r < f.infRung) : f.read (f.word s r) = .number s (rungM f r) (rungP f r) := by
  have hs := inf_sum f
  have hb : 0 < f.binade := p2_pos _
  have hw : f.word s r / f.signWeight % 2 = s.toNat ∧ f.word s r % f.signWeight = r := by
    unfold Ieee.Format.word
    cases s with
    | true =>
      simp only [if_true]
      refine ⟨?_, ?_⟩
      · rw [Nat.add_div_left _ (by omega), Nat.div_eq_of_lt (by omega)]; rfl
      · rw [Nat.add_mod_left, Nat.mod_eq_of_lt (by omega)]
    | false =>
      simp only [Bool.false_eq_true, if_false]
      refine ⟨?_, ?_⟩
      · rw [Nat.div_eq_of_lt (by omega)]; rfl
      · rw [Nat.mod_eq_of_lt (by omega)]
  unfold Ieee.Format.read
  simp only [hw.1, hw.2]
  have e : (s.toNat == 1) = s := by cases s <;> rfl
  rw [e]
  unfold rungM rungP
  by_cases h1 : r < f.binade
  · rw [if_pos h1, if_pos h1, if_pos h1]
  · rw [if_neg h1, if_neg h1, if_neg h1, if_pos h]
/-- The rung of a power of two. -/
def topR (j : Int) : Nat := (j - f.leastPlace - f.fractionBits + 1).toNat * f.binade
def OkJ (j : Int) : Prop := f.leastPlace + f.fractionBits ≤ j ∧ topR f j < f.infRung
variable {f}
theorem rung_le {r : Nat} {j : Int} (hr : r ≤ topR f j) (hj : f.leastPlace + f.fractionBits ≤ j) : FLe (rungM f r) (rungP f r) j := by
  have hb : 0 < f.binade := p2_pos _
  have eb : f.binade = 2 ^ f.fractionBits := rfl
  unfold rungM rungP
  by_cases h1 : r < f.binade
  · rw [if_pos h1, if_pos h1]
    refine .inr ⟨by omega, ?_⟩
    rw [eb] at h1
    exact Nat.le_trans (Nat.le_of_lt h1) (p2_le (by omega))
  · rw [if_neg h1, if_neg h1]
    unfold topR at hr
    have hm : r % f.binade < f.binade := Nat.mod_lt _ hb
    have hq : r / f.binade ≤ (j - f.leastPlace - f.fractionBits + 1).toNat := by
      rw [Nat.div_le_iff_le_mul hb]; omega
    have hq1 : 1 ≤ r / f.binade := by rw [Nat.le_div_iff_mul_le hb]; omega
    refine .inr ⟨by omega, ?_⟩
    by_cases he : r / f.binade ≤ (j - f.leastPlace - f.fractionBits).toNat
    · have h2 : f.binade + r % f.binade ≤ 2 ^ (f.fractionBits + 1) := by rw [Nat.pow_succ]; omega
      exact Nat.le_trans h2 (p2_le (by omega))
    · have he2 : r / f.binade = (j - f.leastPlace - f.fractionBits + 1).toNat := by omega
      have hz : r % f.binade = 0 := by
        have h3 := Nat.div_add_mod r f.binade
        rw [he2, Nat.mul_comm] at h3
        omega
      rw [hz, Nat.add_zero]
      exact Nat.le_trans (Nat.le_of_eq eb) (p2_le (by omega))
theorem rung_ge {r : Nat} {k : Int} (hr : topR f k ≤ r) (hk : f.leastPlace + f.fractionBits ≤ k) : FGe (rungM f r) (rungP f r) k := by
  have hb : 0 < f.binade := p2_pos _
  have eb : f.binade = 2 ^ f.fractionBits := rfl
  unfold topR at hr
  have hq : (k - f.leastPlace - f.fractionBits + 1).toNat ≤ r / f.binade := by rw [Nat.le_div_iff_mul_le hb]; exact hr
  have h1 : ¬ r < f.binade := by
    intro h
    rw [Nat.div_eq_of_lt h] at hq
    omega
  unfold rungM rungP
  rw [if_neg h1, if_neg h1]
  have hl : f.fractionBits ≤ (f.binade + r % f.binade).log2 := le_log (by omega) (by rw [← eb]; omega)
  exact ⟨by omega, by omega⟩
/-! ### rounding -/
/-- The rung that a number is rounded to. -/
def nearR (f : Ieee.Format) (neg : Bool) (mag : Nat) (place : Int) : Nat :=
  if mag = 0 then 0 else
  min ((max (place + mag.log2 - f.fractionBits) f.leastPlace - f.leastPlace).toNat * f.binade + Ieee.Toward.cut .even neg (mag <<< (place - max (place + mag.log2 - f.fractionBits) f.leastPlace).toNat) (max (place + mag.log2 - f.fractionBits) f.leastPlace - place).toNat) f.infRung
theorem near_eq {neg : Bool} {mag : Nat} {place : Int} : f.nearest neg mag place = f.word neg (nearR f neg mag place) := by
  unfold Ieee.Format.nearest nearR
  by_cases h : mag = 0
  · rw [if_pos h, if_pos h]
  · rw [if_neg h, if_neg h]
theorem near_le {neg : Bool} {mag : Nat} {place j : Int} (h : FLe mag place j) (hj : f.leastPlace + f.fractionBits ≤ j) : nearR f neg mag place ≤ topR f j := by
  unfold nearR
  by_cases h0 : mag = 0
  · rw [if_pos h0]; exact Nat.zero_le _
  rw [if_neg h0]
  obtain ⟨h1, h2⟩ := h.resolve_left h0
  have hlog := log_of_le h0 h2
  refine Nat.le_trans (Nat.min_le_left _ _) ?_
  unfold topR
  obtain ⟨t, ht⟩ : ∃ t, max (place + mag.log2 - f.fractionBits) f.leastPlace = t := ⟨_, rfl⟩
  rw [ht]
  have htj : t ≤ j - f.fractionBits := by omega
  have eb : f.binade = 2 ^ f.fractionBits := rfl
  -- what is kept is not more than it may be
  have hk : ∀ B : Nat, mag * 2 ^ (place - t).toNat ≤ B * 2 ^ (t - place).toNat → Ieee.Toward.cut .even neg (mag <<< (place - t).toNat) (t - place).toNat ≤ B := fun B hB => cut_le (by rw [Nat.shiftLeft_eq]; exact hB)
  by_cases hx : t = j - f.fractionBits
  · have := hk (2 ^ f.fractionBits) (by
      have e1 : mag * 2 ^ (place - t).toNat ≤ 2 ^ (j - place).toNat * 2 ^ (place - t).toNat := Nat.mul_le_mul_right _ h2
      refine Nat.le_trans e1 ?_
      rw [← Nat.pow_add, ← Nat.pow_add]
      exact p2_le (by omega))
    have e2 : (j - f.leastPlace - f.fractionBits + 1).toNat = (t - f.leastPlace).toNat + 1 := by omega
    rw [e2, Nat.add_mul, Nat.one_mul, eb]
    rw [← eb]; rw [← eb] at this; omega
  · have := hk (2 ^ (f.fractionBits + 1)) (by
      have e1 : mag * 2 ^ (place - t).toNat ≤ 2 ^ (mag.log2 + 1) * 2 ^ (place - t).toNat := Nat.mul_le_mul_right _ (Nat.le_of_lt (log_lt mag))
      refine Nat.le_trans e1 ?_
      rw [← Nat.pow_add, ← Nat.pow_add]
      exact p2_le (by omega))
    have e2 : (t - f.leastPlace).toNat + 2 ≤ (j - f.leastPlace - f.fractionBits + 1).toNat := by omega
    have e3 := Nat.mul_le_mul_right f.binade e2
    rw [Nat.pow_succ, ← eb] at this
    rw [Nat.add_mul] at e3
    omega
theorem near_ge {neg : Bool} {mag : Nat} {place k : Int} (h : FGe mag place k) (hk : f.leastPlace + f.fractionBits ≤ k) (hi : topR f k ≤ f.infRung) : topR f k ≤ nearR f neg mag place := by
  obtain ⟨h0, h1⟩ := h
  unfold nearR
  rw [if_neg h0]
  refine Nat.le_min.2 ⟨?_, hi⟩
  unfold topR
  have ht : max (place + mag.log2 - f.fractionBits) f.leastPlace = place + mag.log2 - f.fractionBits := by omega
  rw [ht]
  obtain ⟨t, ht⟩ : ∃ t, place + (mag.log2 : Int) - f.fractionBits = t := ⟨_, rfl⟩
  rw [ht]
  have eb : f.binade = 2 ^ f.fractionBits := rfl
  have hc : 2 ^ f.fractionBits ≤ Ieee.Toward.cut .even neg (mag <<< (place - t).toNat) (t - place).toNat := by
    refine cut_ge ?_
    rw [Nat.shiftLeft_eq]
    have e1 : 2 ^ mag.log2 * 2 ^ (place - t).toNat ≤ mag * 2 ^ (place - t).toNat := Nat.mul_le_mul_right _ (log_le h0)
    refine Nat.le_trans ?_ e1
    rw [← Nat.pow_add, ← Nat.pow_add]
    exact p2_le (by omega)
  have e2 : (k - f.leastPlace - f.fractionBits + 1).toNat ≤ (t - f.leastPlace).toNat + 1 := by omega
  have e3 := Nat.mul_le_mul_right f.binade e2
  rw [Nat.add_mul, Nat.one_mul] at e3
  rw [← eb] at hc
  omega
/-- What is rounded, and not too great, is a number again, as great as before. -/
theorem near_fin {neg : Bool} {mag : Nat} {place j : Int} (h : FLe mag place j) (hj : OkJ f j) : ∃ m p, f.read (f.nearest neg mag place) = .number neg m p ∧ FLe m p j ∧ ∀ k, f.leastPlace + f.fractionBits ≤ k → k ≤ j → FGe mag place k → FGe m p k := by
  have h1 := near_le (f := f) (neg := neg) h hj.1
  refine ⟨_, _, by rw [near_eq]; exact read_word f (Nat.lt_of_le_of_lt h1 hj.2), rung_le h1 hj.1, fun k hk hkj hg => rung_ge (near_ge hg hk ?_) hk⟩
  have : topR f k ≤ topR f j := Nat.mul_le_mul_right _ (by omega)
  have := hj.2
  omega
/-! ### operations -/
/-- A word is a number, not greater than a power of two. -/
def Bd (f : Ieee.Format) (w : Nat) (j : Int) : Prop := ∃ s m p, f.read w = .number s m p ∧ FLe m p j
def Gd (f : Ieee.Format) (w : Nat) (k : Int) : Prop := ∃ s m p, f.read w = .number s m p ∧ FGe m p k
/-- A positive number, between powers of two. -/
def Ps (f : Ieee.Format) (w : Nat) (j k : Int) : Prop := ∃ m p, f.read w = .number false m p ∧ FLe m p j ∧ FGe m p k
theorem Bd.mono {w : Nat} {j j' : Int} (h : Bd f w j) (hj : j ≤ j') : Bd f w j' := by
  obtain ⟨s, m, p, h1, h2⟩ := h; exact ⟨s, m, p, h1, h2.mono hj⟩
theorem Ps.bd {w : Nat} {j k : Int} (h : Ps f w j k) : Bd f w j := by
  obtain ⟨m, p, h1, h2, _⟩ := h; exact ⟨_, m, p, h1, h2⟩
theorem Ps.mono {w : Nat} {j k j' k' : Int} (h : Ps f w j k) (hj : j ≤ j') (hk : k' ≤ k) : Ps f w j' k' := by
  obtain ⟨m, p, h1, h2, h3⟩ := h; exact ⟨m, p, h1, h2.mono hj, h3.mono hk⟩
theorem write_bd {s : Bool} {m : Nat} {p j : Int} (h : FLe m p j) (hj : OkJ f j) : Bd f (f.write (.number s m p)) j := by
  obtain ⟨m', p', h1, h2, _⟩ := near_fin (neg := s) h hj
  exact ⟨s, m', p', h1, h2⟩
theorem write_ps {m : Nat} {p j k : Int} (h : FLe m p j) (g : FGe m p k) (hj : OkJ f j) (hk : f.leastPlace + f.fractionBits ≤ k) (hkj : k ≤ j) : Ps f (f.write (.number false m p)) j k := by
  obtain ⟨m', p', h1, h2, h3⟩ := near_fin (neg := false) h hj
  exact ⟨m', p', h1, h2, h3 k hk hkj g⟩
theorem FLe.mul {m n : Nat} {p q a c : Int} (h : FLe m p a) (k : FLe n q c) : FLe (m * n) (p + q) (a + c) := by
  rcases h with h | ⟨h1, h2⟩
  · exact .inl (by rw [h, Nat.zero_mul])
  rcases k with k | ⟨k1, k2⟩
  · exact .inl (by rw [k, Nat.mul_zero])
  refine .inr ⟨by omega, ?_⟩
  rw [show (a + c - (p + q)).toNat = (a - p).toNat + (c - q).toNat by omega, Nat.pow_add]
  exact Nat.mul_le_mul h2 k2
theorem FGe.mul {m n : Nat} {p q a c : Int} (h : FGe m p a) (k : FGe n q c) : FGe (m * n) (p + q) (a + c) := by
  have h0 : m * n ≠ 0 := Nat.mul_ne_zero h.1 k.1
  refine ⟨h0, ?_⟩
  have h1 := log_le h.1
  have h2 := log_le k.1
  have h3 : 2 ^ (m.log2 + n.log2) ≤ m * n := by rw [Nat.pow_add]; exact Nat.mul_le_mul h1 h2
  have h4 := le_log h0 h3
  have := h.2
  have := k.2
  omega
theorem mul_bd {x y : Nat} {a c : Int} (hx : Bd f x a) (hy : Bd f y c) (hj : OkJ f (a + c)) : ∃ w, f.mul x y = some w ∧ Bd f w (a + c) := by
  obtain ⟨s, m, p, e1, h1⟩ := hx
  obtain ⟨t, n, q, e2, h2⟩ := hy
  refine ⟨_, by unfold Ieee.Format.mul; rw [e1, e2]; rfl, write_bd (h1.mul h2) hj⟩
theorem mul_ps {x y : Nat} {a b c d : Int} (hx : Ps f x a b) (hy : Ps f y c d) (hj : OkJ f (a + c)) (hk : f.leastPlace + f.fractionBits ≤ b + d) (hkj : b + d ≤ a + c) : ∃ w, f.mul x y = some w ∧ Ps f w (a + c) (b + d) := by
  obtain ⟨m, p, e1, h1, g1⟩ := hx
  obtain ⟨n, q, e2, h2, g2⟩ := hy
  refine ⟨_, by unfold Ieee.Format.mul; rw [e1, e2]; rfl, write_ps (h1.mul h2) (g1.mul g2) hj hk hkj⟩
theorem FLe.shl {m : Nat} {i b a : Int} (h : FLe m i a) (hb : b ≤ i) (hba : b ≤ a) : m <<< (i - b).toNat ≤ 2 ^ (a - b).toNat := by
  rw [Nat.shiftLeft_eq]
  rcases h with h | ⟨h1, h2⟩
  · rw [h, Nat.zero_mul]; exact Nat.zero_le _
  · refine Nat.le_trans (Nat.mul_le_mul_right _ h2) ?_
    rw [← Nat.pow_add]; exact p2_le (by omega)
theorem sum_le {s t : Bool} {m n : Nat} {i j a : Int} (h : FLe m i a) (k : FLe n j a) : FLe (Ieee.signed s m (i - min i j).toNat + Ieee.signed t n (j - min i j).toNat).natAbs (min i j) (a + 1) := by
  by_cases hz : m = 0 ∧ n = 0
  · refine .inl ?_
    rw [hz.1, hz.2]
    unfold Ieee.signed
    rw [Nat.zero_shiftLeft, Nat.zero_shiftLeft]
    cases s <;> cases t <;> rfl
  have hb : min i j ≤ a := by
    by_cases e : m = 0
    · have := (k.resolve_left (fun g => hz ⟨e, g⟩)).1; omega
    · have := (h.resolve_left e).1; omega
  have h1 := h.shl (b := min i j) (by omega) hb
  have h2 := k.shl (b := min i j) (by omega) hb
  refine .inr ⟨by omega, ?_⟩
  rw [show (a + 1 - min i j).toNat = (a - min i j).toNat + 1 by omega, Nat.pow_succ]
  generalize 2 ^ (a - min i j).toNat = T at *
  unfold Ieee.signed
  generalize m <<< (i - min i j).toNat = M at *
  generalize n <<< (j - min i j).toNat = N at *
  cases s <;> cases t <;> simp only [if_true, if_false, Bool.false_eq_true] <;> omega
theorem add_bd {x y : Nat} {a : Int} (hx : Bd f x a) (hy : Bd f y a) (hj : OkJ f (a + 1)) : ∃ w, f.add x y = some w ∧ Bd f w (a + 1) := by
  obtain ⟨s, m, p, e1, h1⟩ := hx
  obtain ⟨t, n, q, e2, h2⟩ := hy
  exact ⟨_, by unfold Ieee.Format.add; rw [e1, e2]; rfl, write_bd (sum_le h1 h2) hj⟩
theorem sub_bd {x y : Nat} {a : Int} (hx : Bd f x a) (hy : Bd f y a) (hj : OkJ f (a + 1)) : ∃ w, f.sub x y = some w ∧ Bd f w (a + 1) := by
  obtain ⟨s, m, p, e1, h1⟩ := hx
  obtain ⟨t, n, q, e2, h2⟩ := hy
  exact ⟨_, by unfold Ieee.Format.sub; rw [e1, e2]; rfl, write_bd (sum_le h1 h2) hj⟩
/-- What is taken from itself. -/
theorem sub_self {x : Nat} {a : Int} (hx : Bd f x a) : f.sub x x = some 0 := by
  obtain ⟨s, m, p, e1, h1⟩ := hx
  have : Ieee.signed s m (p - min p p).toNat + Ieee.signed (!s) m (p - min p p).toNat = 0 := by
    unfold Ieee.signed
    cases s <;> simp <;> omega
  unfold Ieee.Format.sub
  rw [e1]
  show ((Ieee.Datum.number s m p).sum (.number (!s) m p)).map f.write = _
  unfold Ieee.Datum.sum
  simp only [this, if_true]
  have e : (s && !s) = false := by cases s <;> rfl
  rw [e]
  show some (f.nearest false (0 : Int).natAbs _) = some 0
  rfl
/-! ### quotients -/
theorem quo_le {m n more d : Nat} {i j t : Int} (hn : n ≠ 0) (hm : m ≠ 0) (hd : more = d + n.log2 - m.log2) (h : m * 2 ^ (i - j - t).toNat ≤ n * 2 ^ (t + j - i).toNat) : FLe (2 * ((m <<< more) / n) + ((m <<< more) % n != 0).toNat) (i - j - (more : Int) - 1) t := by
  rw [Nat.shiftLeft_eq]
  -- the exponents
  have hl : m.log2 + (i - j - t).toNat ≤ n.log2 + (t + j - i).toNat := by
    have h1 : 2 ^ (m.log2 + (i - j - t).toNat) ≤ m * 2 ^ (i - j - t).toNat := by rw [Nat.pow_add]; exact Nat.mul_le_mul_right _ (log_le hm)
    have h2 : n * 2 ^ (t + j - i).toNat < 2 ^ (n.log2 + 1 + (t + j - i).toNat) := by
      rw [Nat.pow_add _ (n.log2 + 1)]; exact Nat.mul_lt_mul_of_pos_right (log_lt n) (p2_pos _)
    have h3 : 2 ^ (m.log2 + (i - j - t).toNat) < 2 ^ (n.log2 + 1 + (t + j - i).toNat) := by omega
    have := (Nat.pow_lt_pow_iff_right (by decide : 1 < 2)).1 h3
    omega
  have hr : 0 ≤ t + j - i + more := by omega
  have hD : m * 2 ^ more ≤ n * 2 ^ (t + j - i + more).toNat := by
    by_cases hs : 0 ≤ t + j - i
    · rw [show (i - j - t).toNat = 0 by omega, Nat.pow_zero, Nat.mul_one] at h
      rw [show (t + j - i + more).toNat = (t + j - i).toNat + more by omega, Nat.pow_add, ← Nat.mul_assoc]
      exact Nat.mul_le_mul_right _ h
    · rw [show (t + j - i).toNat = 0 by omega, Nat.pow_zero, Nat.mul_one] at h
      have e : more = (i - j - t).toNat + (t + j - i + more).toNat := by omega
      rw [show 2 ^ more = 2 ^ (i - j - t).toNat * 2 ^ (t + j - i + more).toNat by rw [← Nat.pow_add]; congr 1, ← Nat.mul_assoc]
      exact Nat.mul_le_mul_right _ h
  refine .inr ⟨by omega, ?_⟩
  rw [show (t - (i - j - (more : Int) - 1)).toNat = (t + j - i + more).toNat + 1 by omega, Nat.pow_succ]
  generalize 2 ^ (t + j - i + more).toNat = T at *
  generalize m * 2 ^ more = D at *
  have hn0 : 0 < n := by omega
  have hq : D / n ≤ T := by rw [Nat.div_le_iff_le_mul hn0, Nat.mul_comm]; omega
  by_cases hz : D % n = 0
  · rw [hz]; show 2 * (D / n) + 0 ≤ _; omega
  · have hlt : D / n < T := by
      rw [Nat.div_lt_iff_lt_mul hn0, Nat.mul_comm]
      rcases Nat.lt_or_ge D (n * T) with q | q
      · exact q
      · exfalso
        have : D = n * T := by omega
        rw [this, Nat.mul_mod_right] at hz; exact hz rfl
    have h2 : ∀ b : Bool, b.toNat ≤ 1 := by decide
    have := h2 (D % n != 0)
    omega
theorem quo_hyp {m n : Nat} {i j a k : Int} (h : FLe m i a) (g : FGe n j k) (hm : m ≠ 0) : m * 2 ^ (i - j - (a - k)).toNat ≤ n * 2 ^ (a - k + j - i).toNat := by
  obtain ⟨h1, h2⟩ := h.resolve_left hm
  have g1 := log_le g.1
  have g2 := g.2
  refine Nat.le_trans (Nat.mul_le_mul_right _ h2) (Nat.le_trans ?_ (Nat.mul_le_mul_right _ g1))
  rw [← Nat.pow_add, ← Nat.pow_add]
  exact p2_le (by omega)
theorem div_of {x y : Nat} {s t : Bool} {m n : Nat} {i j r : Int} (hx : f.read x = .number s m i) (hy : f.read y = .number t n j) (hn : n ≠ 0) (h : m ≠ 0 → m * 2 ^ (i - j - r).toNat ≤ n * 2 ^ (r + j - i).toNat) (hj : OkJ f r) : ∃ w, f.div x y = some w ∧ Bd f w r := by
  refine ⟨_, by unfold Ieee.Format.div; rw [hx, hy]; simp only [Ieee.Datum.quotient, if_neg hn]; rfl, write_bd ?_ hj⟩
  by_cases hm : m = 0
  · subst hm
    refine .inl ?_
    rw [Nat.zero_shiftLeft, Nat.zero_div, Nat.zero_mod]; rfl
  · exact quo_le hn hm rfl (h hm)
theorem div_bd {x y : Nat} {a k : Int} (hx : Bd f x a) (hy : Gd f y k) (hj : OkJ f (a - k)) : ∃ w, f.div x y = some w ∧ Bd f w (a - k) := by
  obtain ⟨s, m, i, e1, h1⟩ := hx
  obtain ⟨t, n, j, e2, h2⟩ := hy
  exact div_of e1 e2 h2.1 (fun hm => quo_hyp h1 h2 hm) hj
/-! ### sums with one -/
/-- 'x + y' of two that are not negative. -/
theorem add_gd {x y : Nat} {a b c : Int} (hx : Ps f x a b) (hy : Ps f y a c) (hj : OkJ f (a + 1)) (hc : f.leastPlace + f.fractionBits ≤ c) (hca : c ≤ a) : ∃ w, f.add x y = some w ∧ Gd f w c := by
  obtain ⟨m, i, e1, h1, g1⟩ := hx
  obtain ⟨n, j, e2, h2, g2⟩ := hy
  have hs := sum_le (s := false) (t := false) h1 h2
  have hT : Ieee.signed false m (i - min i j).toNat + Ieee.signed false n (j - min i j).toNat = ((m <<< (i - min i j).toNat + n <<< (j - min i j).toNat : Nat) : Int) := by
    unfold Ieee.signed; simp
  have hge : FGe (m <<< (i - min i j).toNat + n <<< (j - min i j).toNat) (min i j) c := by
    have hn := log_le g2.1
    have h3 : 2 ^ (n.log2 + (j - min i j).toNat) ≤ m <<< (i - min i j).toNat + n <<< (j - min i j).toNat := by
      rw [Nat.shiftLeft_eq n, Nat.pow_add]
      exact Nat.le_trans (Nat.mul_le_mul_right _ hn) (Nat.le_add_left _ _)
    have h0 : m <<< (i - min i j).toNat + n <<< (j - min i j).toNat ≠ 0 := by have := p2_pos (n.log2 + (j - min i j).toNat); omega
    have h4 := le_log h0 h3
    have := g2.2
    exact ⟨h0, by omega⟩
  rw [hT, Int.natAbs_natCast] at hs
  have hneg : (if (((m <<< (i - min i j).toNat + n <<< (j - min i j).toNat : Nat) : Int)) = 0 then (false && false) else decide ((((m <<< (i - min i j).toNat + n <<< (j - min i j).toNat : Nat) : Int)) < 0)) = false := by
    split
    · rfl
    · exact decide_eq_false (Int.not_lt.2 (Int.natCast_nonneg _))
  refine ⟨f.write (.number false (m <<< (i - min i j).toNat + n <<< (j - min i j).toNat) (min i j)), ?_, ?_⟩
  · unfold Ieee.Format.add
    rw [e1, e2]
    show ((Ieee.Datum.number false m i).sum (.number false n j)).map f.write = _
    unfold Ieee.Datum.sum
    simp only [hT, hneg, Int.natAbs_natCast, Option.map_some]
  · obtain ⟨m', p', k1, k2, k3⟩ := near_fin (neg := false) hs hj
    exact ⟨false, m', p', k1, k3 c hc (by omega) hge⟩
/-- 'x - y' of two between 0 and 2, of which the second is 1. -/
theorem sub_one_bd {x y : Nat} {n : Nat} {j b : Int} (hx : Ps f x 1 b) (hy : f.read y = .number false n j) (h1 : j ≤ 0 ∧ n = 2 ^ (0 - j).toNat) (hj : OkJ f 0) : ∃ w, f.sub x y = some w ∧ Bd f w 0 := by
  obtain ⟨m, i, e1, h2, g1⟩ := hx
  refine ⟨_, by unfold Ieee.Format.sub; rw [e1, hy]; rfl, write_bd ?_ hj⟩
  have hsh := h2.shl (b := min i j) (by omega) (by omega)
  have hn : n <<< (j - min i j).toNat = 2 ^ (0 - min i j).toNat := by
    rw [Nat.shiftLeft_eq, h1.2, ← Nat.pow_add]; congr 1; omega
  refine .inr ⟨by omega, ?_⟩
  unfold Ieee.signed
  rw [hn]
  rw [show (1 - min i j).toNat = (0 - min i j).toNat + 1 by omega, Nat.pow_succ] at hsh
  generalize 2 ^ (0 - min i j).toNat = T at *
  generalize m <<< (i - min i j).toNat = M at *
  simp only [Bool.not_false, if_true, Bool.false_eq_true, if_false]
  omega
/-! ### order -/
theorem cmp_lt {a c : Int} (h : a < c) : compare a c = .lt := by
  show compareOfLessAndEq a c = .lt
  unfold compareOfLessAndEq; rw [if_pos h]
theorem cmp_ge {a c : Int} (h : c ≤ a) : compare a c ≠ .lt := by
  show compareOfLessAndEq a c ≠ .lt
  unfold compareOfLessAndEq; rw [if_neg (by omega)]
  split <;> decide
theorem cmp_gt {a c : Int} (h : c < a) : compare a c = .gt := by
  show compareOfLessAndEq a c = .gt
  unfold compareOfLessAndEq; rw [if_neg (by omega), if_neg (by omega)]
theorem ord_pos {x y m n : Nat} {i j : Int} (hx : f.read x = .number false m i) (hy : f.read y = .number false n j) : f.order x y = some (compare ((m * 2 ^ (i - min i j).toNat : Nat) : Int) ((n * 2 ^ (j - min i j).toNat : Nat) : Int)) := by
  unfold Ieee.Format.order
  rw [hx, hy]
  simp only [Ieee.Datum.order, Ieee.signed, Bool.false_eq_true, if_false, Nat.shiftLeft_eq]
theorem ord_lt {x y n : Nat} {j a b : Int} (hx : Ps f x a b) (hy : f.read y = .number false n j) (h : j ≤ a ∧ 2 ^ (a - j).toNat < n) : f.order x y = some .lt := by
  obtain ⟨m, i, e1, h1, g1⟩ := hx
  rw [ord_pos e1 hy]
  have hs := h1.shl (b := min i j) (by omega) (by omega)
  rw [Nat.shiftLeft_eq] at hs
  have h3 : 2 ^ (a - min i j).toNat < n * 2 ^ (j - min i j).toNat := by
    rw [show (a - min i j).toNat = (a - j).toNat + (j - min i j).toNat by omega, Nat.pow_add]
    exact Nat.mul_lt_mul_of_pos_right h.2 (p2_pos _)
  rw [cmp_lt (by omega)]
theorem ord_ge {x y n : Nat} {j a b : Int} (hx : Ps f x a b) (hy : f.read y = .number false n j) (h : j ≤ b ∧ n ≤ 2 ^ (b - j).toNat) : f.order x y ≠ some .lt := by
  obtain ⟨m, i, e1, h1, g1⟩ := hx
  rw [ord_pos e1 hy]
  have h2 := log_le g1.1
  have h3 := g1.2
  have h4 : n * 2 ^ (j - min i j).toNat ≤ m * 2 ^ (i - min i j).toNat := by
    refine Nat.le_trans (Nat.mul_le_mul_right _ h.2) (Nat.le_trans ?_ (Nat.mul_le_mul_right _ h2))
    rw [← Nat.pow_add, ← Nat.pow_add]
    exact p2_le (by omega)
  intro e
  exact cmp_ge (by exact_mod_cast h4) (Option.some.inj e)
theorem ord_lt_le {x y n : Nat} {j a b c : Int} (hx : Ps f x a b) (hy : f.read y = .number false n j) (h : j ≤ c ∧ n ≤ 2 ^ (c - j).toNat) (e : f.order x y = some .lt) : Ps f x c b := by
  obtain ⟨m, i, e1, h1, g1⟩ := hx
  rw [ord_pos e1 hy] at e
  have hlt : m * 2 ^ (i - min i j).toNat < n * 2 ^ (j - min i j).toNat := by
    rcases Nat.lt_or_ge (m * 2 ^ (i - min i j).toNat) (n * 2 ^ (j - min i j).toNat) with q | q
    · exact q
    · exact absurd (Option.some.inj e) (cmp_ge (by exact_mod_cast q))
  have h2 : n * 2 ^ (j - min i j).toNat ≤ 2 ^ (c - min i j).toNat := by
    refine Nat.le_trans (Nat.mul_le_mul_right _ h.2) ?_
    rw [← Nat.pow_add]; exact p2_le (by omega)
  have h3 : m * 2 ^ (i - min i j).toNat < 2 ^ (c - min i j).toNat := by omega
  refine ⟨m, i, e1, .inr ?_, g1⟩
  have hi : i ≤ c := by
    rcases Int.lt_or_le c i with q | q
    · exfalso
      have h4 : 2 ^ (i - min i j).toNat ≤ m * 2 ^ (i - min i j).toNat := Nat.le_mul_of_pos_left _ (Nat.pos_of_ne_zero g1.1)
      have h5 : 2 ^ (c - min i j).toNat ≤ 2 ^ (i - min i j).toNat := p2_le (by omega)
      omega
    · exact q
  refine ⟨hi, ?_⟩
  rw [show (c - min i j).toNat = (c - i).toNat + (i - min i j).toNat by omega, Nat.pow_add] at h3
  exact Nat.le_of_lt (Nat.lt_of_mul_lt_mul_right h3)
end

end Go.Proofs.Ytlmbgaoeplffkaa
