/- The logarithm that both reckon: what it is, and that it is a number. -/
import Derived.Test.YtlmbgaoeplffkaaXieeeB
import Derived.Test.YtlmbgaoeplffkaaXentW
import Derived.Test.YtlmbgaoeplffkaaFB
namespace Go.Proofs.Ytlmbgaoeplffkaa
open Go Go.RowKit
set_option linter.unusedVariables false
set_option linter.unusedSimpArgs false
set_option maxRecDepth 100000
set_option maxHeartbeats 8000000


theorem lp_s : Ieee.Format.leastPlace Ieee.single = -149 := by decide
theorem lp_d : Ieee.Format.leastPlace Ieee.double = -1074 := by decide
theorem bi_s : Ieee.Format.binade Ieee.single = 8388608 := by decide
theorem bi_d : Ieee.Format.binade Ieee.double = 4503599627370496 := by decide
theorem in_s : Ieee.Format.infRung Ieee.single = 2139095040 := by decide
theorem in_d : Ieee.Format.infRung Ieee.double = 9218868437227405312 := by decide
theorem fb_s : Ieee.Format.fractionBits Ieee.single = 23 := rfl
theorem fb_d : Ieee.Format.fractionBits Ieee.double = 52 := rfl
theorem okS {j : Int} (h : -126 ≤ j ∧ j ≤ 127) : OkJ Ieee.single j := by
  unfold OkJ topR
  rw [lp_s, bi_s, in_s, fb_s]; omega
theorem okD {j : Int} (h : -1022 ≤ j ∧ j ≤ 1023) : OkJ Ieee.double j := by
  unfold OkJ topR
  rw [lp_d, bi_d, in_d, fb_d]; omega
theorem loS {j : Int} (h : -126 ≤ j) : Ieee.Format.leastPlace Ieee.single + (Ieee.Format.fractionBits Ieee.single : Nat) ≤ j := by rw [lp_s, fb_s]; omega
theorem loD {j : Int} (h : -1022 ≤ j) : Ieee.Format.leastPlace Ieee.double + (Ieee.Format.fractionBits Ieee.double : Nat) ≤ j := by rw [lp_d, fb_d]; omega
abbrev one64 : Nat := 4607182418800017408
abbrev two64 : Nat := 4611686018427387904
abbrev c15 : Nat := 4609434218613702656
abbrev c075 : Nat := 4604930618986332160
abbrev ln64 : Nat := 4604418534313441775
abbrev mx64 : Nat := 9218868437227405311
abbrev ln32 : Nat := 1060205080
theorem rd_one : Ieee.double.read one64 = .number false 4503599627370496 (-52) := by decide
theorem rd_two : Ieee.double.read two64 = .number false 4503599627370496 (-51) := by decide
theorem rd_c15 : Ieee.double.read c15 = .number false 6755399441055744 (-52) := by decide
theorem rd_c075 : Ieee.double.read c075 = .number false 6755399441055744 (-53) := by decide
theorem rd_ln : Ieee.double.read ln64 = .number false 6243314768165359 (-53) := by decide
theorem rd_mx : Ieee.double.read mx64 = .number false 9007199254740991 971 := by decide
theorem rd_ln32 : Ieee.single.read ln32 = .number false 11629080 (-24) := by decide
theorem ps_one : Ps Ieee.double one64 1 0 := ⟨_, _, rd_one, .inr ⟨by decide, by decide⟩, by decide, by decide⟩
theorem bd_one : Bd Ieee.double one64 0 := ⟨_, _, _, rd_one, .inr ⟨by decide, by decide⟩⟩
theorem ps_two : Ps Ieee.double two64 1 1 := ⟨_, _, rd_two, .inr ⟨by decide, by decide⟩, by decide, by decide⟩
theorem bd_ln : Bd Ieee.double ln64 0 := ⟨_, _, _, rd_ln, .inr ⟨by decide, by decide⟩⟩
theorem gd_ln32 : Gd Ieee.single ln32 (-1) := ⟨_, _, _, rd_ln32, by decide, by decide⟩
/-! ### whole numbers -/
theorem near_ps {k : FloatKind} {n : Nat} {a : Int} (h : 1 ≤ n ∧ n ≤ 2 ^ a.toNat) (ha : 0 ≤ a) (hj : OkJ k.format a) (h0 : k.format.leastPlace + (k.format.fractionBits : Nat) ≤ 0) : Ps k.format (k.nearest (n : Int)) a 0 := by
  have e : k.nearest (n : Int) = k.format.write (.number false n 0) := by
    show k.format.write (.number (decide ((n : Int) < 0)) (n : Int).natAbs 0) = _
    rw [decide_eq_false (by omega), Int.natAbs_natCast]
  rw [e]
  exact write_ps (.inr ⟨ha, by rw [Int.sub_zero]; exact h.2⟩) ⟨by omega, by omega⟩ hj h0 ha
theorem near_bd {k : FloatKind} {z : Int} {a : Int} (h : z.natAbs ≤ 2 ^ a.toNat) (ha : 0 ≤ a) (hj : OkJ k.format a) : Bd k.format (k.nearest z) a := by
  show Bd k.format (k.format.write (.number (decide (z < 0)) z.natAbs 0)) a
  exact write_bd (.inr ⟨ha, by rw [Int.sub_zero]; exact h⟩) hj
/-! ### operations of a kind -/
def fA (k : FloatKind) (x y : Nat) : Nat := (k.format.add x y).getD 0
def fS (k : FloatKind) (x y : Nat) : Nat := (k.format.sub x y).getD 0
def fM (k : FloatKind) (x y : Nat) : Nat := (k.format.mul x y).getD 0
def fD (k : FloatKind) (x y : Nat) : Nat := (k.format.div x y).getD 0
theorem of_add {k : FloatKind} {x y : Nat} {Q : Nat → Prop} (h : ∃ w, k.format.add x y = some w ∧ Q w) : floatBin .add k x y = some (.float k (fA k x y)) ∧ Q (fA k x y) := by
  obtain ⟨w, e, q⟩ := h
  simp only [floatBin, fA, e, Option.map_some, Option.getD_some]; exact ⟨trivial, q⟩
theorem of_sub {k : FloatKind} {x y : Nat} {Q : Nat → Prop} (h : ∃ w, k.format.sub x y = some w ∧ Q w) : floatBin .sub k x y = some (.float k (fS k x y)) ∧ Q (fS k x y) := by
  obtain ⟨w, e, q⟩ := h
  simp only [floatBin, fS, e, Option.map_some, Option.getD_some]; exact ⟨trivial, q⟩
theorem of_mul {k : FloatKind} {x y : Nat} {Q : Nat → Prop} (h : ∃ w, k.format.mul x y = some w ∧ Q w) : floatBin .mul k x y = some (.float k (fM k x y)) ∧ Q (fM k x y) := by
  obtain ⟨w, e, q⟩ := h
  simp only [floatBin, fM, e, Option.map_some, Option.getD_some]; exact ⟨trivial, q⟩
theorem of_div {k : FloatKind} {x y : Nat} {Q : Nat → Prop} (h : ∃ w, k.format.div x y = some w ∧ Q w) : floatBin .quo k x y = some (.float k (fD k x y)) ∧ Q (fD k x y) := by
  obtain ⟨w, e, q⟩ := h
  simp only [floatBin, fD, e, Option.map_some, Option.getD_some]; exact ⟨trivial, q⟩
/-! ### from kind to kind -/
def cvF (s k : FloatKind) (b : Nat) : Nat := k.encode (s.decode b)
theorem cv_bd {s k : FloatKind} {b : Nat} {j : Int} (h : Bd s.format b j) (hj : OkJ k.format j) (hne : s ≠ k) : convFV k (.c (.float s b)) = some (.c (.float k (cvF s k b))) ∧ Bd k.format (cvF s k b) j := by
  obtain ⟨sg, m, p, e, h1⟩ := h
  have hw : Bd k.format (k.format.write (.number sg m p)) j := write_bd h1 hj
  have e2 : cvF s k b = k.format.write (.number sg m p) := by
    show k.format.write (s.format.read b) = _
    rw [e]
  refine ⟨?_, by rw [e2]; exact hw⟩
  obtain ⟨s3, m3, p3, e3, _⟩ := hw
  rw [e2]
  simp only [convFV, if_neg hne]
  have e4 : s.decode b = .number sg m p := e
  rw [e4]
  have e5 : (k.decode (k.encode (.number sg m p))).isInfinity = false := by
    show (k.format.read (k.format.write (.number sg m p))).isInfinity = false
    rw [e3]; rfl
  simp only [e5]; rfl
theorem cv_ps {s k : FloatKind} {b : Nat} {j c : Int} (h : Ps s.format b j c) (hj : OkJ k.format j) (hc : k.format.leastPlace + (k.format.fractionBits : Nat) ≤ c) (hcj : c ≤ j) : Ps k.format (cvF s k b) j c := by
  obtain ⟨m, p, e, h1, h2⟩ := h
  have e2 : cvF s k b = k.format.write (.number false m p) := by
    show k.format.write (s.format.read b) = _
    rw [e]
  rw [e2]; exact write_ps h1 h2 hj hc hcj
/-! ### the logarithm -/
def dblF : Nat → Nat → Nat → Nat × Nat
  | 0, x, n => (x, n)
  | f + 1, x, n => if Ieee.double.order x c075 = some .lt then dblF f (fM .f64 x two64) (n + 1) else (x, n)
def kk (i : Nat) : Nat := FloatKind.nearest .f64 (25 - 2 * (i : Int))
def qN (u : Nat) : Nat → Nat
  | 0 => 0
  | i + 1 => fA .f64 (fD .f64 one64 (kk i)) (fM .f64 u (qN u i))
def sX (x : Nat) : Nat := fD .f64 (fS .f64 x one64) (fA .f64 x one64)
def uX (x : Nat) : Nat := fM .f64 (sX x) (sX x)
def lgX (x n : Nat) : Nat := fA .f64 (fM .f64 two64 (fM .f64 (sX x) (qN (uX x) 13))) (fM .f64 (FloatKind.nearest .f64 (-(n : Int))) ln64)
def lgW (x : Nat) : Nat := lgX (dblF 7 x 0).1 (dblF 7 x 0).2
theorem tab_e : ∀ n : Nat, n < 6 → Ieee.double.sub (FloatKind.nearest .f64 (-(n : Int))) one64 = some (FloatKind.nearest .f64 (-((n + 1 : Nat) : Int))) := by decide +kernel
theorem tab_k : ∀ i : Nat, i < 13 → Ieee.double.sub (kk i) two64 = some (kk (i + 1)) := by decide +kernel
theorem tab_g : ∀ i : Nat, i < 13 → (Ieee.double.order (kk i) one64 == some .gt || Ieee.double.order (kk i) one64 == some .eq) = true := by decide +kernel
theorem tab_l : (Ieee.double.order (kk 13) one64 == some .gt || Ieee.double.order (kk 13) one64 == some .eq) = false := by decide +kernel
theorem kk0 : kk 0 = 4627730092099895296 := by decide +kernel
theorem kk_gd {i : Nat} (hi : i < 13) : Gd Ieee.double (kk i) 0 := by
  obtain ⟨n, hn⟩ : ∃ n : Nat, 25 - 2 * (i : Int) = n := ⟨(25 - 2 * (i : Int)).toNat, by omega⟩
  have e5 : (2 : Nat) ^ (5 : Int).toNat = 32 := by decide
  have h := near_ps (k := .f64) (n := n) (a := 5) ⟨by omega, by omega⟩ (by omega) (okD (by omega)) (loD (by omega))
  rw [← hn] at h
  obtain ⟨m, p, e, _, g⟩ := h
  exact ⟨false, m, p, e, g⟩
theorem s_ops {x : Nat} {b : Int} (h : Ps Ieee.double x 1 b) : floatBin .sub .f64 x one64 = some (.float .f64 (fS .f64 x one64)) ∧ floatBin .add .f64 x one64 = some (.float .f64 (fA .f64 x one64)) ∧ floatBin .quo .f64 (fS .f64 x one64) (fA .f64 x one64) = some (.float .f64 (sX x)) ∧ Bd Ieee.double (sX x) 0 ∧ floatBin .mul .f64 (sX x) (sX x) = some (.float .f64 (uX x)) ∧ Bd Ieee.double (uX x) 0 := by
  have h1 := of_sub (k := .f64) (sub_one_bd h rd_one ⟨by omega, by decide⟩ (okD (by omega)))
  have h2 := of_add (k := .f64) (add_gd h ps_one (okD (by omega)) (loD (by omega)) (by omega))
  have h3 := of_div (k := .f64) (div_bd (f := Ieee.double) (a := 0) (k := 0) h1.2 h2.2 (okD (by omega)))
  have h4 := of_mul (k := .f64) (mul_bd (f := Ieee.double) (a := 0) (c := 0) h3.2 h3.2 (okD (by omega)))
  exact ⟨h1.1, h2.1, h3.1, h3.2, h4.1, h4.2⟩
theorem q_bd {u : Nat} (hu : Bd Ieee.double u 0) : ∀ i, i ≤ 13 → Bd Ieee.double (qN u i) i
  | 0, _ => ⟨false, 0, -1074, (show Ieee.double.read 0 = .number false 0 (-1074) by decide), .inl rfl⟩
  | i + 1, hi => by
    have ih := q_bd hu i (by omega)
    have h1 := of_div (k := .f64) (div_bd (f := Ieee.double) (a := 0) (k := 0) bd_one (kk_gd (by omega : i < 13)) (okD (by omega)))
    have h2 := of_mul (k := .f64) (mul_bd (f := Ieee.double) hu ih (okD (by omega)))
    have h3 := of_add (k := .f64) (add_bd (f := Ieee.double) (a := i) (h1.2.mono (by omega)) (h2.2.mono (by omega)) (okD (by omega)))
    exact h3.2.mono (by push_cast; omega)
theorem q_ops {u i : Nat} (hu : Bd Ieee.double u 0) (hi : i < 13) : floatBin .quo .f64 one64 (kk i) = some (.float .f64 (fD .f64 one64 (kk i))) ∧ floatBin .mul .f64 u (qN u i) = some (.float .f64 (fM .f64 u (qN u i))) ∧ floatBin .add .f64 (fD .f64 one64 (kk i)) (fM .f64 u (qN u i)) = some (.float .f64 (qN u (i + 1))) ∧ floatBin .sub .f64 (kk i) two64 = some (.float .f64 (kk (i + 1))) ∧ floatBin .geq .f64 (kk i) one64 = some (.bool true) := by
  have ih := q_bd hu i (by omega)
  have h1 := of_div (k := .f64) (div_bd (f := Ieee.double) (a := 0) (k := 0) bd_one (kk_gd hi) (okD (by omega)))
  have h2 := of_mul (k := .f64) (mul_bd (f := Ieee.double) hu ih (okD (by omega)))
  have h3 := of_add (k := .f64) (add_bd (f := Ieee.double) (a := i) (h1.2.mono (by omega)) (h2.2.mono (by omega)) (okD (by omega)))
  refine ⟨h1.1, h2.1, h3.1, ?_, ?_⟩
  · show (Ieee.double.sub (kk i) two64).map (AC.float .f64) = _
    rw [tab_k i hi]; rfl
  · show some (AC.bool (Ieee.double.order (kk i) one64 == some .gt || Ieee.double.order (kk i) one64 == some .eq)) = _
    rw [tab_g i hi]
theorem q_end : floatBin .geq .f64 (kk 13) one64 = some (.bool false) := by
  show some (AC.bool (Ieee.double.order (kk 13) one64 == some .gt || Ieee.double.order (kk 13) one64 == some .eq)) = _
  rw [tab_l]
theorem end_ops {x n : Nat} {b : Int} (h : Ps Ieee.double x 1 b) (hn : n ≤ 8) : floatBin .mul .f64 (sX x) (qN (uX x) 13) = some (.float .f64 (fM .f64 (sX x) (qN (uX x) 13))) ∧ floatBin .mul .f64 two64 (fM .f64 (sX x) (qN (uX x) 13)) = some (.float .f64 (fM .f64 two64 (fM .f64 (sX x) (qN (uX x) 13)))) ∧ floatBin .mul .f64 (FloatKind.nearest .f64 (-(n : Int))) ln64 = some (.float .f64 (fM .f64 (FloatKind.nearest .f64 (-(n : Int))) ln64)) ∧ floatBin .add .f64 (fM .f64 two64 (fM .f64 (sX x) (qN (uX x) 13))) (fM .f64 (FloatKind.nearest .f64 (-(n : Int))) ln64) = some (.float .f64 (lgX x n)) ∧ Bd Ieee.double (lgX x n) 15 := by
  obtain ⟨_, _, _, hs, _, hu⟩ := s_ops h
  have hq := q_bd hu 13 (by omega)
  have h1 := of_mul (k := .f64) (mul_bd (f := Ieee.double) hs hq (okD (by omega)))
  have h2 := of_mul (k := .f64) (mul_bd (f := Ieee.double) ps_two.bd h1.2 (okD (by omega)))
  have e3 : (2 : Nat) ^ (3 : Int).toNat = 8 := by decide
  have he : Bd Ieee.double (FloatKind.nearest .f64 (-(n : Int))) 3 := near_bd (k := .f64) (a := 3) (by omega) (by omega) (okD (by omega))
  have h3 := of_mul (k := .f64) (mul_bd (f := Ieee.double) he bd_ln (okD (by omega)))
  have h4 := of_add (k := .f64) (add_bd (f := Ieee.double) (a := 14) (h2.2.mono (by omega)) (h3.2.mono (by omega)) (okD (by omega)))
  exact ⟨h1.1, h2.1, h3.1, h4.1, h4.2.mono (by omega)⟩
/-! ### comparisons -/
theorem ge15 {x : Nat} {b : Int} (h : Ps Ieee.double x 0 b) : floatBin .geq .f64 x c15 = some (.bool false) := by
  have := ord_lt h rd_c15 ⟨by omega, by decide⟩
  show some (AC.bool (Ieee.double.order x c15 == some .gt || Ieee.double.order x c15 == some .eq)) = _
  rw [this]; rfl
theorem gtmx {x : Nat} {b : Int} (h : Ps Ieee.double x 0 b) : floatBin .gtr .f64 x mx64 = some (.bool false) := by
  obtain ⟨m, i, e1, h1, g1⟩ := h
  have e : Ieee.double.order x mx64 = some .lt := by
    rw [ord_pos e1 rd_mx]
    obtain ⟨h2, h3⟩ := h1.resolve_left g1.1
    have hmin : min i 971 = i := by omega
    rw [hmin, Int.sub_self]
    have h4 : (2 : Nat) ^ (0 - i).toNat ≤ 2 ^ (971 - i).toNat := p2_le (by omega)
    have h5 := p2_pos (971 - i).toNat
    rw [cmp_lt]
    have : m * 2 ^ (0 : Int).toNat = m := by rw [show (0 : Int).toNat = 0 from rfl, Nat.pow_zero, Nat.mul_one]
    rw [this]
    have : m < 9007199254740991 * 2 ^ (971 - i).toNat := by omega
    exact_mod_cast this
  show some (AC.bool (Ieee.double.order x mx64 == some .gt)) = _
  rw [e]; rfl
theorem lt075 {x : Nat} {b : Int} (h : Ps Ieee.double x 1 b) (hb : -1000 ≤ b ∧ b ≤ 0) (e : Ieee.double.order x c075 = some .lt) : b < 0 ∧ floatBin .lss .f64 x c075 = some (.bool true) ∧ floatBin .mul .f64 x two64 = some (.float .f64 (fM .f64 x two64)) ∧ Ps Ieee.double (fM .f64 x two64) 1 (b + 1) := by
  have hb0 : b < 0 := by
    rcases Int.lt_or_le b 0 with q | q
    · exact q
    · exact absurd e (ord_ge (h.mono (Int.le_refl _) (by omega : 0 ≤ b)) rd_c075 ⟨by omega, by decide⟩)
  have h0 := ord_lt_le (c := 0) h rd_c075 ⟨by omega, by decide⟩ e
  have h1 := of_mul (k := .f64) (mul_ps (f := Ieee.double) h0 ps_two (okD (by omega)) (loD (by omega)) (by omega))
  refine ⟨hb0, ?_, h1.1, h1.2⟩
  show some (AC.bool (Ieee.double.order x c075 == some .lt)) = _
  rw [e]; rfl
theorem ge075 {x : Nat} (e : ¬ Ieee.double.order x c075 = some .lt) : floatBin .lss .f64 x c075 = some (.bool false) := by
  show some (AC.bool (Ieee.double.order x c075 == some .lt)) = _
  congr 2
  cases hb : (Ieee.double.order x c075 == some .lt) with
  | true => exact absurd (eq_of_beq hb) e
  | false => rfl
theorem ord_refl {f : Ieee.Format} {x : Nat} {j : Int} (h : Bd f x j) : f.order x x = some .eq := by
  obtain ⟨s, m, p, e, _⟩ := h
  unfold Ieee.Format.order
  rw [e]
  simp only [Ieee.Datum.order]
  congr 1
  show compareOfLessAndEq _ _ = .eq
  unfold compareOfLessAndEq
  rw [if_neg (by omega), if_pos rfl]
theorem ord_zero {f : Ieee.Format} {x : Nat} {j b : Int} (h : Ps f x j b) (h0 : f.read 0 = .number false 0 f.leastPlace) : f.order x 0 = some .gt := by
  obtain ⟨m, p, e, _, g⟩ := h
  rw [ord_pos e h0, cmp_gt]
  rw [Nat.zero_mul]
  have h1 : 0 < m * 2 ^ (p - min p f.leastPlace).toNat := Nat.mul_pos (Nat.pos_of_ne_zero g.1) (p2_pos _)
  exact_mod_cast h1

end Go.Proofs.Ytlmbgaoeplffkaa
