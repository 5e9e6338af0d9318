/- Digits and numbers. -/
import Derived.Test.YtlmbgaoeplffkaaXrule
import Derived.Test.YtlmbgaoeplffkaaXmade
import Derived.Test.YtlmbgaoeplffkaaFB
namespace Go.Proofs.Ytlmbgaoeplffkaa
open Go Go.RowKit
set_option linter.unusedVariables false
set_option linter.unusedSimpArgs false
set_option maxRecDepth 100000
set_option maxHeartbeats 8000000
-- impl.digitsOf
def L63 : AFun := ⟨27, [.t 6],
 (.seq (.ops false [⟨(some 6), .mv (.k (.c (.sl 0 0 0))), none, []⟩])
 (.seq (.ops false [⟨(some 9), .mv (.t 2), none, []⟩,
   ⟨(some 10), .makeS 2 1 8 [.int .i64 0] (.t 9) (.t 9), none, []⟩,
   ⟨(some 7), .mv (.t 10), none, []⟩])
 (.seq (.seq (.ops false [⟨(some 11), .mv (.t 2), none, []⟩,
    ⟨(some 12), .bin .sub (.t 11) (.k (iv 1)), none, []⟩,
    ⟨(some 8), .mv (.t 12), none, []⟩])
  (.block 0 (.loop [0, 1, 7, 8] (.seq (.seq (.ops false [⟨(some 13), .mv (.t 8), none, []⟩,
       ⟨(some 14), .bin .geq (.t 13) (.k (iv 0)), none, []⟩])
     (.cond (.t 14) .skip
      (.exit 0)))
    (.seq (.block 1 (.seq (.ops false [⟨(some 17), .mv (.t 7), none, []⟩,
        ⟨(some 18), .mv (.t 8), none, []⟩,
        ⟨(some 19), .mv (.t 0), none, []⟩,
        ⟨(some 20), .mv (.t 1), none, []⟩,
        ⟨(some 21), .bin .rem (.t 19) (.t 20), none, []⟩,
        ⟨(some 22), .idxA 1 (.t 17) (.t 18), none, []⟩,
        ⟨none, .store 1 (.t 22) (.t 21), none, []⟩])
      (.ops false [⟨(some 23), .mv (.t 0), none, []⟩,
       ⟨(some 24), .mv (.t 1), none, []⟩,
       ⟨(some 25), .bin .quo (.t 23) (.t 24), none, []⟩,
       ⟨(some 0), .mv (.t 25), none, []⟩])))
    (.ops false [⟨(some 15), .mv (.t 8), none, []⟩,
     ⟨(some 16), .bin .sub (.t 15) (.k (iv 1)), none, []⟩,
     ⟨(some 8), .mv (.t 16), none, []⟩]))))))
 (.seq (.ops false [⟨(some 26), .mv (.t 7), none, []⟩,
   ⟨(some 6), .mv (.t 26), none, []⟩])
 .ret))))⟩
theorem code63 : acode Try.prog hints 63 = some L63 := by kernel_rfl


def dgt (S n t : Nat) : Int := ((n / S ^ t % S : Nat) : Int)
/-- The digits of 'n', 'w' of them, the greatest first. -/
def dg (S n w : Nat) : List Int := (List.range w).map fun i => dgt S n (w - 1 - i)
@[simp] theorem dg_len {S n w : Nat} : (dg S n w).length = w := by simp [dg]
theorem dg_get {S n w i : Nat} (h : i < w) : (dg S n w).getD i 0 = dgt S n (w - 1 - i) := getD_map_range h
theorem dgt_in {S n t : Nat} (h : 0 < S) : 0 ≤ dgt S n t ∧ dgt S n t ≤ (S : Int) - 1 := by
  have := Nat.mod_lt (n / S ^ t) h
  unfold dgt; omega
theorem dg_mem {S n w : Nat} (h : 0 < S) : ∀ x ∈ dg S n w, 0 ≤ x ∧ x ≤ (S : Int) - 1 := by
  intro x hx
  obtain ⟨i, hi, rfl⟩ := mem_get (d := 0) hx
  rw [dg_get (by simpa using hi)]; exact dgt_in h
theorem dg_done {S n w : Nat} {ys : List Int} (hl : ys.length = w) (h : ∀ t, t < w → ys.getD (w - 1 - t) 0 = dgt S n t) : ys = dg S n w := by
  refine ext_getD 0 (by simp [hl]) fun i hi => ?_
  have := h (w - 1 - i) (by omega)
  rw [show w - 1 - (w - 1 - i) = i by omega] at this
  rw [this, dg_get (by omega)]
theorem dg_step {S n j : Nat} {a : Int} (ha : a = ((n / S ^ j : Nat) : Int)) : a / (S : Int) = ((n / S ^ (j + 1) : Nat) : Int) ∧ a % (S : Int) = dgt S n j := by
  subst ha
  rw [Nat.pow_succ, ← Nat.div_div_eq_div_mul]
  exact ⟨by push_cast; rfl, by unfold dgt; push_cast; rfl⟩
theorem dg_set {S n w j : Nat} {ys : List Int} {i : Int} {v : Int} (hl : ys.length = w) (hj : j < w) (hi : i = (w : Int) - 1 - j) (hv : v = dgt S n j) (h : ∀ t, t < j → ys.getD (w - 1 - t) 0 = dgt S n t) : ∀ t, t < j + 1 → (ys.set i.toNat v).getD (w - 1 - t) 0 = dgt S n t := by
  intro t ht
  rw [getD_set (by omega)]
  by_cases e : t = j
  · subst e; rw [if_pos (by omega), hv]
  · rw [if_neg (by omega)]; exact h t (by omega)
theorem c_digitsOf {s : St} [Wf s] {n S w : Nat} (hn : n ≤ 4611686018427387904 := by omega) (hS : 2 ≤ S ∧ S ≤ 3 := by omega) (hw : w ≤ 64 := by omega) : Fn [] 63 [iv n, iv S, iv w] s fun R N => ∃ p, R = .c (.sl p 0 w) ∧ N = [(p, ints (dg S n w))] := by
  refine F_start code63 ?_
  repeat' (first
 | refine A_go rfl ?_ | refine A_ifT rfl rfl ?_ | refine A_ifF rfl rfl ?_
 | refine A_sub rfl rfl rfl (by omega) ?_ | refine A_rem rfl rfl rfl (by omega) ?_ | refine A_remT rfl rfl rfl (by omega) ?_ | refine A_quo rfl rfl rfl (by omega) ?_
 | ((first | refine A_ge rfl rfl rfl ?_ ?_) <;> intro hc <;> try first | contradiction | (exfalso; omega) | exact absurd rfl hc)
 | refine A_idxN1 rfl rfl rfl (by omega) ?_ | refine A_idx1 rfl rfl rfl (by omega) ?_
 | refine A_p (by rfl) rfl ?_
 | refine A_st rfl rfl rfl ?_ | refine A_stE rfl rfl (by first | omega | (simp; done) | (simp; omega)) rfl ?_
 | ((first | refine A_makeN rfl rfl rfl (by omega) ?_ | refine A_make rfl rfl rfl (by omega) ?_) <;> intro pz hpz)
 | refine A_ret1 rfl (by exact (RP.t rfl RP.nil)) ?_)
  refine A_loop rfl [pz] (fun m fr L => ∃ (j : Nat) (a i : Int) (ys : List Int), m = w - j ∧ fr = [(0, iv a), (1, iv S), (7, .c (.sl pz 0 w)), (8, iv i)] ∧ L = [(pz, ints ys)] ∧ j ≤ w ∧ ys.length = w ∧ a = ((n / S ^ j : Nat) : Int) ∧ i = (w : Int) - 1 - j ∧ ∀ t, t < j → ys.getD (w - 1 - t) 0 = dgt S n t) w ⟨0, n, _, _, rfl, rfl, rfl, by omega, by simp, by simp, by omega, fun t ht => by omega⟩ ?_
  rintro m fr L ⟨j, a, i, ys, rfl, rfl, rfl, hj, hy, ha, hi, hd⟩
  have hle : a ≤ (n : Int) := by rw [ha]; have := Nat.div_le_self n (S ^ j); omega
  have h0 : 0 ≤ a := by rw [ha]; exact Int.natCast_nonneg _
  obtain ⟨e1, e2⟩ := dg_step ha
  clear ha
  repeat' (first
 | refine A_go rfl ?_ | refine A_ifT rfl rfl ?_ | refine A_ifF rfl rfl ?_
 | refine A_sub rfl rfl rfl (by omega) ?_ | refine A_rem rfl rfl rfl (by omega) ?_ | refine A_remT rfl rfl rfl (by omega) ?_ | refine A_quo rfl rfl rfl (by omega) ?_
 | ((first | refine A_ge rfl rfl rfl ?_ ?_) <;> intro hc <;> try first | contradiction | (exfalso; omega) | exact absurd rfl hc)
 | refine A_idxN1 rfl rfl rfl (by omega) ?_ | refine A_idx1 rfl rfl rfl (by omega) ?_
 | refine A_p (by rfl) rfl ?_
 | refine A_st rfl rfl rfl ?_ | refine A_stE rfl rfl (by first | omega | (simp; done) | (simp; omega)) rfl ?_
 | ((first | refine A_makeN rfl rfl rfl (by omega) ?_ | refine A_make rfl rfl rfl (by omega) ?_) <;> intro pz hpz)
 | refine A_ret1 rfl (by exact (RP.t rfl RP.nil)) ?_)
  · refine A_round rfl [pz] (w - (j + 1)) (by omega) ?_
    exact ⟨j + 1, _, _, _, rfl, rfl, rfl, by omega, by simp [hy], e1, by omega, dg_set hy (by omega) hi e2 hd⟩
  · obtain rfl : w = j := by omega
    obtain rfl := dg_done hy hd
    exact R_s ⟨_, rfl, rfl⟩
/-- The number with these first digits. -/
def nmN (S : Nat) (ys : List Int) : Nat → Nat
  | 0 => 0
  | m + 1 => nmN S ys m * S + (ys.getD m 0).toNat
abbrev nm (S : Nat) (ys : List Int) : Nat := nmN S ys ys.length
def DG (S : Nat) (ys : List Int) : Prop := ∀ x ∈ ys, 0 ≤ x ∧ x ≤ (S : Int) - 1
theorem nm_lt {S : Nat} {ys : List Int} (hS : 0 < S) (h : DG S ys) : ∀ m, m ≤ ys.length → nmN S ys m < S ^ m
  | 0, _ => by simp [nmN]
  | m + 1, hm => by
    have ih := nm_lt hS h m (by omega)
    have hc := h _ (getD_mem (d := 0) (by omega : m < ys.length))
    have h1 : (nmN S ys m + 1) * S ≤ S ^ m * S := Nat.mul_le_mul_right S ih
    rw [Nat.add_mul] at h1
    rw [nmN, Nat.pow_succ]; omega
theorem nm_step {S : Nat} {ys : List Int} (h : DG S ys) {m : Nat} (hm : m < ys.length) : ((nmN S ys m : Nat) : Int) * (S : Int) + ys.getD m 0 = ((nmN S ys (m + 1) : Nat) : Int) := by
  have hc := h _ (getD_mem (d := 0) hm)
  rw [nmN]; push_cast; rw [Int.toNat_of_nonneg hc.1]
theorem nm_small {S : Nat} {ys : List Int} (hS : 2 ≤ S ∧ S ≤ 3) (h : DG S ys) (hl : ys.length ≤ 30) {m : Nat} (hm : m ≤ ys.length) : nmN S ys m ≤ 205891132094649 := by
  have h1 := nm_lt (by omega) h m hm
  have h2 := pow_le (b := S) (n := m) (by omega) (by omega)
  omega
/-- The sum of the first numbers. -/
def smN (ys : List Int) : Nat → Int
  | 0 => 0
  | m + 1 => smN ys m + ys.getD m 0
abbrev sm (ys : List Int) : Int := smN ys ys.length
theorem sm_in {ys : List Int} {b : Int} (hb : 0 ≤ b) (h : ∀ x ∈ ys, -b ≤ x ∧ x ≤ b) : ∀ m : Nat, m ≤ ys.length → -(m * b) ≤ smN ys m ∧ smN ys m ≤ m * b
  | 0, _ => by simp [smN]
  | m + 1, hm => by
    have ih := sm_in hb h m (by omega)
    have hc := h _ (getD_mem (d := 0) (by omega : m < ys.length))
    have e : ((m + 1 : Nat) : Int) * b = m * b + b := by push_cast; rw [Int.add_mul, Int.one_mul]
    rw [smN, e]; omega
end Go.Proofs.Ytlmbgaoeplffkaa
