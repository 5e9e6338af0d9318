/- Fields turned, mirrored, shifted and cut: plain facts. -/
import Derived.Test.YtlhidckolillaaaXfieldG
import Derived.Test.YtlhidckolillaaaXcount
import Derived.Test.YtlhidckolillaaaXsums
import Derived.Test.YtlhidckolillaaaFB
namespace Go.Proofs.Ytlhidckolillaaa
open Go Go.RowKit
set_option linter.unusedVariables false
set_option linter.unusedSimpArgs false
set_option maxRecDepth 100000
set_option maxHeartbeats 8000000


theorem cel_mk {r c : Nat} {g : Int → Int → Int} {i k : Int} (hi : 0 ≤ i ∧ i < r) (hk : 0 ≤ k ∧ k < c) : cel (mk r c g) c i k = g i k := by
  obtain ⟨a, rfl⟩ : ∃ a : Nat, i = a := ⟨i.toNat, by omega⟩
  obtain ⟨b, rfl⟩ : ∃ b : Nat, k = b := ⟨k.toNat, by omega⟩
  have e : ((a : Int) * c + b).toNat = a * c + b := by
    have : (a : Int) * c + b = ((a * c + b : Nat) : Int) := by push_cast; rfl
    rw [this]; rfl
  rw [cel, e, mk_get (by omega) (by omega)]
theorem cel_nat {c a b : Nat} {xs : List Int} : cel xs c a b = xs.getD (a * c + b) 0 := by
  have : (a : Int) * c + b = ((a * c + b : Nat) : Int) := by push_cast; rfl
  rw [cel, this]; rfl
theorem mk_cel {r c : Nat} {xs : List Int} (hl : xs.length = r * c) : mk r c (fun i k => cel xs c i k) = xs := (mk_eq hl fun i k hi hk => cel_nat.symm).symm
def turn (R C : Nat) (xs : List Int) : List Int := mk C R fun i k => cel xs C ((R : Int) - 1 - k) i
def mirr (R C : Nat) (xs : List Int) : List Int := mk R C fun i k => cel xs C i ((C : Int) - 1 - k)
def shif (R C : Nat) (xs : List Int) (row col : Int) : List Int := mk R C (shG xs R C row col)
theorem turn4 {R C : Nat} {xs : List Int} (hl : xs.length = R * C) : turn C R (turn R C (turn C R (turn R C xs))) = xs := by
  refine (mk_eq hl fun i k hi hk => ?_).symm
  rw [turn, cel_mk (by omega) (by omega), turn, cel_mk (by omega) (by omega), turn, cel_mk (by omega) (by omega), ← cel_nat]
  congr 1 <;> omega
theorem mirr2 {R C : Nat} {xs : List Int} (hl : xs.length = R * C) : mirr R C (mirr R C xs) = xs := by
  refine (mk_eq hl fun i k hi hk => ?_).symm
  rw [mirr, cel_mk (by omega) (by omega), ← cel_nat]
  congr 1; omega
theorem em_sub {a b n : Int} : (a % n - b) % n = (a - b) % n := by rw [Int.sub_emod, Int.emod_emod, ← Int.sub_emod]
theorem em_in {a n : Int} (h : 0 < n) : 0 ≤ a % n ∧ a % n < n := ⟨Int.emod_nonneg _ (by omega), Int.emod_lt_of_pos _ h⟩
theorem shif2 {R C : Nat} {xs : List Int} {a b c d : Int} (hR : 0 < R) (hC : 0 < C) : shif R C (shif R C xs a b) c d = shif R C xs (a + c) (b + d) := by
  refine mk_ext fun i k hi hk => ?_
  have h1 := em_in (a := (i : Int) - c) (n := R) (by omega)
  have h2 := em_in (a := (k : Int) - d) (n := C) (by omega)
  rw [shG, shif, cel_mk h1 h2, shG, shG, em_sub, em_sub]
  congr 2 <;> omega
theorem shif0 {R C : Nat} {xs : List Int} (hl : xs.length = R * C) {a b : Int} (ha : a % R = 0) (hb : b % C = 0) : shif R C xs a b = xs := by
  refine (mk_eq hl fun i k hi hk => ?_).symm
  have e1 : ((i : Int) - a) % R = i := by rw [Int.sub_emod, ha, Int.sub_zero, Int.emod_emod]; exact Int.emod_eq_of_lt (by omega) (by omega)
  have e2 : ((k : Int) - b) % C = k := by rw [Int.sub_emod, hb, Int.sub_zero, Int.emod_emod]; exact Int.emod_eq_of_lt (by omega) (by omega)
  rw [shG, e1, e2, cel_nat]
/-! ### sums over fields -/
theorem sg_app {f : Nat → Int} {m : Nat} : ∀ n, sg f (m + n) = sg f m + sg (fun i => f (m + i)) n
  | 0 => by simp [sg]
  | n + 1 => by rw [← Nat.add_assoc, sg, sg_app n, sg]; omega
theorem sg_rc {f : Nat → Int} {C : Nat} : ∀ R, sg f (R * C) = sg (fun i => sg (fun k => f (i * C + k)) C) R
  | 0 => by simp [sg]
  | R + 1 => by rw [Nat.add_mul, Nat.one_mul, sg_app, sg_rc R, sg]
theorem sg_head {f : Nat → Int} : ∀ n, sg f (n + 1) = f 0 + sg (fun i => f (i + 1)) n
  | 0 => by simp [sg]
  | n + 1 => by rw [sg, sg_head n, sg]; omega
theorem sg_rev : ∀ (n : Nat) (f : Nat → Int), sg (fun i => f (n - 1 - i)) n = sg f n
  | 0, _ => rfl
  | n + 1, f => by
    rw [sg_head n, sg, show n + 1 - 1 - 0 = n by omega, Int.add_comm, ← sg_rev n f]
    congr 1
    exact sg_congr fun i hi => by congr 1; omega
theorem sg_rot {f : Nat → Int} {n d : Nat} (hd : d ≤ n) : sg (fun i => f ((i + d) % n)) n = sg f n := by
  obtain ⟨m, rfl⟩ : ∃ m, n = m + d := ⟨n - d, by omega⟩
  rw [sg_app d]
  have e1 : sg (fun i => f ((i + d) % (m + d))) m = sg (fun i => f (d + i)) m := sg_congr fun i hi => by rw [Nat.mod_eq_of_lt (by omega), Nat.add_comm]
  have e2 : sg (fun i => f ((m + i + d) % (m + d))) d = sg f d := sg_congr fun i hi => by
    rw [show m + i + d = i + (m + d) by omega, Nat.add_mod_right, Nat.mod_eq_of_lt (by omega)]
  rw [e1, e2, Nat.add_comm m d, sg_app m]; omega
theorem sg_rotI {f : Int → Int} {n : Nat} {a : Int} (hn : 0 < n) : sg (fun i => f (((i : Int) - a) % n)) n = sg (fun i => f i) n := by
  have h := em_in (a := -a) (n := n) (by omega)
  obtain ⟨d, hd⟩ : ∃ d : Nat, (-a) % (n : Int) = d := ⟨((-a) % (n : Int)).toNat, by omega⟩
  rw [← sg_rot (f := fun i => f i) (n := n) (d := d) (by omega)]
  refine sg_congr fun i hi => ?_
  congr 1
  push_cast
  rw [← hd, Int.add_emod, Int.emod_emod, ← Int.add_emod, Int.sub_eq_add_neg]
theorem sg_window {f : Nat → Int} {r m n : Nat} (h : r + m ≤ n) : sg (fun i => if r ≤ i ∧ i < r + m then f i else 0) n = sg (fun i => f (r + i)) m := by
  obtain ⟨k, rfl⟩ : ∃ k, n = (r + m) + k := ⟨n - (r + m), by omega⟩
  rw [sg_app k, sg_app m]
  have e1 : sg (fun i => if r ≤ i ∧ i < r + m then f i else 0) r = sg (fun _ => 0) r := sg_congr fun i hi => by rw [if_neg (by omega)]
  have e2 : sg (fun i => if r ≤ r + i ∧ r + i < r + m then f (r + i) else 0) m = sg (fun i => f (r + i)) m := sg_congr fun i hi => by rw [if_pos (by omega)]
  have e3 : sg (fun i => if r ≤ r + m + i ∧ r + m + i < r + m then f (r + m + i) else 0) k = sg (fun _ => 0) k := sg_congr fun i hi => by rw [if_neg (by omega)]
  rw [e1, e2, e3, sg_zero, sg_zero]; omega
theorem cnt_sg {xs : List Int} {a : Int} : ∀ n, ((cnt xs a n : Nat) : Int) = sg (fun i => if xs.getD i 0 = a then 1 else 0) n
  | 0 => rfl
  | n + 1 => by rw [cnt, sg, ← cnt_sg n]; push_cast; split <;> rfl
theorem dif_sg {xs ys : List Int} : ∀ n, ((dif xs ys n : Nat) : Int) = sg (fun i => if xs.getD i 0 = ys.getD i 0 then 0 else 1) n
  | 0 => rfl
  | n + 1 => by rw [dif, sg, ← dif_sg n]; push_cast; split <;> rfl
theorem cnt_mk {R C : Nat} {g : Int → Int → Int} {a : Int} : ((cnt (mk R C g) a (R * C) : Nat) : Int) = sg (fun i => sg (fun k => if g i k = a then 1 else 0) C) R := by
  rw [cnt_sg, sg_rc]
  exact sg_congr fun i hi => sg_congr fun k hk => by rw [mk_get hi hk]
theorem cnt_cel {R C : Nat} {xs : List Int} {a : Int} (hl : xs.length = R * C) : ((cnt xs a (R * C) : Nat) : Int) = sg (fun i => sg (fun k => if cel xs C i k = a then 1 else 0) C) R := by
  rw [← cnt_mk, mk_cel hl]
theorem cnt_turn {R C : Nat} {xs : List Int} {a : Int} (hl : xs.length = R * C) : cnt (turn R C xs) a (C * R) = cnt xs a (R * C) := by
  have : ((cnt (turn R C xs) a (C * R) : Nat) : Int) = ((cnt xs a (R * C) : Nat) : Int) := by
    rw [turn, cnt_mk, cnt_cel hl, sg_swap]
    rw [← sg_rev R (fun i => sg (fun k => if cel xs C i k = a then 1 else 0) C)]
    refine sg_congr fun i hi => sg_congr fun k hk => ?_
    rw [show ((R - 1 - i : Nat) : Int) = (R : Int) - 1 - i by omega]
  omega
theorem cnt_shif {R C : Nat} {xs : List Int} {a row col : Int} (hl : xs.length = R * C) (hR : 0 < R) (hC : 0 < C) : cnt (shif R C xs row col) a (R * C) = cnt xs a (R * C) := by
  have : ((cnt (shif R C xs row col) a (R * C) : Nat) : Int) = ((cnt xs a (R * C) : Nat) : Int) := by
    rw [shif, cnt_mk, cnt_cel hl]
    have e1 : ∀ i : Nat, sg (fun k => if shG xs R C row col i k = a then 1 else 0) C = (fun j : Int => sg (fun k : Nat => if cel xs C j k = a then 1 else 0) C) (((i : Int) - row) % R) := fun i =>
      sg_rotI (f := fun k => if cel xs C (((i : Int) - row) % R) k = a then 1 else 0) (a := col) hC
    rw [sg_congr fun i _ => e1 i]
    exact sg_rotI (f := fun j : Int => sg (fun k : Nat => if cel xs C j k = a then 1 else 0) C) hR
  omega
/-- A part that is cut out: how many cells are not 0 there. -/
theorem dif_hole {R C M N row col : Nat} {xs zs : List Int} (hl : xs.length = R * C) (hr : row + M ≤ R) (hc : col + N ≤ C) (hz : ∀ i k : Int, cel zs N i k = 0) :
    ((dif (mk R C (paG xs C zs M N row col)) xs (R * C) : Nat) : Int) = (M : Int) * N - ((cnt (mk M N fun i k => cel xs C ((row : Int) + i) ((col : Int) + k)) 0 (M * N) : Nat) : Int) := by
  rw [dif_sg, cnt_mk, sg_rc]
  have e1 : ∀ i, i < R → sg (fun k => if (mk R C (paG xs C zs M N row col)).getD (i * C + k) 0 = xs.getD (i * C + k) 0 then (0 : Int) else 1) C = if row ≤ i ∧ i < row + M then sg (fun k => if cel xs C (i : Int) ((col : Int) + k) = 0 then 0 else 1) N else 0 := fun i hi => by
    by_cases h1 : row ≤ i ∧ i < row + M
    · rw [if_pos h1]
      have := sg_window (f := fun k => if cel xs C (i : Int) (k : Int) = 0 then (0 : Int) else 1) hc
      push_cast at this
      rw [← this]
      refine sg_congr fun k hk => ?_
      rw [mk_get hi hk, ← cel_nat]
      by_cases h2 : col ≤ k ∧ k < col + N
      · have e : paG xs C zs M N row col i k = 0 := by
          unfold paG
          rw [if_pos ⟨by omega, by omega⟩, hz]
        rw [e, if_pos h2]
        by_cases h3 : cel xs C i k = 0
        · rw [h3]
          try simp
        · rw [if_neg (fun e => h3 e.symm), if_neg h3]
      · have e : paG xs C zs M N row col i k = cel xs C i k := by
          unfold paG
          rw [if_neg (fun h => h2 (by omega))]
        rw [e, if_neg h2, if_pos rfl]
    · rw [if_neg h1]
      rw [sg_congr (g := fun _ => 0) fun k hk => ?_, sg_zero]
      rw [mk_get hi hk, ← cel_nat]
      have e : paG xs C zs M N row col i k = cel xs C i k := by
        unfold paG
        rw [if_neg (fun h => h1 (by omega))]
      rw [e, if_pos rfl]
  rw [sg_congr e1, sg_window (f := fun i => sg (fun k => if cel xs C (i : Int) ((col : Int) + k) = 0 then 0 else 1) N) hr]
  have e2 : ∀ n : Nat, (n : Int) = sg (fun _ => 1) n := fun n => by
    induction n with
    | zero => rfl
    | succ n ih => rw [sg, ← ih]; push_cast; rfl
  have e3 : ∀ i : Nat, sg (fun k => if cel xs C (((row + i : Nat) : Int)) ((col : Int) + k) = 0 then 0 else 1) N + sg (fun k => if cel xs C ((row : Int) + i) ((col : Int) + k) = 0 then 1 else 0) N = N := fun i => by
    rw [← sg_add, e2 N]
    refine sg_congr fun k _ => ?_
    push_cast
    split <;> rfl
  have e4 : (M : Int) * N = sg (fun _ => (N : Int)) M := by
    have : ∀ m : Nat, (m : Int) * N = sg (fun _ => (N : Int)) m := fun m => by
      induction m with
      | zero => simp [sg]
      | succ m ih => rw [sg, ← ih]; push_cast; rw [Int.add_mul, Int.one_mul]
    exact this M
  rw [e4, ← sg_congr fun i _ => e3 i, sg_add]
  omega
theorem paste_back {R C M N row col : Nat} {xs : List Int} (hl : xs.length = R * C) : mk R C (paG xs C (mk M N fun i k => cel xs C ((row : Int) + i) ((col : Int) + k)) M N row col) = xs := by
  refine (mk_eq hl fun i k hi hk => ?_).symm
  unfold paG
  by_cases h : (0 ≤ (i : Int) - row ∧ (i : Int) - row < M) ∧ 0 ≤ (k : Int) - col ∧ (k : Int) - col < N
  · rw [if_pos h, cel_mk h.1 h.2, ← cel_nat]
    congr 1 <;> omega
  · rw [if_neg h, cel_nat]

end Go.Proofs.Ytlhidckolillaaa
