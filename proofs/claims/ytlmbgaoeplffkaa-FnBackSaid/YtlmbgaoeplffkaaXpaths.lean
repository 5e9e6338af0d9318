/- Sums, and how many ways lead along labels. -/
import Derived.Test.YtlmbgaoeplffkaaXpairs
import Derived.Test.YtlmbgaoeplffkaaXsums
import Derived.Test.YtlmbgaoeplffkaaFB
namespace Go.Proofs.Ytlmbgaoeplffkaa
open Go Go.RowKit
set_option linter.unusedVariables false
set_option linter.unusedSimpArgs false
set_option maxRecDepth 100000
set_option maxHeartbeats 8000000


theorem sg_block {g : Nat → Int} {a S : Nat} : ∀ d, d ≤ S → sg (fun m => g (m / S)) (a * S + d) = sg (fun m => g (m / S)) (a * S) + d * g a
  | 0, _ => by simp
  | d + 1, h => by
    rw [← Nat.add_assoc, sg, sg_block d (by omega), am_div (by omega)]
    push_cast; rw [Int.add_mul, Int.one_mul]; omega
theorem sg_rows {g : Nat → Int} {S : Nat} : ∀ E, sg (fun m => g (m / S)) (E * S) = S * sg g E
  | 0 => by simp [sg]
  | E + 1 => by
    rw [show (E + 1) * S = E * S + S by rw [Nat.add_mul]; omega, sg_block S (Nat.le_refl _), sg_rows E, sg, Int.mul_add]
/-- How many ways there are behind one more label, from the first 'm' neighbourhoods. -/
def nxt (S E : Nat) (xs : List Int) (lab : Int) (cs : List Int) : Nat → List Int
  | 0 => List.replicate E 0
  | m + 1 => if xs.getD m 0 = lab then (nxt S E xs lab cs m).set (m % E) ((nxt S E xs lab cs m).getD (m % E) 0 + cs.getD (m / S) 0) else nxt S E xs lab cs m
@[simp] theorem nxt_len {S E : Nat} {xs : List Int} {lab : Int} {cs : List Int} : ∀ m, (nxt S E xs lab cs m).length = E
  | 0 => by simp [nxt]
  | m + 1 => by rw [nxt]; split <;> simp [nxt_len m]
theorem nxt_get {S E : Nat} {xs : List Int} {lab : Int} {cs : List Int} {c : Nat} (hE : 1 ≤ E) (hc : c < E) : ∀ m, (nxt S E xs lab cs m).getD c 0 = sg (fun i => if xs.getD i 0 = lab ∧ i % E = c then cs.getD (i / S) 0 else 0) m
  | 0 => by rw [nxt, List.getD_eq_getElem?_getD, List.getElem?_replicate, if_pos hc]; rfl
  | m + 1 => by
    rw [sg, ← nxt_get hE hc m, nxt]
    have := mod_in (m := m) hE
    by_cases h : xs.getD m 0 = lab
    · rw [if_pos h, getD_set (by simp; omega)]
      by_cases h2 : m % E = c
      · rw [if_pos h2, if_pos ⟨h, h2⟩, h2]
      · rw [if_neg h2, if_neg (fun g => h2 g.2), Int.add_zero]
    · rw [if_neg h, if_neg (fun g => h g.1), Int.add_zero]
abbrev tot (cs : List Int) (E : Nat) : Int := sg (fun c => cs.getD c 0) E
def NN (cs : List Int) : Prop := ∀ c, 0 ≤ cs.getD c 0
theorem nn_getD {cs : List Int} (h : ∀ x ∈ cs, 0 ≤ x) : NN cs := by
  intro c
  by_cases hc : c < cs.length
  · exact h _ (getD_mem hc)
  · rw [List.getD_eq_getElem?_getD, List.getElem?_eq_none (by omega)]; exact Int.le_refl 0
theorem nxt_nn {S E : Nat} {xs : List Int} {lab : Int} {cs : List Int} (hE : 1 ≤ E) (h : NN cs) (m : Nat) : NN (nxt S E xs lab cs m) := by
  intro c
  by_cases hc : c < E
  · rw [nxt_get hE hc]; exact sg_nn fun i _ => by split; exact h _; exact Int.le_refl 0
  · rw [List.getD_eq_getElem?_getD, List.getElem?_eq_none (by simp; omega)]; exact Int.le_refl 0
theorem nxt_tot {S E : Nat} {xs : List Int} {lab : Int} {cs : List Int} (hE : 1 ≤ E) (h : NN cs) : tot (nxt S E xs lab cs (E * S)) E ≤ S * tot cs E := by
  have e : tot (nxt S E xs lab cs (E * S)) E = sg (fun i => sg (fun c => if xs.getD i 0 = lab ∧ i % E = c then cs.getD (i / S) 0 else 0) E) (E * S) := by
    rw [← sg_swap]; exact sg_congr fun c hc => nxt_get hE hc _
  rw [e, ← sg_rows (g := fun c => cs.getD c 0)]
  refine sg_le fun i hi => ?_
  have h1 : sg (fun c => if xs.getD i 0 = lab ∧ i % E = c then cs.getD (i / S) 0 else 0) E ≤ sg (fun c => if c = i % E then cs.getD (i / S) 0 else 0) E := by
    refine sg_le fun c hc => ?_
    have := h (i / S)
    by_cases g : xs.getD i 0 = lab ∧ i % E = c
    · rw [if_pos g, if_pos g.2.symm]; exact Int.le_refl _
    · rw [if_neg g]; split <;> omega
  rw [sg_one (f := fun _ => cs.getD (i / S) 0), if_pos (mod_in hE)] at h1
  exact h1
theorem nxt_le {S E : Nat} {xs : List Int} {lab : Int} {cs : List Int} (hE : 1 ≤ E) (h : NN cs) {m : Nat} (hm : m ≤ E * S) (c : Nat) : (nxt S E xs lab cs m).getD c 0 ≤ S * tot cs E := by
  refine Int.le_trans ?_ (nxt_tot (xs := xs) (lab := lab) hE h)
  by_cases hc : c < E
  · refine Int.le_trans ?_ (sg_term (f := fun c => (nxt S E xs lab cs (E * S)).getD c 0) (fun j _ => nxt_nn hE h _ j) hc)
    rw [nxt_get hE hc, nxt_get hE hc]
    exact sg_mono (fun j _ => by split; exact h _; exact Int.le_refl 0) hm
  · rw [List.getD_eq_getElem?_getD, List.getElem?_eq_none (by simp; omega)]
    exact sg_nn fun j _ => nxt_nn hE h _ j
/-- How many ways there are behind the first 'j' labels. -/
def vecs (S E : Nat) (xs l v0 : List Int) : Nat → List Int
  | 0 => v0
  | j + 1 => nxt S E xs (l.getD j 0) (vecs S E xs l v0 j) (E * S)
theorem vecs_len {S E : Nat} {xs l v0 : List Int} (h : v0.length = E) : ∀ j, (vecs S E xs l v0 j).length = E
  | 0 => h
  | j + 1 => by rw [vecs]; simp
theorem vecs_nn {S E : Nat} {xs l v0 : List Int} (hE : 1 ≤ E) (h : NN v0) : ∀ j, NN (vecs S E xs l v0 j)
  | 0 => h
  | j + 1 => nxt_nn hE (vecs_nn hE h j) _
theorem vecs_tot {S E : Nat} {xs l v0 : List Int} (hE : 1 ≤ E) (h : NN v0) : ∀ j, tot (vecs S E xs l v0 j) E ≤ ((S ^ j : Nat) : Int) * tot v0 E
  | 0 => by simp [vecs]
  | j + 1 => by
    have h1 := nxt_tot (S := S) (xs := xs) (lab := l.getD j 0) hE (vecs_nn (S := S) (xs := xs) (l := l) hE h j)
    have h2 := Int.mul_le_mul_of_nonneg_left (vecs_tot (S := S) (xs := xs) (l := l) hE h j) (show (0 : Int) ≤ S by omega)
    rw [vecs]
    refine Int.le_trans h1 (Int.le_trans h2 ?_)
    rw [Nat.pow_succ]; push_cast
    rw [Int.mul_comm ((S : Int) ^ j) S, Int.mul_assoc]; exact Int.le_refl _
/-- All these numbers are small. -/
theorem vecs_small {S E J j : Nat} {xs l v0 : List Int} (hE : 1 ≤ E) (h : NN v0) (hS : 2 ≤ S ∧ S ≤ 3) {T : Int} (hT : tot v0 E ≤ T) (hB : ((3 ^ J : Nat) : Int) * T ≤ 43046721) (hj : j ≤ J) (h0 : 0 ≤ T) : tot (vecs S E xs l v0 j) E ≤ 43046721 := by
  have hp : S ^ j ≤ 3 ^ J := Nat.le_trans (Nat.pow_le_pow_left hS.2 j) (Nat.pow_le_pow_right (by omega) hj)
  have h1 := vecs_tot (S := S) (xs := xs) (l := l) hE h j
  have a1 := Int.mul_le_mul_of_nonneg_left hT (show (0 : Int) ≤ ((S ^ j : Nat) : Int) by omega)
  have a2 := Int.mul_le_mul_of_nonneg_right (show ((S ^ j : Nat) : Int) ≤ ((3 ^ J : Nat) : Int) by omega) h0
  omega
theorem vecs_at {S E J j c : Nat} {xs l v0 : List Int} (hE : 1 ≤ E) (h : NN v0) (hS : 2 ≤ S ∧ S ≤ 3) {T : Int} (hT : tot v0 E ≤ T) (hB : ((3 ^ J : Nat) : Int) * T ≤ 43046721) (hj : j ≤ J) (h0 : 0 ≤ T) (hc : c < E) : 0 ≤ (vecs S E xs l v0 j).getD c 0 ∧ (vecs S E xs l v0 j).getD c 0 ≤ 43046721 :=
  ⟨vecs_nn hE h j c, Int.le_trans (sg_term (f := fun c => (vecs S E xs l v0 j).getD c 0) (fun i _ => vecs_nn hE h j i) hc) (vecs_small hE h hS hT hB hj h0)⟩
/-- The same on the way to the next ones. -/
theorem vecs_mid {S E J j c m : Nat} {xs l v0 : List Int} {lab : Int} (hE : 1 ≤ E) (h : NN v0) (hS : 2 ≤ S ∧ S ≤ 3) {T : Int} (hT : tot v0 E ≤ T) (hB : ((3 ^ J : Nat) : Int) * T ≤ 43046721) (hj : j ≤ J) (h0 : 0 ≤ T) (hm : m ≤ E * S) : 0 ≤ (nxt S E xs lab (vecs S E xs l v0 j) m).getD c 0 ∧ (nxt S E xs lab (vecs S E xs l v0 j) m).getD c 0 ≤ 129140163 := by
  have h1 := nxt_le (xs := xs) (lab := lab) hE (vecs_nn (S := S) (xs := xs) (l := l) hE h j) hm c
  have h2 := vecs_small (xs := xs) (l := l) hE h hS hT hB hj h0
  have h3 : 0 ≤ tot (vecs S E xs l v0 j) E := sg_nn fun i _ => vecs_nn hE h j i
  have h4 := Int.mul_le_mul (show (S : Int) ≤ 3 by omega) h2 h3 (by omega)
  exact ⟨nxt_nn hE (vecs_nn hE h j) m c, by omega⟩
theorem nxt_step {S E a d : Nat} {xs : List Int} {lab : Int} {cs : List Int} (hd : d < S) : nxt S E xs lab cs (a * S + (d + 1)) = if xs.getD (a * S + d) 0 = lab then (nxt S E xs lab cs (a * S + d)).set ((a * S + d) % E) ((nxt S E xs lab cs (a * S + d)).getD ((a * S + d) % E) 0 + cs.getD a 0) else nxt S E xs lab cs (a * S + d) := by
  rw [← Nat.add_assoc, nxt, am_div hd]
theorem set_self {ys : List Int} {i : Nat} : ys.set i (ys.getD i 0 + 0) = ys := by
  by_cases hi : i < ys.length
  · refine ext_getD 0 (by simp) fun j hj => ?_
    rw [getD_set hi]; split
    · rename_i e; subst e; rw [Int.add_zero]
    · rfl
  · exact List.set_eq_of_length_le (by omega)
theorem nxt_skip {S E a : Nat} {xs : List Int} {lab : Int} {cs : List Int} (h : cs.getD a 0 = 0) : ∀ d, d ≤ S → nxt S E xs lab cs (a * S + d) = nxt S E xs lab cs (a * S)
  | 0, _ => rfl
  | d + 1, hd => by
    rw [nxt_step (by omega), nxt_skip h d (by omega), h, set_self]; split <;> rfl
/-- How many ways lead from an end to an end; the last label first. -/
def pth (S E : Nat) (xs : List Int) : List Int → Nat → Nat → Int
  | [], a, c => if a = c then 1 else 0
  | x :: u, a, c => sg (fun i => if xs.getD i 0 = x ∧ i % E = c then pth S E xs u a (i / S) else 0) (E * S)
theorem pth_first {S E : Nat} {xs : List Int} {x : Int} {a : Nat} : ∀ (u : List Int) (c : Nat), pth S E xs (u ++ [x]) a c = sg (fun i => if xs.getD i 0 = x ∧ i / S = a then pth S E xs u (i % E) c else 0) (E * S)
  | [], c => by
    rw [List.nil_append, pth]
    refine sg_congr fun i hi => ?_
    simp only [pth]
    by_cases h1 : xs.getD i 0 = x
    · by_cases h2 : i % E = c <;> by_cases h3 : i / S = a <;> simp [h1, h2, h3, eq_comm (a := a)]
    · rw [if_neg (fun g => h1 g.1), if_neg (fun g => h1 g.1)]
  | y :: u, c => by
    rw [List.cons_append, pth]
    have e1 : ∀ i, (if xs.getD i 0 = y ∧ i % E = c then pth S E xs (u ++ [x]) a (i / S) else 0) = sg (fun k => if xs.getD k 0 = x ∧ k / S = a then (if xs.getD i 0 = y ∧ i % E = c then pth S E xs u (k % E) (i / S) else 0) else 0) (E * S) := fun i => by
      by_cases h : xs.getD i 0 = y ∧ i % E = c
      · simp only [h, and_self, if_true]; exact pth_first u (i / S)
      · simp only [if_neg h, ite_self]; exact sg_zero.symm
    rw [sg_congr fun i _ => e1 i, sg_swap]
    refine sg_congr fun k _ => ?_
    rw [sg_if]; rfl
def trc (S E : Nat) (xs u : List Int) : Int := sg (fun a => pth S E xs u a a) E
theorem trc_turn {S E : Nat} {xs : List Int} {x : Int} {u : List Int} (hE : 1 ≤ E) (hS : 1 ≤ S) : trc S E xs (x :: u) = trc S E xs (u ++ [x]) := by
  have e1 : trc S E xs (x :: u) = sg (fun i => if xs.getD i 0 = x then pth S E xs u (i % E) (i / S) else 0) (E * S) := by
    unfold trc
    simp only [pth]
    rw [sg_swap]
    refine sg_congr fun i hi => ?_
    have : ∀ a, (if xs.getD i 0 = x ∧ i % E = a then pth S E xs u a (i / S) else 0) = if a = i % E then (if xs.getD i 0 = x then pth S E xs u a (i / S) else 0) else 0 := fun a => by
      by_cases h : i % E = a
      · subst h; simp
      · rw [if_neg (fun g => h g.2), if_neg (fun g => h g.symm)]
    rw [sg_congr fun a _ => this a, sg_one (f := fun a => if xs.getD i 0 = x then pth S E xs u a (i / S) else 0), if_pos (mod_in hE)]
  have e2 : trc S E xs (u ++ [x]) = sg (fun i => if xs.getD i 0 = x then pth S E xs u (i % E) (i / S) else 0) (E * S) := by
    unfold trc
    rw [sg_congr fun a _ => pth_first u a, sg_swap]
    refine sg_congr fun i hi => ?_
    have : ∀ a, (if xs.getD i 0 = x ∧ i / S = a then pth S E xs u (i % E) a else 0) = if a = i / S then (if xs.getD i 0 = x then pth S E xs u (i % E) a else 0) else 0 := fun a => by
      by_cases h : i / S = a
      · subst h; simp
      · rw [if_neg (fun g => h g.2), if_neg (fun g => h g.symm)]
    rw [sg_congr fun a _ => this a, sg_one (f := fun a => if xs.getD i 0 = x then pth S E xs u (i % E) a else 0), if_pos (Nat.div_lt_of_lt_mul (by rw [Nat.mul_comm]; exact hi))]
  rw [e1, e2]
theorem trc_swap {S E : Nat} {xs : List Int} (hE : 1 ≤ E) (hS : 1 ≤ S) : ∀ (v u : List Int), trc S E xs (v ++ u) = trc S E xs (u ++ v)
  | [], u => by simp
  | x :: v, u => by
    rw [List.cons_append, trc_turn hE hS, List.append_assoc, trc_swap hE hS v, List.append_assoc]; rfl
def oh (E a : Nat) : List Int := (List.replicate E 0).set a 1
@[simp] theorem oh_len {E a : Nat} : (oh E a).length = E := by simp [oh]
theorem oh_get {E a c : Nat} (ha : a < E) : (oh E a).getD c 0 = if a = c then 1 else 0 := by
  unfold oh
  rw [getD_set (by simpa using ha), List.getD_eq_getElem?_getD, List.getElem?_replicate]
  split
  · rfl
  · split <;> rfl
theorem oh_nn {E a : Nat} (ha : a < E) : NN (oh E a) := fun c => by rw [oh_get ha]; split <;> omega
theorem oh_tot {E a : Nat} (ha : a < E) : tot (oh E a) E ≤ 1 := by
  have : tot (oh E a) E = 1 := by
    rw [tot, sg_congr (g := fun c => if c = a then 1 else 0) fun c _ => by rw [oh_get ha]; simp only [eq_comm], sg_one (f := fun _ => 1), if_pos ha]
  omega
theorem vecs_pth {S E a : Nat} {xs l : List Int} (hE : 1 ≤ E) (ha : a < E) : ∀ j c, c < E → j ≤ l.length → (vecs S E xs l (oh E a) j).getD c 0 = pth S E xs (l.take j).reverse a c
  | 0, c, hc, _ => by simp only [vecs, List.take_zero, List.reverse_nil, pth]; exact oh_get ha
  | j + 1, c, hc, hj => by
    rw [vecs, nxt_get hE hc, List.take_add_one, getD_some 0 (by omega)]
    simp only [Option.toList_some, List.reverse_append, List.reverse_cons, List.reverse_nil, List.nil_append, List.cons_append, pth]
    refine sg_congr fun i hi => ?_
    rw [vecs_pth hE ha j _ (Nat.div_lt_of_lt_mul (by rw [Nat.mul_comm]; exact hi)) (by omega)]
/-- How many rings lead to a ring. -/
def cbk (S E : Nat) (xs l : List Int) : Int := sg (fun a => (vecs S E xs l (oh E a) l.length).getD a 0) E
theorem cbk_trc {S E : Nat} {xs l : List Int} (hE : 1 ≤ E) : cbk S E xs l = trc S E xs l.reverse :=
  sg_congr fun a ha => by rw [vecs_pth hE ha _ _ ha (Nat.le_refl _), List.take_length]
theorem cbk_swap {S E : Nat} {xs u v : List Int} (hE : 1 ≤ E) (hS : 1 ≤ S) : cbk S E xs (u ++ v) = cbk S E xs (v ++ u) := by
  rw [cbk_trc hE, cbk_trc hE, List.reverse_append, List.reverse_append, trc_swap hE hS]
/-- The labels that the program takes. -/
def labI (re : Int) (l : List Int) : List Int := (List.range l.length).map fun i : Nat => l.getD (((i : Int) + re) % l.length).toNat 0
@[simp] theorem labI_len {re : Int} {l : List Int} : (labI re l).length = l.length := by simp [labI]
theorem labI_get {re : Int} {l : List Int} {i : Nat} (h : i < l.length) : (labI re l).getD i 0 = l.getD (((i : Int) + re) % l.length).toNat 0 := getD_map_range h
theorem labI_eq {k : Nat} {l : List Int} (hk : k ≤ l.length) (h0 : 1 ≤ l.length) : labI k l = l.drop k ++ l.take k := by
  refine ext_getD 0 (by simp; omega) fun i hi => ?_
  rw [labI_len] at hi
  rw [labI_get hi]
  have e : ((i : Int) + k) % (l.length : Int) = ((i + k) % l.length : Nat) := by push_cast; rfl
  rw [e, Int.toNat_natCast]
  simp only [List.getD_eq_getElem?_getD, List.getElem?_append, List.length_drop, List.getElem?_drop, List.getElem?_take]
  by_cases h : i < l.length - k
  · rw [if_pos h, Nat.mod_eq_of_lt (by omega), Nat.add_comm]
  · rw [if_neg h, if_pos (by omega), Nat.mod_eq_sub_mod (by omega), Nat.mod_eq_of_lt (by omega)]
    congr 2; omega
theorem cbk_lab {S E k : Nat} {xs l : List Int} (hE : 1 ≤ E) (hS : 1 ≤ S) (hk : k ≤ l.length) (h0 : 1 ≤ l.length) : cbk S E xs (labI k l) = cbk S E xs l := by
  rw [labI_eq hk h0, cbk_swap hE hS, List.take_append_drop]

end Go.Proofs.Ytlmbgaoeplffkaa
