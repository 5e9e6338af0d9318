/- How many fields lead through: plain facts. -/
import Derived.Test.YtckobcjjbpnkcaaXcluL
import Derived.Test.YtckobcjjbpnkcaaXcountT
import Derived.Test.YtckobcjjbpnkcaaXmoveds
import Derived.Test.YtckobcjjbpnkcaaFB
namespace Go.Proofs.Ytckobcjjbpnkcaa
open Go Go.RowKit
set_option linter.unusedVariables false
set_option linter.unusedSimpArgs false
set_option maxRecDepth 100000
set_option maxHeartbeats 8000000


theorem sg_ge {f : Nat → Int} (h : ∀ i, 0 ≤ f i) {a : Nat} : ∀ {n}, a < n → f a ≤ sg f n
  | 0, g => by omega
  | n + 1, g => by
    have h1 := h n
    have h2 : 0 ≤ sg f n := sg_nn fun i _ => h i
    rw [sg]
    by_cases e : a = n
    · subst e; omega
    · have := sg_ge h (a := a) (n := n) (by omega); omega
theorem clu_fin {R C : Nat} {xs : List Int} : Kl R C xs (R * C) (cluAll R C xs (R * C)).1 (cluAll R C xs (R * C)).2 := (cluAll_kl (R * C) (Nat.le_refl _)).1
theorem clu_one {R C : Nat} {xs : List Int} {x : Int} (hx : Cin R C x) (h : cat xs x = 1) : 0 < cat (cluAll R C xs (R * C)).1 x := by
  have e : ((R * C : Nat) : Int) = (R : Int) * C := by push_cast; rfl
  have k := clu_fin (R := R) (C := C) (xs := xs)
  have := k.done x hx (by have := hx.2; omega) h
  have := k.rng x hx
  omega
theorem clu_adj {R C : Nat} {xs : List Int} {x y : Int} (hx : Cin R C x) (h : cat xs x = 1) (hy : y ∈ nbs R C x) (hy1 : cat xs y = 1) : cat (cluAll R C xs (R * C)).1 y = cat (cluAll R C xs (R * C)).1 x :=
  (clu_fin (R := R) (C := C) (xs := xs)).cl x hx (by have := clu_one hx h; omega) y hy hy1
theorem cin_rc {R C r c : Nat} (hr : r < R) (hc : c < C) : Cin R C ((r : Int) * C + c) := by
  have := cell_in (r := R) (c := C) (i := r) (k := c) (by omega) (by omega)
  exact ⟨by omega, by omega⟩
theorem cat_rc {xs : List Int} {C r c : Nat} : cat xs ((r : Int) * C + c) = xs.getD (r * C + c) 0 := by
  have e : (r : Int) * C + c = ((r * C + c : Nat) : Int) := by push_cast; rfl
  rw [cat, e, Int.toNat_natCast]
theorem thr_col {R C : Nat} {xs : List Int} {c : Nat} (hl : xs.length = R * C) (hR : 0 < R) (hc : c < C) (h : ∀ r, r < R → xs.getD (r * C + c) 0 = 1) : Thr R C xs := by
  have key : ∀ r, r < R → cat (cluAll R C xs (R * C)).1 ((r : Int) * C + c) = cat (cluAll R C xs (R * C)).1 (((0 : Nat) : Int) * C + c) := by
    intro r
    induction r with
    | zero => intro _; rfl
    | succ r ih =>
      intro hr
      rw [← ih (by omega)]
      refine clu_adj (cin_rc (by omega) hc) (by rw [cat_rc]; exact h r (by omega)) ?_ (by rw [cat_rc]; exact h (r + 1) hr)
      have hx := cin_rc (R := R) (C := C) (r := r) (c := c) (by omega) hc
      have hy := (cin_rc (R := R) (C := C) (r := r + 1) (c := c) hr hc).2
      refine (nbs_mem hx).2 (.inr (.inl ⟨?_, ?_⟩))
      · push_cast at hy; rw [Int.add_mul] at hy; omega
      · push_cast; rw [Int.add_mul]; omega
  have h0 := clu_one (cin_rc hR hc) (by rw [cat_rc]; exact h 0 hR)
  have hk := key (R - 1) (by omega)
  rw [cat_rc] at hk h0
  rw [cat_rc, Nat.zero_mul, Nat.zero_add] at hk
  rw [Nat.zero_mul, Nat.zero_add] at h0
  have e : (R - 1) * C = R * C - C := by rw [Nat.sub_mul, Nat.one_mul]
  have hCR : C ≤ R * C := Nat.le_mul_of_pos_left C hR
  unfold Thr
  rw [hl]
  exact ⟨c, hc, h0, (R - 1) * C + c, by omega, by omega, hk⟩
theorem con_rows {R C : Nat} {xs : List Int} {x z : Int} (h : Con R C xs x z) (hx : Cin R C x) (h1 : cat xs x = 1) : ∀ r : Int, (x / C ≤ r ∧ r ≤ z / C) ∨ (z / C ≤ r ∧ r ≤ x / C) → ∃ w, Cin R C w ∧ w / C = r ∧ cat xs w = 1 := by
  induction h with
  | refl => intro r hr; exact ⟨x, hx, by omega, h1⟩
  | @snoc y z k g e ih =>
    intro r hr
    have hy := k.cin hx
    have hz : Cin R C z := nbs_in _ g
    have hC := cin_pos hx
    have hrow : z / C = y / C - 1 ∨ z / C = y / C + 1 ∨ z / C = y / C := by
      obtain ⟨i, c, e1, h2, h3, e3, e4⟩ := cin_split hy
      rcases (nbs_mem hy).1 g with ⟨gg, e5⟩ | ⟨gg, e5⟩ | ⟨gg, e5⟩ | ⟨gg, e5⟩
      · left
        have : z = (i - 1) * C + c := by rw [Int.sub_mul]; omega
        rw [this, e3]; exact (cell_div (a := i - 1) (b := c) (C := C) (by omega)).1
      · right; left
        have : z = (i + 1) * C + c := by rw [Int.add_mul]; omega
        rw [this, e3]; exact (cell_div (a := i + 1) (b := c) (C := C) (by omega)).1
      · right; right
        rw [e4] at gg
        have : z = i * C + (c - 1) := by omega
        rw [this, e3]; exact (cell_div (a := i) (b := c - 1) (C := C) (by omega)).1
      · right; right
        rw [e4] at gg
        have : z = i * C + (c + 1) := by omega
        rw [this, e3]; exact (cell_div (a := i) (b := c + 1) (C := C) (by omega)).1
    by_cases hz2 : r = z / C
    · exact ⟨z, hz, hz2.symm, e⟩
    · exact ih r (by omega)
/-- Where a field leads through, each row has a one. -/
theorem thr_rows {R C : Nat} {xs : List Int} (hl : xs.length = R * C) (hR : 0 < R) (h : Thr R C xs) : ∀ r, r < R → ∃ c, c < C ∧ xs.getD (r * C + c) 0 = 1 := by
  intro r hr
  unfold Thr at h
  rw [hl] at h
  obtain ⟨i, hi, h0, k, k1, k2, e⟩ := h
  have hCR : C ≤ R * C := Nat.le_mul_of_pos_left C hR
  have ec : ((R * C : Nat) : Int) = (R : Int) * C := by push_cast; rfl
  have ci : Cin R C (i : Int) := ⟨by omega, by omega⟩
  have ck : Cin R C (k : Int) := ⟨by omega, by omega⟩
  have cc : ∀ (l : List Int) (n : Nat), cat l (n : Int) = l.getD n 0 := fun l n => by rw [cat, Int.toNat_natCast]
  have kf := clu_fin (R := R) (C := C) (xs := xs)
  have hi1 : cat xs i = 1 := kf.g i ci (by rw [cc]; omega)
  have hcon := kf.con i k ci ck (by rw [cc]; omega) (by rw [cc, cc]; exact e.symm)
  have e1 : (i : Int) / C = 0 := Int.ediv_eq_zero_of_lt (by omega) (by omega)
  have e2 : (k : Int) / C = R - 1 := by
    have hk : (k : Int) = ((R : Int) - 1) * C + ((k : Int) - ((R : Int) - 1) * C) := by omega
    have e3 : ((R : Int) - 1) * C = ((R * C - C : Nat) : Int) := by rw [Int.sub_mul]; omega
    have hb : 0 ≤ (k : Int) - ((R : Int) - 1) * C ∧ (k : Int) - ((R : Int) - 1) * C < C := by omega
    rw [hk]; exact (cell_div (a := (R : Int) - 1) (b := (k : Int) - ((R : Int) - 1) * C) (C := C) hb).1
  obtain ⟨w, hw, hw2, hw3⟩ := con_rows hcon ci hi1 r (by omega)
  obtain ⟨a, c, g1, g2, g3, g4, g5⟩ := cin_split hw
  obtain ⟨d, rfl⟩ : ∃ d : Nat, c = d := ⟨c.toNat, by omega⟩
  obtain rfl : a = r := by omega
  refine ⟨d, by omega, ?_⟩
  rw [g1, cat_rc] at hw3; exact hw3
theorem sg_rows {f : Nat → Int} : ∀ n, (∀ i, i < n → 1 ≤ f i) → (n : Int) ≤ sg f n
  | 0, _ => by simp [sg]
  | n + 1, h => by have := sg_rows (f := f) n fun i hi => h i (by omega); have := h n (by omega); rw [sg]; push_cast; omega
theorem thr_cnt {R C : Nat} {xs : List Int} (hl : xs.length = R * C) (hR : 0 < R) (h : Thr R C xs) : R ≤ cnt xs 1 (R * C) := by
  have h2 := cnt_sg (xs := xs) (a := 1) (R * C)
  rw [sg_rc] at h2
  have h3 := sg_rows (f := fun i => sg (fun k => if xs.getD (i * C + k) 0 = 1 then 1 else 0) C) R fun r hr => by
    obtain ⟨c, hc, e⟩ := thr_rows hl hR h r hr
    have := sg_ge (f := fun k => if xs.getD (r * C + k) 0 = 1 then (1 : Int) else 0) (fun i => by split <;> omega) hc
    simp only [e, if_true] at this
    exact this
  omega
/-! ### how many lists of bits have so many ones -/
def ch : Nat → Nat → Int
  | _, 0 => 1
  | 0, _ + 1 => 0
  | n + 1, k + 1 => ch n (k + 1) + ch n k
theorem bsA_add : ∀ (n : Nat) (F G : List Int → Int), bsA n (fun l => F l + G l) = bsA n F + bsA n G
  | 0, F, G => rfl
  | n + 1, F, G => by
    rw [bsA, bsA, bsA, ← bsA_add n]
    congr 1; funext l; omega
theorem bsA_zero : ∀ n, bsA n (fun _ => 0) = 0
  | 0 => rfl
  | n + 1 => by rw [bsA]; simpa using bsA_zero n
theorem cnt_all {l : List Int} {b : Int} : cnt (l ++ [b]) 1 (l ++ [b]).length = cnt l 1 l.length + if b = 1 then 1 else 0 := by
  have e : ∀ n, n ≤ l.length → cnt (l ++ [b]) 1 n = cnt l 1 n := by
    intro n
    induction n with
    | zero => intro _; rfl
    | succ n ih => intro h; rw [cnt, cnt, ih (by omega), List.getD_eq_getElem?_getD, List.getElem?_append_left (by omega), ← List.getD_eq_getElem?_getD]
  rw [List.length_append, List.length_singleton, cnt, e _ (Nat.le_refl _)]
  congr 1
  rw [List.getD_eq_getElem?_getD, List.getElem?_append_right (Nat.le_refl _), Nat.sub_self]; rfl
theorem bsA_ch : ∀ n k, bsA n (fun l => if cnt l 1 l.length = k then 1 else 0) = ch n k
  | 0, 0 => rfl
  | 0, k + 1 => rfl
  | n + 1, 0 => by
    rw [bsA, ch]
    have : (fun l : List Int => (if cnt (l ++ [0]) 1 (l ++ [0]).length = 0 then (1 : Int) else 0) + if cnt (l ++ [1]) 1 (l ++ [1]).length = 0 then 1 else 0) = fun l => if cnt l 1 l.length = 0 then 1 else 0 := by
      funext l; rw [cnt_all, cnt_all]; simp
    rw [this, bsA_ch n 0]; cases n <;> rfl
  | n + 1, k + 1 => by
    rw [bsA, ch]
    have : (fun l : List Int => (if cnt (l ++ [0]) 1 (l ++ [0]).length = k + 1 then (1 : Int) else 0) + if cnt (l ++ [1]) 1 (l ++ [1]).length = k + 1 then 1 else 0) = fun l => (if cnt l 1 l.length = k + 1 then 1 else 0) + if cnt l 1 l.length = k then 1 else 0 := by
      funext l; rw [cnt_all, cnt_all]; simp
    rw [this, bsA_add, bsA_ch n (k + 1), bsA_ch n k]
theorem sg_ch (n k : Nat) : sg (fun i => if cnt (dg 2 i n) 1 n = k then 1 else 0) (2 ^ n) = ch n k := by
  rw [← bsA_ch, ← sg_dg]
  exact sg_congr fun i _ => by rw [dg_len]
theorem ch_next : ∀ n, n < 13 → ∀ k, k < n + 1 → ch n k * ((n : Int) - k) / ((k : Int) + 1) = ch n (k + 1) ∧ 0 ≤ ch n k ∧ ch n k ≤ 1000 := by decide
theorem ch_self : ∀ n, n < 13 → ch n n = 1 := by decide
/-! ### the counts -/
theorem thr_sum {R C T k : Nat} (hT : R * C = T) (hk : k < T + 1) : (thrR R C).getD k 0 = sg (fun i => cterm (Thr R C) T k (dg 2 i T)) (2 ^ T) := by
  rw [thrR]; simp only [Int.toNat_natCast, hT]; exact ctab_get hk _
theorem ct_le {P : List Int → Prop} {T k : Nat} {l : List Int} : 0 ≤ cterm P T k l ∧ cterm P T k l ≤ if cnt l 1 T = k then 1 else 0 := by
  unfold cterm
  cases tt (P l)
  · simp only [cond_false]; split <;> omega
  · simp only [cond_true]; split <;> omega
theorem thr_le {R C T k : Nat} (hT : R * C = T) (hk : k < T + 1) : 0 ≤ (thrR R C).getD k 0 ∧ (thrR R C).getD k 0 ≤ ch T k := by
  rw [thr_sum hT hk, ← sg_ch]
  exact ⟨sg_nn fun i _ => ct_le.1, sg_le fun i _ => ct_le.2⟩
theorem thr_few {R C T k : Nat} (hT : R * C = T) (hk : k < T + 1) (hR : 0 < R) (h : k < R) : (thrR R C).getD k 0 = 0 := by
  rw [thr_sum hT hk, ← sg_zero (n := 2 ^ T)]
  refine sg_congr fun i _ => ?_
  unfold cterm
  by_cases hp : Thr R C (dg 2 i T)
  · have := thr_cnt (by rw [dg_len, hT]) hR hp
    rw [hT] at this
    rw [if_neg (by omega)]; cases tt (Thr R C (dg 2 i T)) <;> rfl
  · rw [tt_f hp]; rfl
theorem thr_ind {R C T k : Nat} (hT : R * C = T) (hk : k < T + 1) (h : ∀ i, cnt (dg 2 i T) 1 T = k → Thr R C (dg 2 i T)) : (thrR R C).getD k 0 = ch T k := by
  rw [thr_sum hT hk, ← sg_ch]
  refine sg_congr fun i _ => ?_
  unfold cterm
  by_cases hp : cnt (dg 2 i T) 1 T = k
  · rw [tt_t (h i hp), if_pos hp]; rfl
  · rw [if_neg hp]; cases tt (Thr R C (dg 2 i T)) <;> rfl
theorem cnt_full {xs : List Int} : ∀ n, cnt xs 1 n = n → ∀ i, i < n → xs.getD i 0 = 1
  | 0, _, i, hi => by omega
  | n + 1, h, i, hi => by
    have hc := cnt_le (xs := xs) (a := 1) n
    rw [cnt] at h
    by_cases e : xs.getD n 0 = 1
    · rw [if_pos e] at h
      by_cases e2 : i = n
      · subst e2; exact e
      · exact cnt_full n (by omega) i (by omega)
    · rw [if_neg e] at h; omega
theorem cnt_some {xs : List Int} : ∀ n, 0 < cnt xs 1 n → ∃ i, i < n ∧ xs.getD i 0 = 1
  | 0, h => by simp [cnt] at h
  | n + 1, h => by
    rw [cnt] at h
    by_cases e : xs.getD n 0 = 1
    · exact ⟨n, by omega, e⟩
    · rw [if_neg e] at h
      obtain ⟨i, hi, g⟩ := cnt_some n (by omega)
      exact ⟨i, by omega, g⟩
theorem thr_all {R C T : Nat} (hT : R * C = T) (hR : 0 < R) (hC : 0 < C) (hT2 : T < 13) : (thrR R C).getD T 0 = 1 := by
  rw [thr_ind hT (by omega) fun i hc => ?_, ch_self T hT2]
  exact thr_col (by rw [dg_len, hT]) hR hC fun r hr => cnt_full T hc _ (by rw [← hT]; exact lt_mul hr hC)
theorem thr_row {C k : Nat} (hk : k < C + 1) (h0 : 0 < k) : (thrR (1 : Nat) C).getD k 0 = ch C k := by
  refine thr_ind (R := 1) (Nat.one_mul C) hk fun i hc => ?_
  obtain ⟨j, hj, e⟩ := cnt_some C (by omega : 0 < cnt (dg 2 i C) 1 C)
  refine thr_col (c := j) (by rw [dg_len, Nat.one_mul]) (by omega) hj fun r hr => ?_
  obtain rfl : r = 0 := by omega
  rw [Nat.zero_mul, Nat.zero_add]; exact e
/-- Marked places, one behind the other. -/
theorem sg_inc {f : Nat → Int} (h : ∀ i, 0 ≤ f i) : ∀ (l : List Nat) (N : Nat), (∀ a ∈ l, a < N ∧ 1 ≤ f a) → l.Pairwise (· > ·) → (l.length : Int) ≤ sg f N
  | [], N, _, _ => by have : 0 ≤ sg f N := sg_nn fun i _ => h i; simpa using this
  | a :: l, N, hl, hp => by
    obtain ⟨h1, h2⟩ := hl a List.mem_cons_self
    have hp' := List.pairwise_cons.1 hp
    have ih := sg_inc h l a (fun b hb => ⟨hp'.1 b hb, (hl b (List.mem_cons_of_mem _ hb)).2⟩) hp'.2
    have mono : ∀ n, a + 1 ≤ n → sg f (a + 1) ≤ sg f n := by
      intro n hn
      induction n with
      | zero => omega
      | succ n ihn =>
        by_cases e : a = n
        · subst e; exact Int.le_refl _
        · have := ihn (by omega); have := h n; show sg f (a + 1) ≤ sg f n + f n; omega
    have := mono N (by omega)
    rw [sg] at this
    rw [List.length_cons]; push_cast; omega
/-- The numbers of the fields of one column. -/
def colN (R C c : Nat) : Nat := (List.range R).foldl (fun a r => a + 2 ^ (R * C - 1 - (r * C + c))) 0
def colOk (R C : Nat) : Bool := (List.range C).all fun c => decide (colN R C c < 2 ^ (R * C)) && decide (cnt (dg 2 (colN R C c) (R * C)) 1 (R * C) = R) && (List.range R).all fun r => decide ((dg 2 (colN R C c) (R * C)).getD (r * C + c) 0 = 1)
theorem col_ok : ∀ R, R < 5 → ∀ C, C < 4 → colOk R C = true ∧ ((List.range C).map (colN R C)).Pairwise (· > ·) ∨ R = 0 := by decide
theorem thr_cols {R C T : Nat} (hT : R * C = T) (hR : 0 < R ∧ R < 5) (hC : 0 < C ∧ C < 4) : (C : Int) ≤ (thrR R C).getD R 0 := by
  have hRT : R ≤ T := by rw [← hT]; exact Nat.le_mul_of_pos_right R hC.1
  rcases col_ok R hR.2 C hC.2 with ⟨h1, h2⟩ | h
  case inr => omega
  rw [thr_sum hT (by omega)]
  have h3 := sg_inc (f := fun i => cterm (Thr R C) T R (dg 2 i T)) (fun i => ct_le.1) ((List.range C).map (colN R C)) (2 ^ T) (fun a ha => by
    obtain ⟨c, hc, rfl⟩ := List.mem_map.1 ha
    rw [List.mem_range] at hc
    unfold colOk at h1
    simp only [List.all_eq_true, List.mem_range, Bool.and_eq_true, decide_eq_true_eq] at h1
    obtain ⟨⟨g1, g2⟩, g3⟩ := h1 c hc
    rw [hT] at g1 g2 g3
    refine ⟨g1, ?_⟩
    have hp : Thr R C (dg 2 (colN R C c) T) := thr_col (by rw [dg_len, hT]) hR.1 hc g3
    show 1 ≤ cterm _ _ _ _
    unfold cterm
    rw [tt_t hp, if_pos g2]; exact Int.le_refl 1) h2
  rw [List.length_map, List.length_range] at h3
  exact h3

end Go.Proofs.Ytckobcjjbpnkcaa
