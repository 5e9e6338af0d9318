/- Clusters: cells have the same number just if ways of ones lead from one to the other. -/
import Derived.Test.YtckobcjjbpnkcaaXclusters
import Derived.Test.YtckobcjjbpnkcaaFB
namespace Go.Proofs.Ytckobcjjbpnkcaa
open Go Go.RowKit
set_option linter.unusedVariables false
set_option linter.unusedSimpArgs false
set_option maxRecDepth 100000
set_option maxHeartbeats 8000000


abbrev cat (l : List Int) (x : Int) : Int := l.getD x.toNat 0
abbrev Cin (R C : Nat) (x : Int) : Prop := 0 ≤ x ∧ x < (R : Int) * C
theorem cin_split {R C : Nat} {x : Int} (h : Cin R C x) : ∃ i k : Int, x = i * C + k ∧ (0 ≤ i ∧ i < R) ∧ (0 ≤ k ∧ k < C) ∧ x / C = i ∧ x % C = k := by
  have hC : 0 < (C : Int) := by
    rcases Int.lt_or_le 0 (C : Int) with g | g
    · exact g
    · have : (C : Int) = 0 := by omega
      rw [Cin, this, Int.mul_zero] at h; omega
  refine ⟨x / C, x % C, ?_, ⟨Int.ediv_nonneg h.1 (by omega), ?_⟩, ⟨Int.emod_nonneg _ (by omega), Int.emod_lt_of_pos _ hC⟩, rfl, rfl⟩
  · rw [Int.mul_comm]; exact (Int.mul_ediv_add_emod x C).symm
  · exact Int.ediv_lt_of_lt_mul hC h.2
theorem nbs_mem {R C : Nat} {x y : Int} (hx : Cin R C x) : y ∈ nbs R C x ↔ ((C : Int) ≤ x ∧ y = x - C) ∨ (x + C < (R : Int) * C ∧ y = x + C) ∨ (0 < x % C ∧ y = x - 1) ∨ (x % C + 1 < C ∧ y = x + 1) := by
  obtain ⟨i, k, e, hi, hk, e1, e2⟩ := cin_split hx
  have q1 : 0 < i ↔ (C : Int) ≤ x := by
    constructor
    · intro h
      have := Int.mul_le_mul_of_nonneg_right (show (1 : Int) ≤ i by omega) (show (0 : Int) ≤ C by omega)
      omega
    · intro h
      apply Classical.byContradiction; intro g
      obtain rfl : i = 0 := by omega
      omega
  have q2 : i + 1 < R ↔ x + C < (R : Int) * C := by
    constructor
    · intro h
      have := Int.mul_le_mul_of_nonneg_right (show i + 1 + 1 ≤ (R : Int) by omega) (show (0 : Int) ≤ C by omega)
      rw [Int.add_mul, Int.add_mul] at this
      omega
    · intro h
      apply Classical.byContradiction; intro g
      have : i + 1 = (R : Int) := by omega
      rw [← this, Int.add_mul] at h
      omega
  rw [nbs, e1, e2, nbl4 hi hk e, ← q1, ← q2]
  simp only [List.mem_append]
  constructor
  · rintro (((h | h) | h) | h)
    all_goals (split at h <;> simp at h)
    · rename_i g; exact .inl ⟨g, h⟩
    · rename_i g; exact .inr (.inl ⟨g, h⟩)
    · rename_i g; exact .inr (.inr (.inl ⟨g, h⟩))
    · rename_i g; exact .inr (.inr (.inr ⟨g, h⟩))
  · rintro (⟨g, h⟩ | ⟨g, h⟩ | ⟨g, h⟩ | ⟨g, h⟩)
    · exact .inl (.inl (.inl (by rw [if_pos g, h]; simp)))
    · exact .inl (.inl (.inr (by rw [if_pos g, h]; simp)))
    · exact .inl (.inr (by rw [if_pos g, h]; simp))
    · exact .inr (by rw [if_pos g, h]; simp)
theorem mod_pred {C : Nat} {x : Int} (hC : 0 < (C : Int)) (h : 0 < x % C) : (x - 1) % (C : Int) = x % C - 1 := by
  have h2 := Int.emod_lt_of_pos x hC
  rw [← Int.emod_sub_emod]; exact Int.emod_eq_of_lt (by omega) (by omega)
theorem mod_succ {C : Nat} {x : Int} (hC : 0 < (C : Int)) (h : x % C + 1 < C) : (x + 1) % (C : Int) = x % C + 1 := by
  have h2 := Int.emod_nonneg x (show (C : Int) ≠ 0 by omega)
  rw [← Int.emod_add_emod]; exact Int.emod_eq_of_lt (by omega) (by omega)
theorem cin_pos {R C : Nat} {x : Int} (h : Cin R C x) : 0 < (C : Int) := by
  rcases Int.lt_or_le 0 (C : Int) with g | g
  · exact g
  · have : (C : Int) = 0 := by omega
    rw [Cin, this, Int.mul_zero] at h; omega
theorem nbs_symm {R C : Nat} {x y : Int} (hx : Cin R C x) (h : y ∈ nbs R C x) : x ∈ nbs R C y := by
  have hy : Cin R C y := nbs_in _ h
  have h2 := hy.2
  have h1 := hy.1
  rcases (nbs_mem hx).1 h with ⟨g, rfl⟩ | ⟨g, rfl⟩ | ⟨g, rfl⟩ | ⟨g, rfl⟩
  · exact (nbs_mem hy).2 (.inr (.inl ⟨by have := hx.2; omega, by omega⟩))
  · exact (nbs_mem hy).2 (.inl ⟨by have := hx.1; omega, by omega⟩)
  · refine (nbs_mem hy).2 (.inr (.inr (.inr ⟨?_, by omega⟩)))
    rw [mod_pred (cin_pos hx) g]
    have := Int.emod_lt_of_pos x (cin_pos hx)
    omega
  · refine (nbs_mem hy).2 (.inr (.inr (.inl ⟨?_, by omega⟩)))
    rw [mod_succ (cin_pos hx) g]
    have := cin_pos hx
    have := Int.emod_nonneg x (show (C : Int) ≠ 0 by omega)
    omega
/-- A way of ones. -/
inductive Con (R C : Nat) (xs : List Int) : Int → Int → Prop
  | refl {x : Int} : Con R C xs x x
  | snoc {x y z : Int} : Con R C xs x y → z ∈ nbs R C y → cat xs z = 1 → Con R C xs x z
theorem Con.cin {R C : Nat} {xs : List Int} {x y : Int} (h : Con R C xs x y) (hx : Cin R C x) : Cin R C y := by
  cases h with
  | refl => exact hx
  | snoc _ g _ => exact nbs_in _ g
theorem Con.trans {R C : Nat} {xs : List Int} {x y z : Int} (h : Con R C xs x y) (k : Con R C xs y z) : Con R C xs x z := by
  induction k with
  | refl => exact h
  | snoc _ g e ih => exact ih.snoc g e
theorem Con.one {R C : Nat} {xs : List Int} {x y : Int} (h : Con R C xs x y) (hx : cat xs x = 1) : cat xs y = 1 := by
  cases h with
  | refl => exact hx
  | snoc _ _ e => exact e
theorem Con.symm {R C : Nat} {xs : List Int} {x y : Int} (h : Con R C xs x y) (hx : Cin R C x) (h1 : cat xs x = 1) : Con R C xs y x := by
  induction h with
  | refl => exact .refl
  | snoc k g e ih => exact (Con.snoc .refl (nbs_symm (k.cin hx) g) (k.one h1)).trans ih
/-! ### filling -/
structure Fl (R C : Nat) (xs out : List Int) (num seed : Int) (ex : Int → Prop) (st : List Int × List Int) : Prop where
  len : st.1.length = R * C
  old : ∀ x, Cin R C x → cat out x ≠ 0 → cat st.1 x = cat out x
  new : ∀ x, Cin R C x → cat st.1 x ≠ cat out x → cat st.1 x = num ∧ cat out x = 0 ∧ cat xs x = 1 ∧ Con R C xs seed x
  todo : ∀ x ∈ st.2, Cin R C x ∧ cat st.1 x = num ∧ cat out x = 0
  cl : ∀ x, Cin R C x → cat out x = 0 → cat st.1 x ≠ 0 → x ∈ st.2 ∨ ex x ∨ ∀ y ∈ nbs R C x, cat xs y = 1 → cat st.1 y ≠ 0
  sd : cat st.1 seed = num
theorem cat_set {l : List Int} {R C : Nat} {x y v : Int} (hl : l.length = R * C) (hx : Cin R C x) (hy : Cin R C y) : cat (l.set x.toNat v) y = if x = y then v else cat l y := by
  have e : ((R * C : Nat) : Int) = (R : Int) * C := by push_cast; rfl
  have h1 := hx.1
  have h2 := hx.2
  have h3 := hy.1
  rw [cat, getD_set (by omega)]
  by_cases g : x = y
  · rw [if_pos g, if_pos (by rw [g])]
  · rw [if_neg g, if_neg (by omega)]
theorem Fl.step {R C : Nat} {xs out : List Int} {num seed x y : Int} {ex : Int → Prop} {st : List Int × List Int} (h : Fl R C xs out num seed ex st) (hn : num ≠ 0) (hs : Cin R C seed) (hx : Cin R C x) (hcx : Con R C xs seed x) (hy : y ∈ nbs R C x) :
    Fl R C xs out num seed ex (cluS xs num st y) ∧ (∀ z, Cin R C z → cat st.1 z ≠ 0 → cat (cluS xs num st y).1 z ≠ 0) ∧ (cat xs y = 1 → cat (cluS xs num st y).1 y ≠ 0) := by
  have hy2 : Cin R C y := nbs_in _ hy
  unfold cluS
  by_cases hc : cat xs y = 1 ∧ cat st.1 y = 0
  · rw [if_pos hc]
    have hset : ∀ z, Cin R C z → cat (st.1.set y.toNat num) z = if y = z then num else cat st.1 z := fun z hz => cat_set h.len hy2 hz
    have mono : ∀ z, Cin R C z → cat st.1 z ≠ 0 → cat (st.1.set y.toNat num) z ≠ 0 := fun z hz g => by
      rw [hset z hz]; split
      · exact hn
      · exact g
    have hout : cat out y = 0 := by
      apply Classical.byContradiction; intro g
      rw [h.old y hy2 g] at hc; exact g hc.2
    refine ⟨⟨by simp [h.len], fun z hz g => ?_, fun z hz g => ?_, fun z hz => ?_, fun z hz g1 g2 => ?_, ?_⟩, mono, fun _ => ?_⟩
    · rw [hset z hz, if_neg (fun e => g (by rw [← e]; exact hout))]; exact h.old z hz g
    · rw [hset z hz] at g ⊢
      by_cases e : y = z
      · subst e; rw [if_pos rfl]; exact ⟨rfl, hout, hc.1, hcx.snoc hy hc.1⟩
      · rw [if_neg e] at g ⊢; exact h.new z hz g
    · rcases List.mem_append.1 hz with hz | hz
      · obtain ⟨g1, g2, g3⟩ := h.todo z hz
        refine ⟨g1, ?_, g3⟩
        rw [hset z g1]; split
        · rfl
        · exact g2
      · obtain rfl := List.mem_singleton.1 hz
        exact ⟨hy2, by rw [hset z hy2, if_pos rfl], hout⟩
    · by_cases e : y = z
      · subst e; exact .inl (List.mem_append.2 (.inr (List.mem_singleton.2 rfl)))
      · rw [hset z hz, if_neg e] at g2
        rcases h.cl z hz g1 g2 with k | k | k
        · exact .inl (List.mem_append.2 (.inl k))
        · exact .inr (.inl k)
        · exact .inr (.inr fun w hw hw1 => mono w (nbs_in _ hw) (k w hw hw1))
    · rw [hset seed hs]; split
      · rfl
      · exact h.sd
    · rw [hset y hy2, if_pos rfl]; exact hn
  · rw [if_neg hc]
    exact ⟨h, fun z _ g => g, fun g e => hc ⟨g, e⟩⟩
theorem Fl.fold {R C : Nat} {xs out : List Int} {num seed x : Int} {ex : Int → Prop} (hn : num ≠ 0) (hs : Cin R C seed) (hx : Cin R C x) (hcx : Con R C xs seed x) : ∀ (l : List Int) (st : List Int × List Int), Fl R C xs out num seed ex st → (∀ y ∈ l, y ∈ nbs R C x) →
    Fl R C xs out num seed ex (l.foldl (cluS xs num) st) ∧ (∀ z, Cin R C z → cat st.1 z ≠ 0 → cat (l.foldl (cluS xs num) st).1 z ≠ 0) ∧ (∀ y ∈ l, cat xs y = 1 → cat (l.foldl (cluS xs num) st).1 y ≠ 0)
  | [], st, h, _ => ⟨h, fun z _ g => g, fun y hy => by cases hy⟩
  | a :: l, st, h, hl => by
    obtain ⟨h1, h2, h3⟩ := h.step hn hs hx hcx (hl a List.mem_cons_self)
    obtain ⟨k1, k2, k3⟩ := Fl.fold hn hs hx hcx l _ h1 fun y hy => hl y (List.mem_cons_of_mem _ hy)
    refine ⟨k1, fun z hz g => k2 z hz (h2 z hz g), fun y hy g => ?_⟩
    rcases List.mem_cons.1 hy with rfl | hy
    · exact k2 y (nbs_in _ (hl y List.mem_cons_self)) (h3 g)
    · exact k3 y hy g
theorem last_mem {l : List Int} (h : l ≠ []) {z : Int} (hz : z ∈ l) : z ∈ l.dropLast ∨ z = l.getLastD 0 := by
  have e := List.dropLast_concat_getLast h
  rw [← e] at hz
  rcases List.mem_append.1 hz with g | g
  · exact .inl g
  · refine .inr ?_
    rw [List.mem_singleton.1 g, List.getLastD_eq_getLast?, List.getLast?_eq_some_getLast h]; rfl
theorem last_in {l : List Int} (h : l ≠ []) : l.getLastD 0 ∈ l := by
  rw [List.getLastD_eq_getLast?, List.getLast?_eq_some_getLast h]; exact List.getLast_mem h
theorem spr_fl {R C : Nat} {xs out : List Int} {num seed : Int} (hn : num ≠ 0) (hs : Cin R C seed) : ∀ (m : Nat) (st : List Int × List Int), CluOk R C xs st m → Fl R C xs out num seed (fun _ => False) st → Fl R C xs out num seed (fun _ => False) (spr R C xs num m st, [])
  | 0, st, hk, h => by
    have hm := hk.meas
    obtain ⟨a, b⟩ := st
    obtain rfl : b = [] := List.length_eq_zero_iff.1 (by simp only at hm; omega)
    rw [spr]; exact h
  | m + 1, st, hk, h => by
    rw [spr]
    split
    · rename_i he
      obtain ⟨a, b⟩ := st
      simp only at he; subst he; exact h
    · rename_i hne
      have hlast := last_in hne
      obtain ⟨x, hx⟩ : ∃ x, st.2.getLastD 0 = x := ⟨_, rfl⟩
      have hmem := fun z (hz : z ∈ st.2) => last_mem hne hz
      rw [hx] at hlast hmem ⊢
      obtain ⟨x1, x2, x3⟩ := h.todo x hlast
      have xcon : Con R C xs seed x := (h.new x x1 (by rw [x2, x3]; exact hn)).2.2.2
      have h1 : Fl R C xs out num seed (fun z => z = x) (st.1, st.2.dropLast) := ⟨h.len, h.old, h.new, fun z hz => h.todo z (List.dropLast_subset _ hz), fun z hz g1 g2 => by
        rcases h.cl z hz g1 g2 with k | k | k
        · exact (hmem z k).elim .inl fun e => .inr (.inl e)
        · exact k.elim
        · exact .inr (.inr k), h.sd⟩
      obtain ⟨k1, k2, k3⟩ := Fl.fold hn hs x1 xcon (nbs R C x) _ h1 fun y hy => hy
      refine spr_fl hn hs m _ (CluOk.fold hn _ _ (hk.pop hne) nbs_in) ⟨k1.len, k1.old, k1.new, k1.todo, fun z hz g1 g2 => ?_, k1.sd⟩
      rcases k1.cl z hz g1 g2 with k | k | k
      · exact .inl k
      · subst k; exact .inr (.inr k3)
      · exact .inr (.inr k)
/-! ### all clusters -/
structure Kl (R C : Nat) (xs : List Int) (n : Nat) (out : List Int) (k : Int) : Prop where
  len : out.length = R * C
  k0 : 0 ≤ k
  rng : ∀ x, Cin R C x → 0 ≤ cat out x ∧ cat out x ≤ k
  g : ∀ x, Cin R C x → cat out x ≠ 0 → cat xs x = 1
  cl : ∀ x, Cin R C x → cat out x ≠ 0 → ∀ y ∈ nbs R C x, cat xs y = 1 → cat out y = cat out x
  con : ∀ x y, Cin R C x → Cin R C y → cat out x ≠ 0 → cat out x = cat out y → Con R C xs x y
  done : ∀ x, Cin R C x → x < n → cat xs x = 1 → cat out x ≠ 0
theorem cluAll_kl {R C : Nat} {xs : List Int} : ∀ n, n ≤ R * C → Kl R C xs n (cluAll R C xs n).1 (cluAll R C xs n).2 ∧
    (∀ m, m ≤ n → ∀ x, Cin R C x → cat (cluAll R C xs m).1 x ≠ 0 → cat (cluAll R C xs n).1 x = cat (cluAll R C xs m).1 x) ∧
    (∀ m, m < n → xs.getD m 0 = 1 ∧ (cluAll R C xs m).1.getD m 0 = 0 → cat (cluAll R C xs (m + 1)).1 m = (cluAll R C xs m).2 + 1)
  | 0, _ => by
    have hz : ∀ x : Int, cat (List.replicate (R * C) 0) x = 0 := fun x => by
      rw [cat, List.getD_eq_getElem?_getD, List.getElem?_replicate]; split <;> rfl
    refine ⟨⟨by simp [cluAll], Int.le_refl 0, fun x _ => ?_, fun x _ h => ?_, fun x _ h => ?_, fun x y _ _ h => ?_, fun x hx h => ?_⟩, fun m hm x _ h => ?_, fun m hm => (by omega)⟩
    · rw [cluAll, hz]; exact ⟨Int.le_refl 0, Int.le_refl 0⟩
    · rw [cluAll, hz] at h; exact absurd rfl h
    · rw [cluAll, hz] at h; exact absurd rfl h
    · rw [cluAll, hz] at h; exact absurd rfl h
    · have := hx.1; omega
    · obtain rfl : m = 0 := by omega
      rfl
  | n + 1, hn => by
    have e : ((R * C : Nat) : Int) = (R : Int) * C := by push_cast; rfl
    obtain ⟨h, hmon, hsd⟩ := cluAll_kl (R := R) (C := C) (xs := xs) n (by omega)
    have hcn : Cin R C n := ⟨by omega, by omega⟩
    have hcatn : ∀ l : List Int, cat l (n : Int) = l.getD n 0 := fun l => by rw [cat, Int.toNat_natCast]
    have key : Kl R C xs (n + 1) (cluAll R C xs (n + 1)).1 (cluAll R C xs (n + 1)).2 ∧ (∀ x, Cin R C x → cat (cluAll R C xs n).1 x ≠ 0 → cat (cluAll R C xs (n + 1)).1 x = cat (cluAll R C xs n).1 x) ∧ (xs.getD n 0 = 1 ∧ (cluAll R C xs n).1.getD n 0 = 0 → cat (cluAll R C xs (n + 1)).1 n = (cluAll R C xs n).2 + 1) := by
     rw [cluAll]
     by_cases hc : xs.getD n 0 = 1 ∧ (cluAll R C xs n).1.getD n 0 = 0
     · rw [if_pos hc]
       generalize hout : (cluAll R C xs n).1 = out at *
       generalize hk : (cluAll R C xs n).2 = k at *
       have hk0 := h.k0
       have hset : ∀ z, Cin R C z → cat (out.set n (k + 1)) z = if (n : Int) = z then k + 1 else cat out z := fun z hz => by
         have := cat_set (l := out) (v := k + 1) h.len hcn hz
         rw [Int.toNat_natCast] at this; exact this
       have h0 : Fl R C xs out (k + 1) n (fun _ => False) (out.set n (k + 1), [(n : Int)]) := by
         refine ⟨by simp [h.len], fun z hz g => ?_, fun z hz g => ?_, fun z hz => ?_, fun z hz g1 g2 => ?_, ?_⟩
         · show cat (out.set n (k + 1)) z = _
           rw [hset z hz, if_neg (fun e => g (by rw [← e, hcatn]; exact hc.2))]
         · change cat (out.set n (k + 1)) z ≠ _ at g
           show cat (out.set n (k + 1)) z = _ ∧ _
           rw [hset z hz] at g ⊢
           by_cases e2 : (n : Int) = z
           · subst e2; rw [if_pos rfl]; exact ⟨rfl, by rw [hcatn]; exact hc.2, by rw [hcatn]; exact hc.1, .refl⟩
           · rw [if_neg e2] at g; exact absurd rfl g
         · obtain rfl := List.mem_singleton.1 hz
           exact ⟨hcn, by show cat (out.set n (k + 1)) n = _; rw [hset _ hcn, if_pos rfl], by rw [hcatn]; exact hc.2⟩
         · change cat (out.set n (k + 1)) z ≠ 0 at g2
           rw [hset z hz] at g2
           by_cases e2 : (n : Int) = z
           · exact .inl (List.mem_singleton.2 e2.symm)
           · rw [if_neg e2] at g2; exact absurd g1 g2
         · show cat (out.set n (k + 1)) n = _; rw [hset _ hcn, if_pos rfl]
       have hf := spr_fl (num := k + 1) (by omega) hcn (R * C + 1) _ (CluOk.start (num := k + 1) (by omega) h.len (by omega) hc) h0
       generalize spr R C xs (k + 1) (R * C + 1) (out.set n (k + 1), [(n : Int)]) = o2 at *
       have hold : ∀ x, Cin R C x → cat out x ≠ 0 → cat o2 x = cat out x := fun x hx g => hf.old x hx g
       have hnew : ∀ x, Cin R C x → cat o2 x ≠ cat out x → cat o2 x = k + 1 ∧ cat out x = 0 ∧ cat xs x = 1 ∧ Con R C xs n x := fun x hx g => hf.new x hx g
       refine ⟨⟨hf.len, by show 0 ≤ k + 1; omega, fun x hx => ?_, fun x hx g => ?_, fun x hx g y hy gy => ?_, fun x y hx hy g1 g2 => ?_, fun x hx hlt g => ?_⟩, fun x hx g => hold x hx g, fun _ => hf.sd⟩
       · have := h.rng x hx
         show 0 ≤ cat o2 x ∧ cat o2 x ≤ k + 1
         by_cases g : cat o2 x = cat out x
         · rw [g]; omega
         · rw [(hnew x hx g).1]; omega
       · change cat o2 x ≠ 0 at g
         by_cases g2 : cat o2 x = cat out x
         · exact h.g x hx (by rw [← g2]; exact g)
         · exact (hnew x hx g2).2.2.1
       · change cat o2 x ≠ 0 at g
         show cat o2 y = cat o2 x
         have hy2 : Cin R C y := nbs_in _ hy
         by_cases g2 : cat out x = 0
         · have hx1 := hnew x hx (by rw [g2]; exact g)
           rcases hf.cl x hx g2 g with q | q | q
           · cases q
           · exact q.elim
           · have q1 := q y hy gy
             change cat o2 y ≠ 0 at q1
             by_cases g3 : cat out y = 0
             · rw [hx1.1, (hnew y hy2 (by rw [g3]; exact q1)).1]
             · exact absurd ((h.cl y hy2 g3 x (nbs_symm hx hy) hx1.2.2.1).symm.trans g2) g3
         · have q := h.cl x hx g2 y hy gy
           rw [hold x hx g2, hold y hy2 (by rw [q]; exact g2), q]
       · change cat o2 x ≠ 0 at g1
         change cat o2 x = cat o2 y at g2
         have rx := h.rng x hx
         have ry := h.rng y hy
         by_cases g3 : cat out x = 0
         · have hx1 := hnew x hx (by rw [g3]; exact g1)
           by_cases g4 : cat out y = 0
           · have hy1 := hnew y hy (by rw [g4, ← g2]; exact g1)
             exact (hx1.2.2.2.symm hcn (by rw [hcatn]; exact hc.1)).trans hy1.2.2.2
           · rw [hold y hy g4, hx1.1] at g2; omega
         · by_cases g4 : cat out y = 0
           · have hy1 := hnew y hy (by rw [g4, ← g2]; exact g1)
             rw [hold x hx g3, hy1.1] at g2; omega
           · exact h.con x y hx hy g3 (by rw [← hold x hx g3, ← hold y hy g4]; exact g2)
       · show cat o2 x ≠ 0
         by_cases e2 : x = n
         · subst e2
           have := hf.sd
           change cat o2 n = _ at this
           rw [this]; omega
         · have q := h.done x hx (by omega) g
           rw [hold x hx q]; exact q
     · rw [if_neg hc]
       refine ⟨⟨h.len, h.k0, h.rng, h.g, h.cl, h.con, fun x hx hlt g => ?_⟩, fun x hx g => rfl, fun g => absurd g hc⟩
       by_cases e2 : x = n
       · subst e2
         rw [hcatn] at g
         intro q; rw [hcatn] at q; exact hc ⟨g, q⟩
       · exact h.done x hx (by omega) g
    refine ⟨key.1, fun m hm x hx g => ?_, fun m hm => ?_⟩
    · by_cases e2 : m = n + 1
      · subst e2; rfl
      · have q := hmon m (by omega) x hx g
        rw [key.2.1 x hx (by rw [q]; exact g), q]
    · by_cases e2 : m = n
      · subst e2; exact key.2.2
      · exact hsd m (by omega)
/-- Numbers come in order. -/
theorem clu_ord {R C : Nat} {xs : List Int} {i : Nat} (hi : i < R * C) : (cluAll R C xs (R * C)).1.getD i 0 ≤ (cluAll R C xs i).2 + 1 ∧ (cluAll R C xs (i + 1)).2 = max (cluAll R C xs i).2 ((cluAll R C xs (R * C)).1.getD i 0) := by
  have e : ((R * C : Nat) : Int) = (R : Int) * C := by push_cast; rfl
  have hci : Cin R C (i : Int) := ⟨by omega, by omega⟩
  have cc : ∀ (l : List Int) (n : Nat), cat l (n : Int) = l.getD n 0 := fun l n => by rw [cat, Int.toNat_natCast]
  obtain ⟨hT, hmon, hsd⟩ := cluAll_kl (R := R) (C := C) (xs := xs) (R * C) (Nat.le_refl _)
  have hi1 := (cluAll_kl (R := R) (C := C) (xs := xs) i (by omega)).1
  have k0 := hi1.k0
  by_cases hc : xs.getD i 0 = 1 ∧ (cluAll R C xs i).1.getD i 0 = 0
  · have h1 := hsd i hi hc
    have h2 := hmon (i + 1) (by omega) i hci (by rw [h1]; omega)
    have h3 : (cluAll R C xs (i + 1)).2 = (cluAll R C xs i).2 + 1 := by rw [cluAll, if_pos hc]
    rw [h3, ← cc, h2, h1]
    exact ⟨Int.le_refl _, by omega⟩
  · have h3 : (cluAll R C xs (i + 1)).2 = (cluAll R C xs i).2 := by rw [cluAll, if_neg hc]
    have h4 : (cluAll R C xs (R * C)).1.getD i 0 ≤ (cluAll R C xs i).2 := by
      by_cases g : cat (cluAll R C xs i).1 i = 0
      · by_cases g2 : xs.getD i 0 = 1
        · exact absurd ⟨g2, by rw [← cc]; exact g⟩ hc
        · have : cat (cluAll R C xs (R * C)).1 i = 0 := by
            apply Classical.byContradiction; intro q
            have := hT.g i hci q
            rw [cc] at this; exact g2 this
          rw [← cc, this]; exact k0
      · rw [← cc, hmon i (by omega) i hci g]; exact (hi1.rng i hci).2
    rw [h3]; omega

end Go.Proofs.Ytckobcjjbpnkcaa
