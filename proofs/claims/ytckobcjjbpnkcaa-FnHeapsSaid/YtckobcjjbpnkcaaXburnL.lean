/- Fires burn all that ways of ones lead to. -/
import Derived.Test.YtckobcjjbpnkcaaXcluL
import Derived.Test.YtckobcjjbpnkcaaXburnAll
import Derived.Test.YtckobcjjbpnkcaaFB
namespace Go.Proofs.Ytckobcjjbpnkcaa
open Go Go.RowKit
set_option linter.unusedVariables false
set_option linter.unusedSimpArgs false
set_option maxRecDepth 100000
set_option maxHeartbeats 8000000


theorem fire_fold {xs : List Int} : ∀ (l : List Int) (v : Int), l.foldl (fireS xs) v = if v = 2 ∨ ∃ y ∈ l, cat xs y = 2 then (if v = 2 ∨ ∃ y ∈ l, cat xs y = 2 then 2 else v) else v
  | [], v => by simp
  | a :: l, v => by
    rw [List.foldl_cons, fire_fold l, fireS]
    by_cases h : xs.getD a.toNat 0 = 2
    · have h2 : v = 2 ∨ ∃ y ∈ a :: l, cat xs y = 2 := .inr ⟨a, List.mem_cons_self, h⟩
      rw [if_pos h, if_pos (.inl rfl), if_pos (.inl rfl), if_pos h2, if_pos h2]
    · rw [if_neg h]
      have e : (v = 2 ∨ ∃ y ∈ a :: l, cat xs y = 2) ↔ (v = 2 ∨ ∃ y ∈ l, cat xs y = 2) := by
        constructor
        · rintro (g | ⟨y, hy, g⟩)
          · exact .inl g
          · rcases List.mem_cons.1 hy with rfl | hy
            · exact absurd g h
            · exact .inr ⟨y, hy, g⟩
        · rintro (g | ⟨y, hy, g⟩)
          · exact .inl g
          · exact .inr ⟨y, List.mem_cons_of_mem _ hy, g⟩
      by_cases q : v = 2 ∨ ∃ y ∈ l, cat xs y = 2
      · rw [if_pos q, if_pos (e.2 q), if_pos q, if_pos (e.2 q)]
      · rw [if_neg q, if_neg (fun g => q (e.1 g))]
theorem burn_step {R C : Nat} {xs : List Int} {x : Int} (hx : Cin R C x) :
    (cat xs x = 1 → (∃ y ∈ nbs R C x, cat xs y = 2) → cat (mk R C (burnV xs R C)) x = 2) ∧ (cat xs x = 1 → (¬ ∃ y ∈ nbs R C x, cat xs y = 2) → cat (mk R C (burnV xs R C)) x = 1) ∧ (cat xs x = 2 → cat (mk R C (burnV xs R C)) x = 0) ∧ (cat xs x = 0 → cat (mk R C (burnV xs R C)) x = 0) := by
  obtain ⟨n, rfl⟩ : ∃ n : Nat, x = n := ⟨x.toNat, by have := hx.1; omega⟩
  have e : ((R * C : Nat) : Int) = (R : Int) * C := by push_cast; rfl
  have hn : n < R * C := by have := hx.2; omega
  have hcel : cel xs C ((n / C : Nat) : Int) ((n % C : Nat) : Int) = cat xs n := by rw [cel, toNat_cell, (div_mod_lt hn).2.2, cat, Int.toNat_natCast]
  have hm : cat (mk R C (burnV xs R C)) n = burnV xs R C ((n / C : Nat) : Int) ((n % C : Nat) : Int) := by rw [cat, Int.toNat_natCast, mk_at hn]
  have hnb : nbl R C ((n / C : Nat) : Int) ((n % C : Nat) : Int) 4 = nbs R C (n : Int) := rfl
  rw [hm, burnV, hcel, hnb, fire_fold]
  refine ⟨fun h g => ?_, fun h g => ?_, fun h => ?_, fun h => ?_⟩
  · rw [if_pos h, if_pos (.inr g), if_pos (.inr g)]
  · rw [if_pos h, if_neg]
    rintro (q | q)
    · omega
    · exact g q
  · rw [if_neg (by omega), if_pos h]
  · rw [if_neg (by omega), if_neg (by omega), h]
structure Bn (R C : Nat) (W lit : List Int) (a : Int) (s : List Int) : Prop where
  val : ∀ x, Cin R C x → cat s x = 0 ∨ cat s x = 1 ∨ cat s x = 2
  two : ∀ x, Cin R C x → cat s x = 2 → Con R C W a x
  one : ∀ x, Cin R C x → cat s x = 1 → cat lit x = 1
  out : ∀ x, Cin R C x → cat s x = 0 → cat lit x ≠ 0 → Con R C W a x ∧ ∀ y ∈ nbs R C x, cat lit y = 1 → cat s y ≠ 1
  nil : ∀ x, Cin R C x → cat lit x = 0 → cat s x = 0
/-- Wood in which one cell burns. -/
structure Lit (R C : Nat) (W lit : List Int) (a : Int) : Prop where
  a_in : Cin R C a
  at_a : cat lit a = 2
  els : ∀ x, Cin R C x → x ≠ a → cat lit x = cat W x
  wood : ∀ x, Cin R C x → cat W x = 0 ∨ cat W x = 1
theorem Bn.start {R C : Nat} {W lit : List Int} {a : Int} (h : Lit R C W lit a) : Bn R C W lit a lit := by
  refine ⟨fun x hx => ?_, fun x hx g => ?_, fun x _ g => g, fun x _ g k => absurd g k, fun x _ g => g⟩
  · by_cases e : x = a
    · rw [e, h.at_a]; exact .inr (.inr rfl)
    · rw [h.els x hx e]; exact (h.wood x hx).imp id .inl
  · by_cases e : x = a
    · rw [e]; exact .refl
    · rw [h.els x hx e] at g
      have := h.wood x hx; omega
theorem bn_step {R C : Nat} {W lit s : List Int} {a : Int} (hl : Lit R C W lit a) (h : Bn R C W lit a s) : Bn R C W lit a (mk R C (burnV s R C)) := by
  have hw1 : ∀ x, Cin R C x → cat lit x = 1 → cat W x = 1 := fun x hx g => by
    by_cases e : x = a
    · rw [e, hl.at_a] at g; omega
    · rw [← hl.els x hx e]; exact g
  have hst := fun (x : Int) (hx : Cin R C x) => burn_step (xs := s) hx
  have cases3 : ∀ x, Cin R C x → (cat s x = 0 ∧ cat (mk R C (burnV s R C)) x = 0) ∨ (cat s x = 2 ∧ cat (mk R C (burnV s R C)) x = 0) ∨ (cat s x = 1 ∧ (∃ y ∈ nbs R C x, cat s y = 2) ∧ cat (mk R C (burnV s R C)) x = 2) ∨ (cat s x = 1 ∧ (¬ ∃ y ∈ nbs R C x, cat s y = 2) ∧ cat (mk R C (burnV s R C)) x = 1) := fun x hx => by
    obtain ⟨s1, s2, s3, s4⟩ := hst x hx
    rcases h.val x hx with g | g | g
    · exact .inl ⟨g, s4 g⟩
    · by_cases q : ∃ y ∈ nbs R C x, cat s y = 2
      · exact .inr (.inr (.inl ⟨g, q, s1 g q⟩))
      · exact .inr (.inr (.inr ⟨g, q, s2 g q⟩))
    · exact .inr (.inl ⟨g, s3 g⟩)
  generalize mk R C (burnV s R C) = t at *
  refine ⟨fun x hx => ?_, fun x hx g => ?_, fun x hx g => ?_, fun x hx g k => ?_, fun x hx g => ?_⟩
  · rcases cases3 x hx with q | q | q | q
    · exact .inl q.2
    · exact .inl q.2
    · exact .inr (.inr q.2.2)
    · exact .inr (.inl q.2.2)
  · rcases cases3 x hx with q | q | q | q
    · omega
    · omega
    · obtain ⟨q1, ⟨y, hy, q2⟩, _⟩ := q
      have hy2 : Cin R C y := nbs_in _ hy
      exact (h.two y hy2 q2).snoc (nbs_symm hx hy) (hw1 x hx (h.one x hx q1))
    · omega
  · rcases cases3 x hx with q | q | q | q
    · omega
    · omega
    · omega
    · exact h.one x hx q.1
  · rcases cases3 x hx with q | q | q | q
    · obtain ⟨q1, q2⟩ := h.out x hx q.1 k
      refine ⟨q1, fun y hy hy1 => ?_⟩
      have := q2 y hy hy1
      rcases cases3 y (nbs_in _ hy) with w | w | w | w <;> omega
    · refine ⟨h.two x hx q.1, fun y hy hy1 => ?_⟩
      rcases cases3 y (nbs_in _ hy) with w | w | w | w
      · omega
      · omega
      · omega
      · exact absurd ⟨x, nbs_symm hx hy, q.1⟩ w.2.1
    · omega
    · omega
  · rcases cases3 x hx with q | q | q | q
    · exact q.2
    · exact q.2
    · have := h.one x hx q.1; omega
    · have := h.one x hx q.1; omega
theorem Bn.all {R C : Nat} {W lit : List Int} {a : Int} (hl : Lit R C W lit a) : ∀ n, Bn R C W lit a (burnN R C lit n)
  | 0 => Bn.start hl
  | n + 1 => bn_step hl (Bn.all hl n)
/-- Behind the fire. -/
theorem Bn.end {R C : Nat} {W lit s : List Int} {a : Int} (hl : Lit R C W lit a) (h : Bn R C W lit a s) (h2 : ∀ x, Cin R C x → cat s x ≠ 2) : cat s a = 0 ∧ ∀ x, Cin R C x → x ≠ a → cat W x = 1 → (cat s x = 0 ↔ Con R C W a x) := by
  have ha : cat s a = 0 := by
    rcases h.val a hl.a_in with g | g | g
    · exact g
    · have := h.one a hl.a_in g; rw [hl.at_a] at this; omega
    · exact absurd g (h2 a hl.a_in)
  refine ⟨ha, fun x hx hxa hw => ⟨fun g => (h.out x hx g (by rw [hl.els x hx hxa]; omega)).1, fun k => ?_⟩⟩
  have key : ∀ y, Con R C W a y → cat s y = 0 := fun y k => by
    induction k with
    | refl => exact ha
    | @snoc y z k g e ih =>
      have hy := k.cin hl.a_in
      have hz : Cin R C z := nbs_in _ g
      by_cases e2 : z = a
      · rw [e2]; exact ha
      · have hly : cat lit y ≠ 0 := by
          by_cases e3 : y = a
          · rw [e3, hl.at_a]; omega
          · rw [hl.els y hy e3]
            cases k with
            | refl => exact absurd rfl e3
            | snoc _ _ q => omega
        have := (h.out y hy ih hly).2 z g (by rw [hl.els z hz e2]; exact e)
        rcases h.val z hz with q | q | q
        · exact q
        · exact absurd q this
        · exact absurd q (h2 z hz)
  exact key x k
theorem burn_end {R C : Nat} {xs : List Int} (hl : xs.length = R * C) : (2 : Int) ∉ burnN R C xs (burnE R C xs) ∧ ((2 : Int) ∈ xs → 0 < burnE R C xs) := by
  have hex : ∃ n, (2 : Int) ∉ burnN R C xs n := by
    apply Classical.byContradiction; intro g
    have g2 : ∀ n, (2 : Int) ∈ burnN R C xs n := fun n => Classical.byContradiction fun q => g ⟨n, q⟩
    have key : ∀ n, wt (burnN R C xs n) (R * C) + n ≤ wt xs (R * C) := fun n => by
      induction n with
      | zero => exact Nat.le_refl _
      | succ n ih =>
        have := burn_less (burnN_len hl n) (g2 n)
        show wt (mk R C (burnV (burnN R C xs n) R C)) (R * C) + (n + 1) ≤ _
        omega
    have := key (wt xs (R * C) + 1)
    omega
  have hleast : ∃ n, (∀ m, m < n → ¬ (2 : Int) ∉ burnN R C xs m) ∧ (2 : Int) ∉ burnN R C xs n := by
    obtain ⟨n, hn⟩ := hex
    induction n using Nat.strongRecOn with
    | _ n ih =>
      by_cases q : ∃ m, m < n ∧ (2 : Int) ∉ burnN R C xs m
      · obtain ⟨m, hm, hm2⟩ := q; exact ih m hm hm2
      · exact ⟨n, fun m hm g => q ⟨m, hm, g⟩, hn⟩
  obtain ⟨n, h1, h2⟩ := hleast
  have e : burnE R C xs = n := endOf_eq h1 h2
  rw [e]
  refine ⟨h2, fun g => ?_⟩
  rcases Nat.eq_zero_or_pos n with q | q
  · subst q; exact absurd g h2
  · exact q
theorem con_clu {R C : Nat} {W : List Int} {x y : Int} (hx : Cin R C x) (h1 : cat W x = 1) (h : Con R C W x y) : cat (cluAll R C W (R * C)).1 y = cat (cluAll R C W (R * C)).1 x := by
  have kf := (cluAll_kl (R := R) (C := C) (xs := W) (R * C) (Nat.le_refl _)).1
  have e : ((R * C : Nat) : Int) = (R : Int) * C := by push_cast; rfl
  induction h with
  | refl => rfl
  | @snoc y z k g q ih =>
    have hy := k.cin hx
    have := kf.cl y hy (kf.done y hy (by have := hy.2; omega) (k.one h1)) z g q
    rw [this, ih]
/-- Which wood has burnt. -/
theorem near_iff {R C : Nat} {W lit : List Int} {a : Int} (hl : Lit R C W lit a) (hlen : lit.length = R * C) {x : Int} (hx : Cin R C x) (hxa : x ≠ a) (hw : cat W x = 1) :
    cat (burnN R C lit (burnE R C lit)) x = 0 ↔ (cat W a = 1 ∧ cat (cluAll R C W (R * C)).1 x = cat (cluAll R C W (R * C)).1 a) ∨ (cat W a = 0 ∧ ∃ y ∈ nbs R C a, cat (cluAll R C W (R * C)).1 x = cat (cluAll R C W (R * C)).1 y) := by
  have kf := (cluAll_kl (R := R) (C := C) (xs := W) (R * C) (Nat.le_refl _)).1
  have e : ((R * C : Nat) : Int) = (R : Int) * C := by push_cast; rfl
  have hb := Bn.all hl (burnE R C lit)
  have hn2 := (burn_end hlen).1
  have hend := hb.end hl fun y hy g => hn2 (by
    rw [← g]; exact getD_mem (by rw [burnN_len hlen]; have := hy.1; have := hy.2; omega))
  rw [hend.2 x hx hxa hw]
  have hx0 : cat (cluAll R C W (R * C)).1 x ≠ 0 := kf.done x hx (by have := hx.2; omega) hw
  rcases hl.wood a hl.a_in with g | g
  · have key : ∀ z, Con R C W a z → z = a ∨ ∃ y ∈ nbs R C a, cat (cluAll R C W (R * C)).1 z = cat (cluAll R C W (R * C)).1 y := fun z k => by
      induction k with
      | refl => exact .inl rfl
      | @snoc y z k q1 q2 ih =>
        rcases ih with rfl | ⟨w, hw1, hw2⟩
        · exact .inr ⟨z, q1, rfl⟩
        · by_cases ey : y = a
          · subst ey; exact .inr ⟨z, q1, rfl⟩
          · have hy := k.cin hl.a_in
            have hy1 : cat W y = 1 := by
              cases k with
              | refl => exact absurd rfl ey
              | snoc _ _ q => exact q
            exact .inr ⟨w, hw1, by rw [kf.cl y hy (kf.done y hy (by have := hy.2; omega) hy1) z q1 q2, hw2]⟩
    constructor
    · intro k
      rcases key x k with q | q
      · exact absurd q hxa
      · exact .inr ⟨g, q⟩
    · rintro (⟨q, _⟩ | ⟨_, y, hy, q⟩)
      · omega
      · have hyc : Cin R C y := nbs_in _ hy
        have hy0 : cat (cluAll R C W (R * C)).1 y ≠ 0 := by rw [← q]; exact hx0
        exact (Con.snoc .refl hy (kf.g y hyc hy0)).trans (kf.con y x hyc hx hy0 q.symm)
  · constructor
    · intro k; exact .inl ⟨g, con_clu hl.a_in g k⟩
    · rintro (⟨_, q⟩ | ⟨q, _⟩)
      · exact kf.con a x hl.a_in hx (by rw [← q]; exact hx0) q.symm
      · omega

end Go.Proofs.Ytckobcjjbpnkcaa
