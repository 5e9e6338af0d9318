/- The first word to which none leads: plain facts. -/
import Derived.Test.YtlmbgaoeplffkaaXpairs
import Derived.Test.YtlmbgaoeplffkaaFB
namespace Go.Proofs.Ytlmbgaoeplffkaa
open Go Go.RowKit
set_option linter.unusedVariables false
set_option linter.unusedSimpArgs false
set_option maxRecDepth 100000
set_option maxHeartbeats 8000000


/-- Where the ends of a set lead with a state, over the first 'm' neighbourhoods. -/
def rchN (S E : Nat) (xs : List Int) (e : List Bool) (to : Int) : Nat → List Bool
  | 0 => List.replicate E false
  | m + 1 => if e.getD (m / S) false = true ∧ xs.getD m 0 = to then (rchN S E xs e to m).set (m % E) true else rchN S E xs e to m
@[simp] theorem rchN_len {S E : Nat} {xs : List Int} {e : List Bool} {to : Int} : ∀ m, (rchN S E xs e to m).length = E
  | 0 => by simp [rchN]
  | m + 1 => by rw [rchN]; split <;> simp [rchN_len m]
theorem rchN_step {S E a d : Nat} {xs : List Int} {e : List Bool} {to : Int} (hd : d < S) : rchN S E xs e to (a * S + (d + 1)) = if e.getD a false = true ∧ xs.getD (a * S + d) 0 = to then (rchN S E xs e to (a * S + d)).set ((a * S + d) % E) true else rchN S E xs e to (a * S + d) := by
  rw [← Nat.add_assoc, rchN, am_div hd]
/-- Ends that lead nowhere leave all as it is. -/
theorem rchN_skip {S E a : Nat} {xs : List Int} {e : List Bool} {to : Int} (h : e.getD a false = false) : ∀ d, d ≤ S → rchN S E xs e to (a * S + d) = rchN S E xs e to (a * S)
  | 0, _ => rfl
  | d + 1, hd => by
    rw [rchN_step (by omega), if_neg (fun g => by rw [h] at g; exact absurd g.1 (by decide)), rchN_skip h d (by omega)]
def rch (S E : Nat) (xs : List Int) (e : List Bool) (to : Int) : List Bool := rchN S E xs e to (E * S)
@[simp] theorem rch_len {S E : Nat} {xs : List Int} {e : List Bool} {to : Int} : (rch S E xs e to).length = E := rchN_len _
/-- The word of 'k' cells with a number, and the ends that come behind it. -/
def wd (S : Nat) : Nat → Nat → List Int
  | 0, _ => []
  | k + 1, j => wd S k (j / S) ++ [((j % S : Nat) : Int)]
@[simp] theorem wd_len {S : Nat} : ∀ k j, (wd S k j).length = k
  | 0, _ => rfl
  | k + 1, j => by rw [wd, List.length_append, wd_len k]; rfl
def im (S E : Nat) (xs : List Int) : Nat → Nat → List Bool
  | 0, _ => List.replicate E true
  | k + 1, j => rch S E xs (im S E xs k (j / S)) ((j % S : Nat) : Int)
@[simp] theorem im_len {S E : Nat} {xs : List Int} : ∀ k j, (im S E xs k j).length = E
  | 0, _ => by simp [im]
  | k + 1, j => by rw [im, rch_len]
theorem wd_child {S k j d : Nat} (hd : d < S) : wd S (k + 1) (j * S + d) = wd S k j ++ [(d : Int)] := by
  rw [wd, am_div hd, Nat.mul_comm, Nat.mul_add_mod, Nat.mod_eq_of_lt hd]
theorem im_child {S E k j d : Nat} {xs : List Int} (hd : d < S) : im S E xs (k + 1) (j * S + d) = rch S E xs (im S E xs k j) (d : Int) := by
  rw [im, am_div hd, Nat.mul_comm, Nat.mul_add_mod, Nat.mod_eq_of_lt hd]
/-- Words by length, then by number. -/
def Lt2 (a b : Nat × Nat) : Prop := a.1 < b.1 ∨ a.1 = b.1 ∧ a.2 < b.2
def Le2 (a b : Nat × Nat) : Prop := a.1 < b.1 ∨ a.1 = b.1 ∧ a.2 ≤ b.2
abbrev chl (S : Nat) (a : Nat × Nat) (d : Nat) : Nat × Nat := (a.1 + 1, a.2 * S + d)
theorem mul_up {S a b d : Nat} (h : a < b) (hd : d < S) : a * S + d < b * S := by
  have : (a + 1) * S ≤ b * S := Nat.mul_le_mul_right _ h
  rw [Nat.add_mul] at this; omega
theorem Lt2.chl {S : Nat} {a b : Nat × Nat} (h : Lt2 a b) {d d' : Nat} (hd : d < S) : Lt2 (chl S a d) (chl S b d') := by
  rcases h with h | ⟨h1, h2⟩
  · exact .inl (by show a.1 + 1 < b.1 + 1; omega)
  · have := mul_up h2 hd
    exact .inr ⟨by show a.1 + 1 = b.1 + 1; omega, by show a.2 * S + d < b.2 * S + d'; omega⟩
theorem Le2.chl {S : Nat} {a b : Nat × Nat} (h : Le2 a b) {d : Nat} : Le2 (chl S a d) (chl S b d) := by
  rcases h with h | ⟨h1, h2⟩
  · exact .inl (by show a.1 + 1 < b.1 + 1; omega)
  · have := Nat.mul_le_mul_right S h2
    exact .inr ⟨by show a.1 + 1 = b.1 + 1; omega, by show a.2 * S + d ≤ b.2 * S + d; omega⟩
theorem Lt2.trans {a b c : Nat × Nat} (h : Lt2 a b) (k : Lt2 b c) : Lt2 a c := by unfold Lt2 at *; omega
theorem Lt2.le {a b : Nat × Nat} (h : Lt2 a b) : Le2 a b := by unfold Lt2 Le2 at *; omega
theorem Le2.trans {a b c : Nat × Nat} (h : Le2 a b) (k : Le2 b c) : Le2 a c := by unfold Le2 at *; omega
theorem Le2.lt {a b c : Nat × Nat} (h : Le2 a b) (k : Lt2 b c) : Lt2 a c := by unfold Lt2 Le2 at *; omega
theorem Lt2.irr {a : Nat × Nat} (h : Lt2 a a) : False := by unfold Lt2 at *; omega
theorem chl_parent {S : Nat} {k j : Nat} (hS : 0 < S) : chl S (k, j / S) (j % S) = (k + 1, j) := by
  show (k + 1, j / S * S + j % S) = _
  rw [Nat.mul_comm, Nat.div_add_mod]
/-! ### orphans -/
def NoEnd (e : List Bool) : Prop := ∀ x ∈ e, x = false
abbrev imP (S E : Nat) (xs : List Int) (a : Nat × Nat) : List Bool := im S E xs a.1 a.2
/-- The first orphan of at most 'most' cells. -/
def Orp (S E : Nat) (xs : List Int) (most : Nat) (a : Nat × Nat) : Prop := (1 ≤ a.1 ∧ a.1 ≤ most) ∧ a.2 < S ^ a.1 ∧ NoEnd (imP S E xs a) ∧ ∀ b : Nat × Nat, 1 ≤ b.1 → b.2 < S ^ b.1 → Lt2 b a → ¬ NoEnd (imP S E xs b)
def NoOrp (S E : Nat) (xs : List Int) (most : Nat) : Prop := ∀ b : Nat × Nat, 1 ≤ b.1 → b.1 ≤ most → b.2 < S ^ b.1 → ¬ NoEnd (imP S E xs b)
theorem Orp.uniq {S E : Nat} {xs : List Int} {most : Nat} {a b : Nat × Nat} (h : Orp S E xs most a) (k : Orp S E xs most b) : a = b := by
  rcases Nat.lt_trichotomy a.1 b.1 with g | g | g
  · exact absurd h.2.2.1 (k.2.2.2 a h.1.1 h.2.1 (.inl g))
  · rcases Nat.lt_trichotomy a.2 b.2 with g2 | g2 | g2
    · exact absurd h.2.2.1 (k.2.2.2 a h.1.1 h.2.1 (.inr ⟨g, g2⟩))
    · exact Prod.ext g g2
    · exact absurd k.2.2.1 (h.2.2.2 b k.1.1 k.2.1 (.inr ⟨g.symm, g2⟩))
  · exact absurd k.2.2.1 (h.2.2.2 b k.1.1 k.2.1 (.inl g))
theorem Orp.no {S E : Nat} {xs : List Int} {most : Nat} {a : Nat × Nat} (h : Orp S E xs most a) (k : NoOrp S E xs most) : False := k a h.1.1 h.1.2 h.2.1 h.2.2.1
noncomputable def orpA (S E : Nat) (xs : List Int) (most : Nat) : Nat × Nat := Classical.epsilon fun a => Orp S E xs most a
theorem orpA_eq {S E : Nat} {xs : List Int} {most : Nat} {a : Nat × Nat} (h : Orp S E xs most a) : orpA S E xs most = a :=
  (Classical.epsilon_spec (p := fun a => Orp S E xs most a) ⟨a, h⟩ : Orp S E xs most (orpA S E xs most)).uniq h
/-! ### level by level -/
/-- All words ahead of this one have ends. -/
def Clear (S E : Nat) (xs : List Int) (a : Nat × Nat) : Prop := ∀ b : Nat × Nat, 1 ≤ b.1 → b.2 < S ^ b.1 → Lt2 b a → ¬ NoEnd (imP S E xs b)
theorem Clear.one {S E : Nat} {xs : List Int} : Clear S E xs (1, 0) := fun b h1 h2 h3 => by
  rcases h3 with h3 | ⟨_, h3⟩
  · exact absurd h3 (by show ¬ b.1 < 1; omega)
  · exact absurd h3 (by show ¬ b.2 < 0; omega)
theorem Clear.next {S E : Nat} {xs : List Int} {k j : Nat} (h : Clear S E xs (k, j)) (hn : ¬ NoEnd (im S E xs k j)) : Clear S E xs (k, j + 1) := fun b h1 h2 h3 => by
  by_cases e : b = (k, j)
  · subst e; exact hn
  · refine h b h1 h2 ?_
    rcases h3 with h3 | ⟨h3, h4⟩
    · exact .inl h3
    · refine .inr ⟨h3, ?_⟩
      have h4' : b.2 < j + 1 := h4
      have h3' : b.1 = k := h3
      have : b.2 ≠ j := fun g => e (Prod.ext h3' g)
      show b.2 < j; omega
theorem Clear.up {S E : Nat} {xs : List Int} {k j : Nat} (h : Clear S E xs (k, j)) (hj : S ^ k ≤ j) : Clear S E xs (k + 1, 0) := fun b h1 h2 h3 => by
  refine h b h1 h2 ?_
  rcases h3 with h3 | ⟨_, h3⟩
  · have h3' : b.1 < k + 1 := h3
    by_cases e : b.1 = k
    · exact .inr ⟨e, by rw [e] at h2; show b.2 < j; omega⟩
    · exact .inl (by show b.1 < k; omega)
  · exact absurd h3 (by show ¬ b.2 < 0; omega)
theorem Clear.no {S E : Nat} {xs : List Int} {k most : Nat} (h : Clear S E xs (k, 0)) (hk : most < k) : NoOrp S E xs most := fun b h1 h2 h3 =>
  h b h1 h3 (.inl (by show b.1 < k; omega))
theorem Clear.orp {S E : Nat} {xs : List Int} {k j most : Nat} (h : Clear S E xs (k, j)) (h1 : 1 ≤ k ∧ k ≤ most) (hj : j < S ^ k) (hn : NoEnd (im S E xs k j)) : Orp S E xs most (k, j) := ⟨h1, hj, hn, h⟩
/-! ### breadth first, sets that came left out -/
/-- 'its': the words that are followed; 'at' and 'to': the next step. -/
structure Bfs (S E : Nat) (xs : List Int) (its : List (Nat × Nat)) (at_ to : Nat) : Prop where
  first : its.getD 0 (0, 0) = (0, 0) ∧ 0 < its.length
  num : ∀ i, i < its.length → (its.getD i (0, 0)).2 < S ^ (its.getD i (0, 0)).1
  sort : ∀ i i', i < i' → i' < its.length → Lt2 (its.getD i (0, 0)) (its.getD i' (0, 0))
  done : ∀ i d, i < its.length → d < S → (i < at_ ∨ i = at_ ∧ d < to) → ¬ NoEnd (imP S E xs (chl S (its.getD i (0, 0)) d)) ∧ ∃ i', i' < its.length ∧ imP S E xs (its.getD i' (0, 0)) = imP S E xs (chl S (its.getD i (0, 0)) d) ∧ Le2 (its.getD i' (0, 0)) (chl S (its.getD i (0, 0)) d)
  last : at_ < its.length → ∀ i, i < its.length → Lt2 (its.getD i (0, 0)) (chl S (its.getD at_ (0, 0)) to)
theorem Bfs.start {S E : Nat} {xs : List Int} : Bfs S E xs [(0, 0)] 0 0 :=
  ⟨⟨rfl, by decide⟩, fun i hi => by
    obtain rfl : i = 0 := by simp at hi; omega
    exact (by decide : 0 < 1), fun i i' h1 h2 => by simp at h2; omega, fun i d h1 h2 h3 => by omega, fun _ i hi => by
    obtain rfl : i = 0 := by simp at hi; omega
    exact .inl (by show (0 : Nat) < 0 + 1; omega)⟩
/-- Each word's set has come, with a word that is not later. -/
theorem Bfs.cov {S E : Nat} {xs : List Int} {its : List (Nat × Nat)} {at_ to : Nat} (h : Bfs S E xs its at_ to) (hS : 0 < S) : ∀ k j, (∀ i, i < its.length → (its.getD i (0, 0)).1 < k → i < at_) → j < S ^ k → ∃ i, i < its.length ∧ imP S E xs (its.getD i (0, 0)) = im S E xs k j ∧ Le2 (its.getD i (0, 0)) (k, j)
  | 0, j, _, hj => by
    obtain rfl : j = 0 := by simpa using hj
    exact ⟨0, h.first.2, by rw [h.first.1], by rw [h.first.1]; exact .inr ⟨rfl, Nat.le_refl _⟩⟩
  | k + 1, j, hp, hj => by
    have hjd : j / S < S ^ k := by rw [Nat.div_lt_iff_lt_mul hS, ← Nat.pow_succ]; exact hj
    obtain ⟨i, h1, h2, h3⟩ := Bfs.cov h hS k (j / S) (fun i hi hl => hp i hi (by omega)) hjd
    have hd : j % S < S := Nat.mod_lt _ hS
    have hlen : (its.getD i (0, 0)).1 < k + 1 := by
      rcases h3 with h3 | ⟨h3, _⟩
      · have h3' : (its.getD i (0, 0)).1 < k := h3; omega
      · have h3' : (its.getD i (0, 0)).1 = k := h3; omega
    obtain ⟨_, i', g1, g2, g3⟩ := h.done i (j % S) h1 hd (.inl (hp i h1 hlen))
    refine ⟨i', g1, ?_, ?_⟩
    · rw [g2]
      show im S E xs ((its.getD i (0, 0)).1 + 1) ((its.getD i (0, 0)).2 * S + j % S) = _
      rw [im_child hd, (show im S E xs (its.getD i (0, 0)).1 (its.getD i (0, 0)).2 = im S E xs k (j / S) from h2), im]
    · have := h3.chl (S := S) (d := j % S)
      rw [chl_parent hS] at this
      exact g3.trans this
/-- Up to here there is no orphan. -/
theorem Bfs.clear {S E : Nat} {xs : List Int} {its : List (Nat × Nat)} {at_ to : Nat} (h : Bfs S E xs its at_ to) (hS : 0 < S) (hat : at_ < its.length) (hto : to < S) : Clear S E xs (chl S (its.getD at_ (0, 0)) to) := fun b h1 h2 h3 => by
  obtain ⟨k, j⟩ := b
  obtain ⟨k, rfl⟩ : ∃ k', k = k' + 1 := ⟨k - 1, by have h1' : 1 ≤ k := h1; omega⟩
  have hd : j % S < S := Nat.mod_lt _ hS
  have hjd : j / S < S ^ k := by rw [Nat.div_lt_iff_lt_mul hS, ← Nat.pow_succ]; exact h2
  have hk : k ≤ (its.getD at_ (0, 0)).1 := by
    rcases h3 with h3 | ⟨h3, _⟩
    · have h3' : k + 1 < (its.getD at_ (0, 0)).1 + 1 := h3; omega
    · have h3' : k + 1 = (its.getD at_ (0, 0)).1 + 1 := h3; omega
  have hless : ∀ i, i < its.length → (its.getD i (0, 0)).1 < k → i < at_ := fun i hi hl => by
    rcases Nat.lt_trichotomy i at_ with g | g | g
    · exact g
    · subst g; omega
    · have := h.sort at_ i g hi
      unfold Lt2 at this; omega
  obtain ⟨i, g1, g2, g3⟩ := h.cov hS k (j / S) hless hjd
  have hproc : i < at_ ∨ i = at_ ∧ j % S < to := by
    have q : Lt2 (chl S (its.getD i (0, 0)) (j % S)) (chl S (its.getD at_ (0, 0)) to) := by
      have := g3.chl (S := S) (d := j % S)
      rw [chl_parent hS] at this
      exact this.lt h3
    rcases Nat.lt_trichotomy i at_ with g | g | g
    · exact .inl g
    · subst g
      refine .inr ⟨rfl, ?_⟩
      rcases q with q | ⟨_, q⟩
      · exact absurd q (Nat.lt_irrefl _)
      · have q' : (its.getD i (0, 0)).2 * S + j % S < (its.getD i (0, 0)).2 * S + to := q; omega
    · exact absurd ((h.sort at_ i g g1).chl (S := S) (d := to) (d' := j % S) hto |>.trans q) (fun z => z.irr)
  have := (h.done i (j % S) g1 hd hproc).1
  intro hne
  apply this
  have e : imP S E xs (chl S (its.getD i (0, 0)) (j % S)) = im S E xs (k + 1) j := by
    show im S E xs ((its.getD i (0, 0)).1 + 1) ((its.getD i (0, 0)).2 * S + j % S) = _
    rw [im_child hd, (show im S E xs (its.getD i (0, 0)).1 (its.getD i (0, 0)).2 = im S E xs k (j / S) from g2), im]
  rw [e]; exact hne
/-- At the end there is none of at most 'most' cells. -/
theorem Bfs.none {S E : Nat} {xs : List Int} {its : List (Nat × Nat)} {at_ most : Nat} (h : Bfs S E xs its at_ 0) (hS : 0 < S) (hend : at_ < its.length → most ≤ (its.getD at_ (0, 0)).1) : NoOrp S E xs most := fun b h1 h2 h3 => by
  obtain ⟨k, j⟩ := b
  obtain ⟨k, rfl⟩ : ∃ k', k = k' + 1 := ⟨k - 1, by have h1' : 1 ≤ k := h1; omega⟩
  have h2' : k + 1 ≤ most := h2
  have hd : j % S < S := Nat.mod_lt _ hS
  have hjd : j / S < S ^ k := by rw [Nat.div_lt_iff_lt_mul hS, ← Nat.pow_succ]; exact h3
  have hall : ∀ i, i < its.length → (its.getD i (0, 0)).1 < most → i < at_ := fun i hi hl => by
    rcases Nat.lt_or_ge i at_ with g | g
    · exact g
    · have := hend (by omega)
      rcases Nat.lt_or_ge at_ i with g2 | g2
      · have := h.sort at_ i g2 hi
        unfold Lt2 at this; omega
      · obtain rfl : i = at_ := by omega
        omega
  obtain ⟨i, g1, g2, g3⟩ := h.cov hS k (j / S) (fun i hi hl => hall i hi (by omega)) hjd
  have hlen : (its.getD i (0, 0)).1 < most := by
    rcases g3 with g3 | ⟨g3, _⟩
    · have g3' : (its.getD i (0, 0)).1 < k := g3; omega
    · have g3' : (its.getD i (0, 0)).1 = k := g3; omega
  have := (h.done i (j % S) g1 hd (.inl (hall i g1 hlen))).1
  intro hne
  apply this
  have e : imP S E xs (chl S (its.getD i (0, 0)) (j % S)) = im S E xs (k + 1) j := by
    show im S E xs ((its.getD i (0, 0)).1 + 1) ((its.getD i (0, 0)).2 * S + j % S) = _
    rw [im_child hd, (show im S E xs (its.getD i (0, 0)).1 (its.getD i (0, 0)).2 = im S E xs k (j / S) from g2), im]
  rw [e]; exact hne
/-- One more step, to a set that came. -/
theorem Bfs.there {S E : Nat} {xs : List Int} {its : List (Nat × Nat)} {at_ to : Nat} (h : Bfs S E xs its at_ to) (hat : at_ < its.length) (hto : to < S) (hne : ¬ NoEnd (imP S E xs (chl S (its.getD at_ (0, 0)) to))) {i' : Nat} (hi : i' < its.length) (he : imP S E xs (its.getD i' (0, 0)) = imP S E xs (chl S (its.getD at_ (0, 0)) to)) : Bfs S E xs its at_ (to + 1) :=
  ⟨h.first, h.num, h.sort, fun i d h1 h2 h3 => by
    by_cases e : i = at_ ∧ d = to
    · obtain ⟨rfl, rfl⟩ := e
      exact ⟨hne, i', hi, he, (h.last hat i' hi).le⟩
    · exact h.done i d h1 h2 (by omega), fun g1 i g3 => by
    have := h.last hat i g3
    refine this.trans (.inr ⟨rfl, ?_⟩)
    show (its.getD at_ (0, 0)).2 * S + to < (its.getD at_ (0, 0)).2 * S + (to + 1); omega⟩
theorem getD_snocL {α : Type} {xs : List α} {a d : α} {i : Nat} (h : i < xs.length) : (xs ++ [a]).getD i d = xs.getD i d := by
  rw [List.getD_eq_getElem?_getD, List.getElem?_append_left h, ← List.getD_eq_getElem?_getD]
theorem getD_snocE {α : Type} {xs : List α} {a d : α} : (xs ++ [a]).getD xs.length d = a := by
  rw [List.getD_eq_getElem?_getD, List.getElem?_append_right (Nat.le_refl _), Nat.sub_self]; rfl
/-- One more step, to a new set. -/
theorem Bfs.new {S E : Nat} {xs : List Int} {its : List (Nat × Nat)} {at_ to : Nat} (h : Bfs S E xs its at_ to) (hat : at_ < its.length) (hto : to < S) (hne : ¬ NoEnd (imP S E xs (chl S (its.getD at_ (0, 0)) to))) : Bfs S E xs (its ++ [chl S (its.getD at_ (0, 0)) to]) at_ (to + 1) := by
  have hl := h.last hat
  have len : (its ++ [chl S (its.getD at_ (0, 0)) to]).length = its.length + 1 := by simp
  have old : ∀ i, i < its.length → (its ++ [chl S (its.getD at_ (0, 0)) to]).getD i (0, 0) = its.getD i (0, 0) := fun i hi => getD_snocL hi
  have new : (its ++ [chl S (its.getD at_ (0, 0)) to]).getD its.length (0, 0) = chl S (its.getD at_ (0, 0)) to := getD_snocE
  refine ⟨⟨by rw [old 0 h.first.2]; exact h.first.1, by omega⟩, fun i hi => ?_, fun i i' h1 h2 => ?_, fun i d h1 h2 h3 => ?_, fun g1 i g3 => ?_⟩
  · rw [len] at hi
    by_cases e : i < its.length
    · rw [old i e]; exact h.num i e
    · obtain rfl : i = its.length := by omega
      rw [new]
      have := h.num at_ hat
      have := mul_up this hto
      show _ < S ^ ((its.getD at_ (0, 0)).1 + 1)
      rw [Nat.pow_succ]; exact this
  · rw [len] at h2
    by_cases e : i' < its.length
    · rw [old i' e, old i (by omega)]; exact h.sort i i' h1 e
    · obtain rfl : i' = its.length := by omega
      rw [new, old i h1]; exact hl i h1
  · rw [len] at h1
    have hi : i < its.length := by omega
    rw [old i hi]
    by_cases e : i = at_ ∧ d = to
    · obtain ⟨rfl, rfl⟩ := e
      exact ⟨hne, its.length, by omega, by rw [new], by rw [new]; exact .inr ⟨rfl, Nat.le_refl _⟩⟩
    · obtain ⟨k1, i', k2, k3, k4⟩ := h.done i d hi h2 (by omega)
      exact ⟨k1, i', by omega, by rw [old i' k2]; exact k3, by rw [old i' k2]; exact k4⟩
  · rw [len] at g3
    rw [old at_ hat]
    by_cases e : i < its.length
    · rw [old i e]
      refine (hl i e).trans (.inr ⟨rfl, ?_⟩)
      show (its.getD at_ (0, 0)).2 * S + to < (its.getD at_ (0, 0)).2 * S + (to + 1); omega
    · obtain rfl : i = its.length := by omega
      rw [new]
      refine .inr ⟨rfl, ?_⟩
      show (its.getD at_ (0, 0)).2 * S + to < (its.getD at_ (0, 0)).2 * S + (to + 1); omega
/-- All steps from one word are done. -/
theorem Bfs.adv {S E : Nat} {xs : List Int} {its : List (Nat × Nat)} {at_ : Nat} (h : Bfs S E xs its at_ S) (hS : 0 < S) (hat : at_ < its.length) : Bfs S E xs its (at_ + 1) 0 :=
  ⟨h.first, h.num, h.sort, fun i d h1 h2 h3 => h.done i d h1 h2 (by omega), fun g1 i g3 => by
    have hs := h.sort at_ (at_ + 1) (by omega) g1
    have hl := h.last hat i g3
    generalize its.getD at_ (0, 0) = a at hs hl
    generalize its.getD (at_ + 1) (0, 0) = c at hs ⊢
    rcases hs with q | ⟨q1, q2⟩
    · rcases hl with r | ⟨r, _⟩
      · exact .inl (by have r' : (its.getD i (0, 0)).1 < a.1 + 1 := r; show (its.getD i (0, 0)).1 < c.1 + 1; omega)
      · exact .inl (by have r' : (its.getD i (0, 0)).1 = a.1 + 1 := r; show (its.getD i (0, 0)).1 < c.1 + 1; omega)
    · have := Nat.mul_le_mul_right S (show a.2 + 1 ≤ c.2 from q2)
      rw [Nat.add_mul, Nat.one_mul] at this
      rcases hl with r | ⟨r1, r2⟩
      · exact .inl (by have r' : (its.getD i (0, 0)).1 < a.1 + 1 := r; show (its.getD i (0, 0)).1 < c.1 + 1; omega)
      · exact .inr ⟨by have r' : (its.getD i (0, 0)).1 = a.1 + 1 := r1; show (its.getD i (0, 0)).1 = c.1 + 1; omega, by have r' : (its.getD i (0, 0)).2 < a.2 * S + S := r2; show (its.getD i (0, 0)).2 < c.2 * S + 0; omega⟩⟩

end Go.Proofs.Ytlmbgaoeplffkaa
