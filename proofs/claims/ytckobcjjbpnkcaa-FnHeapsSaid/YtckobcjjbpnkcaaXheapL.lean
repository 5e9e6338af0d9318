/- Heaps add up in any order, and what falls over the border is lost. -/
import Derived.Test.YtckobcjjbpnkcaaXsettleS
import Derived.Test.YtckobcjjbpnkcaaXaddHeaps
import Derived.Test.YtckobcjjbpnkcaaFB
namespace Go.Proofs.Ytckobcjjbpnkcaa
open Go Go.RowKit
set_option linter.unusedVariables false
set_option linter.unusedSimpArgs false
set_option maxRecDepth 100000
set_option maxHeartbeats 8000000


theorem sg_posH {f : Nat → Int} : ∀ {n}, (∀ i, i < n → 0 ≤ f i) → (0 < sg f n ↔ ∃ i, i < n ∧ 0 < f i)
  | 0, _ => by
    constructor
    · intro h; exact absurd h (by simp [sg])
    · rintro ⟨i, h, _⟩; omega
  | n + 1, h => by
    have ih := sg_posH (f := f) (n := n) fun i hi => h i (by omega)
    have h0 := sg_nn (f := f) (n := n) fun i hi => h i (by omega)
    have h1 := h n (by omega)
    rw [sg]
    constructor
    · intro hp
      by_cases e : 0 < f n
      · exact ⟨n, by omega, e⟩
      · obtain ⟨i, a, c⟩ := ih.1 (by omega)
        exact ⟨i, by omega, c⟩
    · rintro ⟨i, a, c⟩
      by_cases e : i = n
      · subst e; omega
      · have := ih.2 ⟨i, by omega, c⟩; omega
theorem sN_sub {u v w : Nat → Int} {n : Nat} (h : ∀ c, c < n → w c = u c - v c) : ∀ (l : List Int), (∀ y ∈ l, 0 ≤ y ∧ y < (n : Int)) → sN w l = sN u l - sN v l
  | [], _ => by simp [sN]
  | y :: l, hl => by
    have := sN_sub h l fun z hz => hl z (List.mem_cons_of_mem _ hz)
    have h1 := hl y List.mem_cons_self
    have := h y.toNat (by omega)
    rw [sN, sN, sN]; omega
theorem sN_add {u v w : Nat → Int} {n : Nat} (h : ∀ c, c < n → w c = u c + v c) : ∀ (l : List Int), (∀ y ∈ l, 0 ≤ y ∧ y < (n : Int)) → sN w l = sN u l + sN v l
  | [], _ => by simp [sN]
  | y :: l, hl => by
    have := sN_add h l fun z hz => hl z (List.mem_cons_of_mem _ hz)
    have h1 := hl y List.mem_cons_self
    have := h y.toNat (by omega)
    rw [sN, sN, sN]; omega
/-- What is left is never less than nothing. -/
theorem HpOk.pos {R C : Nat} {x0 zs : List Int} {u : Nat → Int} (h : HpOk R C x0 zs u) (h3 : ∀ c, c < R * C → zs.getD c 0 ≤ 3) (hx : ∀ c, 0 ≤ x0.getD c 0) : ∀ c, c < R * C → 0 ≤ zs.getD c 0 := by
  intro c hc
  apply Classical.byContradiction; intro hneg
  have e := h.eq c hc
  have hx0 := hx c
  have hs := sN_nn h.nn (nbs R C (c : Int))
  have hu : 0 < u c := by omega
  have hst : Stab R C x0 (upN u c (-1)) := by
    refine ⟨fun d => ?_, fun d hd => ?_⟩
    · have := h.nn d; unfold upN; split
      · rename_i g; subst g; omega
      · exact this
    · rw [sN_upd _ (fun y hy => (nbs_nat_in y hy).1)]
      have e2 := h.eq d hd
      have e3 := h3 d hd
      unfold upN; split
      · rename_i g; subst g
        rw [nb_self hd]; omega
      · omega
  have := h.leg _ hst c hc
  unfold upN at this
  rw [if_pos rfl] at this
  omega
theorem fin_of {R C : Nat} {x0 : List Int} (hl : x0.length = R * C) (hb : R ≤ 24 ∧ C ≤ 24) (hx : ∀ c, 0 ≤ x0.getD c 0 ∧ x0.getD c 0 ≤ 18) : Fin R C x0 (settled R C x0) := by
  obtain ⟨p, hp⟩ := fin_ex hb hx _ x0 (fun _ => 0) (HpOk.start hl) (Nat.le_refl _)
  rw [settled_eq hp]; exact hp
theorem settled_three {R C : Nat} {x0 : List Int} (hl : x0.length = R * C) (hb : R ≤ 24 ∧ C ≤ 24) (hx : ∀ c, 0 ≤ x0.getD c 0 ∧ x0.getD c 0 ≤ 18) : ∀ c, 0 ≤ (settled R C x0).1.getD c 0 ∧ (settled R C x0).1.getD c 0 ≤ 3 := fun c => by
  obtain ⟨u, h1, h2, _⟩ := fin_of hl hb hx
  by_cases hc : c < R * C
  · exact ⟨h1.pos h2 (fun c => (hx c).1) c hc, h2 c hc⟩
  · rw [List.getD_eq_getElem?_getD, List.getElem?_eq_none (by rw [h1.len]; omega)]; exact ⟨Int.le_refl 0, by decide⟩
/-- A heap that is settled stays. -/
theorem settled_again {R C : Nat} {x0 : List Int} (hl : x0.length = R * C) (hx : ∀ c, x0.getD c 0 ≤ 3) : settled R C x0 = (x0, 0) :=
  settled_eq ⟨fun _ => 0, HpOk.start hl, fun c _ => hx c, by rw [sg_zero]⟩
abbrev addH (R C : Nat) (a b : List Int) : List Int := mk R C (addG a b C)
theorem addH_comm {R C : Nat} {a b : List Int} : addH R C a b = addH R C b a := mk_ext fun i k _ _ => Int.add_comm _ _
theorem abel {R C : Nat} {a b : List Int} (ha : a.length = R * C) (hb : b.length = R * C) (hR : R ≤ 24 ∧ C ≤ 24) (ha9 : ∀ c, 0 ≤ a.getD c 0 ∧ a.getD c 0 ≤ 9) (hb9 : ∀ c, 0 ≤ b.getD c 0 ∧ b.getD c 0 ≤ 9) :
    (settled R C (addH R C (settled R C a).1 (settled R C b).1)).1 = (settled R C (addH R C a b)).1 := by
  have wa : ∀ c, 0 ≤ a.getD c 0 ∧ a.getD c 0 ≤ 18 := fun c => by have := ha9 c; omega
  have wb : ∀ c, 0 ≤ b.getD c 0 ∧ b.getD c 0 ≤ 18 := fun c => by have := hb9 c; omega
  have sa := settled_three ha hR wa
  have sb := settled_three hb hR wb
  have fa := fin_of ha hR wa
  have fb := fin_of hb hR wb
  generalize (settled R C a) = x at *
  generalize (settled R C b) = y at *
  obtain ⟨u, u1, u2, _⟩ := fa
  obtain ⟨v, v1, v2, _⟩ := fb
  have wxy := addG_in (R := R) (C := C) (xs := x.1) (ys := y.1) (fun c => by have := sa c; omega) (fun c => by have := sb c; omega)
  have fz := fin_of (x0 := addH R C x.1 y.1) (by simp) hR wxy
  generalize settled R C (addH R C x.1 y.1) = z at *
  obtain ⟨w, w1, w2, _⟩ := fz
  have key : Fin R C (addH R C a b) (z.1, sg (fun c => u c + v c + w c) (R * C)) := by
    refine ⟨fun c => u c + v c + w c, ⟨w1.len, fun c hc => ?_, fun c => ?_, fun V hV c hc => ?_⟩, w2, rfl⟩
    · have e1 := u1.eq c hc
      have e2 := v1.eq c hc
      have e3 := w1.eq c hc
      show z.1.getD c 0 = (addH R C a b).getD c 0 - 4 * (u c + v c + w c) + sN (fun c => u c + v c + w c) (nbs R C (c : Int))
      rw [addG_at hc] at e3 ⊢
      have s1 : sN (fun c => u c + v c) (nbs R C (c : Int)) = sN u (nbs R C (c : Int)) + sN v (nbs R C (c : Int)) := sN_add (n := R * C) (fun _ _ => rfl) _ nbs_nat_in
      have s2 : sN (fun c => u c + v c + w c) (nbs R C (c : Int)) = sN (fun c => u c + v c) (nbs R C (c : Int)) + sN w (nbs R C (c : Int)) := sN_add (n := R * C) (fun _ _ => rfl) _ nbs_nat_in
      omega
    · have := u1.nn c; have := v1.nn c; have := w1.nn c; omega
    · have q1 : ∀ c, c < R * C → u c ≤ V c := u1.leg V ⟨hV.1, fun c hc => by
        have := hV.2 c hc; rw [addG_at hc] at this; have := (hb9 c).1; omega⟩
      have q2 : ∀ c, c < R * C → v c ≤ V c - u c := fun c hc => by
        have := v1.leg (fun c => if c < R * C then V c - u c else 0) ⟨fun c => by
          show 0 ≤ if c < R * C then V c - u c else 0
          split
          · rename_i g; have := q1 c g; omega
          · exact Int.le_refl 0, fun d hd => by
          show b.getD d 0 - 4 * (if d < R * C then V d - u d else 0) + _ ≤ 3
          have h1 := hV.2 d hd
          rw [addG_at hd] at h1
          have h2 := u1.eq d hd
          have h3 : sN (fun c => if c < R * C then V c - u c else 0) (nbs R C (d : Int)) = sN V (nbs R C (d : Int)) - sN u (nbs R C (d : Int)) := sN_sub (n := R * C) (fun c hc => by simp only [hc, if_true]) _ nbs_nat_in
          have h4 := (sa d).1
          rw [if_pos hd, h3]; omega⟩ c hc
        simp only [hc, if_true] at this
        exact this
      have q3 := w1.leg (fun c => if c < R * C then V c - u c - v c else 0) ⟨fun c => by
        show 0 ≤ if c < R * C then V c - u c - v c else 0
        split
        · rename_i g; have := q2 c g; omega
        · exact Int.le_refl 0, fun d hd => by
        show (addH R C x.1 y.1).getD d 0 - 4 * (if d < R * C then V d - u d - v d else 0) + _ ≤ 3
        have h1 := hV.2 d hd
        rw [addG_at hd] at h1 ⊢
        have h2 := u1.eq d hd
        have h5 := v1.eq d hd
        have h3 : sN (fun c => V c - u c) (nbs R C (d : Int)) = sN V (nbs R C (d : Int)) - sN u (nbs R C (d : Int)) := sN_sub (n := R * C) (fun c hc => rfl) _ nbs_nat_in
        have h4 : sN (fun c => if c < R * C then V c - u c - v c else 0) (nbs R C (d : Int)) = sN (fun c => V c - u c) (nbs R C (d : Int)) - sN v (nbs R C (d : Int)) := sN_sub (n := R * C) (fun c hc => by simp only [hc, if_true]) _ nbs_nat_in
        rw [if_pos hd, h4, h3]; omega⟩ c hc
      simp only [hc, if_true] at q3
      show u c + v c + w c ≤ V c
      omega
  rw [settled_eq key]
/-- What falls over the border is lost. -/
theorem sN_sum {u : Nat → Int} {n : Nat} : ∀ (l : List Int), (∀ y ∈ l, 0 ≤ y ∧ y < (n : Int)) → sN u l = sg (fun y => u y * (l.count (y : Int) : Nat)) n
  | [], _ => by rw [sN, sg_congr (g := fun _ => 0) fun i _ => by simp]; exact sg_zero.symm
  | a :: l, hl => by
    have ih := sN_sum (u := u) (n := n) l fun z hz => hl z (List.mem_cons_of_mem _ hz)
    have h1 := hl a List.mem_cons_self
    have e : sg (fun y => u y * ((a :: l).count (y : Int) : Nat)) n = sg (fun y => u y * (l.count (y : Int) : Nat)) n + sg (fun y => if y = a.toNat then u y else 0) n := by
      rw [← sg_add]
      refine sg_congr fun i hi => ?_
      rw [List.count_cons]
      by_cases g : i = a.toNat
      · have : a = (i : Int) := by omega
        rw [if_pos g, if_pos (by simp [this])]; push_cast; rw [Int.mul_add]; omega
      · rw [if_neg g, if_neg (by simp; omega)]; simp
    rw [sN, ih, e, sg_one, if_pos (by omega)]; omega
theorem count_sum {n : Nat} : ∀ (l : List Int), (∀ y ∈ l, 0 ≤ y ∧ y < (n : Int)) → sg (fun y => ((l.count (y : Int) : Nat) : Int)) n = l.length := fun l hl => by
  have h := sN_sum (u := fun _ => 1) l hl
  have e : ∀ l : List Int, sN (fun _ => 1) l = l.length := fun l => by
    induction l with
    | nil => rfl
    | cons a l ih => rw [sN, ih, List.length_cons]; push_cast; omega
  rw [e] at h
  rw [h]; exact sg_congr fun i _ => by omega
theorem sg_mulc {f : Nat → Int} {a : Int} : ∀ {n}, sg (fun i => a * f i) n = a * sg f n
  | 0 => by simp [sg]
  | n + 1 => by rw [sg, sg, sg_mulc, Int.mul_add]
theorem sg_fall {R C : Nat} {u : Nat → Int} (hu : ∀ c, 0 ≤ u c) : sg (fun c => sN u (nbs R C (c : Int))) (R * C) ≤ 4 * sg u (R * C) := by
  have e1 : sg (fun c => sN u (nbs R C (c : Int))) (R * C) = sg (fun c => sg (fun y => u y * ((nbs R C (c : Int)).count (y : Int) : Nat)) (R * C)) (R * C) := sg_congr fun c _ => sN_sum _ nbs_nat_in
  rw [e1, sg_swap, ← sg_mulc]
  refine sg_le fun y hy => ?_
  have e2 : sg (fun c => u y * ((nbs R C (c : Int)).count (y : Int) : Nat)) (R * C) = sg (fun c => u y * ((nbs R C (y : Int)).count (c : Int) : Nat)) (R * C) := sg_congr fun c hc => by rw [nb_sym hc hy]
  rw [e2, sg_mulc, count_sum _ nbs_nat_in, Int.mul_comm]
  have hl : (nbs R C (y : Int)).length ≤ 4 := nbl_len 4
  exact Int.mul_le_mul_of_nonneg_right (by omega) (hu y)
theorem settled_sum {R C : Nat} {x0 : List Int} (hl : x0.length = R * C) (hb : R ≤ 24 ∧ C ≤ 24) (hx : ∀ c, 0 ≤ x0.getD c 0 ∧ x0.getD c 0 ≤ 18) :
    (0 ≤ (settled R C x0).2 ∧ sg (fun i => (settled R C x0).1.getD i 0) (R * C) ≤ sg (fun i => x0.getD i 0) (R * C)) ∧ ((settled R C x0).2 = 0 → sg (fun i => (settled R C x0).1.getD i 0) (R * C) = sg (fun i => x0.getD i 0) (R * C)) := by
  have f := fin_of hl hb hx
  generalize settled R C x0 = p at *
  obtain ⟨u, u1, u2, u3⟩ := f
  have h0 : 0 ≤ sg u (R * C) := sg_nn fun i _ => u1.nn i
  refine ⟨⟨by rw [u3]; exact h0, ?_⟩, fun h => ?_⟩
  · have hf := sg_fall (R := R) (C := C) u1.nn
    have e : sg (fun i => p.1.getD i 0 + 4 * u i) (R * C) = sg (fun i => x0.getD i 0 + sN u (nbs R C (i : Int))) (R * C) := sg_congr fun i hi => by have := u1.eq i hi; omega
    rw [sg_add, sg_add, sg_mulc] at e
    omega
  · rw [u3] at h
    have hz : ∀ c, c < R * C → u c = 0 := fun c hc => by
      have h2 : 0 ≤ sg (fun i => u i) (R * C) := h0
      apply Classical.byContradiction; intro g
      have := (sg_posH (n := R * C) fun i _ => u1.nn i).2 ⟨c, hc, by have := u1.nn c; omega⟩
      omega
    refine sg_congr fun i hi => ?_
    have e := u1.eq i hi
    have h3 : sN u (nbs R C (i : Int)) = 0 := by
      have a := sN_mono (u := u) (v := fun _ => 0) (n := R * C) (fun c hc => Int.le_of_eq (hz c hc)) (nbs R C (i : Int)) nbs_nat_in
      have b : ∀ l, sN (fun _ => 0) l = 0 := fun l => by induction l with | nil => rfl | cons y l ih => rw [sN, ih]; rfl
      have c := sN_nn u1.nn (nbs R C (i : Int))
      rw [b] at a; omega
    rw [e, h3, hz i hi]; omega

end Go.Proofs.Ytckobcjjbpnkcaa
