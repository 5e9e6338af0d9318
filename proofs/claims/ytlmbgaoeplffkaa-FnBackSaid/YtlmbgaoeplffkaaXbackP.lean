/- Rings that lead to a ring, in order, as plain lists. -/
import Derived.Test.YtlmbgaoeplffkaaXnums
import Derived.Test.YtlmbgaoeplffkaaXrun
import Derived.Test.YtlmbgaoeplffkaaFB
namespace Go.Proofs.Ytlmbgaoeplffkaa
open Go Go.RowKit
set_option linter.unusedVariables false
set_option linter.unusedSimpArgs false
set_option maxRecDepth 100000
set_option maxHeartbeats 8000000


/-- All lists of 'n' digits, in the order of their numbers. -/
def allD (S : Nat) : Nat → List (List Int)
  | 0 => [[]]
  | n + 1 => (List.range S).flatMap fun (d : Nat) => (allD S n).map fun l => ((d : Nat) : Int) :: l
theorem allD_mem {S : Nat} : ∀ {n : Nat} {l : List Int}, l ∈ allD S n ↔ DG S l ∧ l.length = n
  | 0, l => by
    rw [allD, List.mem_singleton]
    constructor
    · rintro rfl; exact ⟨fun x hx => (by cases hx), rfl⟩
    · rintro ⟨_, h⟩; exact List.eq_nil_of_length_eq_zero h
  | n + 1, l => by
    rw [allD, List.mem_flatMap]
    constructor
    · rintro ⟨d, hd, h⟩
      obtain ⟨l', h1, rfl⟩ := List.mem_map.1 h
      obtain ⟨h2, h3⟩ := allD_mem.1 h1
      have hd := List.mem_range.1 hd
      refine ⟨fun x hx => ?_, by simp [h3]⟩
      rcases List.mem_cons.1 hx with rfl | hx
      · omega
      · exact h2 x hx
    · rintro ⟨h1, h2⟩
      cases l with
      | nil => simp at h2
      | cons x l =>
        have hx := h1 x List.mem_cons_self
        refine ⟨x.toNat, List.mem_range.2 (by omega), List.mem_map.2 ⟨l, allD_mem.2 ⟨fun y hy => h1 y (List.mem_cons_of_mem _ hy), by simpa using h2⟩, ?_⟩⟩
        rw [Int.toNat_of_nonneg hx.1]
theorem nm_cons {S : Nat} {x : Int} {l : List Int} : nm S (x :: l) = x.toNat * S ^ l.length + nm S l := by
  rw [nm, List.length_cons, nmN_cons]
theorem nm_app {S : Nat} {q : List Int} : ∀ p : List Int, nm S (p ++ q) = nm S p * S ^ q.length + nm S q
  | [] => by simp [nm, nmN]
  | x :: p => by
    rw [List.cons_append, nm_cons, nm_app p, nm_cons, List.length_append, Nat.pow_add, Nat.add_mul, Nat.mul_assoc, Nat.add_assoc]
theorem nm_full {S : Nat} {l : List Int} (hS : 0 < S) (h : DG S l) : nm S l < S ^ l.length := nm_lt hS h _ (Nat.le_refl _)
abbrev OrdL (S : Nat) (ls : List (List Int)) : Prop := ls.Pairwise fun a b => nm S a < nm S b
theorem allD_ord {S : Nat} (hS : 0 < S) : ∀ n, OrdL S (allD S n)
  | 0 => by simp [allD, OrdL]
  | n + 1 => by
    rw [OrdL, allD, List.pairwise_flatMap]
    refine ⟨fun d hd => ?_, ?_⟩
    · rw [List.pairwise_map]
      refine (allD_ord hS n).imp_of_mem fun ha hb h => ?_
      rw [nm_cons, nm_cons, (allD_mem.1 ha).2, (allD_mem.1 hb).2]; omega
    · refine List.pairwise_lt_range.imp fun {d d'} hlt => ?_
      intro x hx y hy
      obtain ⟨x, hxm, rfl⟩ := List.mem_map.1 hx
      obtain ⟨y, hym, rfl⟩ := List.mem_map.1 hy
      obtain ⟨h1, h2⟩ := allD_mem.1 hxm
      obtain ⟨h3, h4⟩ := allD_mem.1 hym
      have h5 := nm_full hS h1
      rw [h2] at h5
      have h6 : (d + 1) * S ^ n ≤ d' * S ^ n := Nat.mul_le_mul_right _ hlt
      rw [Nat.add_mul] at h6
      rw [nm_cons, nm_cons, h2, h4, Int.toNat_natCast, Int.toNat_natCast]; omega
theorem ord_eq {S : Nat} : ∀ {xs ys : List (List Int)}, OrdL S xs → OrdL S ys → (∀ a, a ∈ xs ↔ a ∈ ys) → xs = ys
  | [], [], _, _, _ => rfl
  | [], y :: ys, _, _, h => by have := (h y).2 List.mem_cons_self; cases this
  | x :: xs, [], _, _, h => by have := (h x).1 List.mem_cons_self; cases this
  | x :: xs, y :: ys, h1, h2, h => by
    obtain ⟨a1, a2⟩ := List.pairwise_cons.1 h1
    obtain ⟨b1, b2⟩ := List.pairwise_cons.1 h2
    have e : x = y := by
      rcases List.mem_cons.1 ((h x).1 List.mem_cons_self) with g | g
      · exact g
      · rcases List.mem_cons.1 ((h y).2 List.mem_cons_self) with k | k
        · exact k.symm
        · have := b1 x g; have := a1 y k; omega
    subst e
    congr 1
    refine ord_eq a2 b2 fun a => ⟨fun ha => ?_, fun ha => ?_⟩
    · rcases List.mem_cons.1 ((h a).1 (List.mem_cons_of_mem _ ha)) with g | g
      · subst g; have := a1 a ha; omega
      · exact g
    · rcases List.mem_cons.1 ((h a).2 (List.mem_cons_of_mem _ ha)) with g | g
      · subst g; have := b1 a ha; omega
      · exact g
/-- From an end along digits with these labels. -/
def rnw (S E : Nat) (xs : List Int) : Nat → List Int → List Int → Option Nat
  | u, [], [] => some u
  | u, l :: ls, d :: ds => if xs.getD (u * S + d.toNat) 0 = l then rnw S E xs ((u * S + d.toNat) % E) ls ds else none
  | _, _, _ => none
/-- What the neighbourhoods of a row tell. -/
def wl (S w : Nat) (xs z : List Int) : List Int := (List.range (z.length + 1 - w)).map fun i => xs.getD (nm S ((z.drop i).take w)) 0
@[simp] theorem wl_len {S w : Nat} {xs z : List Int} : (wl S w xs z).length = z.length + 1 - w := by simp [wl]
theorem wl_get {S w i : Nat} {xs z : List Int} (h : i < z.length + 1 - w) : (wl S w xs z).getD i 0 = xs.getD (nm S ((z.drop i).take w)) 0 := getD_map_range h
theorem wl_cons {S w : Nat} {xs p ds : List Int} {d : Int} (hp : p.length = w - 1) (hw : 1 ≤ w) : wl S w xs (p ++ d :: ds) = xs.getD (nm S (p ++ [d])) 0 :: wl S w xs ((p ++ [d]).drop 1 ++ ds) := by
  have e : p ++ d :: ds = (p ++ [d]) ++ ds := by simp
  have hl : (p ++ [d]).length = w := by simp; omega
  refine ext_getD 0 (by simp; omega) fun i hi => ?_
  have hi' : i < ds.length + 1 := by simp at hi; omega
  rw [wl_get (by simp; omega)]
  cases i with
  | zero =>
    rw [List.drop_zero, e, List.take_append_of_le_length (by omega), List.take_of_length_le (by omega)]; rfl
  | succ i =>
    rw [List.getD_cons_succ, wl_get (by simp; omega), e, Nat.add_comm i 1, ← List.drop_drop, List.drop_append_of_le_length (by omega)]
theorem rnw_iff {S E w c : Nat} {xs : List Int} (hS : 0 < S) (hE : E = S ^ (w - 1)) (hw : 1 ≤ w) : ∀ (ds ls p : List Int), DG S p → DG S ds → p.length = w - 1 → (rnw S E xs (nm S p) ls ds = some c ↔ ls = wl S w xs (p ++ ds) ∧ nm S ((p ++ ds).drop ds.length) = c)
  | [], ls, p, _, _, hp => by
    have e : wl S w xs (p ++ []) = [] := List.eq_nil_of_length_eq_zero (by simp; omega)
    rw [e, List.append_nil, List.length_nil, List.drop_zero]
    cases ls with
    | nil => simp [rnw]
    | cons l ls => simp [rnw]
  | d :: ds, ls, p, h1, h2, hp => by
    have hd := h2 d List.mem_cons_self
    have hds : DG S ds := fun x hx => h2 x (List.mem_cons_of_mem _ hx)
    have hpd : DG S (p ++ [d]) := h1.app fun x hx => by obtain rfl := List.mem_singleton.1 hx; exact hd
    have hl : (p ++ [d]).length = w := by simp; omega
    have e1 : nm S p * S + d.toNat = nm S (p ++ [d]) := nm_snoc.symm
    have e2 : nm S (p ++ [d]) % E = nm S ((p ++ [d]).drop 1) := by rw [hE]; exact nm_mod hS hpd hl hw
    have e3 : (p ++ d :: ds).drop (d :: ds).length = ((p ++ [d]).drop 1 ++ ds).drop ds.length := by
      have e : p ++ d :: ds = (p ++ [d]) ++ ds := by simp
      rw [e, List.length_cons, Nat.add_comm ds.length 1, ← List.drop_drop, List.drop_append_of_le_length (by omega)]
    rw [wl_cons hp hw, e3]
    cases ls with
    | nil => simp [rnw]
    | cons l ls =>
      have ih := rnw_iff (c := c) (xs := xs) hS hE hw ds ls ((p ++ [d]).drop 1) (hpd.drop 1) hds (by simp; omega)
      rw [rnw, e1]
      by_cases h : xs.getD (nm S (p ++ [d])) 0 = l
      · rw [if_pos h, e2, ih, h]
        simp
      · rw [if_neg h]
        constructor
        · intro g; cases g
        · rintro ⟨g, _⟩
          exact absurd (List.cons.inj g).1.symm h
theorem hood_cong {S : Int} {ys : List Int} {a b : Int} (h : a % ys.length = b % ys.length) : ∀ m, hoodN S ys a m = hoodN S ys b m
  | 0 => rfl
  | m + 1 => by
    have e : (a + m) % (ys.length : Int) = (b + m) % (ys.length : Int) := by rw [Int.add_emod, h, ← Int.add_emod]
    rw [hoodN, hoodN, hood_cong h m, e]
theorem hood_nm {S i w : Nat} {y c : List Int} (hr : RG S y) (hc : ∀ k, k < w → c.getD k 0 = y.getD (((i : Int) + k) % y.length).toNat 0) : ∀ m, m ≤ w → ((nmN S c m : Nat) : Int) = hoodN S y i m
  | 0, _ => rfl
  | m + 1, h => by
    have hcl := hr.cell ((i : Int) + m)
    rw [nmN, hoodN, ← hood_nm hr hc m (by omega), hc m (by omega)]
    push_cast
    rw [Int.toNat_of_nonneg hcl.1]
/-- A ring, gone around a little more, tells its next one. -/
theorem wl_ring {S w : Nat} {re : Int} {xs y : List Int} (hv : VR S re xs) (hr : RG S y) (hw : 2 * re + 1 = w) (hwn : w ≤ y.length) : wl S w xs (y ++ y.take (w - 1)) = labI re (stepR S re xs y) := by
  have hre := hv.2.1
  have hp : (0 : Int) < y.length := by omega
  refine ext_getD 0 (by simp; omega) fun i hi => ?_
  have hi' : i < y.length := by simp at hi; omega
  have g1 := Int.emod_nonneg ((i : Int) + re) (show (y.length : Int) ≠ 0 by omega)
  have g2 := Int.emod_lt_of_pos ((i : Int) + re) hp
  have hcl : (((y ++ y.take (w - 1)).drop i).take w).length = w := by simp; omega
  have hc : ∀ k, k < w → (((y ++ y.take (w - 1)).drop i).take w).getD k 0 = y.getD (((i : Int) + k) % y.length).toNat 0 := fun k hk => by
    rw [getD_take hk, List.getD_eq_getElem?_getD, List.getElem?_drop]
    by_cases h : i + k < y.length
    · rw [List.getElem?_append_left h, ← List.getD_eq_getElem?_getD, Int.emod_eq_of_lt (by omega) (by omega)]
      congr 1
    · have e : ((i : Int) + k) % (y.length : Int) = (i : Int) + k - y.length := by
        rw [show (i : Int) + k = ((i : Int) + k - y.length) + y.length by omega]
        first | rw [Int.add_emod_right] | rw [Int.add_emod_self]
        rw [Int.emod_eq_of_lt (by omega) (by omega)]; omega
      rw [List.getElem?_append_right (by omega), List.getElem?_take, if_pos (by omega), ← List.getD_eq_getElem?_getD, e]
      congr 1
      omega
  have h3 := hood_nm (w := w) hr hc w (Nat.le_refl w)
  rw [wl_get (by simp; omega), labI_get (by simpa using hi'), stepR_len, stepR_get (by omega), told, Int.toNat_of_nonneg g1, show (2 * re + 1).toNat = w by omega]
  have h2 : (((i : Int) + re) % (y.length : Int) - re) % (y.length : Int) = (i : Int) % (y.length : Int) := by
    rw [Int.sub_emod, Int.emod_emod, ← Int.sub_emod]
    congr 1
    omega
  rw [hood_cong h2 w, ← h3, nm, hcl]
  rfl
theorem labI_inj {re : Int} {l l' : List Int} (h0 : 0 ≤ re) (hre : re ≤ l.length) (h1 : 1 ≤ l.length) (hl : l.length = l'.length) (h : labI re l = labI re l') : l = l' := by
  obtain ⟨k, rfl⟩ : ∃ k : Nat, re = k := ⟨re.toNat, by omega⟩
  rw [labI_eq (by omega) h1, labI_eq (by omega) (by omega)] at h
  obtain ⟨a, c⟩ := List.append_inj h (by simp; omega)
  rw [← List.take_append_drop k l, a, c, List.take_append_drop]
/-- The rings that lead to one, as the program finds them. -/
def backL (S E w : Nat) (xs lab : List Int) (n : Nat) : List (List Int) :=
  (List.range E).flatMap fun a => ((allD S n).filter fun ds => decide (rnw S E xs a lab ds = some a)).map fun ds => (dg S a (w - 1) ++ ds).take n
/-- The rings that lead to one. -/
def fwdL (st re : Int) (xs to : List Int) : List (List Int) := (allD st.toNat to.length).filter fun y => decide (stepR st re xs y = to)
theorem fwdL_ord {st re : Int} {xs to : List Int} (hS : 0 < st.toNat) : OrdL st.toNat (fwdL st re xs to) := (allD_ord hS _).filter _
theorem backL_ord {S E w n : Nat} {xs lab : List Int} (hS : 2 ≤ S) (hE : E = S ^ (w - 1)) (hw : 1 ≤ w) (hwn : w ≤ n) : OrdL S (backL S E w xs lab n) := by
  have hK : 0 < S ^ (w - 1) := Nat.pow_pos (by omega)
  rw [OrdL, backL, List.pairwise_flatMap]
  refine ⟨fun a ha => ?_, ?_⟩
  · have ha' : a < S ^ (w - 1) := by rw [← hE]; exact List.mem_range.1 ha
    have hdd : DG S (dg S a (w - 1)) := dg_mem (by omega)
    have key : ∀ ds, ds ∈ (allD S n).filter (fun ds => decide (rnw S E xs a lab ds = some a)) → a * S ^ n + nm S ds = nm S ((dg S a (w - 1) ++ ds).take n) * S ^ (w - 1) + a := fun ds hds => by
      obtain ⟨h1, h2⟩ := List.mem_filter.1 hds
      obtain ⟨h3, h4⟩ := allD_mem.1 h1
      have h5 := of_decide_eq_true h2
      have h6 := rnw_iff (c := a) (xs := xs) (by omega) hE hw ds lab (dg S a (w - 1)) hdd h3 (by simp)
      rw [nm_dg (by omega) ha'] at h6
      have h7 := (h6.1 h5).2
      rw [h4] at h7
      have h8 := nm_app (S := S) (q := (dg S a (w - 1) ++ ds).drop n) ((dg S a (w - 1) ++ ds).take n)
      rw [List.take_append_drop, h7, nm_app, nm_dg (by omega) ha', h4] at h8
      have h9 : ((dg S a (w - 1) ++ ds).drop n).length = w - 1 := by simp; omega
      rw [h9] at h8
      exact h8
    rw [List.pairwise_map]
    refine ((allD_ord (by omega) n).filter _).imp_of_mem fun {ds ds'} h1 h2 h => ?_
    have k1 := key ds h1
    have k2 := key ds' h2
    exact Nat.lt_of_mul_lt_mul_right (a := S ^ (w - 1)) (by omega)
  · refine List.pairwise_lt_range.imp_of_mem fun {a a'} ha ha' hlt => ?_
    have ha := List.mem_range.1 ha
    have ha' := List.mem_range.1 ha'
    rw [hE] at ha ha'
    intro x hx y hy
    obtain ⟨ds, hxm, rfl⟩ := List.mem_map.1 hx
    obtain ⟨ds', hym, rfl⟩ := List.mem_map.1 hy
    obtain ⟨h1, h2⟩ := allD_mem.1 (List.mem_filter.1 hxm).1
    obtain ⟨h3, h4⟩ := allD_mem.1 (List.mem_filter.1 hym).1
    have e : ∀ (a : Nat) (ds : List Int), ds.length = n → (dg S a (w - 1) ++ ds).take n = dg S a (w - 1) ++ ds.take (n - (w - 1)) := fun a ds h => by
      rw [List.take_append, dg_len, List.take_of_length_le (by simp; omega)]
    rw [e a ds h2, e a' ds' h4, nm_app, nm_app, nm_dg (by omega) ha, nm_dg (by omega) ha']
    have l1 : (ds.take (n - (w - 1))).length = n - (w - 1) := by simp; omega
    have l2 : (ds'.take (n - (w - 1))).length = n - (w - 1) := by simp; omega
    have h5 := nm_full (by omega) (h1.take (n - (w - 1)))
    rw [l1] at h5
    rw [l1, l2]
    have h6 : (a + 1) * S ^ (n - (w - 1)) ≤ a' * S ^ (n - (w - 1)) := Nat.mul_le_mul_right _ hlt
    rw [Nat.add_mul] at h6
    omega
theorem backL_mem {S E w : Nat} {re : Int} {xs to y : List Int} (hv : VR S re xs) (hto : RG S to) (hE : E = S ^ (w - 1)) (hw : 2 * re + 1 = w) (hwn : w ≤ to.length) : y ∈ backL S E w xs (labI re to) to.length ↔ y ∈ fwdL S re xs to := by
  have hre := hv.2.1
  have hS : 2 ≤ S := by have := hv.1.1; omega
  have hl := hto.1
  have rg : ∀ y : List Int, DG S y → y.length = to.length → RG S y := fun y h1 h2 => ⟨by omega, h1⟩
  rw [fwdL, List.mem_filter, Int.toNat_natCast, allD_mem, decide_eq_true_eq, backL, List.mem_flatMap]
  constructor
  · rintro ⟨a, ha, h⟩
    obtain ⟨ds, hm, rfl⟩ := List.mem_map.1 h
    obtain ⟨h1, h2⟩ := List.mem_filter.1 hm
    obtain ⟨h3, h4⟩ := allD_mem.1 h1
    have ha' : a < S ^ (w - 1) := by rw [← hE]; exact List.mem_range.1 ha
    have hdd : DG S (dg S a (w - 1)) := dg_mem (by omega)
    have h6 := rnw_iff (c := a) (xs := xs) (by omega) hE (by omega) ds (labI re to) (dg S a (w - 1)) hdd h3 (by simp)
    rw [nm_dg (by omega) ha'] at h6
    obtain ⟨h7, h8⟩ := h6.1 (of_decide_eq_true h2)
    generalize hz : dg S a (w - 1) ++ ds = z at *
    have hzd : DG S z := by rw [← hz]; exact hdd.app h3
    have hzl : z.length = to.length + (w - 1) := by rw [← hz]; simp; omega
    have hyl : (z.take to.length).length = to.length := by simp; omega
    have hdl : (z.drop to.length).length = w - 1 := by simp; omega
    rw [h4] at h8
    have e1 : z.drop to.length = dg S a (w - 1) := by
      have := dg_nm (by omega) (hzd.drop to.length)
      rw [h8, hdl] at this; exact this.symm
    have e2 : (z.take to.length).take (w - 1) = dg S a (w - 1) := by
      rw [List.take_take, Nat.min_eq_left (by omega), ← hz, List.take_append_of_le_length (by simp), List.take_of_length_le (by simp)]
    have e3 : z = z.take to.length ++ (z.take to.length).take (w - 1) := by rw [e2, ← e1, List.take_append_drop]
    have hyd := hzd.take to.length
    refine ⟨⟨hyd, hyl⟩, ?_⟩
    have hwr := wl_ring hv (rg _ hyd hyl) hw (by omega)
    rw [← e3, ← h7] at hwr
    exact (labI_inj hre.1 (by omega) (by omega) (by simp [hyl]) hwr).symm
  · rintro ⟨⟨h1, h2⟩, h3⟩
    have hal : (y.take (w - 1)).length = w - 1 := by simp; omega
    have hlt := nm_full (by omega) (h1.take (w - 1))
    rw [hal] at hlt
    have hdg := dg_nm (by omega) (h1.take (w - 1))
    rw [hal] at hdg
    have hds : DG S (y.drop (w - 1) ++ y.take (w - 1)) := (h1.drop _).app (h1.take _)
    have hdl : (y.drop (w - 1) ++ y.take (w - 1)).length = to.length := by simp; omega
    have e3 : y.take (w - 1) ++ (y.drop (w - 1) ++ y.take (w - 1)) = y ++ y.take (w - 1) := by rw [← List.append_assoc, List.take_append_drop]
    refine ⟨nm S (y.take (w - 1)), List.mem_range.2 (by rw [hE]; exact hlt), List.mem_map.2 ⟨y.drop (w - 1) ++ y.take (w - 1), List.mem_filter.2 ⟨allD_mem.2 ⟨hds, hdl⟩, decide_eq_true ?_⟩, ?_⟩⟩
    · rw [rnw_iff (by omega) hE (by omega) _ _ _ (h1.take _) hds hal, e3, wl_ring hv (rg _ h1 h2) hw (by omega), h3, hdl, ← h2, List.drop_left]
      exact ⟨rfl, rfl⟩
    · rw [hdg, e3, ← h2, List.take_left]
theorem backL_eq {S E w : Nat} {re : Int} {xs to : List Int} (hv : VR S re xs) (hto : RG S to) (hE : E = S ^ (w - 1)) (hw : 2 * re + 1 = w) (hwn : w ≤ to.length) : backL S E w xs (labI re to) to.length = fwdL S re xs to := by
  have hre := hv.2.1
  have hS := hv.1.1
  have h2 := fwdL_ord (st := (S : Int)) (re := re) (xs := xs) (to := to) (by omega)
  rw [Int.toNat_natCast] at h2
  exact ord_eq (backL_ord (by omega) hE (by omega) hwn) h2 fun a => backL_mem hv hto hE hw hwn
theorem sg_slice {S a : Nat} {f : Nat → Int} : ∀ E, a < E → sg (fun i => if i / S = a then f i else 0) (E * S) = sg (fun d => f (a * S + d)) S
  | 0, h => by omega
  | E + 1, h => by
    have split : ∀ d, d ≤ S → sg (fun i => if i / S = a then f i else 0) (E * S + d) = sg (fun i => if i / S = a then f i else 0) (E * S) + if E = a then sg (fun d => f (E * S + d)) d else 0 := fun d => by
      induction d with
      | zero => intro _; simp [sg]
      | succ d ih =>
        intro hd
        rw [← Nat.add_assoc, sg, ih (by omega), am_div (by omega), sg]
        split <;> omega
    have low : E ≤ a → sg (fun i => if i / S = a then f i else 0) (E * S) = 0 := fun hle => by
      refine (sg_congr (g := fun _ => 0) fun i hi => if_neg fun e => ?_).trans sg_zero
      have : i / S < E := Nat.div_lt_of_lt_mul (by rw [Nat.mul_comm]; exact hi)
      omega
    rw [show (E + 1) * S = E * S + S by rw [Nat.add_mul]; omega, split S (Nat.le_refl S)]
    by_cases e : E = a
    · subst e; rw [if_pos rfl, low (Nat.le_refl E), Int.zero_add]
    · rw [if_neg e, Int.add_zero, sg_slice E (by omega)]
theorem sum_range {g : Nat → Nat} : ∀ n, ((((List.range n).map g).sum : Nat) : Int) = sg (fun i => ((g i : Nat) : Int)) n
  | 0 => rfl
  | n + 1 => by rw [List.range_succ, List.map_append, List.sum_append, sg, ← sum_range n]; simp
/-- How many ways there are along labels. -/
theorem pth_cnt {S E c : Nat} {xs : List Int} (hE : 1 ≤ E) : ∀ (l : List Int) (a : Nat), a < E → pth S E xs l.reverse a c = (((allD S l.length).countP fun ds => decide (rnw S E xs a l ds = some c) : Nat) : Int)
  | [], a, _ => by
    by_cases h : a = c <;> simp [pth, allD, rnw, h]
  | x :: l, a, ha => by
    rw [List.reverse_cons, pth_first, List.length_cons, allD, List.countP_flatMap, sum_range]
    have e : ∀ i, (if xs.getD i 0 = x ∧ i / S = a then pth S E xs l.reverse (i % E) c else 0) = if i / S = a then (if xs.getD i 0 = x then pth S E xs l.reverse (i % E) c else 0) else 0 := fun i => by
      by_cases h1 : i / S = a <;> by_cases h2 : xs.getD i 0 = x <;> simp [h1, h2]
    rw [sg_congr fun i _ => e i, sg_slice E ha]
    refine sg_congr fun d hd => ?_
    simp only [Function.comp_def, List.countP_map]
    by_cases h : xs.getD (a * S + d) 0 = x
    · rw [if_pos h, pth_cnt hE l _ (mod_in hE)]
      congr 2
      funext ds
      simp only [rnw, Int.toNat_natCast]
      rw [if_pos h]
    · rw [if_neg h]
      have : (List.countP (fun ds => decide (rnw S E xs a (x :: l) ((d : Int) :: ds) = some c)) (allD S l.length)) = 0 := by
        rw [List.countP_eq_zero]
        intro ds _
        simp only [rnw, Int.toNat_natCast]
        rw [if_neg h]
        simp
      rw [this]; rfl
theorem cbk_len {S E w : Nat} {xs l : List Int} (hE : 1 ≤ E) : cbk S E xs l = ((backL S E w xs l l.length).length : Nat) := by
  rw [cbk_trc hE, trc, backL, List.length_flatMap, sum_range]
  refine sg_congr fun a ha => ?_
  rw [pth_cnt hE l a ha, List.length_map, List.countP_eq_length_filter]
/-- As many rings lead to one as are counted. -/
theorem fwdL_len {S E w : Nat} {re : Int} {xs to : List Int} (hv : VR S re xs) (hto : RG S to) (hE : E = S ^ (w - 1)) (hw : 2 * re + 1 = w) (hwn : w ≤ to.length) : ((fwdL S re xs to).length : Int) = cbk S E xs to := by
  have hre := hv.2.1
  have hS := hv.1.1
  obtain ⟨k, rfl⟩ : ∃ k : Nat, re = k := ⟨re.toNat, by omega⟩
  have hE1 : 1 ≤ E := by rw [hE]; exact Nat.pow_pos (by omega)
  rw [← backL_eq hv hto hE hw hwn, ← cbk_lab (k := k) hE1 (by omega) (by omega) (by omega), cbk_len (w := w) hE1, labI_len]

end Go.Proofs.Ytlmbgaoeplffkaa
