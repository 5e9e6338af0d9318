/- A word has one before it iff it comes behind one step. -/
import Derived.Test.YtafdjnhlhepibaaXwords
import Derived.Test.YtafdjnhlhepibaaXwordsBack
import Derived.Test.YtafdjnhlhepibaaXnums
import Derived.Test.YtafdjnhlhepibaaFB
namespace Go.Proofs.Ytafdjnhlhepibaa
open Go Go.RowKit
set_option linter.unusedVariables false
set_option linter.unusedSimpArgs false
set_option maxRecDepth 100000
set_option maxHeartbeats 8000000


theorem shr_at {S w k : Nat} {xs ys : List Int} (h : k + w = ys.length) : bh S xs ys w k = xs.getD (nm S (ys.drop k)) 0 := by
  rw [bh, List.take_of_length_le (by simp; omega)]
/-- Which ends words of so many cells lead to. -/
theorem wk_pos {S w E : Nat} {xs ws : List Int} (hS : 2 ≤ S) (hE : E = S ^ (w - 1)) (hw : 1 ≤ w) (hl : xs.length = E * S) : ∀ j c, c < E → j ≤ ws.length → (0 < (vecs S E xs ws (ones E) j).getD c 0 ↔ ∃ ys, DG S ys ∧ ys.length = j + (w - 1) ∧ shr S w xs ys = ws.take j ∧ nm S (ys.drop j) = c)
  | 0, c, hc, _ => by
    have e : (vecs S E xs ws (ones E) 0).getD c 0 = 1 := by
      rw [vecs, ones, List.getD_eq_getElem?_getD, List.getElem?_replicate, if_pos hc]; rfl
    rw [e]
    refine ⟨fun _ => ⟨dg S c (w - 1), dg_mem (by omega), by simp, ?_, ?_⟩, fun _ => by omega⟩
    · rw [List.take_zero]
      refine List.eq_nil_of_length_eq_zero ?_
      rw [shr_len, dg_len]; omega
    · rw [List.drop_zero]; exact nm_dg (by omega) (by rw [← hE]; exact hc)
  | j + 1, c, hc, hj => by
    have hE1 : 1 ≤ E := by omega
    have hEw : S ^ w = E * S := by
      rw [hE, ← Nat.pow_succ, Nat.succ_eq_add_one, show w - 1 + 1 = w by omega]
    rw [vecs, nxt_get hE1 hc, sg_pos fun i _ => by split; exact vecs_nn hE1 ones_nn j _; exact Int.le_refl 0]
    constructor
    · rintro ⟨i, hi, hp⟩
      by_cases g : xs.getD i 0 = ws.getD j 0 ∧ i % E = c
      case neg => rw [if_neg g] at hp; omega
      rw [if_pos g] at hp
      obtain ⟨ys, h1, h2, h3, h4⟩ := (wk_pos hS hE hw hl j (i / S) (Nat.div_lt_of_lt_mul (by rw [Nat.mul_comm]; exact hi)) (by omega)).1 hp
      have hm : i % S < S := Nat.mod_lt _ (by omega)
      have hdr : (ys ++ [((i % S : Nat) : Int)]).drop j = ys.drop j ++ [((i % S : Nat) : Int)] := List.drop_append_of_le_length (by omega)
      have hnm : nm S (ys.drop j ++ [((i % S : Nat) : Int)]) = i := by
        rw [nm_snoc, h4, Int.toNat_natCast, Nat.div_add_mod']
      have hd2 : DG S (ys.drop j ++ [((i % S : Nat) : Int)]) := (h1.drop j).app (.one hm)
      refine ⟨ys ++ [((i % S : Nat) : Int)], h1.app (.one hm), by simp; omega, ?_, ?_⟩
      · refine ext_getD 0 (by simp; omega) fun k hk => ?_
        have hk' : k < j + 1 := by simp at hk; omega
        rw [shr_get (by simp; omega), getD_take hk']
        by_cases e : k = j
        · subst e
          rw [shr_at (by simp; omega), hdr, hnm]; exact g.1
        · have h5 : (shr S w xs ys).getD k 0 = ws.getD k 0 := by rw [h3, getD_take (by omega)]
          rw [← h5, shr_get (by omega), bh, bh, List.drop_append_of_le_length (by omega), List.take_append_of_le_length (by simp; omega)]
      · rw [← List.drop_drop, hdr, ← nm_mod (w := w) (by omega) hd2 (by simp; omega) hw, hnm, ← hE]; exact g.2
    · rintro ⟨ys, h1, h2, h3, h4⟩
      have hcl : (ys.drop j).length = w := by simp; omega
      have hlt : nm S (ys.drop j) < E * S := by
        have := nm_lt (by omega) (h1.drop j) _ (Nat.le_refl _)
        rw [hcl, hEw] at this
        rw [nm, hcl]; exact this
      have g : xs.getD (nm S (ys.drop j)) 0 = ws.getD j 0 ∧ nm S (ys.drop j) % E = c := by
        constructor
        · have h5 : (shr S w xs ys).getD j 0 = ws.getD j 0 := by rw [h3, getD_take (by omega)]
          rw [← h5, shr_get (by omega), shr_at (by omega)]
        · rw [hE, nm_mod (by omega) (h1.drop j) hcl hw, List.drop_drop]; exact h4
      refine ⟨nm S (ys.drop j), hlt, ?_⟩
      rw [if_pos g]
      refine (wk_pos hS hE hw hl j _ (Nat.div_lt_of_lt_mul (by rw [Nat.mul_comm]; exact hlt)) (by omega)).2 ⟨ys.take (j + (w - 1)), h1.take _, by simp; omega, ?_, ?_⟩
      · refine ext_getD 0 (by simp; omega) fun k hk => ?_
        have hk' : k < j := by simp at hk; omega
        have h5 : (shr S w xs ys).getD k 0 = ws.getD k 0 := by rw [h3, getD_take (by omega)]
        rw [getD_take hk', ← h5, shr_get (by simp; omega), shr_get (by omega), bh, bh, List.drop_take, List.take_take, Nat.min_eq_left (by omega)]
      · rw [List.drop_take, nm_div (w := w) (by omega) (h1.drop j) hcl hw, Nat.add_sub_cancel_left]
theorem wbk_pos {S w E : Nat} {xs ws : List Int} (hS : 2 ≤ S) (hE : E = S ^ (w - 1)) (hw : 1 ≤ w) (hl : xs.length = E * S) : 0 < wbk S E xs ws ↔ ∃ ys, DG S ys ∧ ys.length = ws.length + (w - 1) ∧ shr S w xs ys = ws := by
  have hE1 : 1 ≤ E := by rw [hE]; exact Nat.pow_pos (by omega)
  rw [wbk, smN_sg, sg_pos fun i _ => vecs_nn hE1 ones_nn _ i]
  constructor
  · rintro ⟨c, hc, hp⟩
    obtain ⟨ys, h1, h2, h3, h4⟩ := (wk_pos hS hE hw hl _ c hc (Nat.le_refl _)).1 hp
    exact ⟨ys, h1, h2, by rw [h3, List.take_length]⟩
  · rintro ⟨ys, h1, h2, h3⟩
    have hlt : nm S (ys.drop ws.length) < E := by
      have := nm_lt (by omega) (h1.drop ws.length) _ (Nat.le_refl _)
      have e : (ys.drop ws.length).length = w - 1 := by simp; omega
      rw [e, ← hE] at this
      rw [nm, e]; exact this
    exact ⟨_, hlt, (wk_pos hS hE hw hl _ _ hlt (Nat.le_refl _)).2 ⟨ys, h1, h2, by rw [h3, List.take_length], rfl⟩⟩
/-- A word has one before it iff it comes behind one step. -/
theorem once_back {S w E : Nat} {xs ws : List Int} (hS : 2 ≤ S) (hE : E = S ^ (w - 1)) (hw : 1 ≤ w) (hl : xs.length = E * S) (hd : DG S xs) (hws : DG S ws) : (cimg S w xs ws.length 1).1.getD (nm S ws) false = true ↔ 0 < wbk S E xs ws := by
  rw [cimg_get hS hE hw hl hd hws rfl, wbk_pos hS hE hw hl, Nat.mul_one]
  exact Iff.rfl

end Go.Proofs.Ytafdjnhlhepibaa
