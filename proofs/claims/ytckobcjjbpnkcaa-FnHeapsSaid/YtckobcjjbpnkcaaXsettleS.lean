/- Heaps settle: the reference. -/
import Derived.Test.YtckobcjjbpnkcaaXsettle
import Derived.Test.YtckobcjjbpnkcaaFB
namespace Go.Proofs.Ytckobcjjbpnkcaa
open Go Go.RowKit
set_option linter.unusedVariables false
set_option linter.unusedSimpArgs false
set_option maxRecDepth 100000
set_option maxHeartbeats 8000000
-- impl.SettleHeap
def L33 : AFun := ⟨16, [.cell true 3 2, .t 3, .t 4],
 (.seq (.ops false [⟨(some 1), .box 25 (.t 0), none, []⟩,
   ⟨(some 2), .alloc 25 [.int .i64 0, .int .i64 0, .sl 0 0 0], none, []⟩,
   ⟨(some 3), .mv (.k (iv 0)), none, []⟩,
   ⟨(some 4), .mv (.k (bv false)), none, []⟩])
 (.seq (.seq (.ops false [⟨(some 6), .load true 3 (.t 1), none, []⟩,
    ⟨(some 7), .call (.f 25) [(.t 6)], none, []⟩,
    ⟨(some 8), .un .not (.t 7), none, []⟩])
  (.cond (.t 8) (.seq (.ops false [⟨(some 9), .build [.int .i64 0, .int .i64 0, .sl 0 0 0] [], none, []⟩,
     ⟨none, .store 3 (.t 2) (.t 9), none, []⟩,
     ⟨(some 3), .mv (.k (iv 0)), none, []⟩,
     ⟨(some 4), .mv (.k (bv false)), none, []⟩])
   .ret)
   .skip))
 (.seq (.ops false [⟨(some 10), .load true 3 (.t 1), none, []⟩,
   ⟨(some 11), .call (.f 73) [(.t 10)], none, []⟩,
   ⟨none, .store 3 (.t 1) (.t 11), none, []⟩])
 (.seq (.ops false [⟨(some 12), .load true 3 (.t 1), none, []⟩,
   ⟨(some 13), .call (.f 74) [(.t 12)], none, []⟩,
   ⟨(some 5), .mv (.t 13), none, []⟩])
 (.seq (.ops false [⟨(some 14), .load true 3 (.t 1), none, []⟩,
   ⟨(some 15), .mv (.t 5), none, []⟩,
   ⟨none, .store 3 (.t 2) (.t 14), none, []⟩,
   ⟨(some 3), .mv (.t 15), none, []⟩,
   ⟨(some 4), .mv (.k (bv true)), none, []⟩])
 .ret)))))⟩
theorem code33 : acode Try.prog hints 33 = some L33 := by kernel_rfl


def mn (a b : Int) : Int := if a < b then a else b
theorem mn_le {a b : Int} : mn a b ≤ a ∧ mn a b ≤ b ∧ (0 ≤ a → 0 ≤ b → 0 ≤ mn a b) := by unfold mn; split <;> omega
theorem fm_le : ∀ (l : List Int) (a : Int), l.foldl mn a ≤ a ∧ ∀ y ∈ l, l.foldl mn a ≤ y
  | [], a => ⟨Int.le_refl a, by simp⟩
  | x :: l, a => by
    obtain ⟨h1, h2⟩ := fm_le l (mn a x)
    have h3 := mn_le (a := a) (b := x)
    rw [List.foldl_cons]
    refine ⟨by omega, fun y hy => ?_⟩
    rcases List.mem_cons.1 hy with rfl | hy
    · omega
    · exact h2 y hy
theorem fm_nn : ∀ (l : List Int) (a : Int), 0 ≤ a → (∀ y ∈ l, 0 ≤ y) → 0 ≤ l.foldl mn a
  | [], a, h, _ => h
  | x :: l, a, h, hl => fm_nn l _ (mn_le.2.2 h (hl x (by simp))) (fun y hy => hl y (by simp [hy]))
theorem vf_cells {r c : Int} {xs : List Int} (h : VF r c xs) : ∀ n, 0 ≤ xs.getD n 0 ∧ xs.getD n 0 ≤ 18 := fun n => by
  by_cases hn : n < xs.length
  · have := h.2.2.2 _ (getD_mem (d := 0) hn); omega
  · rw [List.getD_eq_getElem?_getD, List.getElem?_eq_none (by omega)]; exact ⟨Int.le_refl 0, by decide⟩
theorem fin_ex {R C : Nat} {x0 : List Int} (hb : R ≤ 24 ∧ C ≤ 24) (hx : ∀ c, 0 ≤ x0.getD c 0 ∧ x0.getD c 0 ≤ 18) : ∀ (n : Nat) (zs : List Int) (u : Nat → Int), HpOk R C x0 zs u → (sg (wS R C) (R * C) - sg u (R * C)).toNat ≤ n → ∃ p, Fin R C x0 p := by
  intro n
  induction n with
  | zero =>
    intro zs u h hn
    by_cases h3 : ∀ c, c < R * C → zs.getD c 0 ≤ 3
    · exact ⟨(zs, _), u, h, h3, rfl⟩
    · exfalso
      obtain ⟨c, hc⟩ := Classical.not_forall.1 h3
      obtain ⟨hc1, hc2⟩ := Classical.not_imp.1 hc
      have h2 := (h.fall (b := 1) hc1 (by omega) (by omega)).bnd hb hx
      rw [sg_upN, if_pos hc1] at h2
      omega
  | succ n ih =>
    intro zs u h hn
    by_cases h3 : ∀ c, c < R * C → zs.getD c 0 ≤ 3
    · exact ⟨(zs, _), u, h, h3, rfl⟩
    · obtain ⟨c, hc⟩ := Classical.not_forall.1 h3
      obtain ⟨hc1, hc2⟩ := Classical.not_imp.1 hc
      refine ih _ _ (h.fall (b := 1) hc1 (by omega) (by omega)) ?_
      rw [sg_upN, if_pos hc1]; omega
theorem settled_len {R C : Nat} {x0 : List Int} (hl : x0.length = R * C) (hb : R ≤ 24 ∧ C ≤ 24) (hx : ∀ c, 0 ≤ x0.getD c 0 ∧ x0.getD c 0 ≤ 18) : (settled R C x0).1.length = R * C := by
  obtain ⟨p, hp⟩ := fin_ex hb hx _ _ _ (HpOk.start hl) (Nat.le_refl _)
  rw [settled_eq hp]
  obtain ⟨u, h1, _⟩ := hp
  exact h1.len
theorem c_implSettleHeap {s : St} [Wf s] {r c : Int} {id_xs off_xs len_xs : Nat} {xs : List Int} [h_xs : ArgE ic s id_xs off_xs xs] (hl_xs : xs.length = len_xs := by first | rfl | simp | omega | (simp; omega)) (hb : len_xs ≤ 2000000 := by omega) :
    Fn [] 33 [.agg [ic r, ic c, .sl id_xs off_xs len_xs]] s (FldNum (VF r c xs) r c (settled r.toNat c.toNat xs).1 (settled r.toNat c.toNat xs).2) := by
  refine F_start code33 ?_
  by_cases hv : VF r c xs
  case neg =>
    repeat' (first
 | refine A_go rfl ?_ | refine A_ifT rfl rfl ?_ | refine A_ifF rfl rfl ?_
 | (refine A_callB rfl rfl (fun s H => c_implValidField) ?_ ?_ <;> intro hc <;> try first | contradiction | (exfalso; omega) | exact absurd rfl hc | exact absurd (And.intro rfl rfl) hc | exact absurd (And.intro rfl (And.intro rfl rfl)) hc | exact absurd (Eq.trans (by assumption) (Eq.symm (by assumption))) hc)
 | refine A_mk3 rfl rfl rfl rfl ?_ | refine A_mk23 rfl rfl rfl ?_ | refine A_mk2 rfl rfl rfl ?_ | refine A_mk13 rfl rfl ?_ | refine A_p (by rfl) rfl ?_
 | refine A_ldW rfl (by simp) rfl ?_
 | refine A_stW rfl rfl (by simp) rfl ?_
 | ((first | refine A_alloc rfl ?_ | refine A_box rfl rfl ?_ | refine A_boxC rfl rfl ?_) <;> intro pz hpz)
 | refine A_ret rfl (by exact (RP.c rfl inferInstance rfl (by simp) (RP.t rfl (RP.t rfl RP.nil)))) ?_)
    exact R_fldNumN hv
  have hvc := vf_cells hv
  obtain ⟨R, C, rfl, rfl, h1, h2, h3, h4⟩ := hv.nat
  have hsl := settled_len h3 (by omega) hvc
  simp only [Int.toNat_natCast]
  repeat' (first
 | refine A_go rfl ?_ | refine A_ifT rfl rfl ?_ | refine A_ifF rfl rfl ?_
 | (refine A_callB rfl rfl (fun s H => c_implValidField) ?_ ?_ <;> intro hc <;> try first | contradiction | (exfalso; omega) | exact absurd rfl hc | exact absurd (And.intro rfl rfl) hc | exact absurd (And.intro rfl (And.intro rfl rfl)) hc | exact absurd (Eq.trans (by assumption) (Eq.symm (by assumption))) hc)
 | (refine A_callM rfl rfl (fun s H => c_copyField) ?_; rintro _ _ ⟨pz, rfl, rfl⟩) | (refine A_callM0 rfl rfl (fun s H => c_copyField) ?_; rintro _ _ ⟨pz, rfl, rfl⟩)
 | (refine A_callM rfl rfl (fun s H => c_settle (hx := hvc)) ?_; rintro _ _ ⟨rfl, rfl⟩) | (refine A_callM0 rfl rfl (fun s H => c_settle (hx := hvc)) ?_; rintro _ _ ⟨rfl, rfl⟩)
 | refine A_mk3 rfl rfl rfl rfl ?_ | refine A_mk23 rfl rfl rfl ?_ | refine A_mk2 rfl rfl rfl ?_ | refine A_mk13 rfl rfl ?_ | refine A_p (by rfl) rfl ?_
 | refine A_ldW rfl (by simp) rfl ?_
 | refine A_stW rfl rfl (by simp) rfl ?_
 | ((first | refine A_alloc rfl ?_ | refine A_box rfl rfl ?_ | refine A_boxC rfl rfl ?_) <;> intro pz hpz)
 | refine A_ret rfl (by exact (RP.c rfl inferInstance rfl (by simp) (RP.t rfl (RP.t rfl RP.nil)))) ?_)
  exact R_fldNum hv rfl (by omega) (by omega)
end Go.Proofs.Ytckobcjjbpnkcaa
