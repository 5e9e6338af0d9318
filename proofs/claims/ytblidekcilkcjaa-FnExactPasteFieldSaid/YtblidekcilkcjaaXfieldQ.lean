/- Fields on which others are pasted: the reference's loops. -/
import Derived.Test.YtblidekcilkcjaaXfieldP
import Derived.Test.YtblidekcilkcjaaFB
namespace Go.Proofs.Ytblidekcilkcjaa
open Go Go.RowKit
set_option linter.unusedVariables false
set_option linter.unusedSimpArgs false
set_option maxRecDepth 100000
set_option maxHeartbeats 8000000
-- spec.PasteField
def L32 : AFun := ⟨67, [.cell true 3 8, .t 9],
 (.seq (.ops false [⟨(some 4), .box 25 (.t 0), none, []⟩,
   ⟨(some 5), .box 25 (.t 1), none, []⟩,
   ⟨(some 8), .alloc 25 [.int .i64 0, .int .i64 0, .sl 0 0 0], none, []⟩,
   ⟨(some 9), .mv (.k (bv false)), none, []⟩])
 (.seq (.seq (.ops false [⟨(some 13), .call (.f 61) [(.t 4)], none, []⟩,
    ⟨(some 14), .un .not (.t 13), none, []⟩,
    ⟨(some 15), .mv (.t 14), none, []⟩,
    ⟨(some 16), .call (.f 61) [(.t 5)], (some (15, false)), []⟩,
    ⟨(some 17), .un .not (.t 16), (some (15, false)), []⟩,
    ⟨(some 18), .pick (.t 15) (.k (bv true)) (.t 17), none, []⟩,
    ⟨(some 19), .mv (.t 18), none, []⟩,
    ⟨(some 20), .mv (.t 2), (some (19, false)), []⟩,
    ⟨(some 21), .mv (.t 3), (some (19, false)), []⟩,
    ⟨(some 22), .fieldA 0 (.t 5), (some (19, false)), []⟩,
    ⟨(some 23), .load false 1 (.t 22), (some (19, false)), []⟩,
    ⟨(some 24), .fieldA 1 (.t 5), (some (19, false)), []⟩,
    ⟨(some 25), .load false 1 (.t 24), (some (19, false)), []⟩,
    ⟨(some 26), .call (.f 69) [(.t 4), (.t 20), (.t 21), (.t 23), (.t 25)], (some (19, false)), []⟩,
    ⟨(some 27), .un .not (.t 26), (some (19, false)), []⟩,
    ⟨(some 28), .pick (.t 19) (.k (bv true)) (.t 27), none, []⟩])
  (.cond (.t 28) (.seq (.ops false [⟨(some 29), .build [.int .i64 0, .int .i64 0, .sl 0 0 0] [], none, []⟩,
     ⟨none, .store 3 (.t 8) (.t 29), none, []⟩,
     ⟨(some 9), .mv (.k (bv false)), none, []⟩])
   .ret)
   .skip))
 (.seq (.ops false [⟨(some 30), .call (.f 72) [(.t 4)], none, []⟩,
   ⟨(some 10), .alloc 25 [.int .i64 0, .int .i64 0, .sl 0 0 0], none, []⟩,
   ⟨none, .store 3 (.t 10) (.t 30), none, []⟩])
 (.seq (.seq (.ops false [⟨(some 11), .mv (.k (iv 0)), none, []⟩])
  (.block 0 (.loop [2, 3, 4, 5, 8, 10, 11] (.seq (.seq (.ops false [⟨(some 31), .mv (.t 11), none, []⟩,
       ⟨(some 32), .fieldA 0 (.t 5), none, []⟩,
       ⟨(some 33), .load false 1 (.t 32), none, []⟩,
       ⟨(some 34), .bin .lss (.t 31) (.t 33), none, []⟩])
     (.cond (.t 34) .skip
      (.exit 0)))
    (.seq (.block 1 (.seq (.ops false [⟨(some 12), .mv (.k (iv 0)), none, []⟩])
      (.block 2 (.loop [2, 3, 4, 5, 8, 10, 11, 12] (.seq (.seq (.ops false [⟨(some 37), .mv (.t 12), none, []⟩,
           ⟨(some 38), .fieldA 1 (.t 5), none, []⟩,
           ⟨(some 39), .load false 1 (.t 38), none, []⟩,
           ⟨(some 40), .bin .lss (.t 37) (.t 39), none, []⟩])
         (.cond (.t 40) .skip
          (.exit 2)))
        (.seq (.block 3 (.ops true [⟨(some 43), .fieldA 2 (.t 10), none, []⟩,
           ⟨(some 44), .load false 1 (.t 43), none, []⟩,
           ⟨(some 45), .mv (.t 2), none, []⟩,
           ⟨(some 46), .mv (.t 11), none, []⟩,
           ⟨(some 47), .bin .add (.t 45) (.t 46), none, []⟩,
           ⟨(some 48), .fieldA 1 (.t 4), none, []⟩,
           ⟨(some 49), .load false 1 (.t 48), none, []⟩,
           ⟨(some 50), .bin .mul (.t 47) (.t 49), none, []⟩,
           ⟨(some 51), .mv (.t 3), none, []⟩,
           ⟨(some 52), .bin .add (.t 50) (.t 51), none, []⟩,
           ⟨(some 53), .mv (.t 12), none, []⟩,
           ⟨(some 54), .bin .add (.t 52) (.t 53), none, []⟩,
           ⟨(some 55), .fieldA 2 (.t 5), none, []⟩,
           ⟨(some 56), .load false 1 (.t 55), none, []⟩,
           ⟨(some 57), .mv (.t 11), none, []⟩,
           ⟨(some 58), .fieldA 1 (.t 5), none, []⟩,
           ⟨(some 59), .load false 1 (.t 58), none, []⟩,
           ⟨(some 60), .bin .mul (.t 57) (.t 59), none, []⟩,
           ⟨(some 61), .mv (.t 12), none, []⟩,
           ⟨(some 62), .bin .add (.t 60) (.t 61), none, []⟩,
           ⟨(some 63), .idxA 1 (.t 56) (.t 62), none, []⟩,
           ⟨(some 64), .load false 1 (.t 63), none, []⟩,
           ⟨(some 65), .idxA 1 (.t 44) (.t 54), none, []⟩,
           ⟨none, .store 1 (.t 65) (.t 64), none, []⟩]))
        (.ops false [⟨(some 41), .mv (.t 12), none, []⟩,
         ⟨(some 42), .bin .add (.t 41) (.k (iv 1)), none, []⟩,
         ⟨(some 12), .mv (.t 42), none, []⟩])))))))
    (.ops false [⟨(some 35), .mv (.t 11), none, []⟩,
     ⟨(some 36), .bin .add (.t 35) (.k (iv 1)), none, []⟩,
     ⟨(some 11), .mv (.t 36), none, []⟩]))))))
 (.seq (.ops false [⟨(some 66), .load true 3 (.t 10), none, []⟩,
   ⟨none, .store 3 (.t 8) (.t 66), none, []⟩,
   ⟨(some 9), .mv (.k (bv true)), none, []⟩])
 .ret)))))⟩
theorem code32 : acode Try.prog hints 32 = some L32 := by kernel_rfl


theorem cell_inj {C a b i k : Nat} (hb : b < C) (hk : k < C) (h : a * C + b = i * C + k) : a = i ∧ b = k := by
  have h1 : (a * C + b) / C = a := by rw [Nat.mul_comm, Nat.mul_add_div (by omega), Nat.div_eq_of_lt hb, Nat.add_zero]
  have h2 : (i * C + k) / C = i := by rw [Nat.mul_comm, Nat.mul_add_div (by omega), Nat.div_eq_of_lt hk, Nat.add_zero]
  have e : a = i := by rw [← h1, ← h2, h]
  subst e; omega
/-- Which cells are pasted, ahead of cell (i, k) of the part. -/
def pasted (N row col i k a b : Nat) : Prop := (row ≤ a ∧ (a < row + i ∨ (a = row + i ∧ b < col + k))) ∧ col ≤ b ∧ b < col + N
def PasteInv (xs ys : List Int) (R C N row col i k : Nat) (zs : List Int) : Prop :=
  zs.length = R * C ∧ ∀ a b, a < R → b < C → (pasted N row col i k a b → zs.getD (a * C + b) 0 = ys.getD ((a - row) * N + (b - col)) 0) ∧ (¬ pasted N row col i k a b → zs.getD (a * C + b) 0 = xs.getD (a * C + b) 0)
theorem PasteInv.step {xs ys zs : List Int} {R C N row col i k : Nat} (h : PasteInv xs ys R C N row col i k zs) (hk : k < N) (hr : row + i < R) (hc : col + N ≤ C) :
    PasteInv xs ys R C N row col i (k + 1) (zs.set ((row + i) * C + (col + k)) (ys.getD (i * N + k) 0)) := by
  refine ⟨by simp [h.1], fun a b ha hb => ?_⟩
  have hlt := lt_mul hr (show col + k < C by omega)
  obtain ⟨h1, h2⟩ := h.2 a b ha hb
  rw [getD_set (by rw [h.1]; exact hlt)]
  by_cases e : (row + i) * C + (col + k) = a * C + b
  · obtain ⟨e1, e2⟩ := cell_inj (show col + k < C by omega) hb e
    subst e1; subst e2
    rw [if_pos rfl]
    refine ⟨fun _ => by rw [show row + i - row = i by omega, show col + k - col = k by omega], fun hn => absurd ?_ hn⟩
    unfold pasted; omega
  · rw [if_neg e]
    have key : pasted N row col i (k + 1) a b ↔ pasted N row col i k a b := by
      unfold pasted
      constructor
      · rintro ⟨⟨p1, p2⟩, p3⟩
        refine ⟨⟨p1, ?_⟩, p3⟩
        rcases p2 with p2 | ⟨p2, p4⟩
        · exact .inl p2
        · by_cases p5 : b < col + k
          · exact .inr ⟨p2, p5⟩
          · exfalso; apply e
            rw [p2, show col + k = b by omega]
      · rintro ⟨⟨p1, p2⟩, p3⟩
        refine ⟨⟨p1, ?_⟩, p3⟩
        rcases p2 with p2 | ⟨p2, p4⟩
        · exact .inl p2
        · exact .inr ⟨p2, by omega⟩
    rw [key]; exact ⟨h1, h2⟩
theorem PasteInv.row {xs ys zs : List Int} {R C N row col i : Nat} (h : PasteInv xs ys R C N row col i N zs) : PasteInv xs ys R C N row col (i + 1) 0 zs := by
  refine ⟨h.1, fun a b ha hb => ?_⟩
  have key : pasted N row col (i + 1) 0 a b ↔ pasted N row col i N a b := by unfold pasted; omega
  rw [key]; exact h.2 a b ha hb
theorem PasteInv.done {xs ys zs : List Int} {R C M N row col : Nat} (h : PasteInv xs ys R C N row col M 0 zs) : zs = mk R C (paG xs C ys M N row col) := by
  refine mk_eq h.1 fun a b ha hb => ?_
  obtain ⟨h1, h2⟩ := h.2 a b ha hb
  unfold paG
  by_cases hp : pasted N row col M 0 a b
  · rw [h1 hp]
    unfold pasted at hp
    rw [if_pos (by omega)]
    have e : (((a : Int) - row) * N + ((b : Int) - col)).toNat = (a - row) * N + (b - col) := by
      rw [show (a : Int) - row = ((a - row : Nat) : Int) by omega, show (b : Int) - col = ((b - col : Nat) : Int) by omega]; exact toNat_cell
    simp only [cel, e]
  · rw [h2 hp]
    unfold pasted at hp
    rw [if_neg (by omega)]
    simp only [cel, toNat_cell]
theorem PasteInv.start {xs ys : List Int} {R C N row col : Nat} (hl : xs.length = R * C) : PasteInv xs ys R C N row col 0 0 xs :=
  ⟨hl, fun a b ha hb => ⟨fun h => by unfold pasted at h; omega, fun _ => rfl⟩⟩
theorem c_specPasteField {s : St} [Wf s] {r c r2 c2 row col : Int} {id_xs off_xs len_xs : Nat} {xs : List Int} [h_xs : ArgE ic s id_xs off_xs xs] (hl_xs : xs.length = len_xs := by first | rfl | simp | omega | (simp; omega)) {id_ys off_ys len_ys : Nat} {ys : List Int} [h_ys : ArgE ic s id_ys off_ys ys] (hl_ys : ys.length = len_ys := by first | rfl | simp | omega | (simp; omega)) (hb : len_xs ≤ 2000000 ∧ len_ys ≤ 2000000 := by omega) :
    Fn [] 32 [.agg [ic r, ic c, .sl id_xs off_xs len_xs], .agg [ic r2, ic c2, .sl id_ys off_ys len_ys], iv row, iv col] s (FldRes ((VF r c xs ∧ VF r2 c2 ys) ∧ Cov r c row col r2 c2) r c (mk r.toNat c.toNat (paG xs c ys r2 c2 row col))) := by
  refine F_start code32 ?_
  by_cases hv : VF r c xs
  case neg =>
    repeat' (first
 | refine A_go rfl ?_ | refine A_ifT rfl rfl ?_ | refine A_ifF rfl rfl ?_ | refine A_offP rfl rfl ?_ | refine A_offH rfl rfl ?_ | refine A_off0 rfl rfl ?_
 | refine A_add rfl rfl rfl (by omega) ?_ | refine A_sub rfl rfl rfl (by omega) ?_ | refine A_mul rfl rfl rfl (by omega) ?_ | refine A_rem rfl rfl rfl (by omega) ?_ | refine A_remT rfl rfl rfl (by omega) ?_ | refine A_quo rfl rfl rfl (by omega) ?_
 | ((first | refine A_lt rfl rfl rfl ?_ ?_ | refine A_le rfl rfl rfl ?_ ?_ | refine A_gt rfl rfl rfl ?_ ?_ | refine A_ge rfl rfl rfl ?_ ?_ | refine A_eq rfl rfl rfl ?_ ?_ | refine A_ne rfl rfl rfl ?_ ?_ | refine A_beq rfl rfl rfl ?_ ?_) <;> intro hc <;> try first | contradiction | (exfalso; omega) | exact absurd rfl hc)
 | refine A_idxN1 rfl rfl rfl (by omega) ?_ | refine A_idx1 rfl rfl rfl (by omega) ?_ | refine A_idxArr1 rfl rfl rfl (by omega) ?_
 | (refine A_callB rfl rfl (fun s H => c_l04Is (xs := xs)) ?_ ?_ <;> intro hc <;> try first | contradiction | (exfalso; omega) | exact absurd rfl hc | exact absurd (And.intro rfl rfl) hc | exact absurd (And.intro rfl (And.intro rfl rfl)) hc)
 | refine A_fld rfl rfl ?_ | refine A_mk3 rfl rfl rfl rfl ?_ | refine A_mk23 rfl rfl rfl ?_ | refine A_mk2 rfl rfl rfl ?_ | refine A_p (by rfl) rfl ?_
 | refine A_ldI rfl (by first | omega | (simp; done) | (simp; omega)) rfl ?_ | refine A_ldB rfl (by first | omega | (simp; done) | (simp; omega)) rfl ?_ | refine A_ld rfl (by rfl) rfl ?_ | refine A_ldW rfl (by simp) rfl ?_
 | refine A_st rfl rfl rfl ?_ | refine A_stW rfl rfl (by simp) rfl ?_ | refine A_stE rfl rfl (by first | omega | (simp; done) | (simp; omega)) rfl ?_
 | ((first | refine A_alloc rfl ?_ | refine A_box rfl rfl ?_ | refine A_boxC rfl rfl ?_ | refine A_makeN rfl rfl rfl (by omega) ?_ | refine A_make rfl rfl rfl (by omega) ?_ | refine A_bld1 rfl rfl ?_ | refine A_bld2 rfl rfl rfl ?_ | refine A_bld4 rfl rfl rfl rfl rfl ?_) <;> intro pz hpz)
 | refine A_bld0 rfl ?_ | (refine A_app rfl rfl rfl (by first | omega | (simp; done) | (simp; omega)) (by first | omega | (simp; done) | (simp; omega)) (by omega) ?_; intro pz) | (refine A_appN (enc := ic) rfl (by decide) rfl rfl (by first | omega | (simp; done) | (simp; omega)) (by omega) ?_; intro pz)
 | refine A_chk rfl rfl (by simp only [List.mem_cons, List.not_mem_nil, or_false, forall_eq_or_imp, forall_eq]; repeat' (first | exact ⟨_, rfl, inferInstance⟩ | apply And.intro)) ?_ | refine A_chkI rfl (by assumption) rfl (by simp) ?_
 | refine A_ret1 rfl (by first | exact (RP.t rfl RP.nil) | exact (RP.c rfl inferInstance rfl (by simp) RP.nil)) ?_ | refine A_ret rfl (by first | exact (RP.t rfl (RP.t rfl RP.nil)) | exact (RP.c rfl inferInstance rfl (by simp) (RP.t rfl RP.nil)) | exact (RP.t rfl (RP.t rfl (RP.t rfl RP.nil))) | exact (RP.c rfl inferInstance rfl (by simp) (RP.t rfl (RP.t rfl RP.nil))) | exact (RP.c rfl inferInstance rfl (by simp) (RP.t rfl (RP.t rfl (RP.t rfl (RP.t rfl RP.nil)))))) ?_ | refine A_ret0 rfl ?_)
    exact R_fldN fun h => hv h.1.1
  by_cases hv2 : VF r2 c2 ys
  case neg =>
    repeat' (first
 | refine A_go rfl ?_ | refine A_ifT rfl rfl ?_ | refine A_ifF rfl rfl ?_ | refine A_offP rfl rfl ?_ | refine A_offH rfl rfl ?_ | refine A_off0 rfl rfl ?_
 | refine A_add rfl rfl rfl (by omega) ?_ | refine A_sub rfl rfl rfl (by omega) ?_ | refine A_mul rfl rfl rfl (by omega) ?_ | refine A_rem rfl rfl rfl (by omega) ?_ | refine A_remT rfl rfl rfl (by omega) ?_ | refine A_quo rfl rfl rfl (by omega) ?_
 | ((first | refine A_lt rfl rfl rfl ?_ ?_ | refine A_le rfl rfl rfl ?_ ?_ | refine A_gt rfl rfl rfl ?_ ?_ | refine A_ge rfl rfl rfl ?_ ?_ | refine A_eq rfl rfl rfl ?_ ?_ | refine A_ne rfl rfl rfl ?_ ?_ | refine A_beq rfl rfl rfl ?_ ?_) <;> intro hc <;> try first | contradiction | (exfalso; omega) | exact absurd rfl hc)
 | refine A_idxN1 rfl rfl rfl (by omega) ?_ | refine A_idx1 rfl rfl rfl (by omega) ?_ | refine A_idxArr1 rfl rfl rfl (by omega) ?_
 | (refine A_callB rfl rfl (fun s H => c_l04Is (xs := xs)) ?_ ?_ <;> intro hc <;> try first | contradiction | (exfalso; omega) | exact absurd rfl hc | exact absurd (And.intro rfl rfl) hc | exact absurd (And.intro rfl (And.intro rfl rfl)) hc)
 | (refine A_callB rfl rfl (fun s H => c_l04Is (xs := ys)) ?_ ?_ <;> intro hc <;> try first | contradiction | (exfalso; omega) | exact absurd rfl hc | exact absurd (And.intro rfl rfl) hc | exact absurd (And.intro rfl (And.intro rfl rfl)) hc)
 | refine A_fld rfl rfl ?_ | refine A_mk3 rfl rfl rfl rfl ?_ | refine A_mk23 rfl rfl rfl ?_ | refine A_mk2 rfl rfl rfl ?_ | refine A_p (by rfl) rfl ?_
 | refine A_ldI rfl (by first | omega | (simp; done) | (simp; omega)) rfl ?_ | refine A_ldB rfl (by first | omega | (simp; done) | (simp; omega)) rfl ?_ | refine A_ld rfl (by rfl) rfl ?_ | refine A_ldW rfl (by simp) rfl ?_
 | refine A_st rfl rfl rfl ?_ | refine A_stW rfl rfl (by simp) rfl ?_ | refine A_stE rfl rfl (by first | omega | (simp; done) | (simp; omega)) rfl ?_
 | ((first | refine A_alloc rfl ?_ | refine A_box rfl rfl ?_ | refine A_boxC rfl rfl ?_ | refine A_makeN rfl rfl rfl (by omega) ?_ | refine A_make rfl rfl rfl (by omega) ?_ | refine A_bld1 rfl rfl ?_ | refine A_bld2 rfl rfl rfl ?_ | refine A_bld4 rfl rfl rfl rfl rfl ?_) <;> intro pz hpz)
 | refine A_bld0 rfl ?_ | (refine A_app rfl rfl rfl (by first | omega | (simp; done) | (simp; omega)) (by first | omega | (simp; done) | (simp; omega)) (by omega) ?_; intro pz) | (refine A_appN (enc := ic) rfl (by decide) rfl rfl (by first | omega | (simp; done) | (simp; omega)) (by omega) ?_; intro pz)
 | refine A_chk rfl rfl (by simp only [List.mem_cons, List.not_mem_nil, or_false, forall_eq_or_imp, forall_eq]; repeat' (first | exact ⟨_, rfl, inferInstance⟩ | apply And.intro)) ?_ | refine A_chkI rfl (by assumption) rfl (by simp) ?_
 | refine A_ret1 rfl (by first | exact (RP.t rfl RP.nil) | exact (RP.c rfl inferInstance rfl (by simp) RP.nil)) ?_ | refine A_ret rfl (by first | exact (RP.t rfl (RP.t rfl RP.nil)) | exact (RP.c rfl inferInstance rfl (by simp) (RP.t rfl RP.nil)) | exact (RP.t rfl (RP.t rfl (RP.t rfl RP.nil))) | exact (RP.c rfl inferInstance rfl (by simp) (RP.t rfl (RP.t rfl RP.nil))) | exact (RP.c rfl inferInstance rfl (by simp) (RP.t rfl (RP.t rfl (RP.t rfl (RP.t rfl RP.nil)))))) ?_ | refine A_ret0 rfl ?_)
    exact R_fldN fun h => hv2 h.1.2
  by_cases hcv : Cov r c row col r2 c2
  case neg =>
    have h1 := hv.1
    have h2 := hv.2.1
    repeat' (first
 | refine A_go rfl ?_ | refine A_ifT rfl rfl ?_ | refine A_ifF rfl rfl ?_ | refine A_offP rfl rfl ?_ | refine A_offH rfl rfl ?_ | refine A_off0 rfl rfl ?_
 | refine A_add rfl rfl rfl (by omega) ?_ | refine A_sub rfl rfl rfl (by omega) ?_ | refine A_mul rfl rfl rfl (by omega) ?_ | refine A_rem rfl rfl rfl (by omega) ?_ | refine A_remT rfl rfl rfl (by omega) ?_ | refine A_quo rfl rfl rfl (by omega) ?_
 | ((first | refine A_lt rfl rfl rfl ?_ ?_ | refine A_le rfl rfl rfl ?_ ?_ | refine A_gt rfl rfl rfl ?_ ?_ | refine A_ge rfl rfl rfl ?_ ?_ | refine A_eq rfl rfl rfl ?_ ?_ | refine A_ne rfl rfl rfl ?_ ?_ | refine A_beq rfl rfl rfl ?_ ?_) <;> intro hc <;> try first | contradiction | (exfalso; omega) | exact absurd rfl hc)
 | refine A_idxN1 rfl rfl rfl (by omega) ?_ | refine A_idx1 rfl rfl rfl (by omega) ?_ | refine A_idxArr1 rfl rfl rfl (by omega) ?_
 | (refine A_callB rfl rfl (fun s H => c_l04Is (xs := xs)) ?_ ?_ <;> intro hc <;> try first | contradiction | (exfalso; omega) | exact absurd rfl hc | exact absurd (And.intro rfl rfl) hc | exact absurd (And.intro rfl (And.intro rfl rfl)) hc)
 | (refine A_callB rfl rfl (fun s H => c_l04Is (xs := ys)) ?_ ?_ <;> intro hc <;> try first | contradiction | (exfalso; omega) | exact absurd rfl hc | exact absurd (And.intro rfl rfl) hc | exact absurd (And.intro rfl (And.intro rfl rfl)) hc)
 | (refine A_callB rfl rfl (fun s H => c_l04Within) ?_ ?_ <;> intro hc <;> try first | contradiction | (exfalso; omega) | exact absurd rfl hc | exact absurd (And.intro rfl rfl) hc | exact absurd (And.intro rfl (And.intro rfl rfl)) hc)
 | refine A_fld rfl rfl ?_ | refine A_mk3 rfl rfl rfl rfl ?_ | refine A_mk23 rfl rfl rfl ?_ | refine A_mk2 rfl rfl rfl ?_ | refine A_p (by rfl) rfl ?_
 | refine A_ldI rfl (by first | omega | (simp; done) | (simp; omega)) rfl ?_ | refine A_ldB rfl (by first | omega | (simp; done) | (simp; omega)) rfl ?_ | refine A_ld rfl (by rfl) rfl ?_ | refine A_ldW rfl (by simp) rfl ?_
 | refine A_st rfl rfl rfl ?_ | refine A_stW rfl rfl (by simp) rfl ?_ | refine A_stE rfl rfl (by first | omega | (simp; done) | (simp; omega)) rfl ?_
 | ((first | refine A_alloc rfl ?_ | refine A_box rfl rfl ?_ | refine A_boxC rfl rfl ?_ | refine A_makeN rfl rfl rfl (by omega) ?_ | refine A_make rfl rfl rfl (by omega) ?_ | refine A_bld1 rfl rfl ?_ | refine A_bld2 rfl rfl rfl ?_ | refine A_bld4 rfl rfl rfl rfl rfl ?_) <;> intro pz hpz)
 | refine A_bld0 rfl ?_ | (refine A_app rfl rfl rfl (by first | omega | (simp; done) | (simp; omega)) (by first | omega | (simp; done) | (simp; omega)) (by omega) ?_; intro pz) | (refine A_appN (enc := ic) rfl (by decide) rfl rfl (by first | omega | (simp; done) | (simp; omega)) (by omega) ?_; intro pz)
 | refine A_chk rfl rfl (by simp only [List.mem_cons, List.not_mem_nil, or_false, forall_eq_or_imp, forall_eq]; repeat' (first | exact ⟨_, rfl, inferInstance⟩ | apply And.intro)) ?_ | refine A_chkI rfl (by assumption) rfl (by simp) ?_
 | refine A_ret1 rfl (by first | exact (RP.t rfl RP.nil) | exact (RP.c rfl inferInstance rfl (by simp) RP.nil)) ?_ | refine A_ret rfl (by first | exact (RP.t rfl (RP.t rfl RP.nil)) | exact (RP.c rfl inferInstance rfl (by simp) (RP.t rfl RP.nil)) | exact (RP.t rfl (RP.t rfl (RP.t rfl RP.nil))) | exact (RP.c rfl inferInstance rfl (by simp) (RP.t rfl (RP.t rfl RP.nil))) | exact (RP.c rfl inferInstance rfl (by simp) (RP.t rfl (RP.t rfl (RP.t rfl (RP.t rfl RP.nil)))))) ?_ | refine A_ret0 rfl ?_)
    exact R_fldN fun h => hcv h.2
  obtain ⟨R, C, rfl, rfl, h1, h2, h3, h4⟩ := hv.nat
  obtain ⟨M, N, rfl, rfl, h5, h6, h7, h8⟩ := hv2.nat
  have hc' := hcv
  obtain ⟨g1, g2, g3⟩ := hc'
  obtain ⟨rw, rfl⟩ : ∃ n : Nat, row = n := ⟨row.toNat, by omega⟩
  obtain ⟨cl, rfl⟩ : ∃ n : Nat, col = n := ⟨col.toNat, by omega⟩
  have e : ((R * C : Nat) : Int) = (R : Int) * C := by push_cast; rfl
  have e2 : ((M * N : Nat) : Int) = (M : Int) * N := by push_cast; rfl
  repeat' (first
 | refine A_go rfl ?_ | refine A_ifT rfl rfl ?_ | refine A_ifF rfl rfl ?_ | refine A_offP rfl rfl ?_ | refine A_offH rfl rfl ?_ | refine A_off0 rfl rfl ?_
 | refine A_add rfl rfl rfl (by omega) ?_ | refine A_sub rfl rfl rfl (by omega) ?_ | refine A_mul rfl rfl rfl (by omega) ?_ | refine A_rem rfl rfl rfl (by omega) ?_ | refine A_remT rfl rfl rfl (by omega) ?_ | refine A_quo rfl rfl rfl (by omega) ?_
 | ((first | refine A_lt rfl rfl rfl ?_ ?_ | refine A_le rfl rfl rfl ?_ ?_ | refine A_gt rfl rfl rfl ?_ ?_ | refine A_ge rfl rfl rfl ?_ ?_ | refine A_eq rfl rfl rfl ?_ ?_ | refine A_ne rfl rfl rfl ?_ ?_ | refine A_beq rfl rfl rfl ?_ ?_) <;> intro hc <;> try first | contradiction | (exfalso; omega) | exact absurd rfl hc)
 | refine A_idxN1 rfl rfl rfl (by omega) ?_ | refine A_idx1 rfl rfl rfl (by omega) ?_ | refine A_idxArr1 rfl rfl rfl (by omega) ?_
 | (refine A_callB rfl rfl (fun s H => c_l04Is (xs := xs)) ?_ ?_ <;> intro hc <;> try first | contradiction | (exfalso; omega) | exact absurd rfl hc | exact absurd (And.intro rfl rfl) hc | exact absurd (And.intro rfl (And.intro rfl rfl)) hc)
 | (refine A_callB rfl rfl (fun s H => c_l04Is (xs := ys)) ?_ ?_ <;> intro hc <;> try first | contradiction | (exfalso; omega) | exact absurd rfl hc | exact absurd (And.intro rfl rfl) hc | exact absurd (And.intro rfl (And.intro rfl rfl)) hc)
 | (refine A_callB rfl rfl (fun s H => c_l04Within) ?_ ?_ <;> intro hc <;> try first | contradiction | (exfalso; omega) | exact absurd rfl hc | exact absurd (And.intro rfl rfl) hc | exact absurd (And.intro rfl (And.intro rfl rfl)) hc)
 | (refine A_callM rfl rfl (fun s H => c_l04Own (xs := xs)) ?_; rintro _ _ ⟨pz, rfl, rfl⟩) | (refine A_callM0 rfl rfl (fun s H => c_l04Own (xs := xs)) ?_; rintro _ _ ⟨pz, rfl, rfl⟩)
 | refine A_fld rfl rfl ?_ | refine A_mk3 rfl rfl rfl rfl ?_ | refine A_mk23 rfl rfl rfl ?_ | refine A_mk2 rfl rfl rfl ?_ | refine A_p (by rfl) rfl ?_
 | refine A_ldI rfl (by first | omega | (simp; done) | (simp; omega)) rfl ?_ | refine A_ldB rfl (by first | omega | (simp; done) | (simp; omega)) rfl ?_ | refine A_ld rfl (by rfl) rfl ?_ | refine A_ldW rfl (by simp) rfl ?_
 | refine A_st rfl rfl rfl ?_ | refine A_stW rfl rfl (by simp) rfl ?_ | refine A_stE rfl rfl (by first | omega | (simp; done) | (simp; omega)) rfl ?_
 | ((first | refine A_alloc rfl ?_ | refine A_box rfl rfl ?_ | refine A_boxC rfl rfl ?_ | refine A_makeN rfl rfl rfl (by omega) ?_ | refine A_make rfl rfl rfl (by omega) ?_ | refine A_bld1 rfl rfl ?_ | refine A_bld2 rfl rfl rfl ?_ | refine A_bld4 rfl rfl rfl rfl rfl ?_) <;> intro pz hpz)
 | refine A_bld0 rfl ?_ | (refine A_app rfl rfl rfl (by first | omega | (simp; done) | (simp; omega)) (by first | omega | (simp; done) | (simp; omega)) (by omega) ?_; intro pz) | (refine A_appN (enc := ic) rfl (by decide) rfl rfl (by first | omega | (simp; done) | (simp; omega)) (by omega) ?_; intro pz)
 | refine A_chk rfl rfl (by simp only [List.mem_cons, List.not_mem_nil, or_false, forall_eq_or_imp, forall_eq]; repeat' (first | exact ⟨_, rfl, inferInstance⟩ | apply And.intro)) ?_ | refine A_chkI rfl (by assumption) rfl (by simp) ?_
 | refine A_ret1 rfl (by first | exact (RP.t rfl RP.nil) | exact (RP.c rfl inferInstance rfl (by simp) RP.nil)) ?_ | refine A_ret rfl (by first | exact (RP.t rfl (RP.t rfl RP.nil)) | exact (RP.c rfl inferInstance rfl (by simp) (RP.t rfl RP.nil)) | exact (RP.t rfl (RP.t rfl (RP.t rfl RP.nil))) | exact (RP.c rfl inferInstance rfl (by simp) (RP.t rfl (RP.t rfl RP.nil))) | exact (RP.c rfl inferInstance rfl (by simp) (RP.t rfl (RP.t rfl (RP.t rfl (RP.t rfl RP.nil)))))) ?_ | refine A_ret0 rfl ?_)
  rename_i q1 _ q2 _ q3 _ _ _ p
  obtain ⟨q4, hEq⟩ : ∃ p, p = pz := ⟨_, rfl⟩; subst hEq
  refine A_loop rfl [q1, q2, q3, q4, p] (fun m fr L => ∃ (i : Nat) (zs : List Int), m = M - i ∧ fr = [(2, iv rw), (3, iv cl), (4, .c (.ptr q1 0)), (5, .c (.ptr q2 0)), (8, .c (.ptr q3 0)), (10, .c (.ptr q4 0)), (11, iv i)] ∧ L = [(q1, .rw 25 3 [ic R, ic C, .sl id_xs off_xs len_xs]), (q2, .rw 25 3 [ic M, ic N, .sl id_ys off_ys len_ys]), (q3, .rw 25 3 (fld 0 0 0 0)), (q4, .rw 25 3 (fld R C p len_xs)), (p, ints zs)] ∧ i ≤ M ∧ PasteInv xs ys R C N rw cl i 0 zs) M ⟨0, _, rfl, rfl, rfl, by omega, PasteInv.start h3⟩ ?_
  rintro m fr L ⟨i, zs, rfl, rfl, rfl, hi, hp⟩
  repeat' (first
 | refine A_go rfl ?_ | refine A_ifT rfl rfl ?_ | refine A_ifF rfl rfl ?_ | refine A_offP rfl rfl ?_ | refine A_offH rfl rfl ?_ | refine A_off0 rfl rfl ?_
 | refine A_add rfl rfl rfl (by omega) ?_ | refine A_sub rfl rfl rfl (by omega) ?_ | refine A_mul rfl rfl rfl (by omega) ?_ | refine A_rem rfl rfl rfl (by omega) ?_ | refine A_remT rfl rfl rfl (by omega) ?_ | refine A_quo rfl rfl rfl (by omega) ?_
 | ((first | refine A_lt rfl rfl rfl ?_ ?_ | refine A_le rfl rfl rfl ?_ ?_ | refine A_gt rfl rfl rfl ?_ ?_ | refine A_ge rfl rfl rfl ?_ ?_ | refine A_eq rfl rfl rfl ?_ ?_ | refine A_ne rfl rfl rfl ?_ ?_ | refine A_beq rfl rfl rfl ?_ ?_) <;> intro hc <;> try first | contradiction | (exfalso; omega) | exact absurd rfl hc)
 | refine A_idxN1 rfl rfl rfl (by omega) ?_ | refine A_idx1 rfl rfl rfl (by omega) ?_ | refine A_idxArr1 rfl rfl rfl (by omega) ?_
 | refine A_fld rfl rfl ?_ | refine A_mk3 rfl rfl rfl rfl ?_ | refine A_mk23 rfl rfl rfl ?_ | refine A_mk2 rfl rfl rfl ?_ | refine A_p (by rfl) rfl ?_
 | refine A_ldI rfl (by first | omega | (simp; done) | (simp; omega)) rfl ?_ | refine A_ldB rfl (by first | omega | (simp; done) | (simp; omega)) rfl ?_ | refine A_ld rfl (by rfl) rfl ?_ | refine A_ldW rfl (by simp) rfl ?_
 | refine A_st rfl rfl rfl ?_ | refine A_stW rfl rfl (by simp) rfl ?_ | refine A_stE rfl rfl (by first | omega | (simp; done) | (simp; omega)) rfl ?_
 | ((first | refine A_alloc rfl ?_ | refine A_box rfl rfl ?_ | refine A_boxC rfl rfl ?_ | refine A_makeN rfl rfl rfl (by omega) ?_ | refine A_make rfl rfl rfl (by omega) ?_ | refine A_bld1 rfl rfl ?_ | refine A_bld2 rfl rfl rfl ?_ | refine A_bld4 rfl rfl rfl rfl rfl ?_) <;> intro pz hpz)
 | refine A_bld0 rfl ?_ | (refine A_app rfl rfl rfl (by first | omega | (simp; done) | (simp; omega)) (by first | omega | (simp; done) | (simp; omega)) (by omega) ?_; intro pz) | (refine A_appN (enc := ic) rfl (by decide) rfl rfl (by first | omega | (simp; done) | (simp; omega)) (by omega) ?_; intro pz)
 | refine A_chk rfl rfl (by simp only [List.mem_cons, List.not_mem_nil, or_false, forall_eq_or_imp, forall_eq]; repeat' (first | exact ⟨_, rfl, inferInstance⟩ | apply And.intro)) ?_ | refine A_chkI rfl (by assumption) rfl (by simp) ?_
 | refine A_ret1 rfl (by first | exact (RP.t rfl RP.nil) | exact (RP.c rfl inferInstance rfl (by simp) RP.nil)) ?_ | refine A_ret rfl (by first | exact (RP.t rfl (RP.t rfl RP.nil)) | exact (RP.c rfl inferInstance rfl (by simp) (RP.t rfl RP.nil)) | exact (RP.t rfl (RP.t rfl (RP.t rfl RP.nil))) | exact (RP.c rfl inferInstance rfl (by simp) (RP.t rfl (RP.t rfl RP.nil))) | exact (RP.c rfl inferInstance rfl (by simp) (RP.t rfl (RP.t rfl (RP.t rfl (RP.t rfl RP.nil)))))) ?_ | refine A_ret0 rfl ?_)
  · refine A_loop rfl [q1, q2, q3, q4, p] (fun m fr L => ∃ (k : Nat) (zs : List Int), m = N - k ∧ fr = [(2, iv rw), (3, iv cl), (4, .c (.ptr q1 0)), (5, .c (.ptr q2 0)), (8, .c (.ptr q3 0)), (10, .c (.ptr q4 0)), (11, iv i), (12, iv k)] ∧ L = [(q1, .rw 25 3 [ic R, ic C, .sl id_xs off_xs len_xs]), (q2, .rw 25 3 [ic M, ic N, .sl id_ys off_ys len_ys]), (q3, .rw 25 3 (fld 0 0 0 0)), (q4, .rw 25 3 (fld R C p len_xs)), (p, ints zs)] ∧ k ≤ N ∧ PasteInv xs ys R C N rw cl i k zs) N ⟨0, _, rfl, rfl, rfl, by omega, hp⟩ ?_
    clear hp
    rintro m fr L ⟨k, zs, rfl, rfl, rfl, hk, hp⟩
    have hi' : i < M := by omega
    by_cases hk' : k < N
    · have hm := cell_in (r := R) (c := C) (i := rw + i) (k := cl + k) (by omega) (by omega)
      have hm2 := cell_in (r := M) (c := N) (i := i) (k := k) (by omega) (by omega)
      have hl := hp.1
      repeat' (first
 | refine A_go rfl ?_ | refine A_ifT rfl rfl ?_ | refine A_ifF rfl rfl ?_ | refine A_offP rfl rfl ?_ | refine A_offH rfl rfl ?_ | refine A_off0 rfl rfl ?_
 | refine A_add rfl rfl rfl (by omega) ?_ | refine A_sub rfl rfl rfl (by omega) ?_ | refine A_mul rfl rfl rfl (by omega) ?_ | refine A_rem rfl rfl rfl (by omega) ?_ | refine A_remT rfl rfl rfl (by omega) ?_ | refine A_quo rfl rfl rfl (by omega) ?_
 | ((first | refine A_lt rfl rfl rfl ?_ ?_ | refine A_le rfl rfl rfl ?_ ?_ | refine A_gt rfl rfl rfl ?_ ?_ | refine A_ge rfl rfl rfl ?_ ?_ | refine A_eq rfl rfl rfl ?_ ?_ | refine A_ne rfl rfl rfl ?_ ?_ | refine A_beq rfl rfl rfl ?_ ?_) <;> intro hc <;> try first | contradiction | (exfalso; omega) | exact absurd rfl hc)
 | refine A_idxN1 rfl rfl rfl (by omega) ?_ | refine A_idx1 rfl rfl rfl (by omega) ?_ | refine A_idxArr1 rfl rfl rfl (by omega) ?_
 | refine A_fld rfl rfl ?_ | refine A_mk3 rfl rfl rfl rfl ?_ | refine A_mk23 rfl rfl rfl ?_ | refine A_mk2 rfl rfl rfl ?_ | refine A_p (by rfl) rfl ?_
 | refine A_ldI rfl (by first | omega | (simp; done) | (simp; omega)) rfl ?_ | refine A_ldB rfl (by first | omega | (simp; done) | (simp; omega)) rfl ?_ | refine A_ld rfl (by rfl) rfl ?_ | refine A_ldW rfl (by simp) rfl ?_
 | refine A_st rfl rfl rfl ?_ | refine A_stW rfl rfl (by simp) rfl ?_ | refine A_stE rfl rfl (by first | omega | (simp; done) | (simp; omega)) rfl ?_
 | ((first | refine A_alloc rfl ?_ | refine A_box rfl rfl ?_ | refine A_boxC rfl rfl ?_ | refine A_makeN rfl rfl rfl (by omega) ?_ | refine A_make rfl rfl rfl (by omega) ?_ | refine A_bld1 rfl rfl ?_ | refine A_bld2 rfl rfl rfl ?_ | refine A_bld4 rfl rfl rfl rfl rfl ?_) <;> intro pz hpz)
 | refine A_bld0 rfl ?_ | (refine A_app rfl rfl rfl (by first | omega | (simp; done) | (simp; omega)) (by first | omega | (simp; done) | (simp; omega)) (by omega) ?_; intro pz) | (refine A_appN (enc := ic) rfl (by decide) rfl rfl (by first | omega | (simp; done) | (simp; omega)) (by omega) ?_; intro pz)
 | refine A_chk rfl rfl (by simp only [List.mem_cons, List.not_mem_nil, or_false, forall_eq_or_imp, forall_eq]; repeat' (first | exact ⟨_, rfl, inferInstance⟩ | apply And.intro)) ?_ | refine A_chkI rfl (by assumption) rfl (by simp) ?_
 | refine A_ret1 rfl (by first | exact (RP.t rfl RP.nil) | exact (RP.c rfl inferInstance rfl (by simp) RP.nil)) ?_ | refine A_ret rfl (by first | exact (RP.t rfl (RP.t rfl RP.nil)) | exact (RP.c rfl inferInstance rfl (by simp) (RP.t rfl RP.nil)) | exact (RP.t rfl (RP.t rfl (RP.t rfl RP.nil))) | exact (RP.c rfl inferInstance rfl (by simp) (RP.t rfl (RP.t rfl RP.nil))) | exact (RP.c rfl inferInstance rfl (by simp) (RP.t rfl (RP.t rfl (RP.t rfl (RP.t rfl RP.nil)))))) ?_ | refine A_ret0 rfl ?_)
      refine A_round rfl [q1, q2, q3, q4, p] (N - (k + 1)) (by omega) ?_
      refine ⟨k + 1, _, rfl, rfl, rfl, by omega, ?_⟩
      have := hp.step hk' (by omega) (by omega)
      rw [show ((rw : Int) + i) * C + cl + k = (((rw + i : Nat) : Int) * C + ((cl + k : Nat) : Int)) by push_cast; omega, toNat_cell]
      exact this
    · obtain rfl : N = k := by omega
      repeat' (first
 | refine A_go rfl ?_ | refine A_ifT rfl rfl ?_ | refine A_ifF rfl rfl ?_ | refine A_offP rfl rfl ?_ | refine A_offH rfl rfl ?_ | refine A_off0 rfl rfl ?_
 | refine A_add rfl rfl rfl (by omega) ?_ | refine A_sub rfl rfl rfl (by omega) ?_ | refine A_mul rfl rfl rfl (by omega) ?_ | refine A_rem rfl rfl rfl (by omega) ?_ | refine A_remT rfl rfl rfl (by omega) ?_ | refine A_quo rfl rfl rfl (by omega) ?_
 | ((first | refine A_lt rfl rfl rfl ?_ ?_ | refine A_le rfl rfl rfl ?_ ?_ | refine A_gt rfl rfl rfl ?_ ?_ | refine A_ge rfl rfl rfl ?_ ?_ | refine A_eq rfl rfl rfl ?_ ?_ | refine A_ne rfl rfl rfl ?_ ?_ | refine A_beq rfl rfl rfl ?_ ?_) <;> intro hc <;> try first | contradiction | (exfalso; omega) | exact absurd rfl hc)
 | refine A_idxN1 rfl rfl rfl (by omega) ?_ | refine A_idx1 rfl rfl rfl (by omega) ?_ | refine A_idxArr1 rfl rfl rfl (by omega) ?_
 | refine A_fld rfl rfl ?_ | refine A_mk3 rfl rfl rfl rfl ?_ | refine A_mk23 rfl rfl rfl ?_ | refine A_mk2 rfl rfl rfl ?_ | refine A_p (by rfl) rfl ?_
 | refine A_ldI rfl (by first | omega | (simp; done) | (simp; omega)) rfl ?_ | refine A_ldB rfl (by first | omega | (simp; done) | (simp; omega)) rfl ?_ | refine A_ld rfl (by rfl) rfl ?_ | refine A_ldW rfl (by simp) rfl ?_
 | refine A_st rfl rfl rfl ?_ | refine A_stW rfl rfl (by simp) rfl ?_ | refine A_stE rfl rfl (by first | omega | (simp; done) | (simp; omega)) rfl ?_
 | ((first | refine A_alloc rfl ?_ | refine A_box rfl rfl ?_ | refine A_boxC rfl rfl ?_ | refine A_makeN rfl rfl rfl (by omega) ?_ | refine A_make rfl rfl rfl (by omega) ?_ | refine A_bld1 rfl rfl ?_ | refine A_bld2 rfl rfl rfl ?_ | refine A_bld4 rfl rfl rfl rfl rfl ?_) <;> intro pz hpz)
 | refine A_bld0 rfl ?_ | (refine A_app rfl rfl rfl (by first | omega | (simp; done) | (simp; omega)) (by first | omega | (simp; done) | (simp; omega)) (by omega) ?_; intro pz) | (refine A_appN (enc := ic) rfl (by decide) rfl rfl (by first | omega | (simp; done) | (simp; omega)) (by omega) ?_; intro pz)
 | refine A_chk rfl rfl (by simp only [List.mem_cons, List.not_mem_nil, or_false, forall_eq_or_imp, forall_eq]; repeat' (first | exact ⟨_, rfl, inferInstance⟩ | apply And.intro)) ?_ | refine A_chkI rfl (by assumption) rfl (by simp) ?_
 | refine A_ret1 rfl (by first | exact (RP.t rfl RP.nil) | exact (RP.c rfl inferInstance rfl (by simp) RP.nil)) ?_ | refine A_ret rfl (by first | exact (RP.t rfl (RP.t rfl RP.nil)) | exact (RP.c rfl inferInstance rfl (by simp) (RP.t rfl RP.nil)) | exact (RP.t rfl (RP.t rfl (RP.t rfl RP.nil))) | exact (RP.c rfl inferInstance rfl (by simp) (RP.t rfl (RP.t rfl RP.nil))) | exact (RP.c rfl inferInstance rfl (by simp) (RP.t rfl (RP.t rfl (RP.t rfl (RP.t rfl RP.nil)))))) ?_ | refine A_ret0 rfl ?_)
      refine A_round rfl [q1, q2, q3, q4, p] (M - (i + 1)) (by omega) ?_
      exact ⟨i + 1, _, rfl, rfl, rfl, by omega, hp.row⟩
  · obtain rfl : M = i := by omega
    have hl := hp.1
    obtain rfl := hp.done (M := M)
    simp only [Int.toNat_natCast]
    exact R_fld ⟨⟨hv, hv2⟩, hcv⟩ (by simp; omega) (by omega)

end Go.Proofs.Ytblidekcilkcjaa
