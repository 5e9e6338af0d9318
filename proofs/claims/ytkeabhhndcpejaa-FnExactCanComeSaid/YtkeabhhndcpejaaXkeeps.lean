/- Rules that keep the sum, and what flows. -/
import Derived.Test.YtkeabhhndcpejaaXpairs
import Derived.Test.YtkeabhhndcpejaaXpart
import Derived.Test.YtkeabhhndcpejaaFB
namespace Go.Proofs.Ytkeabhhndcpejaa
open Go Go.RowKit
set_option linter.unusedVariables false
set_option linter.unusedSimpArgs false
set_option maxRecDepth 100000
set_option maxHeartbeats 8000000
-- (impl.Rule).tells
def L128 : AFun := ⟨13, [.t 4],
 (.seq (.ops false [⟨(some 2), .box 28 (.t 0), none, []⟩,
   ⟨(some 4), .mv (.k (iv 0)), none, []⟩])
 (.seq (.ops true [⟨(some 7), .mv (.t 1), none, []⟩,
   ⟨(some 8), .fieldA 0 (.t 2), none, []⟩,
   ⟨(some 9), .load false 1 (.t 8), none, []⟩,
   ⟨(some 10), .call (.f 72) [(.t 7), (.t 9)], none, []⟩,
   ⟨(some 5), .fieldA 2 (.t 2), none, []⟩,
   ⟨(some 6), .load false 1 (.t 5), none, [0]⟩,
   ⟨(some 11), .idxA 1 (.t 6) (.t 10), none, []⟩,
   ⟨(some 12), .load false 1 (.t 11), none, []⟩,
   ⟨(some 4), .mv (.t 12), none, []⟩])
 .ret))⟩
theorem code128 : acode Try.prog hints 128 = some L128 := by kernel_rfl


theorem c_tells {s : St} [Wf s] {S E : Nat} {re : Int} {id_xs off_xs len_xs : Nat} {xs : List Int} [h_xs : ArgE ic s id_xs off_xs xs] (hl_xs : xs.length = len_xs := by first | rfl | simp | omega | (simp; omega)) {id_cs off_cs len_cs : Nat} {cs : List Int} [h_cs : ArgE ic s id_cs off_cs cs] (hl_cs : cs.length = len_cs := by first | rfl | simp | omega | (simp; omega)) (hd : DG S cs) (hl : xs.length = E * S) (hn : nm S cs < E * S) (hS : 2 ≤ S ∧ S ≤ 3 := by omega) (hb : len_cs ≤ 5 := by omega) :
    FnV 128 [.agg [ic S, ic re, .sl id_xs off_xs len_xs], .c (.sl id_cs off_cs len_cs)] s (iv (xs.getD (nm S cs) 0)) := by
  refine F_start code128 ?_
  repeat' (first
 | refine A_go rfl ?_ | refine A_ifT rfl rfl ?_ | refine A_ifF rfl rfl ?_ | refine A_offP rfl rfl ?_ | refine A_offH rfl rfl ?_ | refine A_off0 rfl rfl ?_
 | refine A_add rfl rfl rfl (by omega) ?_ | refine A_sub rfl rfl rfl (by omega) ?_ | refine A_mul rfl rfl rfl (by omega) ?_ | refine A_rem rfl rfl rfl (by omega) ?_ | refine A_remT rfl rfl rfl (by omega) ?_ | refine A_quo rfl rfl rfl (by omega) ?_
 | ((first | refine A_lt rfl rfl rfl ?_ ?_ | refine A_le rfl rfl rfl ?_ ?_ | refine A_gt rfl rfl rfl ?_ ?_ | refine A_ge rfl rfl rfl ?_ ?_ | refine A_eq rfl rfl rfl ?_ ?_ | refine A_ne rfl rfl rfl ?_ ?_ | refine A_beq rfl rfl rfl ?_ ?_) <;> intro hc <;> try first | contradiction | (exfalso; omega) | exact absurd rfl hc)
 | refine A_idxN1 rfl rfl rfl (by omega) ?_ | refine A_idx1 rfl rfl rfl (by omega) ?_ | refine A_idxArr1 rfl rfl rfl (by omega) ?_
 | refine A_callV rfl rfl (fun s H => c_numberOf (ys := cs) (h := hd)) ?_
 | refine A_fld rfl rfl ?_ | refine A_mk3 rfl rfl rfl rfl ?_ | refine A_mk23 rfl rfl rfl ?_ | refine A_mk2 rfl rfl rfl ?_ | refine A_mk13 rfl rfl ?_ | refine A_p (by rfl) rfl ?_
 | refine A_ldI rfl (by first | omega | (simp; done) | (simp; omega)) rfl ?_ | refine A_ldB rfl (by first | omega | (simp; done) | (simp; omega)) rfl ?_ | refine A_ld rfl (by rfl) rfl ?_ | refine A_ldW rfl (by simp) rfl ?_
 | refine A_st rfl rfl rfl ?_ | refine A_stW rfl rfl (by simp) rfl ?_ | refine A_stE rfl rfl (by first | omega | (simp; done) | (simp; omega)) rfl ?_
 | ((first | refine A_alloc rfl ?_ | refine A_box rfl rfl ?_ | refine A_boxC rfl rfl ?_ | refine A_makeN rfl rfl rfl (by omega) ?_ | refine A_make rfl rfl rfl (by omega) ?_ | refine A_bld1 rfl rfl ?_ | refine A_bld2 rfl rfl rfl ?_ | refine A_bld4 rfl rfl rfl rfl rfl ?_) <;> intro pz hpz)
 | refine A_bld0 rfl ?_ | (refine A_app rfl rfl rfl (by first | omega | (simp; done) | (simp; omega)) (by first | omega | (simp; done) | (simp; omega)) (by omega) ?_; intro pz) | (refine A_appN (enc := ic) rfl (by decide) rfl rfl (by first | omega | (simp; done) | (simp; omega)) (by omega) ?_; intro pz)
 | refine A_chk1 rfl rfl rfl ?_ | refine A_chk2 rfl rfl rfl rfl ?_ | refine A_chk3 rfl rfl rfl rfl rfl ?_ | refine A_chk4 rfl rfl rfl rfl rfl rfl ?_ | refine A_chkI rfl (by assumption) rfl (by simp) ?_
 | refine A_ret1 rfl (by first | exact (RP.t rfl RP.nil) | exact (RP.c rfl inferInstance rfl (by simp) RP.nil)) ?_ | refine A_ret rfl (by first | exact (RP.t rfl (RP.t rfl RP.nil)) | exact (RP.c rfl inferInstance rfl (by simp) (RP.t rfl RP.nil)) | exact (RP.t rfl (RP.t rfl (RP.t rfl RP.nil))) | exact (RP.c rfl inferInstance rfl (by simp) (RP.t rfl (RP.t rfl RP.nil))) | exact (RP.c rfl inferInstance rfl (by simp) (RP.t rfl (RP.t rfl (RP.t rfl (RP.t rfl RP.nil)))))) ?_ | refine A_ret0 rfl ?_)
  exact R_v rfl
/-- Zeros ahead change no number. -/
theorem nm_zeros {S : Nat} {cs : List Int} (z : Nat) : ∀ m, nmN S (List.replicate z 0 ++ cs) (z + m) = nmN S cs m
  | 0 => by
    have : ∀ k, k ≤ z → nmN S (List.replicate z 0 ++ cs) k = 0 := fun k => by
      induction k with
      | zero => intro _; rfl
      | succ k ih =>
        intro hk
        rw [nmN, ih (by omega), List.getD_eq_getElem?_getD, List.getElem?_append_left (by simp; omega), List.getElem?_replicate, if_pos (by omega)]; simp
    exact this z (Nat.le_refl z)
  | m + 1 => by
    rw [← Nat.add_assoc, nmN, nm_zeros z m, nmN, List.getD_eq_getElem?_getD, List.getElem?_append_right (by simp), List.getD_eq_getElem?_getD]
    simp
theorem DG.part {S : Nat} {cs : List Int} (h : DG S cs) (a n : Nat) : DG S ((cs.drop a).take n) := fun x hx => h x (List.mem_of_mem_drop (List.mem_of_mem_take hx))
/-- The next state of the neighbourhood of zeros and then 'm' cells from 'a' on. -/
def bh (S : Nat) (xs cs : List Int) (m a : Nat) : Int := xs.getD (nm S ((cs.drop a).take m)) 0
theorem bh_in {S w E : Nat} {xs cs : List Int} {m a : Nat} (hS : 2 ≤ S) (hE : E = S ^ (w - 1)) (hw : 1 ≤ w) (hl : xs.length = E * S) (hd : DG S xs) (hc : DG S cs) (hm : m ≤ w) : nm S ((cs.drop a).take m) < E * S ∧ 0 ≤ bh S xs cs m a ∧ bh S xs cs m a ≤ (S : Int) - 1 := by
  have h1 : nm S ((cs.drop a).take m) < S ^ ((cs.drop a).take m).length := nm_lt (by omega) (hc.part a m) _ (Nat.le_refl _)
  have h2 : S ^ ((cs.drop a).take m).length ≤ S ^ w := Nat.pow_le_pow_right (by omega) (by simp; omega)
  have h3 : S ^ w = E * S := by rw [hE, ← Nat.pow_succ, Nat.succ_eq_add_one, show w - 1 + 1 = w by omega]
  have h4 : nm S ((cs.drop a).take m) < E * S := by omega
  exact ⟨h4, hd _ (getD_mem (by omega))⟩
/-- What a rule that keeps the sum must tell. -/
def ks (S w : Nat) (xs cs : List Int) : Nat → Int
  | 0 => cs.getD 0 0
  | k + 1 => ks S w xs cs k + (bh S xs cs (w - (k + 1)) 1 - bh S xs cs (w - (k + 1)) 0)
theorem ks_in {S w E : Nat} {xs cs : List Int} (hS : 2 ≤ S ∧ S ≤ 3) (hE : E = S ^ (w - 1)) (hw : 1 ≤ w) (hl : xs.length = E * S) (hd : DG S xs) (hc : DG S cs) (h0 : 0 < cs.length) : ∀ k : Nat, -(2 * k) ≤ ks S w xs cs k ∧ ks S w xs cs k ≤ 2 * k + 2
  | 0 => by have := hc _ (getD_mem (d := 0) h0); rw [ks]; omega
  | k + 1 => by
    have ih := ks_in hS hE hw hl hd hc h0 k
    have b1 := (bh_in (a := 1) hS.1 hE hw hl hd hc (show w - (k + 1) ≤ w by omega)).2
    have b0 := (bh_in (a := 0) hS.1 hE hw hl hd hc (show w - (k + 1) ≤ w by omega)).2
    rw [ks]; push_cast; omega
def Keeps (S w : Nat) (xs : List Int) : Prop := ∀ n, n < xs.length → ks S w xs (dg S n w) (w - 1) = xs.getD n 0
def KeepsP (st re : Int) (xs : List Int) : Prop := Keeps st.toNat (2 * re + 1).toNat xs
end Go.Proofs.Ytkeabhhndcpejaa
