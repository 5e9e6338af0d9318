/- Rules that keep the sum, and what flows. -/
import Derived.Test.YtafdjnhlhepibaaXpairs
import Derived.Test.YtafdjnhlhepibaaXpart
import Derived.Test.YtafdjnhlhepibaaFB
namespace Go.Proofs.Ytafdjnhlhepibaa
open Go Go.RowKit
set_option linter.unusedVariables false
set_option linter.unusedSimpArgs false
set_option maxRecDepth 100000
set_option maxHeartbeats 8000000
-- (impl.Rule).tells
def L151 : AFun := ⟨13, [.t 4],
 (.seq (.ops false [⟨(some 2), .box 30 (.t 0), none, []⟩,
   ⟨(some 4), .mv (.k (iv 0)), none, []⟩])
 (.seq (.ops true [⟨(some 7), .mv (.t 1), none, []⟩,
   ⟨(some 8), .fieldA 0 (.t 2), none, []⟩,
   ⟨(some 9), .load false 1 (.t 8), none, []⟩,
   ⟨(some 10), .call (.f 106) [(.t 7), (.t 9)], none, []⟩,
   ⟨(some 5), .fieldA 2 (.t 2), none, []⟩,
   ⟨(some 6), .load false 1 (.t 5), none, [0]⟩,
   ⟨(some 11), .idxA 1 (.t 6) (.t 10), none, []⟩,
   ⟨(some 12), .load false 1 (.t 11), none, []⟩,
   ⟨(some 4), .mv (.t 12), none, []⟩])
 .ret))⟩
theorem code151 : acode Try.prog hints 151 = some L151 := by kernel_rfl


theorem c_tells {s : St} [Wf s] {S E : Nat} {re : Int} {id_xs off_xs len_xs : Nat} {xs : List Int} [h_xs : ArgE ic s id_xs off_xs xs] (hl_xs : xs.length = len_xs := by first | rfl | simp | omega | (simp; omega)) {id_cs off_cs len_cs : Nat} {cs : List Int} [h_cs : ArgE ic s id_cs off_cs cs] (hl_cs : cs.length = len_cs := by first | rfl | simp | omega | (simp; omega)) (hd : DG S cs) (hl : xs.length = E * S) (hn : nm S cs < E * S) (hS : 2 ≤ S ∧ S ≤ 3 := by omega) (hb : len_cs ≤ 5 := by omega) :
    FnV 151 [.agg [ic S, ic re, .sl id_xs off_xs len_xs], .c (.sl id_cs off_cs len_cs)] s (iv (xs.getD (nm S cs) 0)) := by
  refine F_start code151 ?_
  repeat' (first
 | refine A_go rfl ?_ | refine A_ifT rfl rfl ?_ | refine A_ifF rfl rfl ?_
 | refine A_idxN1 rfl rfl rfl (by omega) ?_ | refine A_idx1 rfl rfl rfl (by omega) ?_
 | refine A_callV rfl rfl (fun s H => c_numberOf (ys := cs) (h := hd)) ?_
 | refine A_fld rfl rfl ?_ | refine A_p (by rfl) rfl ?_
 | refine A_ldI rfl (by first | omega | (simp; done) | (simp; omega)) rfl ?_ | refine A_ldB rfl (by first | omega | (simp; done) | (simp; omega)) rfl ?_ | refine A_ld rfl (by rfl) rfl ?_
 | ((first | refine A_box rfl rfl ?_ | refine A_boxC rfl rfl ?_) <;> intro pz hpz)
 | refine A_chk1 rfl rfl rfl ?_ | refine A_chk2 rfl rfl rfl rfl ?_ | refine A_chk3 rfl rfl rfl rfl rfl ?_ | refine A_chk4 rfl rfl rfl rfl rfl rfl ?_ | refine A_chkI rfl (by assumption) rfl (by simp) ?_
 | refine A_ret1 rfl (by exact (RP.t rfl RP.nil)) ?_)
  exact R_v rfl
/-- Zeros ahead change no number. -/
theorem nm_zeros {S : Nat} {cs : List Int} (z : Nat) : ∀ m, nmN S (List.replicate z 0 ++ cs) (z + m) = nmN S cs m
  | 0 => by
    have : ∀ k, k ≤ z → nmN S (List.replicate z 0 ++ cs) k = 0 := fun k => by
      induction k with
      | zero => intro _; rfl
      | succ k ih =>
        intro hk
        rw [nmN, ih (by omega), List.getD_eq_getElem?_getD, List.getElem?_append_left (by simp; omega), List.getElem?_replicate, if_pos (by omega)]; simp
    exact this z (Nat.le_refl z)
  | m + 1 => by
    rw [← Nat.add_assoc, nmN, nm_zeros z m, nmN, List.getD_eq_getElem?_getD, List.getElem?_append_right (by simp), List.getD_eq_getElem?_getD]
    simp
theorem DG.part {S : Nat} {cs : List Int} (h : DG S cs) (a n : Nat) : DG S ((cs.drop a).take n) := fun x hx => h x (List.mem_of_mem_drop (List.mem_of_mem_take hx))
/-- The next state of the neighbourhood of zeros and then 'm' cells from 'a' on. -/
def bh (S : Nat) (xs cs : List Int) (m a : Nat) : Int := xs.getD (nm S ((cs.drop a).take m)) 0
theorem bh_in {S w E : Nat} {xs cs : List Int} {m a : Nat} (hS : 2 ≤ S) (hE : E = S ^ (w - 1)) (hw : 1 ≤ w) (hl : xs.length = E * S) (hd : DG S xs) (hc : DG S cs) (hm : m ≤ w) : nm S ((cs.drop a).take m) < E * S ∧ 0 ≤ bh S xs cs m a ∧ bh S xs cs m a ≤ (S : Int) - 1 := by
  have h1 : nm S ((cs.drop a).take m) < S ^ ((cs.drop a).take m).length := nm_lt (by omega) (hc.part a m) _ (Nat.le_refl _)
  have h2 : S ^ ((cs.drop a).take m).length ≤ S ^ w := Nat.pow_le_pow_right (by omega) (by simp; omega)
  have h3 : S ^ w = E * S := by rw [hE, ← Nat.pow_succ, Nat.succ_eq_add_one, show w - 1 + 1 = w by omega]
  have h4 : nm S ((cs.drop a).take m) < E * S := by omega
  exact ⟨h4, hd _ (getD_mem (by omega))⟩
/-- What a rule that keeps the sum must tell. -/
def ks (S w : Nat) (xs cs : List Int) : Nat → Int
  | 0 => cs.getD 0 0
  | k + 1 => ks S w xs cs k + (bh S xs cs (w - (k + 1)) 1 - bh S xs cs (w - (k + 1)) 0)
theorem ks_in {S w E : Nat} {xs cs : List Int} (hS : 2 ≤ S ∧ S ≤ 3) (hE : E = S ^ (w - 1)) (hw : 1 ≤ w) (hl : xs.length = E * S) (hd : DG S xs) (hc : DG S cs) (h0 : 0 < cs.length) : ∀ k : Nat, -(2 * k) ≤ ks S w xs cs k ∧ ks S w xs cs k ≤ 2 * k + 2
  | 0 => by have := hc _ (getD_mem (d := 0) h0); rw [ks]; omega
  | k + 1 => by
    have ih := ks_in hS hE hw hl hd hc h0 k
    have b1 := (bh_in (a := 1) hS.1 hE hw hl hd hc (show w - (k + 1) ≤ w by omega)).2
    have b0 := (bh_in (a := 0) hS.1 hE hw hl hd hc (show w - (k + 1) ≤ w by omega)).2
    rw [ks]; push_cast; omega
def Keeps (S w : Nat) (xs : List Int) : Prop := ∀ n, n < xs.length → ks S w xs (dg S n w) (w - 1) = xs.getD n 0
def KeepsP (st re : Int) (xs : List Int) : Prop := Keeps st.toNat (2 * re + 1).toNat xs
end Go.Proofs.Ytafdjnhlhepibaa
