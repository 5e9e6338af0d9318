/- How often words are in rings, and whether that is kept. -/
import Derived.Test.YtafdjnhlhepibaaXimages
import Derived.Test.YtafdjnhlhepibaaFB
namespace Go.Proofs.Ytafdjnhlhepibaa
open Go Go.RowKit
set_option linter.unusedVariables false
set_option linter.unusedSimpArgs false
set_option maxRecDepth 100000
set_option maxHeartbeats 8000000
-- impl.worded
def L103 : AFun := ⟨14, [.t 4],
 (.seq (.ops false [⟨(some 2), .box 30 (.t 0), none, []⟩,
   ⟨(some 4), .mv (.k (bv false)), none, []⟩])
 (.seq (.ops false [⟨(some 5), .load true 3 (.t 2), none, []⟩,
   ⟨(some 6), .call (.f 66) [(.t 5)], none, []⟩,
   ⟨(some 7), .mv (.t 6), none, []⟩,
   ⟨(some 8), .mv (.t 1), (some (7, true)), []⟩,
   ⟨(some 9), .fieldA 0 (.t 2), (some (7, true)), []⟩,
   ⟨(some 10), .load false 1 (.t 9), (some (7, true)), []⟩,
   ⟨(some 11), .bin .sub (.t 10) (.k (iv 1)), (some (7, true)), []⟩,
   ⟨(some 12), .call (.f 100) [(.t 8), (.k (iv 1)), (.k (iv 12)), (.k (iv 0)), (.t 11)], (some (7, true)), []⟩,
   ⟨(some 13), .pick (.t 7) (.t 12) (.k (bv false)), none, []⟩,
   ⟨(some 4), .mv (.t 13), none, []⟩])
 .ret))⟩
theorem code103 : acode Try.prog hints 103 = some L103 := by kernel_rfl

-- spec.l03Word
def L108 : AFun := ⟨36, [.t 4],
 (.seq (.ops false [⟨(some 4), .mv (.k (bv false)), none, []⟩])
 (.seq (.seq (.ops false [⟨(some 6), .mv (.t 0), none, []⟩,
    ⟨(some 7), .call (.f 63) [(.t 6)], none, []⟩,
    ⟨(some 8), .un .not (.t 7), none, []⟩,
    ⟨(some 9), .mv (.t 8), none, []⟩,
    ⟨(some 10), .mv (.t 1), (some (9, false)), []⟩,
    ⟨(some 11), .len false (.t 10), (some (9, false)), []⟩,
    ⟨(some 12), .bin .lss (.t 11) (.k (iv 1)), (some (9, false)), []⟩,
    ⟨(some 13), .pick (.t 9) (.k (bv true)) (.t 12), none, []⟩,
    ⟨(some 14), .mv (.t 13), none, []⟩,
    ⟨(some 15), .mv (.t 1), (some (14, false)), []⟩,
    ⟨(some 16), .len false (.t 15), (some (14, false)), []⟩,
    ⟨(some 17), .bin .gtr (.t 16) (.k (iv 12)), (some (14, false)), []⟩,
    ⟨(some 18), .pick (.t 14) (.k (bv true)) (.t 17), none, []⟩])
  (.cond (.t 18) (.seq (.ops false [⟨(some 4), .mv (.k (bv false)), none, []⟩])
   .ret)
   .skip))
 (.seq (.seq (.ops false [⟨(some 19), .mv (.t 1), none, []⟩,
    ⟨(some 20), .len false (.t 19), none, []⟩,
    ⟨(some 21), .mv (.k (iv 0)), none, []⟩])
  (.block 0 (.loop [0, 1, 20, 21] (.seq (.ops false [⟨(some 22), .bin .lss (.t 21) (.t 20), none, []⟩])
    (.seq (.cond (.t 22) .skip
      (.exit 0))
    (.seq (.block 1 (.seq (.ops false [⟨(some 23), .mv (.t 21), none, []⟩,
        ⟨(some 5), .mv (.t 23), none, []⟩])
      (.seq (.ops true [⟨(some 24), .mv (.t 1), none, []⟩,
        ⟨(some 25), .mv (.t 5), none, []⟩,
        ⟨(some 26), .idxA 1 (.t 24) (.t 25), none, []⟩,
        ⟨(some 27), .load false 1 (.t 26), none, []⟩,
        ⟨(some 28), .mv (.t 0), none, []⟩,
        ⟨(some 29), .nilChk (.t 28), none, []⟩,
        ⟨(some 30), .fieldA 0 (.t 29), none, []⟩,
        ⟨(some 31), .load false 1 (.t 30), none, []⟩,
        ⟨(some 32), .bin .sub (.t 31) (.k (iv 1)), none, []⟩,
        ⟨(some 33), .call (.f 60) [(.t 27), (.k (iv 0)), (.t 32)], none, []⟩,
        ⟨(some 34), .un .not (.t 33), none, []⟩])
      (.cond (.t 34) (.seq (.ops false [⟨(some 4), .mv (.k (bv false)), none, []⟩])
       .ret)
       .skip))))
    (.ops false [⟨(some 35), .bin .add (.t 21) (.k (iv 1)), none, []⟩,
     ⟨(some 21), .mv (.t 35), none, []⟩])))))))
 (.seq (.ops false [⟨(some 4), .mv (.k (bv true)), none, []⟩])
 .ret))))⟩
theorem code108 : acode Try.prog hints 108 = some L108 := by kernel_rfl


/-- Whether the first 'k' cells of a word are in a ring from 'i' on. -/
def cwA (ys ws : List Int) (i : Nat) : Nat → Bool
  | 0 => true
  | k + 1 => cwA ys ws i k && decide (ys.getD ((i + k) % ys.length) 0 = ws.getD k 0)
def cwN (ys ws : List Int) : Nat → Nat
  | 0 => 0
  | i + 1 => cwN ys ws i + if cwA ys ws i ws.length = true then 1 else 0
theorem cwN_le {ys ws : List Int} : ∀ i, cwN ys ws i ≤ i
  | 0 => Nat.le_refl 0
  | i + 1 => by have := cwN_le (ys := ys) (ws := ws) i; rw [cwN]; split <;> omega
abbrev cw (ys ws : List Int) : Nat := cwN ys ws ys.length
theorem c_worded {s : St} [Wf s] {st re : Int} {id_xs off_xs len_xs : Nat} {xs : List Int} [h_xs : ArgE ic s id_xs off_xs xs] (hl_xs : xs.length = len_xs := by first | rfl | simp | omega | (simp; omega)) {id_ws off_ws len_ws : Nat} {ws : List Int} [h_ws : ArgE ic s id_ws off_ws ws] (hl_ws : ws.length = len_ws := by first | rfl | simp | omega | (simp; omega)) (hb : len_xs ≤ 2000000 ∧ len_ws ≤ 2000000 := by omega) : FnB 103 [.agg [ic st, ic re, .sl id_xs off_xs len_xs], .c (.sl id_ws off_ws len_ws)] s (VR st re xs ∧ (1 ≤ ws.length ∧ ws.length ≤ 12) ∧ ∀ x ∈ ws, 0 ≤ x ∧ x ≤ st - 1) := by
  refine F_start code103 ?_
  by_cases hv : VR st re xs
  case neg =>
    repeat' (first
 | refine A_go rfl ?_ | refine A_ifT rfl rfl ?_ | refine A_ifF rfl rfl ?_
 | refine A_offP rfl rfl ?_ | refine A_offH rfl rfl ?_ | refine A_off0 rfl rfl ?_
 | refine A_sub rfl rfl rfl (by omega) ?_
 | (refine A_callB rfl rfl (fun s H => c_ValidRule) ?_ ?_ <;> intro hc <;> try first | contradiction | (exfalso; omega) | exact absurd rfl hc | exact absurd (And.intro rfl rfl) hc | exact absurd (And.intro rfl (And.intro rfl rfl)) hc | exact absurd (Eq.trans (by assumption) (Eq.symm (by assumption))) hc)
 | refine A_fld rfl rfl ?_ | refine A_p (by rfl) rfl ?_
 | refine A_ldI rfl (by first | omega | (simp; done) | (simp; omega)) rfl ?_ | refine A_ldB rfl (by first | omega | (simp; done) | (simp; omega)) rfl ?_ | refine A_ld rfl (by rfl) rfl ?_
 | refine A_ldW rfl (by simp) rfl ?_
 | ((first | refine A_box rfl rfl ?_ | refine A_boxC rfl rfl ?_) <;> intro pz hpz)
 | refine A_ret1 rfl (by exact (RP.t rfl RP.nil)) ?_)
    exact R_f fun h => hv h.1
  have := hv.1
  repeat' (first
 | refine A_go rfl ?_ | refine A_ifT rfl rfl ?_ | refine A_ifF rfl rfl ?_
 | refine A_offP rfl rfl ?_ | refine A_offH rfl rfl ?_ | refine A_off0 rfl rfl ?_
 | refine A_sub rfl rfl rfl (by omega) ?_
 | (refine A_callB rfl rfl (fun s H => c_ValidRule) ?_ ?_ <;> intro hc <;> try first | contradiction | (exfalso; omega) | exact absurd rfl hc | exact absurd (And.intro rfl rfl) hc | exact absurd (And.intro rfl (And.intro rfl rfl)) hc | exact absurd (Eq.trans (by assumption) (Eq.symm (by assumption))) hc)
 | (refine A_callB rfl rfl (fun s H => c_areMany (xs := ws)) ?_ ?_ <;> intro hc <;> try first | contradiction | (exfalso; omega) | exact absurd rfl hc | exact absurd (And.intro rfl rfl) hc | exact absurd (And.intro rfl (And.intro rfl rfl)) hc | exact absurd (Eq.trans (by assumption) (Eq.symm (by assumption))) hc)
 | refine A_fld rfl rfl ?_ | refine A_p (by rfl) rfl ?_
 | refine A_ldI rfl (by first | omega | (simp; done) | (simp; omega)) rfl ?_ | refine A_ldB rfl (by first | omega | (simp; done) | (simp; omega)) rfl ?_ | refine A_ld rfl (by rfl) rfl ?_
 | refine A_ldW rfl (by simp) rfl ?_
 | ((first | refine A_box rfl rfl ?_ | refine A_boxC rfl rfl ?_) <;> intro pz hpz)
 | refine A_ret1 rfl (by exact (RP.t rfl RP.nil)) ?_)
  · exact R_t ⟨hv, by omega, hc.2⟩
  · exact R_f fun h => hc ⟨by have := h.2.1; omega, h.2.2⟩
theorem c_l03Word {s : St} [Wf s] {q : Nat} {st re : Int} {id_xs off_xs len_xs : Nat} {xs : List Int} [hq : Ref s q [ic st, ic re, .sl id_xs off_xs len_xs]] [h_xs : ArgE ic s id_xs off_xs xs] (hl_xs : xs.length = len_xs := by first | rfl | simp | omega) {id_ws off_ws len_ws : Nat} {ws : List Int} [h_ws : ArgE ic s id_ws off_ws ws] (hl_ws : ws.length = len_ws := by first | rfl | simp | omega | (simp; omega)) (hb : len_xs ≤ 2000000 ∧ len_ws ≤ 2000000 := by omega) : FnB 108 [.c (.ptr q 0), .c (.sl id_ws off_ws len_ws)] s (VR st re xs ∧ (1 ≤ ws.length ∧ ws.length ≤ 12) ∧ ∀ x ∈ ws, 0 ≤ x ∧ x ≤ st - 1) := by
  refine F_start code108 ?_
  by_cases hv : VR st re xs
  case neg =>
    repeat' (first
 | refine A_go rfl ?_ | refine A_ifT rfl rfl ?_ | refine A_ifF rfl rfl ?_
 | refine A_offP rfl rfl ?_ | refine A_offH rfl rfl ?_ | refine A_off0 rfl rfl ?_
 | refine A_add rfl rfl rfl (by omega) ?_ | refine A_sub rfl rfl rfl (by omega) ?_
 | ((first | refine A_lt rfl rfl rfl ?_ ?_ | refine A_gt rfl rfl rfl ?_ ?_) <;> intro hc <;> try first | contradiction | (exfalso; omega) | exact absurd rfl hc)
 | refine A_idxN1 rfl rfl rfl (by omega) ?_ | refine A_idx1 rfl rfl rfl (by omega) ?_
 | (refine A_callB rfl rfl (fun s H => c_l02Is) ?_ ?_ <;> intro hc <;> try first | contradiction | (exfalso; omega) | exact absurd rfl hc | exact absurd (And.intro rfl rfl) hc | exact absurd (And.intro rfl (And.intro rfl rfl)) hc | exact absurd (Eq.trans (by assumption) (Eq.symm (by assumption))) hc)
 | refine A_fld rfl rfl ?_ | refine A_p (by rfl) rfl ?_
 | refine A_ldI rfl (by first | omega | (simp; done) | (simp; omega)) rfl ?_ | refine A_ldB rfl (by first | omega | (simp; done) | (simp; omega)) rfl ?_ | refine A_ld rfl (by rfl) rfl ?_
 | refine A_ret1 rfl (by exact (RP.t rfl RP.nil)) ?_)
    exact R_f fun h => hv h.1
  have := hv.1
  by_cases hl : 1 ≤ len_ws ∧ len_ws ≤ 12
  case neg =>
    repeat' (first
 | refine A_go rfl ?_ | refine A_ifT rfl rfl ?_ | refine A_ifF rfl rfl ?_
 | refine A_offP rfl rfl ?_ | refine A_offH rfl rfl ?_ | refine A_off0 rfl rfl ?_
 | refine A_add rfl rfl rfl (by omega) ?_ | refine A_sub rfl rfl rfl (by omega) ?_
 | ((first | refine A_lt rfl rfl rfl ?_ ?_ | refine A_gt rfl rfl rfl ?_ ?_) <;> intro hc <;> try first | contradiction | (exfalso; omega) | exact absurd rfl hc)
 | refine A_idxN1 rfl rfl rfl (by omega) ?_ | refine A_idx1 rfl rfl rfl (by omega) ?_
 | (refine A_callB rfl rfl (fun s H => c_l02Is) ?_ ?_ <;> intro hc <;> try first | contradiction | (exfalso; omega) | exact absurd rfl hc | exact absurd (And.intro rfl rfl) hc | exact absurd (And.intro rfl (And.intro rfl rfl)) hc | exact absurd (Eq.trans (by assumption) (Eq.symm (by assumption))) hc)
 | refine A_fld rfl rfl ?_ | refine A_p (by rfl) rfl ?_
 | refine A_ldI rfl (by first | omega | (simp; done) | (simp; omega)) rfl ?_ | refine A_ldB rfl (by first | omega | (simp; done) | (simp; omega)) rfl ?_ | refine A_ld rfl (by rfl) rfl ?_
 | refine A_ret1 rfl (by exact (RP.t rfl RP.nil)) ?_)
    all_goals exact R_f fun h => by have := h.2.1; omega
  repeat' (first
 | refine A_go rfl ?_ | refine A_ifT rfl rfl ?_ | refine A_ifF rfl rfl ?_
 | refine A_offP rfl rfl ?_ | refine A_offH rfl rfl ?_ | refine A_off0 rfl rfl ?_
 | refine A_add rfl rfl rfl (by omega) ?_ | refine A_sub rfl rfl rfl (by omega) ?_
 | ((first | refine A_lt rfl rfl rfl ?_ ?_ | refine A_gt rfl rfl rfl ?_ ?_) <;> intro hc <;> try first | contradiction | (exfalso; omega) | exact absurd rfl hc)
 | refine A_idxN1 rfl rfl rfl (by omega) ?_ | refine A_idx1 rfl rfl rfl (by omega) ?_
 | (refine A_callB rfl rfl (fun s H => c_l02Is) ?_ ?_ <;> intro hc <;> try first | contradiction | (exfalso; omega) | exact absurd rfl hc | exact absurd (And.intro rfl rfl) hc | exact absurd (And.intro rfl (And.intro rfl rfl)) hc | exact absurd (Eq.trans (by assumption) (Eq.symm (by assumption))) hc)
 | refine A_fld rfl rfl ?_ | refine A_p (by rfl) rfl ?_
 | refine A_ldI rfl (by first | omega | (simp; done) | (simp; omega)) rfl ?_ | refine A_ldB rfl (by first | omega | (simp; done) | (simp; omega)) rfl ?_ | refine A_ld rfl (by rfl) rfl ?_
 | refine A_ret1 rfl (by exact (RP.t rfl RP.nil)) ?_)
  refine A_loop rfl [] (fun m fr L => ∃ i : Nat, m = len_ws - i ∧ fr = [(0, .c (.ptr q 0)), (1, .c (.sl id_ws off_ws len_ws)), (20, iv len_ws), (21, iv i)] ∧ L = [] ∧ i ≤ len_ws ∧ ∀ x ∈ ws.take i, 0 ≤ x ∧ x ≤ st - 1) len_ws ⟨0, rfl, rfl, rfl, by omega, by simp⟩ ?_
  rintro m fr L ⟨i, rfl, rfl, rfl, hi, ht⟩
  repeat' (first
 | refine A_go rfl ?_ | refine A_ifT rfl rfl ?_ | refine A_ifF rfl rfl ?_
 | refine A_offP rfl rfl ?_ | refine A_offH rfl rfl ?_ | refine A_off0 rfl rfl ?_
 | refine A_add rfl rfl rfl (by omega) ?_ | refine A_sub rfl rfl rfl (by omega) ?_
 | ((first | refine A_lt rfl rfl rfl ?_ ?_ | refine A_gt rfl rfl rfl ?_ ?_) <;> intro hc <;> try first | contradiction | (exfalso; omega) | exact absurd rfl hc)
 | refine A_idxN1 rfl rfl rfl (by omega) ?_ | refine A_idx1 rfl rfl rfl (by omega) ?_
 | (refine A_callB rfl rfl (fun s H => c_l00In) ?_ ?_ <;> intro hc <;> try first | contradiction | (exfalso; omega) | exact absurd rfl hc | exact absurd (And.intro rfl rfl) hc | exact absurd (And.intro rfl (And.intro rfl rfl)) hc | exact absurd (Eq.trans (by assumption) (Eq.symm (by assumption))) hc)
 | refine A_fld rfl rfl ?_ | refine A_p (by rfl) rfl ?_
 | refine A_ldI rfl (by first | omega | (simp; done) | (simp; omega)) rfl ?_ | refine A_ldB rfl (by first | omega | (simp; done) | (simp; omega)) rfl ?_ | refine A_ld rfl (by rfl) rfl ?_
 | refine A_ret1 rfl (by exact (RP.t rfl RP.nil)) ?_)
  · refine A_round rfl [] (len_ws - (i + 1)) (by omega) ?_
    exact ⟨i + 1, rfl, rfl, rfl, by omega, all_succ ht (by omega) (by assumption)⟩
  · exact R_f fun h => by have := h.2.2 _ (getD_mem (d := 0) (by omega : i < ws.length)); contradiction
  · exact R_t ⟨hv, by omega, all_end ht (by omega)⟩
theorem A_max {B : List Nat} {b : St} {L : Objs} {l : List AStep} {hist : List Objs} {fr : Frm} {k : KK} {d : Nat} {chk : List Nat} {g : Option (Nat × Bool)} {x y : Opd} {a c : Int} (hx : ev fr x = some (iv a)) (hy : ev fr y = some (iv c)) (hg : gon fr g = some true) (h : At B b L l hist ((d, iv (max a c)) :: fr) k) : At B b L (⟨some d, .minmax true x y, g, chk⟩ :: l) hist fr k :=
  A_p (by
    have e : (if c > a then c else a) = max a c := by rw [Int.max_def]; split <;> split <;> omega
    simp only [evP, hx, hy, Option.bind_some, minmaxV, if_true, e]) hg h
/-- What the question is asked of. -/
def KcP (st re : Int) (xs ws : List Int) (n : Int) : Prop := SmallP st re xs n 10 6 ∧ ((1 ≤ ws.length ∧ ws.length ≤ 3) ∧ ∀ x ∈ ws, 0 ≤ x ∧ x ≤ st - 1) ∧ (ws.length : Int) ≤ n
def Kc (st re : Int) (xs ws : List Int) (n : Int) : Prop := ∀ i, i < st.toNat ^ n.toNat → cw (dg st.toNat i n.toNat) ws = cw (stepR st re xs (dg st.toNat i n.toNat)) ws
end Go.Proofs.Ytafdjnhlhepibaa
