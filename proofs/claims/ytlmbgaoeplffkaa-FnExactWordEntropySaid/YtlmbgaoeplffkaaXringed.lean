/- Which rings a rule takes. -/
import Derived.Test.YtlmbgaoeplffkaaXring
import Derived.Test.YtlmbgaoeplffkaaXclone
import Derived.Test.YtlmbgaoeplffkaaXrows
import Derived.Test.YtlmbgaoeplffkaaFB
namespace Go.Proofs.Ytlmbgaoeplffkaa
open Go Go.RowKit
set_option linter.unusedVariables false
set_option linter.unusedSimpArgs false
set_option maxRecDepth 100000
set_option maxHeartbeats 8000000
-- impl.IsRing
def L81 : AFun := ⟨13, [.t 4],
 (.seq (.ops false [⟨(some 4), .mv (.k (bv false)), none, []⟩])
 (.seq (.ops false [⟨(some 5), .mv (.t 1), none, []⟩,
   ⟨(some 6), .call (.f 65) [(.t 5)], none, []⟩,
   ⟨(some 7), .mv (.t 6), none, []⟩,
   ⟨(some 8), .mv (.t 0), (some (7, true)), []⟩,
   ⟨(some 9), .mv (.t 1), (some (7, true)), []⟩,
   ⟨(some 10), .bin .sub (.t 9) (.k (iv 1)), (some (7, true)), []⟩,
   ⟨(some 11), .call (.f 68) [(.t 8), (.k (iv 1)), (.k (iv 64)), (.k (iv 0)), (.t 10)], (some (7, true)), []⟩,
   ⟨(some 12), .pick (.t 7) (.t 11) (.k (bv false)), none, []⟩,
   ⟨(some 4), .mv (.t 12), none, []⟩])
 .ret))⟩
theorem code81 : acode Try.prog hints 81 = some L81 := by kernel_rfl

-- spec.l02Ring
def L69 : AFun := ⟨28, [.t 4],
 (.seq (.ops false [⟨(some 4), .mv (.k (bv false)), none, []⟩])
 (.seq (.seq (.ops false [⟨(some 5), .mv (.k (iv 0)), none, []⟩])
  (.block 0 (.loop [0, 1, 5] (.seq (.seq (.ops false [⟨(some 6), .mv (.t 5), none, []⟩,
       ⟨(some 7), .mv (.t 0), none, []⟩,
       ⟨(some 8), .len false (.t 7), none, []⟩,
       ⟨(some 9), .bin .lss (.t 6) (.t 8), none, []⟩])
     (.cond (.t 9) .skip
      (.exit 0)))
    (.seq (.block 1 (.seq (.ops false [⟨(some 12), .mv (.t 0), none, []⟩,
        ⟨(some 13), .mv (.t 5), none, []⟩,
        ⟨(some 14), .idxA 1 (.t 12) (.t 13), none, []⟩,
        ⟨(some 15), .load false 1 (.t 14), none, []⟩,
        ⟨(some 16), .mv (.t 1), none, []⟩,
        ⟨(some 17), .bin .sub (.t 16) (.k (iv 1)), none, []⟩,
        ⟨(some 18), .call (.f 48) [(.t 15), (.k (iv 0)), (.t 17)], none, []⟩,
        ⟨(some 19), .un .not (.t 18), none, []⟩])
      (.cond (.t 19) (.seq (.ops false [⟨(some 4), .mv (.k (bv false)), none, []⟩])
       .ret)
       .skip)))
    (.ops false [⟨(some 10), .mv (.t 5), none, []⟩,
     ⟨(some 11), .bin .add (.t 10) (.k (iv 1)), none, []⟩,
     ⟨(some 5), .mv (.t 11), none, []⟩]))))))
 (.seq (.ops false [⟨(some 20), .mv (.t 0), none, []⟩,
   ⟨(some 21), .len false (.t 20), none, []⟩,
   ⟨(some 22), .bin .geq (.t 21) (.k (iv 1)), none, []⟩,
   ⟨(some 23), .mv (.t 22), none, []⟩,
   ⟨(some 24), .mv (.t 0), (some (23, true)), []⟩,
   ⟨(some 25), .len false (.t 24), (some (23, true)), []⟩,
   ⟨(some 26), .bin .leq (.t 25) (.k (iv 64)), (some (23, true)), []⟩,
   ⟨(some 27), .pick (.t 23) (.t 26) (.k (bv false)), none, []⟩,
   ⟨(some 4), .mv (.t 27), none, []⟩])
 .ret)))⟩
theorem code69 : acode Try.prog hints 69 = some L69 := by kernel_rfl

-- spec.l02Can
def L41 : AFun := ⟨15, [.t 4],
 (.seq (.ops false [⟨(some 4), .mv (.k (bv false)), none, []⟩])
 (.seq (.ops false [⟨(some 5), .mv (.t 0), none, []⟩,
   ⟨(some 6), .call (.f 47) [(.t 5)], none, []⟩,
   ⟨(some 7), .mv (.t 6), none, []⟩,
   ⟨(some 8), .mv (.t 1), (some (7, true)), []⟩,
   ⟨(some 9), .mv (.t 0), (some (7, true)), []⟩,
   ⟨(some 10), .nilChk (.t 9), (some (7, true)), []⟩,
   ⟨(some 11), .fieldA 0 (.t 10), (some (7, true)), []⟩,
   ⟨(some 12), .load false 1 (.t 11), (some (7, true)), []⟩,
   ⟨(some 13), .call (.f 69) [(.t 8), (.t 12)], (some (7, true)), []⟩,
   ⟨(some 14), .pick (.t 7) (.t 13) (.k (bv false)), none, []⟩,
   ⟨(some 4), .mv (.t 14), none, []⟩])
 .ret))⟩
theorem code41 : acode Try.prog hints 41 = some L41 := by kernel_rfl

-- impl.ringed
def L60 : AFun := ⟨13, [.t 4],
 (.seq (.ops false [⟨(some 2), .box 27 (.t 0), none, []⟩,
   ⟨(some 3), .box 32 (.t 1), none, []⟩,
   ⟨(some 4), .mv (.k (bv false)), none, []⟩])
 (.seq (.ops false [⟨(some 5), .load true 3 (.t 2), none, []⟩,
   ⟨(some 6), .call (.f 39) [(.t 5)], none, []⟩,
   ⟨(some 7), .mv (.t 6), none, []⟩,
   ⟨(some 8), .load false 1 (.t 3), (some (7, true)), []⟩,
   ⟨(some 9), .mkFn 87 [(.t 2), (.t 3)], (some (7, true)), []⟩,
   ⟨(some 10), .call (.f 86) [(.t 8), (.t 9)], (some (7, true)), []⟩,
   ⟨(some 11), .un .not (.t 10), (some (7, true)), []⟩,
   ⟨(some 12), .pick (.t 7) (.t 11) (.k (bv false)), none, []⟩,
   ⟨(some 4), .mv (.t 12), none, []⟩])
 .ret))⟩
theorem code60 : acode Try.prog hints 60 = some L60 := by kernel_rfl

-- impl.ringed$1
def L87 : AFun := ⟨19, [.t 4],
 (.seq (.ops false [⟨(some 4), .mv (.k (bv false)), none, []⟩])
 (.seq (.ops false [⟨(some 5), .mv (.t 0), none, []⟩,
   ⟨(some 6), .fieldA 0 (.t 1), none, []⟩,
   ⟨(some 7), .load false 1 (.t 6), none, []⟩,
   ⟨(some 8), .call (.f 81) [(.t 5), (.t 7)], none, []⟩,
   ⟨(some 9), .un .not (.t 8), none, []⟩,
   ⟨(some 10), .mv (.t 9), none, []⟩,
   ⟨(some 11), .mv (.t 0), (some (10, false)), []⟩,
   ⟨(some 12), .len false (.t 11), (some (10, false)), []⟩,
   ⟨(some 13), .load false 1 (.t 2), (some (10, false)), []⟩,
   ⟨(some 14), .idxA 1 (.t 13) (.k (iv 0)), (some (10, false)), []⟩,
   ⟨(some 15), .load false 1 (.t 14), (some (10, false)), []⟩,
   ⟨(some 16), .len false (.t 15), (some (10, false)), []⟩,
   ⟨(some 17), .bin .neq (.t 12) (.t 16), (some (10, false)), []⟩,
   ⟨(some 18), .pick (.t 10) (.k (bv true)) (.t 17), none, []⟩,
   ⟨(some 4), .mv (.t 18), none, []⟩])
 .ret))⟩
theorem code87 : acode Try.prog hints 87 = some L87 := by kernel_rfl


theorem c_IsRing {s : St} [Wf s] {id_xs off_xs len_xs : Nat} {xs : List Int} [h_xs : ArgE ic s id_xs off_xs xs] (hl_xs : xs.length = len_xs := by first | rfl | simp | omega | (simp; omega)) {st : Int} (hb : len_xs ≤ 2000000 := by omega) (hs : -9223372036854775000 ≤ st ∧ st ≤ 9223372036854775807 := by omega) : FnB 81 [.c (.sl id_xs off_xs len_xs), iv st] s ((2 ≤ st ∧ st ≤ 3) ∧ RG st xs) := by
  refine F_start code81 ?_
  repeat' (first
 | refine A_go rfl ?_ | refine A_ifT rfl rfl ?_ | refine A_ifF rfl rfl ?_
 | refine A_offP rfl rfl ?_ | refine A_offH rfl rfl ?_ | refine A_off0 rfl rfl ?_
 | refine A_sub rfl rfl rfl (by omega) ?_
 | (refine A_callB rfl rfl (fun s H => c_areStates) ?_ ?_ <;> intro hc <;> try first | contradiction | (exfalso; omega) | exact absurd rfl hc | exact absurd (And.intro rfl rfl) hc | exact absurd (And.intro rfl (And.intro rfl rfl)) hc | exact absurd (Eq.trans (by assumption) (Eq.symm (by assumption))) hc)
 | (refine A_callB rfl rfl (fun s H => c_areMany) ?_ ?_ <;> intro hc <;> try first | contradiction | (exfalso; omega) | exact absurd rfl hc | exact absurd (And.intro rfl rfl) hc | exact absurd (And.intro rfl (And.intro rfl rfl)) hc | exact absurd (Eq.trans (by assumption) (Eq.symm (by assumption))) hc)
 | refine A_p (by rfl) rfl ?_
 | refine A_ret1 rfl (by exact (RP.t rfl RP.nil)) ?_)
  · exact R_t ⟨by assumption, ⟨by omega, by omega⟩, hc.2⟩
  · exact R_f fun h => hc ⟨by have := h.2.1; omega, h.2.2⟩
  · exact R_f fun h => hc h.1
theorem c_l02Ring {s : St} [Wf s] {id_xs off_xs len_xs : Nat} {xs : List Int} [h_xs : ArgE ic s id_xs off_xs xs] (hl_xs : xs.length = len_xs := by first | rfl | simp | omega | (simp; omega)) {st : Int} (hb : len_xs ≤ 2000000 := by omega) (hs : -9223372036854775000 ≤ st ∧ st ≤ 9223372036854775807 := by omega) : FnB 69 [.c (.sl id_xs off_xs len_xs), iv st] s (RG st xs) := by
  refine F_start code69 ?_
  repeat' (first
 | refine A_go rfl ?_ | refine A_ifT rfl rfl ?_ | refine A_ifF rfl rfl ?_
 | refine A_offP rfl rfl ?_ | refine A_offH rfl rfl ?_ | refine A_off0 rfl rfl ?_
 | refine A_add rfl rfl rfl (by omega) ?_ | refine A_sub rfl rfl rfl (by omega) ?_
 | ((first | refine A_lt rfl rfl rfl ?_ ?_ | refine A_le rfl rfl rfl ?_ ?_ | refine A_ge rfl rfl rfl ?_ ?_) <;> intro hc <;> try first | contradiction | (exfalso; omega) | exact absurd rfl hc)
 | refine A_idxN1 rfl rfl rfl (by omega) ?_ | refine A_idx1 rfl rfl rfl (by omega) ?_
 | refine A_p (by rfl) rfl ?_
 | refine A_ldI rfl (by first | omega | (simp; done) | (simp; omega)) rfl ?_ | refine A_ldB rfl (by first | omega | (simp; done) | (simp; omega)) rfl ?_ | refine A_ld rfl (by rfl) rfl ?_
 | refine A_ret1 rfl (by exact (RP.t rfl RP.nil)) ?_)
  refine A_loop rfl [] (fun m fr L => ∃ i : Nat, m = len_xs - i ∧ fr = [(0, .c (.sl id_xs off_xs len_xs)), (1, iv st), (5, iv i)] ∧ L = [] ∧ i ≤ len_xs ∧ ∀ x ∈ xs.take i, 0 ≤ x ∧ x ≤ st - 1) len_xs ⟨0, rfl, rfl, rfl, by omega, by simp⟩ ?_
  rintro m fr L ⟨i, rfl, rfl, rfl, hi, ht⟩
  repeat' (first
 | refine A_go rfl ?_ | refine A_ifT rfl rfl ?_ | refine A_ifF rfl rfl ?_
 | refine A_offP rfl rfl ?_ | refine A_offH rfl rfl ?_ | refine A_off0 rfl rfl ?_
 | refine A_add rfl rfl rfl (by omega) ?_ | refine A_sub rfl rfl rfl (by omega) ?_
 | ((first | refine A_lt rfl rfl rfl ?_ ?_ | refine A_le rfl rfl rfl ?_ ?_ | refine A_ge rfl rfl rfl ?_ ?_) <;> intro hc <;> try first | contradiction | (exfalso; omega) | exact absurd rfl hc)
 | refine A_idxN1 rfl rfl rfl (by omega) ?_ | refine A_idx1 rfl rfl rfl (by omega) ?_
 | (refine A_callB rfl rfl (fun s H => c_l00In) ?_ ?_ <;> intro hc <;> try first | contradiction | (exfalso; omega) | exact absurd rfl hc | exact absurd (And.intro rfl rfl) hc | exact absurd (And.intro rfl (And.intro rfl rfl)) hc | exact absurd (Eq.trans (by assumption) (Eq.symm (by assumption))) hc)
 | refine A_p (by rfl) rfl ?_
 | refine A_ldI rfl (by first | omega | (simp; done) | (simp; omega)) rfl ?_ | refine A_ldB rfl (by first | omega | (simp; done) | (simp; omega)) rfl ?_ | refine A_ld rfl (by rfl) rfl ?_
 | refine A_ret1 rfl (by exact (RP.t rfl RP.nil)) ?_)
  · refine A_round rfl [] (len_xs - (i + 1)) (by omega) ?_
    exact ⟨i + 1, rfl, rfl, rfl, by omega, all_succ ht (by omega) (by assumption)⟩
  · exact R_f fun h => by have := h.2 _ (getD_mem (d := 0) (by omega : i < xs.length)); contradiction
  · exact R_t ⟨by omega, all_end ht (by omega)⟩
  all_goals exact R_f fun h => by have := h.1; omega
theorem c_l02Can {s : St} [Wf s] {q : Nat} {st re : Int} {id_xs off_xs len_xs : Nat} {xs : List Int} [hq : Ref s q [ic st, ic re, .sl id_xs off_xs len_xs]] [h_xs : ArgE ic s id_xs off_xs xs] {id_ys off_ys len_ys : Nat} {ys : List Int} [h_ys : ArgE ic s id_ys off_ys ys] (hl_xs : xs.length = len_xs := by first | rfl | simp | omega) (hl_ys : ys.length = len_ys := by first | rfl | simp | omega) (hb : len_xs ≤ 2000000 ∧ len_ys ≤ 2000000 := by omega) :
    FnB 41 [.c (.ptr q 0), .c (.sl id_ys off_ys len_ys)] s (VR st re xs ∧ RG st ys) := by
  refine F_start code41 ?_
  by_cases hv : VR st re xs
  case neg =>
    repeat' (first
 | refine A_go rfl ?_ | refine A_ifT rfl rfl ?_ | refine A_ifF rfl rfl ?_
 | refine A_offP rfl rfl ?_ | refine A_offH rfl rfl ?_ | refine A_off0 rfl rfl ?_
 | (refine A_callB rfl rfl (fun s H => c_l02Is) ?_ ?_ <;> intro hc <;> try first | contradiction | (exfalso; omega) | exact absurd rfl hc | exact absurd (And.intro rfl rfl) hc | exact absurd (And.intro rfl (And.intro rfl rfl)) hc | exact absurd (Eq.trans (by assumption) (Eq.symm (by assumption))) hc)
 | refine A_fld rfl rfl ?_ | refine A_p (by rfl) rfl ?_
 | refine A_ldI rfl (by first | omega | (simp; done) | (simp; omega)) rfl ?_ | refine A_ldB rfl (by first | omega | (simp; done) | (simp; omega)) rfl ?_ | refine A_ld rfl (by rfl) rfl ?_
 | refine A_ret1 rfl (by exact (RP.t rfl RP.nil)) ?_)
    exact R_f fun h => hv h.1
  have := hv.1
  repeat' (first
 | refine A_go rfl ?_ | refine A_ifT rfl rfl ?_ | refine A_ifF rfl rfl ?_
 | refine A_offP rfl rfl ?_ | refine A_offH rfl rfl ?_ | refine A_off0 rfl rfl ?_
 | (refine A_callB rfl rfl (fun s H => c_l02Is) ?_ ?_ <;> intro hc <;> try first | contradiction | (exfalso; omega) | exact absurd rfl hc | exact absurd (And.intro rfl rfl) hc | exact absurd (And.intro rfl (And.intro rfl rfl)) hc | exact absurd (Eq.trans (by assumption) (Eq.symm (by assumption))) hc)
 | (refine A_callB rfl rfl (fun s H => c_l02Ring) ?_ ?_ <;> intro hc <;> try first | contradiction | (exfalso; omega) | exact absurd rfl hc | exact absurd (And.intro rfl rfl) hc | exact absurd (And.intro rfl (And.intro rfl rfl)) hc | exact absurd (Eq.trans (by assumption) (Eq.symm (by assumption))) hc)
 | refine A_fld rfl rfl ?_ | refine A_p (by rfl) rfl ?_
 | refine A_ldI rfl (by first | omega | (simp; done) | (simp; omega)) rfl ?_ | refine A_ldB rfl (by first | omega | (simp; done) | (simp; omega)) rfl ?_ | refine A_ld rfl (by rfl) rfl ?_
 | refine A_ret1 rfl (by exact (RP.t rfl RP.nil)) ?_)
  · exact R_t ⟨hv, hc⟩
  · exact R_f fun h => hc h.2
theorem c_ringedEach {s : St} [Wf s] {q q3 id3 off3 n3 : Nat} {st re : Int} {v : AC} {zs : List Row} [hq : Ref s q [ic st, ic re, v]] [hq3 : Ref s q3 [.sl id3 off3 n3]] [h3 : ArgE rc s id3 off3 zs] (z : Row) (hz : ArgE ic s z.id z.off z.xs ∧ z.xs.length = z.len ∧ z.len ≤ 2000000) (hn : zs.length = n3) (h0 : 0 < n3) (hs : 2 ≤ st ∧ st ≤ 3) :
    FnB 87 [.c (rc z), .c (.ptr q 0), .c (.ptr q3 0)] s (¬ RG st z.xs ∨ z.len ≠ (zs.getD 0 Row.nil).len) := by
  obtain ⟨hz, hzl, hb⟩ := hz
  refine F_start code87 ?_
  repeat' (first
 | refine A_go rfl ?_ | refine A_ifT rfl rfl ?_ | refine A_ifF rfl rfl ?_
 | refine A_offP rfl rfl ?_ | refine A_offH rfl rfl ?_ | refine A_off0 rfl rfl ?_
 | ((first | refine A_ne rfl rfl rfl ?_ ?_) <;> intro hc <;> try first | contradiction | (exfalso; omega) | exact absurd rfl hc)
 | refine A_idxN1 rfl rfl rfl (by omega) ?_ | refine A_idx1 rfl rfl rfl (by omega) ?_
 | (refine A_callB rfl rfl (fun s H => c_IsRing (xs := z.xs)) ?_ ?_ <;> intro hc <;> try first | contradiction | (exfalso; omega) | exact absurd rfl hc | exact absurd (And.intro rfl rfl) hc | exact absurd (And.intro rfl (And.intro rfl rfl)) hc | exact absurd (Eq.trans (by assumption) (Eq.symm (by assumption))) hc)
 | refine A_ldR rfl (by first | omega | simp [hn, h0]) rfl ?_
 | refine A_fld rfl rfl ?_ | refine A_p (by rfl) rfl ?_
 | refine A_ldI rfl (by first | omega | (simp; done) | (simp; omega)) rfl ?_ | refine A_ldB rfl (by first | omega | (simp; done) | (simp; omega)) rfl ?_ | refine A_ld rfl (by rfl) rfl ?_
 | refine A_ret1 rfl (by exact (RP.t rfl RP.nil)) ?_)
  · exact R_t (.inr fun e => hc (by rw [e]))
  · rename_i h1
    exact R_f fun h => h.elim (fun h => h h1.2) (fun h => h (by have : ((z.len : Nat) : Int) = ((zs.getD 0 Row.nil).len : Nat) := hc; omega))
  · exact R_t (.inl fun h => hc ⟨hs, h⟩)
theorem c_ringed {s : St} [Wf s] {st re : Int} {id_xs off_xs len_xs : Nat} {xs : List Int} [h_xs : ArgE ic s id_xs off_xs xs] (hl_xs : xs.length = len_xs := by first | rfl | simp | omega | (simp; omega)) {idr offr lenr : Nat} {zs : List Row} [hr : ArgE rc s idr offr zs] (hlr : zs.length = lenr) (h0 : 0 < lenr) (hz : ∀ z ∈ zs, ArgE ic s z.id z.off z.xs ∧ z.xs.length = z.len ∧ z.len ≤ 2000000) (hb : len_xs ≤ 2000000 ∧ lenr ≤ 2000000) :
    FnB 60 [.agg [ic st, ic re, .sl id_xs off_xs len_xs], .c (.sl idr offr lenr)] s (VR st re xs ∧ ∀ z ∈ zs, RG st z.xs ∧ z.len = (zs.getD 0 Row.nil).len) := by
  refine F_start code60 ?_
  by_cases hv : VR st re xs
  case neg =>
    repeat' (first
 | refine A_go rfl ?_ | refine A_ifT rfl rfl ?_ | refine A_ifF rfl rfl ?_
 | refine A_offP rfl rfl ?_ | refine A_offH rfl rfl ?_ | refine A_off0 rfl rfl ?_
 | (refine A_callB rfl rfl (fun s H => c_ValidRule) ?_ ?_ <;> intro hc <;> try first | contradiction | (exfalso; omega) | exact absurd rfl hc | exact absurd (And.intro rfl rfl) hc | exact absurd (And.intro rfl (And.intro rfl rfl)) hc | exact absurd (Eq.trans (by assumption) (Eq.symm (by assumption))) hc)
 | refine A_p (by rfl) rfl ?_
 | refine A_ldI rfl (by first | omega | (simp; done) | (simp; omega)) rfl ?_ | refine A_ldB rfl (by first | omega | (simp; done) | (simp; omega)) rfl ?_ | refine A_ld rfl (by rfl) rfl ?_
 | refine A_ldW rfl (by simp) rfl ?_
 | ((first | refine A_box rfl rfl ?_ | refine A_boxC rfl rfl ?_) <;> intro pz hpz)
 | refine A_ret1 rfl (by exact (RP.t rfl RP.nil)) ?_)
    exact R_f fun h => hv h.1
  have hz' : ∀ s1 L1, Own [] s s1 L1 → ∀ z ∈ zs, ArgE ic s1 z.id z.off z.xs ∧ z.xs.length = z.len ∧ z.len ≤ 2000000 := fun s1 L1 K z hm => by
    obtain ⟨g1, g2, g3⟩ := hz z hm
    exact ⟨inferInstance, g2, g3⟩
  repeat' (first
 | refine A_go rfl ?_ | refine A_ifT rfl rfl ?_ | refine A_ifF rfl rfl ?_
 | refine A_offP rfl rfl ?_ | refine A_offH rfl rfl ?_ | refine A_off0 rfl rfl ?_
 | (refine A_callB rfl rfl (fun s H => c_ValidRule) ?_ ?_ <;> intro hc <;> try first | contradiction | (exfalso; omega) | exact absurd rfl hc | exact absurd (And.intro rfl rfl) hc | exact absurd (And.intro rfl (And.intro rfl rfl)) hc | exact absurd (Eq.trans (by assumption) (Eq.symm (by assumption))) hc)
 | (refine A_callB rfl rfl (fun s H => c_containsRows hlr (fun z => ¬ RG st z.xs ∨ z.len ≠ (zs.getD 0 Row.nil).len) (fun s1 L1 K z hm => c_ringedEach (v := .sl id_xs off_xs len_xs) (zs := zs) z (hz' s1 _ (H.call K) z hm) hlr h0 hv.1) (by omega)) ?_ ?_ <;> intro hc)
 | refine A_p (by rfl) rfl ?_
 | refine A_ldI rfl (by first | omega | (simp; done) | (simp; omega)) rfl ?_ | refine A_ldB rfl (by first | omega | (simp; done) | (simp; omega)) rfl ?_ | refine A_ld rfl (by rfl) rfl ?_
 | refine A_ldW rfl (by simp) rfl ?_
 | ((first | refine A_box rfl rfl ?_ | refine A_boxC rfl rfl ?_) <;> intro pz hpz)
 | refine A_ret1 rfl (by exact (RP.t rfl RP.nil)) ?_)
  · obtain ⟨z, h1, h2⟩ := hc
    exact R_f fun h => h2.elim (fun h3 => h3 (h.2 z h1).1) (fun h3 => h3 (h.2 z h1).2)
  · exact R_t ⟨hv, fun z hm => by
      constructor
      · exact Classical.byContradiction fun h => hc ⟨z, hm, .inl h⟩
      · exact Classical.byContradiction fun h => hc ⟨z, hm, .inr h⟩⟩
theorem c_ringed1 {s : St} [Wf s] {st re : Int} {id_xs off_xs len_xs : Nat} {xs : List Int} [h_xs : ArgE ic s id_xs off_xs xs] (hl_xs : xs.length = len_xs := by first | rfl | simp | omega | (simp; omega)) {idr id off len : Nat} {ys : List Int} [hr : ArgE rc s idr 0 [⟨id, off, len, ys⟩]] [hy : ArgE ic s id off ys] (hl : ys.length = len := by first | rfl | simp | omega) (hb : len_xs ≤ 2000000 ∧ len ≤ 2000000 := by omega) :
    FnB 60 [.agg [ic st, ic re, .sl id_xs off_xs len_xs], .c (.sl idr 0 1)] s (VR st re xs ∧ RG st ys) := by
  have := c_ringed (s := s) (st := st) (re := re) (xs := xs) (id_xs := id_xs) (off_xs := off_xs) (len_xs := len_xs) (idr := idr) (offr := 0) (lenr := 1) (zs := [⟨id, off, len, ys⟩]) (hlr := rfl) (h0 := by omega) (hz := by intro z hz; obtain rfl := List.mem_singleton.1 hz; exact ⟨hy, hl, hb.2⟩) (hb := by omega)
  have e : (VR st re xs ∧ ∀ z ∈ [(⟨id, off, len, ys⟩ : Row)], RG st z.xs ∧ z.len = (([⟨id, off, len, ys⟩] : List Row).getD 0 Row.nil).len) = (VR st re xs ∧ RG st ys) := by simp
  rw [e] at this; exact this
theorem c_ringed2 {s : St} [Wf s] {st re : Int} {id_xs off_xs len_xs : Nat} {xs : List Int} [h_xs : ArgE ic s id_xs off_xs xs] (hl_xs : xs.length = len_xs := by first | rfl | simp | omega | (simp; omega)) {idr id off len id2 off2 len2 : Nat} {ys zs : List Int} [hr : ArgE rc s idr 0 [⟨id, off, len, ys⟩, ⟨id2, off2, len2, zs⟩]] [hy : ArgE ic s id off ys] [hz : ArgE ic s id2 off2 zs] (hl : ys.length = len := by first | rfl | simp | omega) (hl2 : zs.length = len2 := by first | rfl | simp | omega) (hb : len_xs ≤ 2000000 ∧ len ≤ 2000000 ∧ len2 ≤ 2000000 := by omega) :
    FnB 60 [.agg [ic st, ic re, .sl id_xs off_xs len_xs], .c (.sl idr 0 2)] s (VR st re xs ∧ RG st ys ∧ RG st zs ∧ ys.length = zs.length) := by
  have := c_ringed (s := s) (st := st) (re := re) (xs := xs) (id_xs := id_xs) (off_xs := off_xs) (len_xs := len_xs) (idr := idr) (offr := 0) (lenr := 2) (zs := [⟨id, off, len, ys⟩, ⟨id2, off2, len2, zs⟩]) (hlr := rfl) (h0 := by omega) (hz := by
    intro z hm
    rcases List.mem_cons.1 hm with rfl | hm
    · exact ⟨hy, hl, hb.2.1⟩
    · obtain rfl := List.mem_singleton.1 hm; exact ⟨hz, hl2, hb.2.2⟩) (hb := by omega)
  have e : (VR st re xs ∧ ∀ z ∈ [(⟨id, off, len, ys⟩ : Row), ⟨id2, off2, len2, zs⟩], RG st z.xs ∧ z.len = (([⟨id, off, len, ys⟩, ⟨id2, off2, len2, zs⟩] : List Row).getD 0 Row.nil).len) = (VR st re xs ∧ RG st ys ∧ RG st zs ∧ ys.length = zs.length) := by
    apply propext; simp; rw [hl, hl2]; intro _ _ _; omega
  rw [e] at this; exact this

end Go.Proofs.Ytlmbgaoeplffkaa
