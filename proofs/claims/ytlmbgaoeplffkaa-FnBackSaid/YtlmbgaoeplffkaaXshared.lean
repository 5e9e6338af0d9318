/- Rings that are run, or counted, side by side. -/
import Derived.Test.YtlmbgaoeplffkaaXmat
import Derived.Test.YtlmbgaoeplffkaaXrun
import Derived.Test.YtlmbgaoeplffkaaXcback
import Derived.Test.YtlmbgaoeplffkaaFB
namespace Go.Proofs.Ytlmbgaoeplffkaa
open Go Go.RowKit
set_option linter.unusedVariables false
set_option linter.unusedSimpArgs false
set_option maxRecDepth 100000
set_option maxHeartbeats 8000000
-- impl.areWorkers
def L40 : AFun := ⟨5, [.t 2],
 (.seq (.ops false [⟨(some 2), .mv (.k (bv false)), none, []⟩])
 (.seq (.ops false [⟨(some 3), .mv (.t 0), none, []⟩,
   ⟨(some 4), .call (.f 43) [(.t 3), (.k (iv 1)), (.k (iv 8))], none, []⟩,
   ⟨(some 2), .mv (.t 4), none, []⟩])
 .ret))⟩
theorem code40 : acode Try.prog hints 40 = some L40 := by kernel_rfl

-- impl.CountsShared
def L13 : AFun := ⟨47, [.t 6, .t 7],
 (.seq (.ops false [⟨(some 3), .box 27 (.t 0), none, []⟩,
   ⟨(some 6), .mv (.k (.c (.sl 0 0 0))), none, []⟩,
   ⟨(some 7), .mv (.k (bv false)), none, []⟩])
 (.seq (.seq (.ops false [⟨(some 13), .load true 3 (.t 3), none, []⟩,
    ⟨(some 14), .call (.f 39) [(.t 13)], none, []⟩,
    ⟨(some 15), .un .not (.t 14), none, []⟩,
    ⟨(some 16), .mv (.t 15), none, []⟩,
    ⟨(some 17), .mv (.t 1), (some (16, false)), []⟩,
    ⟨(some 18), .len false (.t 17), (some (16, false)), []⟩,
    ⟨(some 19), .bin .gtr (.t 18) (.k (iv 16)), (some (16, false)), []⟩,
    ⟨(some 20), .pick (.t 16) (.k (bv true)) (.t 19), none, []⟩,
    ⟨(some 21), .mv (.t 20), none, []⟩,
    ⟨(some 22), .mv (.t 2), (some (21, false)), []⟩,
    ⟨(some 23), .call (.f 40) [(.t 22)], (some (21, false)), []⟩,
    ⟨(some 24), .un .not (.t 23), (some (21, false)), []⟩,
    ⟨(some 25), .pick (.t 21) (.k (bv true)) (.t 24), none, []⟩])
  (.cond (.t 25) (.seq (.ops false [⟨(some 6), .mv (.k (.c (.sl 0 0 0))), none, []⟩,
     ⟨(some 7), .mv (.k (bv false)), none, []⟩])
   .ret)
   .skip))
 (.seq (.ops false [⟨(some 26), .buildS 2 1 0 [.int .i64 0] [], none, []⟩,
   ⟨(some 8), .mv (.t 26), none, []⟩])
 (.seq (.seq (.ops false [⟨(some 27), .mv (.t 1), none, []⟩,
    ⟨(some 28), .len false (.t 27), none, []⟩,
    ⟨(some 29), .mv (.k (iv 0)), none, []⟩])
  (.block 0 (.loop [3, 8, 27, 28, 29] (.seq (.ops false [⟨(some 30), .bin .lss (.t 29) (.t 28), none, []⟩])
    (.seq (.cond (.t 30) .skip
      (.exit 0))
    (.seq (.block 1 (.seq (.ops false [⟨(some 31), .idxA 1 (.t 27) (.t 29), none, []⟩,
        ⟨(some 32), .load false 1 (.t 31), none, []⟩,
        ⟨(some 10), .mv (.t 32), none, []⟩])
      (.seq (.ops false [⟨(some 34), .load true 3 (.t 3), none, []⟩,
        ⟨(some 35), .mv (.t 10), none, []⟩,
        ⟨(some 36), .call (.f 10) [(.t 34), (.t 35)], none, []⟩,
        ⟨(some 33), .mv (.t 36), none, []⟩,
        ⟨(some 37), .ext (.t 33) 0, none, []⟩,
        ⟨(some 38), .ext (.t 33) 1, none, []⟩,
        ⟨(some 11), .mv (.t 37), none, []⟩,
        ⟨(some 12), .mv (.t 38), none, []⟩])
      (.seq (.seq (.ops false [⟨(some 39), .mv (.t 12), none, []⟩,
         ⟨(some 40), .un .not (.t 39), none, []⟩])
       (.cond (.t 40) (.seq (.ops false [⟨(some 6), .mv (.k (.c (.sl 0 0 0))), none, []⟩,
          ⟨(some 7), .mv (.k (bv false)), none, []⟩])
        .ret)
        .skip))
      (.ops false [⟨(some 41), .mv (.t 8), none, []⟩,
       ⟨(some 42), .mv (.t 11), none, []⟩,
       ⟨(some 43), .buildS 2 1 1 [.int .i64 0] [(0, 1, (.t 42))], none, []⟩,
       ⟨(some 44), .append 2 1 8 (.t 41) (.t 43), none, []⟩,
       ⟨(some 8), .mv (.t 44), none, []⟩])))))
    (.ops false [⟨(some 45), .bin .add (.t 29) (.k (iv 1)), none, []⟩,
     ⟨(some 29), .mv (.t 45), none, []⟩])))))))
 (.seq (.ops false [⟨(some 46), .mv (.t 8), none, []⟩,
   ⟨(some 6), .mv (.t 46), none, []⟩,
   ⟨(some 7), .mv (.k (bv true)), none, []⟩])
 .ret)))))⟩
theorem code13 : acode Try.prog hints 13 = some L13 := by kernel_rfl


abbrev RunP (st re : Int) (xs ys : List Int) (steps : Int) : Prop := (VR st re xs ∧ RG st ys) ∧ 0 ≤ steps ∧ steps ≤ 1000
theorem ir_yes {P : Prop} {ys : List Int} (h : P) {R : AV} {N : Objs} (k : IntsRes P ys R N) : ∃ p, R = .tup [.c (.sl p 0 ys.length), .c (.bool true)] ∧ N = [(p, ints ys)] := by
  obtain ⟨p, rfl, rfl, _⟩ := k
  exact ⟨p, by simp only [sel_t h, tt_t h], by rw [sel_t h]⟩
theorem ir_no {P : Prop} {ys : List Int} (h : ¬ P) {R : AV} {N : Objs} (k : IntsRes P ys R N) : ∃ p, R = .tup [.c (.sl p 0 0), .c (.bool false)] ∧ N = [(p, ints [])] := by
  obtain ⟨p, rfl, rfl, _⟩ := k
  exact ⟨p, by simp only [sel_f h, tt_f h, List.length_nil], by rw [sel_f h]⟩
theorem c_areWorkers {s : St} [Wf s] {n : Int} : FnB 40 [iv n] s (1 ≤ n ∧ n ≤ 8) := by
  refine F_start code40 ?_
  repeat' (first
 | refine A_go rfl ?_ | refine A_ifT rfl rfl ?_ | refine A_ifF rfl rfl ?_
 | (refine A_callB rfl rfl (fun s H => c_within) ?_ ?_ <;> intro hc <;> try first | contradiction | (exfalso; omega) | exact absurd rfl hc | exact absurd (And.intro rfl rfl) hc | exact absurd (And.intro rfl (And.intro rfl rfl)) hc | exact absurd (Eq.trans (by assumption) (Eq.symm (by assumption))) hc)
 | refine A_p (by rfl) rfl ?_
 | refine A_ret1 rfl (by exact (RP.t rfl RP.nil)) ?_)
  all_goals first | exact R_t (by assumption) | exact R_f (by assumption)
abbrev ShP (st re : Int) (xs : List Int) (zs : List Row) (steps workers : Int) : Prop := ((1 ≤ zs.length ∧ zs.length ≤ 16) ∧ 1 ≤ workers ∧ workers ≤ 8) ∧ ∀ z ∈ zs, RunP st re xs z.xs steps
def shR (st re : Int) (xs : List Int) (steps : Int) (zs : List Row) : List (List Int) := zs.map fun z => runR st re xs z.xs steps.toNat
theorem shR_slen {st re steps : Int} {xs : List Int} {zs ws : List Row} (h : ws.map Row.xs = shR st re xs steps zs) (hl : zs.length ≤ 16) (hz : ∀ z ∈ zs, RunP st re xs z.xs steps) : slen ws ≤ 2000000 ∧ ws.length ≤ 2000000 := by
  have hwl : ws.length = zs.length := by have := congrArg List.length h; simpa [shR] using this
  have h1 := slen_le (zs := ws) (b := 64) fun z hm => by
    have : z.xs ∈ ws.map Row.xs := List.mem_map.2 ⟨z, hm, rfl⟩
    rw [h, shR] at this
    obtain ⟨y, hy, e⟩ := List.mem_map.1 this
    rw [← e, runR_len]; exact (hz y hy).1.2.1.2
  have h2 : ws.length * 64 ≤ 16 * 64 := Nat.mul_le_mul_right _ (by omega)
  omega
theorem c_cntYes {s : St} [Wf s] {st re : Int} {id_xs off_xs len_xs : Nat} {xs : List Int} [h_xs : ArgE ic s id_xs off_xs xs] (hl_xs : xs.length = len_xs := by first | rfl | simp | omega | (simp; omega)) {id_ys off_ys len_ys : Nat} {ys : List Int} [h_ys : ArgE ic s id_ys off_ys ys] (hl_ys : ys.length = len_ys := by first | rfl | simp | omega | (simp; omega)) (h : BackP st re xs ys) (hb : len_xs ≤ 2000000 ∧ len_ys ≤ 2000000 := by omega) : FnV 10 [.agg [ic st, ic re, .sl id_xs off_xs len_xs], .c (.sl id_ys off_ys len_ys)] s (.tup [.c (ic (cbkR st re xs ys)), .c (.bool true)]) := by
  have k := c_implCountBack (s := s) (st := st) (re := re) (id_xs := id_xs) (off_xs := off_xs) (xs := xs) (id_ys := id_ys) (off_ys := off_ys) (ys := ys) (hl_xs := hl_xs) (hl_ys := hl_ys)
  rw [numV, sel_t h, tt_t h] at k; exact k
theorem c_cntNo {s : St} [Wf s] {st re : Int} {id_xs off_xs len_xs : Nat} {xs : List Int} [h_xs : ArgE ic s id_xs off_xs xs] (hl_xs : xs.length = len_xs := by first | rfl | simp | omega | (simp; omega)) {id_ys off_ys len_ys : Nat} {ys : List Int} [h_ys : ArgE ic s id_ys off_ys ys] (hl_ys : ys.length = len_ys := by first | rfl | simp | omega | (simp; omega)) (h : ¬ BackP st re xs ys) (hb : len_xs ≤ 2000000 ∧ len_ys ≤ 2000000 := by omega) : FnV 10 [.agg [ic st, ic re, .sl id_xs off_xs len_xs], .c (.sl id_ys off_ys len_ys)] s (.tup [.c (ic 0), .c (.bool false)]) := by
  have k := c_implCountBack (s := s) (st := st) (re := re) (id_xs := id_xs) (off_xs := off_xs) (xs := xs) (id_ys := id_ys) (off_ys := off_ys) (ys := ys) (hl_xs := hl_xs) (hl_ys := hl_ys)
  rw [numV, sel_f h, tt_f h] at k; exact k
abbrev CsP (st re : Int) (xs : List Int) (zs : List Row) (workers : Int) : Prop := (VR st re xs ∧ zs.length ≤ 16 ∧ 1 ≤ workers ∧ workers ≤ 8) ∧ ∀ z ∈ zs, BackP st re xs z.xs
def csR (st re : Int) (xs : List Int) (zs : List Row) : List Int := zs.map fun z => cbkR st re xs z.xs
theorem c_implCountsShared {s : St} [Wf s] {st re workers : Int} {id_xs off_xs len_xs : Nat} {xs : List Int} [h_xs : ArgE ic s id_xs off_xs xs] (hl_xs : xs.length = len_xs := by first | rfl | simp | omega | (simp; omega)) {idr offr n : Nat} {zs : List Row} [hr : ArgE rc s idr offr zs] [ha : ArgAll s zs] [hok : Fact' (RowsOk zs)] (hn : zs.length = n := by first | rfl | omega) (hb : len_xs ≤ 2000000 ∧ n ≤ 2000000 ∧ slen zs ≤ 2000000 := by omega) :
    Fn [] 13 [.agg [ic st, ic re, .sl id_xs off_xs len_xs], .c (.sl idr offr n), iv workers] s (IntsRes (CsP st re xs zs workers) (csR st re xs zs)) := by
  refine F_start code13 ?_
  by_cases hv : VR st re xs
  case neg =>
    repeat' (first
 | refine A_go rfl ?_ | refine A_ifT rfl rfl ?_ | refine A_ifF rfl rfl ?_
 | refine A_offP rfl rfl ?_ | refine A_offH rfl rfl ?_ | refine A_off0 rfl rfl ?_
 | refine A_add rfl rfl rfl (by omega) ?_
 | ((first | refine A_lt rfl rfl rfl ?_ ?_ | refine A_gt rfl rfl rfl ?_ ?_) <;> intro hc <;> try first | contradiction | (exfalso; omega) | exact absurd rfl hc)
 | refine A_idxN1 rfl rfl rfl (by omega) ?_ | refine A_idx1 rfl rfl rfl (by omega) ?_
 | (refine A_callB rfl rfl (fun s H => c_ValidRule) ?_ ?_ <;> intro hc <;> try first | contradiction | (exfalso; omega) | exact absurd rfl hc | exact absurd (And.intro rfl rfl) hc | exact absurd (And.intro rfl (And.intro rfl rfl)) hc | exact absurd (Eq.trans (by assumption) (Eq.symm (by assumption))) hc)
 | refine A_p (by rfl) rfl ?_
 | refine A_ldI rfl (by first | omega | (simp; done) | (simp; omega)) rfl ?_ | refine A_ldB rfl (by first | omega | (simp; done) | (simp; omega)) rfl ?_ | refine A_ld rfl (by rfl) rfl ?_
 | refine A_ldW rfl (by simp) rfl ?_
 | ((first | refine A_box rfl rfl ?_ | refine A_boxC rfl rfl ?_ | refine A_bld1 rfl rfl ?_ | refine A_bld2 rfl rfl rfl ?_ | refine A_bld4 rfl rfl rfl rfl rfl ?_) <;> intro pz hpz)
 | refine A_bld0 rfl ?_
 | (refine A_app rfl rfl rfl (by first | omega | (simp; done) | (simp; omega)) (by first | omega | (simp; done) | (simp; omega)) (by omega) ?_; intro pz) | (refine A_appN (enc := ic) rfl (by decide) rfl rfl (by first | omega | (simp; done) | (simp; omega)) (by omega) ?_; intro pz)
 | refine A_ret rfl (by exact (RP.t rfl (RP.t rfl RP.nil))) ?_)
    exact R_intsN fun h => hv h.1.1
  by_cases h16 : zs.length ≤ 16
  case neg =>
    repeat' (first
 | refine A_go rfl ?_ | refine A_ifT rfl rfl ?_ | refine A_ifF rfl rfl ?_
 | refine A_offP rfl rfl ?_ | refine A_offH rfl rfl ?_ | refine A_off0 rfl rfl ?_
 | refine A_add rfl rfl rfl (by omega) ?_
 | ((first | refine A_lt rfl rfl rfl ?_ ?_ | refine A_gt rfl rfl rfl ?_ ?_) <;> intro hc <;> try first | contradiction | (exfalso; omega) | exact absurd rfl hc)
 | refine A_idxN1 rfl rfl rfl (by omega) ?_ | refine A_idx1 rfl rfl rfl (by omega) ?_
 | (refine A_callB rfl rfl (fun s H => c_ValidRule) ?_ ?_ <;> intro hc <;> try first | contradiction | (exfalso; omega) | exact absurd rfl hc | exact absurd (And.intro rfl rfl) hc | exact absurd (And.intro rfl (And.intro rfl rfl)) hc | exact absurd (Eq.trans (by assumption) (Eq.symm (by assumption))) hc)
 | refine A_p (by rfl) rfl ?_
 | refine A_ldI rfl (by first | omega | (simp; done) | (simp; omega)) rfl ?_ | refine A_ldB rfl (by first | omega | (simp; done) | (simp; omega)) rfl ?_ | refine A_ld rfl (by rfl) rfl ?_
 | refine A_ldW rfl (by simp) rfl ?_
 | ((first | refine A_box rfl rfl ?_ | refine A_boxC rfl rfl ?_ | refine A_bld1 rfl rfl ?_ | refine A_bld2 rfl rfl rfl ?_ | refine A_bld4 rfl rfl rfl rfl rfl ?_) <;> intro pz hpz)
 | refine A_bld0 rfl ?_
 | (refine A_app rfl rfl rfl (by first | omega | (simp; done) | (simp; omega)) (by first | omega | (simp; done) | (simp; omega)) (by omega) ?_; intro pz) | (refine A_appN (enc := ic) rfl (by decide) rfl rfl (by first | omega | (simp; done) | (simp; omega)) (by omega) ?_; intro pz)
 | refine A_ret rfl (by exact (RP.t rfl (RP.t rfl RP.nil))) ?_)
    exact R_intsN fun h => h16 h.1.2.1
  by_cases hw : 1 ≤ workers ∧ workers ≤ 8
  case neg =>
    repeat' (first
 | refine A_go rfl ?_ | refine A_ifT rfl rfl ?_ | refine A_ifF rfl rfl ?_
 | refine A_offP rfl rfl ?_ | refine A_offH rfl rfl ?_ | refine A_off0 rfl rfl ?_
 | refine A_add rfl rfl rfl (by omega) ?_
 | ((first | refine A_lt rfl rfl rfl ?_ ?_ | refine A_gt rfl rfl rfl ?_ ?_) <;> intro hc <;> try first | contradiction | (exfalso; omega) | exact absurd rfl hc)
 | refine A_idxN1 rfl rfl rfl (by omega) ?_ | refine A_idx1 rfl rfl rfl (by omega) ?_
 | (refine A_callB rfl rfl (fun s H => c_ValidRule) ?_ ?_ <;> intro hc <;> try first | contradiction | (exfalso; omega) | exact absurd rfl hc | exact absurd (And.intro rfl rfl) hc | exact absurd (And.intro rfl (And.intro rfl rfl)) hc | exact absurd (Eq.trans (by assumption) (Eq.symm (by assumption))) hc)
 | (refine A_callB rfl rfl (fun s H => c_areWorkers) ?_ ?_ <;> intro hc <;> try first | contradiction | (exfalso; omega) | exact absurd rfl hc | exact absurd (And.intro rfl rfl) hc | exact absurd (And.intro rfl (And.intro rfl rfl)) hc | exact absurd (Eq.trans (by assumption) (Eq.symm (by assumption))) hc)
 | refine A_p (by rfl) rfl ?_
 | refine A_ldI rfl (by first | omega | (simp; done) | (simp; omega)) rfl ?_ | refine A_ldB rfl (by first | omega | (simp; done) | (simp; omega)) rfl ?_ | refine A_ld rfl (by rfl) rfl ?_
 | refine A_ldW rfl (by simp) rfl ?_
 | ((first | refine A_box rfl rfl ?_ | refine A_boxC rfl rfl ?_ | refine A_bld1 rfl rfl ?_ | refine A_bld2 rfl rfl rfl ?_ | refine A_bld4 rfl rfl rfl rfl rfl ?_) <;> intro pz hpz)
 | refine A_bld0 rfl ?_
 | (refine A_app rfl rfl rfl (by first | omega | (simp; done) | (simp; omega)) (by first | omega | (simp; done) | (simp; omega)) (by omega) ?_; intro pz) | (refine A_appN (enc := ic) rfl (by decide) rfl rfl (by first | omega | (simp; done) | (simp; omega)) (by omega) ?_; intro pz)
 | refine A_ret rfl (by exact (RP.t rfl (RP.t rfl RP.nil))) ?_)
    exact R_intsN fun h => hw h.1.2.2
  repeat' (first
 | refine A_go rfl ?_ | refine A_ifT rfl rfl ?_ | refine A_ifF rfl rfl ?_
 | refine A_offP rfl rfl ?_ | refine A_offH rfl rfl ?_ | refine A_off0 rfl rfl ?_
 | refine A_add rfl rfl rfl (by omega) ?_
 | ((first | refine A_lt rfl rfl rfl ?_ ?_ | refine A_gt rfl rfl rfl ?_ ?_) <;> intro hc <;> try first | contradiction | (exfalso; omega) | exact absurd rfl hc)
 | refine A_idxN1 rfl rfl rfl (by omega) ?_ | refine A_idx1 rfl rfl rfl (by omega) ?_
 | (refine A_callB rfl rfl (fun s H => c_ValidRule) ?_ ?_ <;> intro hc <;> try first | contradiction | (exfalso; omega) | exact absurd rfl hc | exact absurd (And.intro rfl rfl) hc | exact absurd (And.intro rfl (And.intro rfl rfl)) hc | exact absurd (Eq.trans (by assumption) (Eq.symm (by assumption))) hc)
 | (refine A_callB rfl rfl (fun s H => c_areWorkers) ?_ ?_ <;> intro hc <;> try first | contradiction | (exfalso; omega) | exact absurd rfl hc | exact absurd (And.intro rfl rfl) hc | exact absurd (And.intro rfl (And.intro rfl rfl)) hc | exact absurd (Eq.trans (by assumption) (Eq.symm (by assumption))) hc)
 | refine A_p (by rfl) rfl ?_
 | refine A_ldI rfl (by first | omega | (simp; done) | (simp; omega)) rfl ?_ | refine A_ldB rfl (by first | omega | (simp; done) | (simp; omega)) rfl ?_ | refine A_ld rfl (by rfl) rfl ?_
 | refine A_ldW rfl (by simp) rfl ?_
 | ((first | refine A_box rfl rfl ?_ | refine A_boxC rfl rfl ?_ | refine A_bld1 rfl rfl ?_ | refine A_bld2 rfl rfl rfl ?_ | refine A_bld4 rfl rfl rfl rfl rfl ?_) <;> intro pz hpz)
 | refine A_bld0 rfl ?_
 | (refine A_app rfl rfl rfl (by first | omega | (simp; done) | (simp; omega)) (by first | omega | (simp; done) | (simp; omega)) (by omega) ?_; intro pz) | (refine A_appN (enc := ic) rfl (by decide) rfl rfl (by first | omega | (simp; done) | (simp; omega)) (by omega) ?_; intro pz)
 | refine A_ret rfl (by exact (RP.t rfl (RP.t rfl RP.nil))) ?_)
  obtain ⟨q, hEq⟩ : ∃ p, p = pz := ⟨_, rfl⟩; subst hEq
  refine A_loopX rfl (fun m fr L => ∃ (i p : Nat) (cs : List Int), m = n - i ∧ fr = [(3, .c (.ptr q 0)), (8, .c (.sl p 0 i)), (27, .c (.sl idr offr n)), (28, iv n), (29, iv i)] ∧ L = [(q, .rw 27 3 [ic st, ic re, .sl id_xs off_xs len_xs]), (p, ints cs)] ∧ i ≤ n ∧ cs = csR st re xs (zs.take i) ∧ ∀ z ∈ zs.take i, BackP st re xs z.xs) (n := n) ⟨(q, .rw 27 3 [ic st, ic re, .sl id_xs off_xs len_xs]) :: (1, ints []) :: [], ⟨0, 1, [], rfl, rfl, rfl, by omega, rfl, by simp⟩, inferInstance⟩ ?_
  rintro m fr L ⟨i, p, cs, rfl, rfl, rfl, hi, hcs, hall⟩
  have hcl : cs.length = i := by rw [hcs, csR]; simp; omega
  by_cases hi' : i < n
  · haveI : Fact' (i < zs.length) := ⟨by omega⟩
    have hzi := hok.h _ (getD_mem (d := Row.nil) (by omega : i < zs.length))
    have hsl := slen_mem (getD_mem (d := Row.nil) (by omega : i < zs.length))
    by_cases hR : BackP st re xs (zs.getD i Row.nil).xs
    · repeat' (first
 | refine A_go rfl ?_ | refine A_ifT rfl rfl ?_ | refine A_ifF rfl rfl ?_
 | refine A_offP rfl rfl ?_ | refine A_offH rfl rfl ?_ | refine A_off0 rfl rfl ?_
 | refine A_add rfl rfl rfl (by omega) ?_
 | ((first | refine A_lt rfl rfl rfl ?_ ?_ | refine A_gt rfl rfl rfl ?_ ?_) <;> intro hc <;> try first | contradiction | (exfalso; omega) | exact absurd rfl hc)
 | refine A_idxN1 rfl rfl rfl (by omega) ?_ | refine A_idx1 rfl rfl rfl (by omega) ?_
 | refine A_ldR rfl (by omega) rfl ?_
 | refine A_callV rfl rfl (fun s H => c_cntYes (ys := (zs.getD i Row.nil).xs) (hl_ys := hzi.2.symm) (h := hR)) ?_
 | refine A_p (by rfl) rfl ?_
 | refine A_ldI rfl (by first | omega | (simp; done) | (simp; omega)) rfl ?_ | refine A_ldB rfl (by first | omega | (simp; done) | (simp; omega)) rfl ?_ | refine A_ld rfl (by rfl) rfl ?_
 | refine A_ldW rfl (by simp) rfl ?_
 | ((first | refine A_box rfl rfl ?_ | refine A_boxC rfl rfl ?_ | refine A_bld1 rfl rfl ?_ | refine A_bld2 rfl rfl rfl ?_ | refine A_bld4 rfl rfl rfl rfl rfl ?_) <;> intro pz hpz)
 | refine A_bld0 rfl ?_
 | (refine A_app rfl rfl rfl (by first | omega | (simp; done) | (simp; omega)) (by first | omega | (simp; done) | (simp; omega)) (by omega) ?_; intro pz) | (refine A_appN (enc := ic) rfl (by decide) rfl rfl (by first | omega | (simp; done) | (simp; omega)) (by omega) ?_; intro pz)
 | refine A_ret rfl (by exact (RP.t rfl (RP.t rfl RP.nil))) ?_)
      refine A_roundX rfl ⟨n - (i + 1), [(q, .rw 27 3 [ic st, ic re, .sl id_xs off_xs len_xs]), (pz, ints (cs ++ [cbkR st re xs (zs.getD i Row.nil).xs]))], by omega, ⟨i + 1, pz, _, rfl, rfl, rfl, by omega, ?_, all_succ (d := Row.nil) hall (by omega) hR⟩, inferInstance⟩
      rw [hcs, List.take_add_one, getD_some Row.nil (by omega)]; simp [csR]
    · repeat' (first
 | refine A_go rfl ?_ | refine A_ifT rfl rfl ?_ | refine A_ifF rfl rfl ?_
 | refine A_offP rfl rfl ?_ | refine A_offH rfl rfl ?_ | refine A_off0 rfl rfl ?_
 | refine A_add rfl rfl rfl (by omega) ?_
 | ((first | refine A_lt rfl rfl rfl ?_ ?_ | refine A_gt rfl rfl rfl ?_ ?_) <;> intro hc <;> try first | contradiction | (exfalso; omega) | exact absurd rfl hc)
 | refine A_idxN1 rfl rfl rfl (by omega) ?_ | refine A_idx1 rfl rfl rfl (by omega) ?_
 | refine A_ldR rfl (by omega) rfl ?_
 | refine A_callV rfl rfl (fun s H => c_cntNo (ys := (zs.getD i Row.nil).xs) (hl_ys := hzi.2.symm) (h := hR)) ?_
 | refine A_p (by rfl) rfl ?_
 | refine A_ldI rfl (by first | omega | (simp; done) | (simp; omega)) rfl ?_ | refine A_ldB rfl (by first | omega | (simp; done) | (simp; omega)) rfl ?_ | refine A_ld rfl (by rfl) rfl ?_
 | refine A_ldW rfl (by simp) rfl ?_
 | ((first | refine A_box rfl rfl ?_ | refine A_boxC rfl rfl ?_ | refine A_bld1 rfl rfl ?_ | refine A_bld2 rfl rfl rfl ?_ | refine A_bld4 rfl rfl rfl rfl rfl ?_) <;> intro pz hpz)
 | refine A_bld0 rfl ?_
 | (refine A_app rfl rfl rfl (by first | omega | (simp; done) | (simp; omega)) (by first | omega | (simp; done) | (simp; omega)) (by omega) ?_; intro pz) | (refine A_appN (enc := ic) rfl (by decide) rfl rfl (by first | omega | (simp; done) | (simp; omega)) (by omega) ?_; intro pz)
 | refine A_ret rfl (by exact (RP.t rfl (RP.t rfl RP.nil))) ?_)
      exact R_intsN fun h => hR (h.2 _ (getD_mem (by omega)))
  · obtain rfl : n = i := by omega
    rw [List.take_of_length_le (by omega)] at hcs hall
    subst hcs
    repeat' (first
 | refine A_go rfl ?_ | refine A_ifT rfl rfl ?_ | refine A_ifF rfl rfl ?_
 | refine A_offP rfl rfl ?_ | refine A_offH rfl rfl ?_ | refine A_off0 rfl rfl ?_
 | refine A_add rfl rfl rfl (by omega) ?_
 | ((first | refine A_lt rfl rfl rfl ?_ ?_ | refine A_gt rfl rfl rfl ?_ ?_) <;> intro hc <;> try first | contradiction | (exfalso; omega) | exact absurd rfl hc)
 | refine A_idxN1 rfl rfl rfl (by omega) ?_ | refine A_idx1 rfl rfl rfl (by omega) ?_
 | refine A_p (by rfl) rfl ?_
 | refine A_ldI rfl (by first | omega | (simp; done) | (simp; omega)) rfl ?_ | refine A_ldB rfl (by first | omega | (simp; done) | (simp; omega)) rfl ?_ | refine A_ld rfl (by rfl) rfl ?_
 | refine A_ldW rfl (by simp) rfl ?_
 | ((first | refine A_box rfl rfl ?_ | refine A_boxC rfl rfl ?_ | refine A_bld1 rfl rfl ?_ | refine A_bld2 rfl rfl rfl ?_ | refine A_bld4 rfl rfl rfl rfl rfl ?_) <;> intro pz hpz)
 | refine A_bld0 rfl ?_
 | (refine A_app rfl rfl rfl (by first | omega | (simp; done) | (simp; omega)) (by first | omega | (simp; done) | (simp; omega)) (by omega) ?_; intro pz) | (refine A_appN (enc := ic) rfl (by decide) rfl rfl (by first | omega | (simp; done) | (simp; omega)) (by omega) ?_; intro pz)
 | refine A_ret rfl (by exact (RP.t rfl (RP.t rfl RP.nil))) ?_)
    exact R_ints ⟨⟨hv, h16, hw⟩, hall⟩ hcl (by omega)
end Go.Proofs.Ytlmbgaoeplffkaa
