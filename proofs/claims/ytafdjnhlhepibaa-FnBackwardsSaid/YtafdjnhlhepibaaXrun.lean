/- Rings behind steps. -/
import Derived.Test.YtafdjnhlhepibaaXringed
import Derived.Test.YtafdjnhlhepibaaXruleLaws
import Derived.Test.YtafdjnhlhepibaaXwithin
import Derived.Test.YtafdjnhlhepibaaXmade
import Derived.Test.YtafdjnhlhepibaaFB
namespace Go.Proofs.Ytafdjnhlhepibaa
open Go Go.RowKit
set_option linter.unusedVariables false
set_option linter.unusedSimpArgs false
set_option maxRecDepth 100000
set_option maxHeartbeats 8000000
-- impl.RunRing
def L62 : AFun := ⟨29, [.t 6, .t 7],
 (.seq (.ops false [⟨(some 3), .box 30 (.t 0), none, []⟩,
   ⟨(some 6), .mv (.k (.c (.sl 0 0 0))), none, []⟩,
   ⟨(some 7), .mv (.k (bv false)), none, []⟩])
 (.seq (.seq (.ops false [⟨(some 9), .load true 3 (.t 3), none, []⟩,
    ⟨(some 10), .mv (.t 1), none, []⟩,
    ⟨(some 11), .buildS 22 1 1 [.sl 0 0 0] [(0, 1, (.t 10))], none, []⟩,
    ⟨(some 12), .call (.f 99) [(.t 9), (.t 11)], none, []⟩,
    ⟨(some 13), .un .not (.t 12), none, []⟩,
    ⟨(some 14), .mv (.t 13), none, []⟩,
    ⟨(some 15), .mv (.t 2), (some (14, false)), []⟩,
    ⟨(some 16), .call (.f 72) [(.t 15), (.k (iv 0)), (.k (iv 1000))], (some (14, false)), []⟩,
    ⟨(some 17), .un .not (.t 16), (some (14, false)), []⟩,
    ⟨(some 18), .pick (.t 14) (.k (bv true)) (.t 17), none, []⟩])
  (.cond (.t 18) (.seq (.ops false [⟨(some 6), .mv (.k (.c (.sl 0 0 0))), none, []⟩,
     ⟨(some 7), .mv (.k (bv false)), none, []⟩])
   .ret)
   .skip))
 (.seq (.ops false [⟨(some 19), .mv (.t 1), none, []⟩,
   ⟨(some 20), .call (.f 83) [(.t 19)], none, []⟩,
   ⟨(some 8), .mv (.t 20), none, []⟩])
 (.seq (.seq (.ops false [⟨(some 21), .mv (.t 2), none, []⟩,
    ⟨(some 22), .mv (.k (iv 0)), none, []⟩])
  (.block 0 (.loop [3, 8, 21, 22] (.seq (.ops false [⟨(some 23), .bin .lss (.t 22) (.t 21), none, []⟩])
    (.seq (.cond (.t 23) .skip
      (.exit 0))
    (.seq (.block 1 (.ops false [⟨(some 24), .load true 3 (.t 3), none, []⟩,
       ⟨(some 25), .mv (.t 8), none, []⟩,
       ⟨(some 26), .call (.f 78) [(.t 24), (.t 25)], none, []⟩,
       ⟨(some 8), .mv (.t 26), none, []⟩]))
    (.ops false [⟨(some 27), .bin .add (.t 22) (.k (iv 1)), none, []⟩,
     ⟨(some 22), .mv (.t 27), none, []⟩])))))))
 (.seq (.ops false [⟨(some 28), .mv (.t 8), none, []⟩,
   ⟨(some 6), .mv (.t 28), none, []⟩,
   ⟨(some 7), .mv (.k (bv true)), none, []⟩])
 .ret)))))⟩
theorem code62 : acode Try.prog hints 62 = some L62 := by kernel_rfl

-- impl.StepRing
def L49 : AFun := ⟨11, [.t 4, .t 5],
 (.seq (.ops false [⟨(some 2), .box 30 (.t 0), none, []⟩,
   ⟨(some 4), .mv (.k (.c (.sl 0 0 0))), none, []⟩,
   ⟨(some 5), .mv (.k (bv false)), none, []⟩])
 (.seq (.ops false [⟨(some 6), .load true 3 (.t 2), none, []⟩,
   ⟨(some 7), .mv (.t 1), none, []⟩,
   ⟨(some 8), .call (.f 62) [(.t 6), (.t 7), (.k (iv 1))], none, []⟩,
   ⟨(some 9), .ext (.t 8) 0, none, []⟩,
   ⟨(some 10), .ext (.t 8) 1, none, []⟩,
   ⟨(some 4), .mv (.t 9), none, []⟩,
   ⟨(some 5), .mv (.t 10), none, []⟩])
 .ret))⟩
theorem code49 : acode Try.prog hints 49 = some L49 := by kernel_rfl

-- spec.l02Run
def L102 : AFun := ⟨19, [.t 6],
 (.seq (.ops false [⟨(some 6), .mv (.k (.c (.sl 0 0 0))), none, []⟩])
 (.seq (.ops false [⟨(some 8), .buildS 2 1 0 [.int .i64 0] [], none, []⟩,
   ⟨(some 9), .mv (.t 1), none, []⟩,
   ⟨(some 10), .append 2 1 8 (.t 8) (.t 9), none, []⟩,
   ⟨(some 7), .mv (.t 10), none, []⟩])
 (.seq (.block 0 (.loop [0, 2, 7] (.seq (.seq (.ops false [⟨(some 11), .mv (.t 2), none, []⟩,
       ⟨(some 12), .bin .gtr (.t 11) (.k (iv 0)), none, []⟩])
     (.cond (.t 12) .skip
      (.exit 0)))
    (.seq (.block 1 (.ops false [⟨(some 15), .mv (.t 0), none, []⟩,
       ⟨(some 16), .mv (.t 7), none, []⟩,
       ⟨(some 17), .call (.f 96) [(.t 15), (.t 16)], none, []⟩,
       ⟨(some 7), .mv (.t 17), none, []⟩]))
    (.ops false [⟨(some 13), .mv (.t 2), none, []⟩,
     ⟨(some 14), .bin .sub (.t 13) (.k (iv 1)), none, []⟩,
     ⟨(some 2), .mv (.t 14), none, []⟩])))))
 (.seq (.ops false [⟨(some 18), .mv (.t 7), none, []⟩,
   ⟨(some 6), .mv (.t 18), none, []⟩])
 .ret))))⟩
theorem code102 : acode Try.prog hints 102 = some L102 := by kernel_rfl

-- spec.RunRing
def L54 : AFun := ⟨19, [.t 6, .t 7],
 (.seq (.ops false [⟨(some 3), .box 30 (.t 0), none, []⟩,
   ⟨(some 6), .mv (.k (.c (.sl 0 0 0))), none, []⟩,
   ⟨(some 7), .mv (.k (bv false)), none, []⟩])
 (.seq (.seq (.ops false [⟨(some 8), .mv (.t 1), none, []⟩,
    ⟨(some 9), .call (.f 95) [(.t 3), (.t 8)], none, []⟩,
    ⟨(some 10), .un .not (.t 9), none, []⟩,
    ⟨(some 11), .mv (.t 10), none, []⟩,
    ⟨(some 12), .mv (.t 2), (some (11, false)), []⟩,
    ⟨(some 13), .call (.f 60) [(.t 12), (.k (iv 0)), (.k (iv 1000))], (some (11, false)), []⟩,
    ⟨(some 14), .un .not (.t 13), (some (11, false)), []⟩,
    ⟨(some 15), .pick (.t 11) (.k (bv true)) (.t 14), none, []⟩])
  (.cond (.t 15) (.seq (.ops false [⟨(some 6), .mv (.k (.c (.sl 0 0 0))), none, []⟩,
     ⟨(some 7), .mv (.k (bv false)), none, []⟩])
   .ret)
   .skip))
 (.seq (.ops false [⟨(some 16), .mv (.t 1), none, []⟩,
   ⟨(some 17), .mv (.t 2), none, []⟩,
   ⟨(some 18), .call (.f 102) [(.t 3), (.t 16), (.t 17)], none, []⟩,
   ⟨(some 6), .mv (.t 18), none, []⟩,
   ⟨(some 7), .mv (.k (bv true)), none, []⟩])
 .ret)))⟩
theorem code54 : acode Try.prog hints 54 = some L54 := by kernel_rfl

-- spec.StepRing
def L40 : AFun := ⟨11, [.t 4, .t 5],
 (.seq (.ops false [⟨(some 2), .box 30 (.t 0), none, []⟩,
   ⟨(some 4), .mv (.k (.c (.sl 0 0 0))), none, []⟩,
   ⟨(some 5), .mv (.k (bv false)), none, []⟩])
 (.seq (.seq (.ops false [⟨(some 6), .mv (.t 1), none, []⟩,
    ⟨(some 7), .call (.f 95) [(.t 2), (.t 6)], none, []⟩,
    ⟨(some 8), .un .not (.t 7), none, []⟩])
  (.cond (.t 8) (.seq (.ops false [⟨(some 4), .mv (.k (.c (.sl 0 0 0))), none, []⟩,
     ⟨(some 5), .mv (.k (bv false)), none, []⟩])
   .ret)
   .skip))
 (.seq (.ops false [⟨(some 9), .mv (.t 1), none, []⟩,
   ⟨(some 10), .call (.f 96) [(.t 2), (.t 9)], none, []⟩,
   ⟨(some 4), .mv (.t 10), none, []⟩,
   ⟨(some 5), .mv (.k (bv true)), none, []⟩])
 .ret)))⟩
theorem code40 : acode Try.prog hints 40 = some L40 := by kernel_rfl


def runR (st re : Int) (xs ys : List Int) : Nat → List Int
  | 0 => ys
  | n + 1 => stepR st re xs (runR st re xs ys n)
theorem runR_len {st re : Int} {xs ys : List Int} : ∀ n, (runR st re xs ys n).length = ys.length
  | 0 => rfl
  | n + 1 => by simp [runR, runR_len n]
theorem runR_rg {st re : Int} {xs ys : List Int} (hv : VR st re xs) (hr : RG st ys) : ∀ n, RG st (runR st re xs ys n)
  | 0 => hr
  | n + 1 => stepR_rg hv (runR_rg hv hr n)
theorem c_implRunRing {s : St} [Wf s] {st re steps : Int} {id_xs off_xs len_xs : Nat} {xs : List Int} [h_xs : ArgE ic s id_xs off_xs xs] (hl_xs : xs.length = len_xs := by first | rfl | simp | omega | (simp; omega)) {id_ys off_ys len_ys : Nat} {ys : List Int} [h_ys : ArgE ic s id_ys off_ys ys] (hl_ys : ys.length = len_ys := by first | rfl | simp | omega | (simp; omega)) (hb : len_xs ≤ 2000000 ∧ len_ys ≤ 2000000 := by omega) :
    Fn [] 62 [.agg [ic st, ic re, .sl id_xs off_xs len_xs], .c (.sl id_ys off_ys len_ys), iv steps] s (IntsRes ((VR st re xs ∧ RG st ys) ∧ 0 ≤ steps ∧ steps ≤ 1000) (runR st re xs ys steps.toNat)) := by
  refine F_start code62 ?_
  by_cases hv : VR st re xs ∧ RG st ys
  case neg =>
    repeat' (first
 | refine A_go rfl ?_ | refine A_ifT rfl rfl ?_ | refine A_ifF rfl rfl ?_
 | refine A_offP rfl rfl ?_ | refine A_offH rfl rfl ?_ | refine A_off0 rfl rfl ?_
 | refine A_add rfl rfl rfl (by omega) ?_
 | ((first | refine A_lt rfl rfl rfl ?_ ?_) <;> intro hc <;> try first | contradiction | (exfalso; omega) | exact absurd rfl hc)
 | (refine A_bld1 (enc := rc) (a := ⟨_, _, _, ys⟩) rfl rfl ?_ <;> intro pz hpz)
 | (refine A_callB rfl rfl (fun s H => c_ringed1 (ys := ys)) ?_ ?_ <;> intro hc <;> try first | contradiction | (exfalso; omega) | exact absurd rfl hc | exact absurd (And.intro rfl rfl) hc | exact absurd (And.intro rfl (And.intro rfl rfl)) hc | exact absurd (Eq.trans (by assumption) (Eq.symm (by assumption))) hc)
 | refine A_p (by rfl) rfl ?_
 | refine A_ldW rfl (by simp) rfl ?_
 | ((first | refine A_box rfl rfl ?_ | refine A_boxC rfl rfl ?_ | refine A_bld1 rfl rfl ?_ | refine A_bld2 rfl rfl rfl ?_ | refine A_bld4 rfl rfl rfl rfl rfl ?_) <;> intro pz hpz)
 | refine A_bld0 rfl ?_
 | refine A_ret rfl (by exact (RP.t rfl (RP.t rfl RP.nil))) ?_)
    exact R_intsN fun h => hv h.1
  by_cases hs : 0 ≤ steps ∧ steps ≤ 1000
  case neg =>
    repeat' (first
 | refine A_go rfl ?_ | refine A_ifT rfl rfl ?_ | refine A_ifF rfl rfl ?_
 | refine A_offP rfl rfl ?_ | refine A_offH rfl rfl ?_ | refine A_off0 rfl rfl ?_
 | refine A_add rfl rfl rfl (by omega) ?_
 | ((first | refine A_lt rfl rfl rfl ?_ ?_) <;> intro hc <;> try first | contradiction | (exfalso; omega) | exact absurd rfl hc)
 | (refine A_bld1 (enc := rc) (a := ⟨_, _, _, ys⟩) rfl rfl ?_ <;> intro pz hpz)
 | (refine A_callB rfl rfl (fun s H => c_ringed1 (ys := ys)) ?_ ?_ <;> intro hc <;> try first | contradiction | (exfalso; omega) | exact absurd rfl hc | exact absurd (And.intro rfl rfl) hc | exact absurd (And.intro rfl (And.intro rfl rfl)) hc | exact absurd (Eq.trans (by assumption) (Eq.symm (by assumption))) hc)
 | (refine A_callB rfl rfl (fun s H => c_within) ?_ ?_ <;> intro hc <;> try first | contradiction | (exfalso; omega) | exact absurd rfl hc | exact absurd (And.intro rfl rfl) hc | exact absurd (And.intro rfl (And.intro rfl rfl)) hc | exact absurd (Eq.trans (by assumption) (Eq.symm (by assumption))) hc)
 | refine A_p (by rfl) rfl ?_
 | refine A_ldW rfl (by simp) rfl ?_
 | ((first | refine A_box rfl rfl ?_ | refine A_boxC rfl rfl ?_ | refine A_bld1 rfl rfl ?_ | refine A_bld2 rfl rfl rfl ?_ | refine A_bld4 rfl rfl rfl rfl rfl ?_) <;> intro pz hpz)
 | refine A_bld0 rfl ?_
 | refine A_ret rfl (by exact (RP.t rfl (RP.t rfl RP.nil))) ?_)
    exact R_intsN fun h => hs h.2
  obtain ⟨n, rfl⟩ : ∃ n : Nat, steps = n := ⟨steps.toNat, by omega⟩
  repeat' (first
 | refine A_go rfl ?_ | refine A_ifT rfl rfl ?_ | refine A_ifF rfl rfl ?_
 | refine A_offP rfl rfl ?_ | refine A_offH rfl rfl ?_ | refine A_off0 rfl rfl ?_
 | refine A_add rfl rfl rfl (by omega) ?_
 | ((first | refine A_lt rfl rfl rfl ?_ ?_) <;> intro hc <;> try first | contradiction | (exfalso; omega) | exact absurd rfl hc)
 | (refine A_bld1 (enc := rc) (a := ⟨_, _, _, ys⟩) rfl rfl ?_ <;> intro pz hpz)
 | (refine A_callB rfl rfl (fun s H => c_ringed1 (ys := ys)) ?_ ?_ <;> intro hc <;> try first | contradiction | (exfalso; omega) | exact absurd rfl hc | exact absurd (And.intro rfl rfl) hc | exact absurd (And.intro rfl (And.intro rfl rfl)) hc | exact absurd (Eq.trans (by assumption) (Eq.symm (by assumption))) hc)
 | (refine A_callB rfl rfl (fun s H => c_within) ?_ ?_ <;> intro hc <;> try first | contradiction | (exfalso; omega) | exact absurd rfl hc | exact absurd (And.intro rfl rfl) hc | exact absurd (And.intro rfl (And.intro rfl rfl)) hc | exact absurd (Eq.trans (by assumption) (Eq.symm (by assumption))) hc)
 | (refine A_callM rfl rfl (fun s H => c_clone) ?_; rintro _ _ ⟨pz, rfl, rfl⟩) | (refine A_callM0 rfl rfl (fun s H => c_clone) ?_; rintro _ _ ⟨pz, rfl, rfl⟩)
 | refine A_p (by rfl) rfl ?_
 | refine A_ldW rfl (by simp) rfl ?_
 | ((first | refine A_box rfl rfl ?_ | refine A_boxC rfl rfl ?_ | refine A_bld1 rfl rfl ?_ | refine A_bld2 rfl rfl rfl ?_ | refine A_bld4 rfl rfl rfl rfl rfl ?_) <;> intro pz hpz)
 | refine A_bld0 rfl ?_
 | refine A_ret rfl (by exact (RP.t rfl (RP.t rfl RP.nil))) ?_)
  rename_i q3 _ _ _
  refine A_loop rfl [q3, pz] (fun m fr L => ∃ (i p : Nat), m = n - i ∧ fr = [(3, .c (.ptr q3 0)), (8, .c (.sl p 0 len_ys)), (21, iv n), (22, iv i)] ∧ L = [(q3, .rw 30 3 [ic st, ic re, .sl id_xs off_xs len_xs]), (p, ints (runR st re xs ys i))] ∧ i ≤ n) n ⟨0, _, rfl, rfl, rfl, by omega⟩ ?_
  rintro m fr L ⟨i, p, rfl, rfl, rfl, hi⟩
  have hr' := runR_rg hv.1 hv.2 i
  have hl' := runR_len (st := st) (re := re) (xs := xs) (ys := ys) i
  repeat' (first
 | refine A_go rfl ?_ | refine A_ifT rfl rfl ?_ | refine A_ifF rfl rfl ?_
 | refine A_offP rfl rfl ?_ | refine A_offH rfl rfl ?_ | refine A_off0 rfl rfl ?_
 | refine A_add rfl rfl rfl (by omega) ?_
 | ((first | refine A_lt rfl rfl rfl ?_ ?_) <;> intro hc <;> try first | contradiction | (exfalso; omega) | exact absurd rfl hc)
 | (refine A_callM rfl rfl (fun s H => c_rstep (hv := hv.1) (hr := hr')) ?_; rintro _ _ ⟨pz, rfl, rfl⟩) | (refine A_callM0 rfl rfl (fun s H => c_rstep (hv := hv.1) (hr := hr')) ?_; rintro _ _ ⟨pz, rfl, rfl⟩)
 | refine A_p (by rfl) rfl ?_
 | refine A_ldW rfl (by simp) rfl ?_
 | ((first | refine A_box rfl rfl ?_ | refine A_boxC rfl rfl ?_ | refine A_bld1 rfl rfl ?_ | refine A_bld2 rfl rfl rfl ?_ | refine A_bld4 rfl rfl rfl rfl rfl ?_) <;> intro pz hpz)
 | refine A_bld0 rfl ?_
 | refine A_ret rfl (by exact (RP.t rfl (RP.t rfl RP.nil))) ?_)
  · refine A_round rfl [q3, pz] (n - (i + 1)) (by omega) ?_
    exact ⟨i + 1, pz, rfl, rfl, rfl, by omega⟩
  · obtain rfl : n = i := by omega
    have := hr'.1
    rw [Int.toNat_natCast]
    exact R_ints ⟨hv, hs⟩ (by omega) (by omega)
theorem c_implStepRing {s : St} [Wf s] {st re : Int} {id_xs off_xs len_xs : Nat} {xs : List Int} [h_xs : ArgE ic s id_xs off_xs xs] (hl_xs : xs.length = len_xs := by first | rfl | simp | omega | (simp; omega)) {id_ys off_ys len_ys : Nat} {ys : List Int} [h_ys : ArgE ic s id_ys off_ys ys] (hl_ys : ys.length = len_ys := by first | rfl | simp | omega | (simp; omega)) (hb : len_xs ≤ 2000000 ∧ len_ys ≤ 2000000 := by omega) :
    Fn [] 49 [.agg [ic st, ic re, .sl id_xs off_xs len_xs], .c (.sl id_ys off_ys len_ys)] s (IntsRes (VR st re xs ∧ RG st ys) (stepR st re xs ys)) := by
  refine F_start code49 ?_
  repeat' (first
 | refine A_go rfl ?_ | refine A_ifT rfl rfl ?_ | refine A_ifF rfl rfl ?_
 | (refine A_callM rfl rfl (fun s H => c_implRunRing (xs := xs) (ys := ys)) ?_; rintro _ _ ⟨pz, rfl, rfl, hlen⟩) | (refine A_callM0 rfl rfl (fun s H => c_implRunRing (xs := xs) (ys := ys)) ?_; rintro _ _ ⟨pz, rfl, rfl, hlen⟩)
 | refine A_p (by rfl) rfl ?_
 | refine A_ldW rfl (by simp) rfl ?_
 | ((first | refine A_box rfl rfl ?_ | refine A_boxC rfl rfl ?_) <;> intro pz hpz)
 | refine A_ret rfl (by exact (RP.t rfl (RP.t rfl RP.nil))) ?_)
  have e : ((VR st re xs ∧ RG st ys) ∧ (0 : Int) ≤ 1 ∧ (1 : Int) ≤ 1000) = (VR st re xs ∧ RG st ys) := propext ⟨fun h => h.1, fun h => ⟨h, by omega⟩⟩
  have e2 : runR st re xs ys (1 : Int).toNat = stepR st re xs ys := rfl
  simp only [e, e2] at hlen ⊢
  exact R_s ⟨_, rfl, rfl, hlen⟩
theorem c_l02Run {s : St} [Wf s] {q n : Nat} {st re : Int} {id_xs off_xs len_xs : Nat} {xs : List Int} [hq : Ref s q [ic st, ic re, .sl id_xs off_xs len_xs]] [h_xs : ArgE ic s id_xs off_xs xs] {id_ys off_ys len_ys : Nat} {ys : List Int} [h_ys : ArgE ic s id_ys off_ys ys] (hl_xs : xs.length = len_xs := by first | rfl | simp | omega) (hl_ys : ys.length = len_ys := by first | rfl | simp | omega) (hv : VR st re xs) (hr : RG st ys) (hn : n ≤ 1000000 := by omega) :
    Fn [] 102 [.c (.ptr q 0), .c (.sl id_ys off_ys len_ys), iv n] s fun R N => ∃ p, R = .c (.sl p 0 len_ys) ∧ N = [(p, ints (runR st re xs ys n))] := by
  have g3 := hr.1
  refine F_start code102 ?_
  repeat' (first
 | refine A_go rfl ?_ | refine A_ifT rfl rfl ?_ | refine A_ifF rfl rfl ?_
 | refine A_sub rfl rfl rfl (by omega) ?_
 | ((first | refine A_gt rfl rfl rfl ?_ ?_) <;> intro hc <;> try first | contradiction | (exfalso; omega) | exact absurd rfl hc)
 | refine A_p (by rfl) rfl ?_
 | ((first | refine A_bld1 rfl rfl ?_ | refine A_bld2 rfl rfl rfl ?_ | refine A_bld4 rfl rfl rfl rfl rfl ?_) <;> intro pz hpz)
 | refine A_bld0 rfl ?_
 | (refine A_app rfl rfl rfl (by first | omega | (simp; done) | (simp; omega)) (by first | omega | (simp; done) | (simp; omega)) (by omega) ?_; intro pz) | (refine A_appN (enc := ic) rfl (by decide) rfl rfl (by first | omega | (simp; done) | (simp; omega)) (by omega) ?_; intro pz)
 | refine A_ret1 rfl (by exact (RP.t rfl RP.nil)) ?_)
  refine A_loop rfl [pz] (fun m fr L => ∃ (i p : Nat), m = n - i ∧ fr = [(0, .c (.ptr q 0)), (2, iv ((n : Int) - i)), (7, .c (.sl p 0 len_ys))] ∧ L = [(p, ints (runR st re xs ys i))] ∧ i ≤ n) n ⟨0, _, rfl, by simp only [Int.ofNat_zero, Int.sub_zero, Nat.zero_add]; rfl, rfl, by omega⟩ ?_
  rintro m fr L ⟨i, p, rfl, rfl, rfl, hi⟩
  have hr' := runR_rg hv hr i
  have hl' := runR_len (st := st) (re := re) (xs := xs) (ys := ys) i
  repeat' (first
 | refine A_go rfl ?_ | refine A_ifT rfl rfl ?_ | refine A_ifF rfl rfl ?_
 | refine A_sub rfl rfl rfl (by omega) ?_
 | ((first | refine A_gt rfl rfl rfl ?_ ?_) <;> intro hc <;> try first | contradiction | (exfalso; omega) | exact absurd rfl hc)
 | (refine A_callM rfl rfl (fun s H => c_l02Step (hv := hv) (hr := hr')) ?_; rintro _ _ ⟨pz, rfl, rfl⟩) | (refine A_callM0 rfl rfl (fun s H => c_l02Step (hv := hv) (hr := hr')) ?_; rintro _ _ ⟨pz, rfl, rfl⟩)
 | refine A_p (by rfl) rfl ?_
 | ((first | refine A_bld1 rfl rfl ?_ | refine A_bld2 rfl rfl rfl ?_ | refine A_bld4 rfl rfl rfl rfl rfl ?_) <;> intro pz hpz)
 | refine A_bld0 rfl ?_
 | (refine A_app rfl rfl rfl (by first | omega | (simp; done) | (simp; omega)) (by first | omega | (simp; done) | (simp; omega)) (by omega) ?_; intro pz) | (refine A_appN (enc := ic) rfl (by decide) rfl rfl (by first | omega | (simp; done) | (simp; omega)) (by omega) ?_; intro pz)
 | refine A_ret1 rfl (by exact (RP.t rfl RP.nil)) ?_)
  · refine A_round rfl [pz] (n - (i + 1)) (by omega) ?_
    exact ⟨i + 1, pz, rfl, by rw [show (n : Int) - i - 1 = (n : Int) - ((i + 1 : Nat) : Int) by omega]; rfl, rfl, by omega⟩
  · obtain rfl : n = i := by omega
    exact R_s ⟨_, rfl, rfl⟩
theorem c_specRunRing {s : St} [Wf s] {st re steps : Int} {id_xs off_xs len_xs : Nat} {xs : List Int} [h_xs : ArgE ic s id_xs off_xs xs] (hl_xs : xs.length = len_xs := by first | rfl | simp | omega | (simp; omega)) {id_ys off_ys len_ys : Nat} {ys : List Int} [h_ys : ArgE ic s id_ys off_ys ys] (hl_ys : ys.length = len_ys := by first | rfl | simp | omega | (simp; omega)) (hb : len_xs ≤ 2000000 ∧ len_ys ≤ 2000000 := by omega) :
    Fn [] 54 [.agg [ic st, ic re, .sl id_xs off_xs len_xs], .c (.sl id_ys off_ys len_ys), iv steps] s (IntsRes ((VR st re xs ∧ RG st ys) ∧ 0 ≤ steps ∧ steps ≤ 1000) (runR st re xs ys steps.toNat)) := by
  refine F_start code54 ?_
  by_cases hv : VR st re xs ∧ RG st ys
  case neg =>
    repeat' (first
 | refine A_go rfl ?_ | refine A_ifT rfl rfl ?_ | refine A_ifF rfl rfl ?_
 | refine A_offP rfl rfl ?_ | refine A_offH rfl rfl ?_ | refine A_off0 rfl rfl ?_
 | (refine A_callB rfl rfl (fun s H => c_l02Can (ys := ys)) ?_ ?_ <;> intro hc <;> try first | contradiction | (exfalso; omega) | exact absurd rfl hc | exact absurd (And.intro rfl rfl) hc | exact absurd (And.intro rfl (And.intro rfl rfl)) hc | exact absurd (Eq.trans (by assumption) (Eq.symm (by assumption))) hc)
 | refine A_p (by rfl) rfl ?_
 | ((first | refine A_box rfl rfl ?_ | refine A_boxC rfl rfl ?_) <;> intro pz hpz)
 | refine A_ret rfl (by exact (RP.t rfl (RP.t rfl RP.nil))) ?_)
    exact R_intsN fun h => hv h.1
  by_cases hs : 0 ≤ steps ∧ steps ≤ 1000
  case neg =>
    repeat' (first
 | refine A_go rfl ?_ | refine A_ifT rfl rfl ?_ | refine A_ifF rfl rfl ?_
 | refine A_offP rfl rfl ?_ | refine A_offH rfl rfl ?_ | refine A_off0 rfl rfl ?_
 | (refine A_callB rfl rfl (fun s H => c_l02Can (ys := ys)) ?_ ?_ <;> intro hc <;> try first | contradiction | (exfalso; omega) | exact absurd rfl hc | exact absurd (And.intro rfl rfl) hc | exact absurd (And.intro rfl (And.intro rfl rfl)) hc | exact absurd (Eq.trans (by assumption) (Eq.symm (by assumption))) hc)
 | (refine A_callB rfl rfl (fun s H => c_l00In) ?_ ?_ <;> intro hc <;> try first | contradiction | (exfalso; omega) | exact absurd rfl hc | exact absurd (And.intro rfl rfl) hc | exact absurd (And.intro rfl (And.intro rfl rfl)) hc | exact absurd (Eq.trans (by assumption) (Eq.symm (by assumption))) hc)
 | refine A_p (by rfl) rfl ?_
 | ((first | refine A_box rfl rfl ?_ | refine A_boxC rfl rfl ?_) <;> intro pz hpz)
 | refine A_ret rfl (by exact (RP.t rfl (RP.t rfl RP.nil))) ?_)
    exact R_intsN fun h => hs h.2
  obtain ⟨n, rfl⟩ : ∃ n : Nat, steps = n := ⟨steps.toNat, by omega⟩
  have hl' := runR_len (st := st) (re := re) (xs := xs) (ys := ys) n
  have := hv.2.1
  repeat' (first
 | refine A_go rfl ?_ | refine A_ifT rfl rfl ?_ | refine A_ifF rfl rfl ?_
 | refine A_offP rfl rfl ?_ | refine A_offH rfl rfl ?_ | refine A_off0 rfl rfl ?_
 | (refine A_callB rfl rfl (fun s H => c_l02Can (ys := ys)) ?_ ?_ <;> intro hc <;> try first | contradiction | (exfalso; omega) | exact absurd rfl hc | exact absurd (And.intro rfl rfl) hc | exact absurd (And.intro rfl (And.intro rfl rfl)) hc | exact absurd (Eq.trans (by assumption) (Eq.symm (by assumption))) hc)
 | (refine A_callB rfl rfl (fun s H => c_l00In) ?_ ?_ <;> intro hc <;> try first | contradiction | (exfalso; omega) | exact absurd rfl hc | exact absurd (And.intro rfl rfl) hc | exact absurd (And.intro rfl (And.intro rfl rfl)) hc | exact absurd (Eq.trans (by assumption) (Eq.symm (by assumption))) hc)
 | (refine A_callM rfl rfl (fun s H => c_l02Run (hv := hv.1) (hr := hv.2)) ?_; rintro _ _ ⟨pz, rfl, rfl⟩) | (refine A_callM0 rfl rfl (fun s H => c_l02Run (hv := hv.1) (hr := hv.2)) ?_; rintro _ _ ⟨pz, rfl, rfl⟩)
 | refine A_p (by rfl) rfl ?_
 | ((first | refine A_box rfl rfl ?_ | refine A_boxC rfl rfl ?_) <;> intro pz hpz)
 | refine A_ret rfl (by exact (RP.t rfl (RP.t rfl RP.nil))) ?_)
  rw [Int.toNat_natCast]
  exact R_ints ⟨hv, hs⟩ (by omega) (by omega)
theorem c_specStepRing {s : St} [Wf s] {st re : Int} {id_xs off_xs len_xs : Nat} {xs : List Int} [h_xs : ArgE ic s id_xs off_xs xs] (hl_xs : xs.length = len_xs := by first | rfl | simp | omega | (simp; omega)) {id_ys off_ys len_ys : Nat} {ys : List Int} [h_ys : ArgE ic s id_ys off_ys ys] (hl_ys : ys.length = len_ys := by first | rfl | simp | omega | (simp; omega)) (hb : len_xs ≤ 2000000 ∧ len_ys ≤ 2000000 := by omega) :
    Fn [] 40 [.agg [ic st, ic re, .sl id_xs off_xs len_xs], .c (.sl id_ys off_ys len_ys)] s (IntsRes (VR st re xs ∧ RG st ys) (stepR st re xs ys)) := by
  refine F_start code40 ?_
  by_cases hv : VR st re xs ∧ RG st ys
  case neg =>
    repeat' (first
 | refine A_go rfl ?_ | refine A_ifT rfl rfl ?_ | refine A_ifF rfl rfl ?_
 | (refine A_callB rfl rfl (fun s H => c_l02Can (ys := ys)) ?_ ?_ <;> intro hc <;> try first | contradiction | (exfalso; omega) | exact absurd rfl hc | exact absurd (And.intro rfl rfl) hc | exact absurd (And.intro rfl (And.intro rfl rfl)) hc | exact absurd (Eq.trans (by assumption) (Eq.symm (by assumption))) hc)
 | refine A_p (by rfl) rfl ?_
 | ((first | refine A_box rfl rfl ?_ | refine A_boxC rfl rfl ?_) <;> intro pz hpz)
 | refine A_ret rfl (by exact (RP.t rfl (RP.t rfl RP.nil))) ?_)
    exact R_intsN hv
  have := hv.2.1
  repeat' (first
 | refine A_go rfl ?_ | refine A_ifT rfl rfl ?_ | refine A_ifF rfl rfl ?_
 | (refine A_callB rfl rfl (fun s H => c_l02Can (ys := ys)) ?_ ?_ <;> intro hc <;> try first | contradiction | (exfalso; omega) | exact absurd rfl hc | exact absurd (And.intro rfl rfl) hc | exact absurd (And.intro rfl (And.intro rfl rfl)) hc | exact absurd (Eq.trans (by assumption) (Eq.symm (by assumption))) hc)
 | (refine A_callM rfl rfl (fun s H => c_l02Step (hv := hv.1) (hr := hv.2)) ?_; rintro _ _ ⟨pz, rfl, rfl⟩) | (refine A_callM0 rfl rfl (fun s H => c_l02Step (hv := hv.1) (hr := hv.2)) ?_; rintro _ _ ⟨pz, rfl, rfl⟩)
 | refine A_p (by rfl) rfl ?_
 | ((first | refine A_box rfl rfl ?_ | refine A_boxC rfl rfl ?_) <;> intro pz hpz)
 | refine A_ret rfl (by exact (RP.t rfl (RP.t rfl RP.nil))) ?_)
  exact R_ints hv (by simp; omega) (by omega)

end Go.Proofs.Ytafdjnhlhepibaa
