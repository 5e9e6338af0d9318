/- Rings behind steps. -/
import Derived.Test.YtkeabhhndcpejaaXringed
import Derived.Test.YtkeabhhndcpejaaXruleLaws
import Derived.Test.YtkeabhhndcpejaaXwithin
import Derived.Test.YtkeabhhndcpejaaXmade
import Derived.Test.YtkeabhhndcpejaaFB
namespace Go.Proofs.Ytkeabhhndcpejaa
open Go Go.RowKit
set_option linter.unusedVariables false
set_option linter.unusedSimpArgs false
set_option maxRecDepth 100000
set_option maxHeartbeats 8000000
-- spec.l02Run
def L86 : AFun := ⟨19, [.t 6],
 (.seq (.ops false [⟨(some 6), .mv (.k (.c (.sl 0 0 0))), none, []⟩])
 (.seq (.ops false [⟨(some 8), .buildS 2 1 0 [.int .i64 0] [], none, []⟩,
   ⟨(some 9), .mv (.t 1), none, []⟩,
   ⟨(some 10), .append 2 1 8 (.t 8) (.t 9), none, []⟩,
   ⟨(some 7), .mv (.t 10), none, []⟩])
 (.seq (.block 0 (.loop [0, 2, 7] (.seq (.seq (.ops false [⟨(some 11), .mv (.t 2), none, []⟩,
       ⟨(some 12), .bin .gtr (.t 11) (.k (iv 0)), none, []⟩])
     (.cond (.t 12) .skip
      (.exit 0)))
    (.seq (.block 1 (.ops false [⟨(some 15), .mv (.t 0), none, []⟩,
       ⟨(some 16), .mv (.t 7), none, []⟩,
       ⟨(some 17), .call (.f 55) [(.t 15), (.t 16)], none, []⟩,
       ⟨(some 7), .mv (.t 17), none, []⟩]))
    (.ops false [⟨(some 13), .mv (.t 2), none, []⟩,
     ⟨(some 14), .bin .sub (.t 13) (.k (iv 1)), none, []⟩,
     ⟨(some 2), .mv (.t 14), none, []⟩])))))
 (.seq (.ops false [⟨(some 18), .mv (.t 7), none, []⟩,
   ⟨(some 6), .mv (.t 18), none, []⟩])
 .ret))))⟩
theorem code86 : acode Try.prog hints 86 = some L86 := by kernel_rfl


def runR (st re : Int) (xs ys : List Int) : Nat → List Int
  | 0 => ys
  | n + 1 => stepR st re xs (runR st re xs ys n)
theorem runR_len {st re : Int} {xs ys : List Int} : ∀ n, (runR st re xs ys n).length = ys.length
  | 0 => rfl
  | n + 1 => by simp [runR, runR_len n]
theorem runR_rg {st re : Int} {xs ys : List Int} (hv : VR st re xs) (hr : RG st ys) : ∀ n, RG st (runR st re xs ys n)
  | 0 => hr
  | n + 1 => stepR_rg hv (runR_rg hv hr n)
theorem c_l02Run {s : St} [Wf s] {q n : Nat} {st re : Int} {id_xs off_xs len_xs : Nat} {xs : List Int} [hq : Ref s q [ic st, ic re, .sl id_xs off_xs len_xs]] [h_xs : ArgE ic s id_xs off_xs xs] {id_ys off_ys len_ys : Nat} {ys : List Int} [h_ys : ArgE ic s id_ys off_ys ys] (hl_xs : xs.length = len_xs := by first | rfl | simp | omega) (hl_ys : ys.length = len_ys := by first | rfl | simp | omega) (hv : VR st re xs) (hr : RG st ys) (hn : n ≤ 1000000 := by omega) :
    Fn [] 86 [.c (.ptr q 0), .c (.sl id_ys off_ys len_ys), iv n] s fun R N => ∃ p, R = .c (.sl p 0 len_ys) ∧ N = [(p, ints (runR st re xs ys n))] := by
  have g3 := hr.1
  refine F_start code86 ?_
  repeat' (first
 | refine A_go rfl ?_ | refine A_ifT rfl rfl ?_ | refine A_ifF rfl rfl ?_
 | refine A_sub rfl rfl rfl (by omega) ?_
 | ((first | refine A_gt rfl rfl rfl ?_ ?_) <;> intro hc <;> try first | contradiction | (exfalso; omega) | exact absurd rfl hc)
 | refine A_p (by rfl) rfl ?_
 | ((first | refine A_bld1 rfl rfl ?_ | refine A_bld2 rfl rfl rfl ?_ | refine A_bld4 rfl rfl rfl rfl rfl ?_) <;> intro pz hpz)
 | refine A_bld0 rfl ?_
 | (refine A_app rfl rfl rfl (by first | omega | (simp; done) | (simp; omega)) (by first | omega | (simp; done) | (simp; omega)) (by omega) ?_; intro pz) | (refine A_appN (enc := ic) rfl (by decide) rfl rfl (by first | omega | (simp; done) | (simp; omega)) (by omega) ?_; intro pz)
 | refine A_ret1 rfl (by exact (RP.t rfl RP.nil)) ?_)
  refine A_loop rfl [pz] (fun m fr L => ∃ (i p : Nat), m = n - i ∧ fr = [(0, .c (.ptr q 0)), (2, iv ((n : Int) - i)), (7, .c (.sl p 0 len_ys))] ∧ L = [(p, ints (runR st re xs ys i))] ∧ i ≤ n) n ⟨0, _, rfl, by simp only [Int.ofNat_zero, Int.sub_zero, Nat.zero_add]; rfl, rfl, by omega⟩ ?_
  rintro m fr L ⟨i, p, rfl, rfl, rfl, hi⟩
  have hr' := runR_rg hv hr i
  have hl' := runR_len (st := st) (re := re) (xs := xs) (ys := ys) i
  repeat' (first
 | refine A_go rfl ?_ | refine A_ifT rfl rfl ?_ | refine A_ifF rfl rfl ?_
 | refine A_sub rfl rfl rfl (by omega) ?_
 | ((first | refine A_gt rfl rfl rfl ?_ ?_) <;> intro hc <;> try first | contradiction | (exfalso; omega) | exact absurd rfl hc)
 | (refine A_callM rfl rfl (fun s H => c_l02Step (hv := hv) (hr := hr')) ?_; rintro _ _ ⟨pz, rfl, rfl⟩) | (refine A_callM0 rfl rfl (fun s H => c_l02Step (hv := hv) (hr := hr')) ?_; rintro _ _ ⟨pz, rfl, rfl⟩)
 | refine A_p (by rfl) rfl ?_
 | ((first | refine A_bld1 rfl rfl ?_ | refine A_bld2 rfl rfl rfl ?_ | refine A_bld4 rfl rfl rfl rfl rfl ?_) <;> intro pz hpz)
 | refine A_bld0 rfl ?_
 | (refine A_app rfl rfl rfl (by first | omega | (simp; done) | (simp; omega)) (by first | omega | (simp; done) | (simp; omega)) (by omega) ?_; intro pz) | (refine A_appN (enc := ic) rfl (by decide) rfl rfl (by first | omega | (simp; done) | (simp; omega)) (by omega) ?_; intro pz)
 | refine A_ret1 rfl (by exact (RP.t rfl RP.nil)) ?_)
  · refine A_round rfl [pz] (n - (i + 1)) (by omega) ?_
    exact ⟨i + 1, pz, rfl, by rw [show (n : Int) - i - 1 = (n : Int) - ((i + 1 : Nat) : Int) by omega]; rfl, rfl, by omega⟩
  · obtain rfl : n = i := by omega
    exact R_s ⟨_, rfl, rfl⟩
end Go.Proofs.Ytkeabhhndcpejaa
