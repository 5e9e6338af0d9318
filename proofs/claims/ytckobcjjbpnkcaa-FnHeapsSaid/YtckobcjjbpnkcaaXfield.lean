/- What the laws do with fields. -/
import Derived.Test.YtckobcjjbpnkcaaXtoInts
import Derived.Test.YtckobcjjbpnkcaaXeqInts
import Derived.Test.YtckobcjjbpnkcaaXsz
import Derived.Test.YtckobcjjbpnkcaaXmark
import Derived.Test.YtckobcjjbpnkcaaFB
namespace Go.Proofs.Ytckobcjjbpnkcaa
open Go Go.RowKit
set_option linter.unusedVariables false
set_option linter.unusedSimpArgs false
set_option maxRecDepth 100000
set_option maxHeartbeats 8000000
-- laws.eqField
def L10 : AFun := ⟨21, [.t 4],
 (.seq (.ops false [⟨(some 2), .box 25 (.t 0), none, []⟩,
   ⟨(some 3), .box 25 (.t 1), none, []⟩,
   ⟨(some 4), .mv (.k (bv false)), none, []⟩])
 (.seq (.seq (.ops false [⟨(some 5), .fieldA 0 (.t 2), none, []⟩,
    ⟨(some 6), .load false 1 (.t 5), none, []⟩,
    ⟨(some 7), .fieldA 0 (.t 3), none, []⟩,
    ⟨(some 8), .load false 1 (.t 7), none, []⟩,
    ⟨(some 9), .bin .neq (.t 6) (.t 8), none, []⟩])
  (.cond (.t 9) (.seq (.ops false [⟨(some 4), .mv (.k (bv false)), none, []⟩])
   .ret)
   .skip))
 (.seq (.seq (.ops false [⟨(some 10), .fieldA 1 (.t 2), none, []⟩,
    ⟨(some 11), .load false 1 (.t 10), none, []⟩,
    ⟨(some 12), .fieldA 1 (.t 3), none, []⟩,
    ⟨(some 13), .load false 1 (.t 12), none, []⟩,
    ⟨(some 14), .bin .neq (.t 11) (.t 13), none, []⟩])
  (.cond (.t 14) (.seq (.ops false [⟨(some 4), .mv (.k (bv false)), none, []⟩])
   .ret)
   .skip))
 (.seq (.seq (.ops false [⟨(some 15), .fieldA 2 (.t 2), none, []⟩,
    ⟨(some 16), .load false 1 (.t 15), none, []⟩,
    ⟨(some 17), .fieldA 2 (.t 3), none, []⟩,
    ⟨(some 18), .load false 1 (.t 17), none, []⟩,
    ⟨(some 19), .call (.f 15) [(.t 16), (.t 18)], none, []⟩,
    ⟨(some 20), .un .not (.t 19), none, []⟩])
  (.cond (.t 20) (.seq (.ops false [⟨(some 4), .mv (.k (bv false)), none, []⟩])
   .ret)
   .skip))
 (.seq (.ops false [⟨(some 4), .mv (.k (bv true)), none, []⟩])
 .ret)))))⟩
theorem code10 : acode Try.prog hints 10 = some L10 := by kernel_rfl

-- laws.markField
def L11 : AFun := ⟨10, [.t 4],
 (.seq (.ops false [⟨(some 2), .box 25 (.t 0), none, []⟩,
   ⟨(some 4), .mv (.k (iv 0)), none, []⟩])
 (.seq (.ops false [⟨(some 5), .fieldA 2 (.t 2), none, []⟩,
   ⟨(some 6), .load false 1 (.t 5), none, []⟩,
   ⟨(some 7), .mv (.t 1), none, []⟩,
   ⟨(some 8), .call (.f 16) [(.t 6), (.t 7)], none, []⟩,
   ⟨(some 1), .mv (.t 8), none, []⟩])
 (.seq (.ops false [⟨(some 9), .mv (.t 1), none, []⟩,
   ⟨(some 4), .mv (.t 9), none, []⟩])
 .ret)))⟩
theorem code11 : acode Try.prog hints 11 = some L11 := by kernel_rfl

-- laws.heldField
def L12 : AFun := ⟨12, [.t 4],
 (.seq (.ops false [⟨(some 2), .box 25 (.t 0), none, []⟩,
   ⟨(some 4), .mv (.k (iv 0)), none, []⟩])
 (.seq (.ops false [⟨(some 5), .fieldA 2 (.t 2), none, []⟩,
   ⟨(some 6), .load false 1 (.t 5), none, []⟩,
   ⟨(some 7), .mv (.t 1), none, []⟩,
   ⟨(some 8), .call (.f 17) [(.t 6), (.t 7)], none, []⟩,
   ⟨(some 1), .mv (.t 8), none, []⟩])
 (.seq (.seq (.ops false [⟨(some 9), .mv (.t 1), none, []⟩,
    ⟨(some 10), .bin .lss (.t 9) (.k (iv 0)), none, []⟩])
  (.cond (.t 10) (.seq (.ops false [⟨(some 4), .mv (.k (iv (-1))), none, []⟩])
   .ret)
   .skip))
 (.seq (.ops false [⟨(some 11), .mv (.t 1), none, []⟩,
   ⟨(some 4), .mv (.t 11), none, []⟩])
 .ret))))⟩
theorem code12 : acode Try.prog hints 12 = some L12 := by kernel_rfl


theorem c_eqField {s : St} [Wf s] {r c r2 c2 : Int} {id off len id2 off2 len2 : Nat} {xs ys : List Int} [hx : ArgE ic s id off xs] [hy : ArgE ic s id2 off2 ys] (hl : xs.length = len := by first | rfl | simp | omega | (simp; omega)) (hl2 : ys.length = len2 := by first | rfl | simp | omega | (simp; omega)) (hb : len ≤ 2000000 := by omega) :
    FnB 10 [.agg [ic r, ic c, .sl id off len], .agg [ic r2, ic c2, .sl id2 off2 len2]] s (r = r2 ∧ c = c2 ∧ xs = ys) := by
  refine F_start code10 ?_
  repeat' (first
 | refine A_go rfl ?_ | refine A_ifT rfl rfl ?_ | refine A_ifF rfl rfl ?_
 | ((first | refine A_ne rfl rfl rfl ?_ ?_) <;> intro hc <;> try first | contradiction | (exfalso; omega) | exact absurd rfl hc)
 | (refine A_callB rfl rfl (fun s H => c_eqInt64S) ?_ ?_ <;> intro hc <;> try first | contradiction | (exfalso; omega) | exact absurd rfl hc | exact absurd (And.intro rfl rfl) hc | exact absurd (And.intro rfl (And.intro rfl rfl)) hc | exact absurd (Eq.trans (by assumption) (Eq.symm (by assumption))) hc)
 | refine A_fld rfl rfl ?_ | refine A_p (by rfl) rfl ?_
 | refine A_ldI rfl (by first | omega | (simp; done) | (simp; omega)) rfl ?_ | refine A_ldB rfl (by first | omega | (simp; done) | (simp; omega)) rfl ?_ | refine A_ld rfl (by rfl) rfl ?_
 | ((first | refine A_box rfl rfl ?_ | refine A_boxC rfl rfl ?_) <;> intro pz hpz)
 | refine A_ret1 rfl (by exact (RP.t rfl RP.nil)) ?_)
  all_goals first | exact R_t ⟨by assumption, by assumption, by assumption⟩ | exact R_f (by simp_all)
theorem c_markField {s : St} [Wf s] {r c : Int} {p len : Nat} {xs : List Int} {k : Int} [hx : Bor s p (ints xs)] (hl : xs.length = len := by first | rfl | simp | omega | (simp; omega)) (hb : 0 ≤ k ∧ k + len ≤ 9223372036854775807 := by omega) :
    Fn [p] 11 [.agg [ic r, ic c, .sl p 0 len], iv k] s fun r N => r = iv (k + len) ∧ N = [(p, ints (marks k len))] := by
  refine F_start1 code11 ?_
  repeat' (first
 | refine A_go rfl ?_ | refine A_ifT rfl rfl ?_ | refine A_ifF rfl rfl ?_
 | (refine A_callM rfl rfl (fun s H => c_markInt64S) ?_; rintro _ _ ⟨rfl, rfl⟩) | (refine A_callM0 rfl rfl (fun s H => c_markInt64S) ?_; rintro _ _ ⟨rfl, rfl⟩)
 | refine A_fld rfl rfl ?_ | refine A_p (by rfl) rfl ?_
 | refine A_ldI rfl (by first | omega | (simp; done) | (simp; omega)) rfl ?_ | refine A_ldB rfl (by first | omega | (simp; done) | (simp; omega)) rfl ?_ | refine A_ld rfl (by rfl) rfl ?_
 | ((first | refine A_box rfl rfl ?_ | refine A_boxC rfl rfl ?_) <;> intro pz hpz)
 | refine A_ret1 rfl (by exact (RP.t rfl RP.nil)) ?_)
  exact R_s ⟨rfl, rfl⟩
theorem c_heldField {s : St} [Wf s] {r c : Int} {id off len n : Nat} {k k' : Int} [hx : ArgE ic s id off (marks k n)] (hl : n = len := by first | rfl | simp | omega) (hk : k' = k := by first | rfl | omega) (hb : 0 ≤ k ∧ k + n ≤ 9223372036854775807 := by omega) :
    FnV 12 [.agg [ic r, ic c, .sl id off len], iv k'] s (iv (k + len)) := by
  refine F_start code12 ?_
  repeat' (first
 | refine A_go rfl ?_ | refine A_ifT rfl rfl ?_ | refine A_ifF rfl rfl ?_
 | ((first | refine A_lt rfl rfl rfl ?_ ?_) <;> intro hc <;> try first | contradiction | (exfalso; omega) | exact absurd rfl hc)
 | refine A_callV rfl rfl (fun s H => c_heldInt64S) ?_
 | refine A_fld rfl rfl ?_ | refine A_p (by rfl) rfl ?_
 | refine A_ldI rfl (by first | omega | (simp; done) | (simp; omega)) rfl ?_ | refine A_ldB rfl (by first | omega | (simp; done) | (simp; omega)) rfl ?_ | refine A_ld rfl (by rfl) rfl ?_
 | ((first | refine A_box rfl rfl ?_ | refine A_boxC rfl rfl ?_) <;> intro pz hpz)
 | refine A_ret1 rfl (by exact (RP.t rfl RP.nil)) ?_)
  exact R_v rfl

end Go.Proofs.Ytckobcjjbpnkcaa
