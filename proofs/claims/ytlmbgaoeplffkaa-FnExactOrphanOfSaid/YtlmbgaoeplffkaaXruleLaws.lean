/- What the laws do with rules. -/
import Derived.Test.YtlmbgaoeplffkaaXtoInts
import Derived.Test.YtlmbgaoeplffkaaXeqInts
import Derived.Test.YtlmbgaoeplffkaaXsz
import Derived.Test.YtlmbgaoeplffkaaXmark
import Derived.Test.YtlmbgaoeplffkaaFB
namespace Go.Proofs.Ytlmbgaoeplffkaa
open Go Go.RowKit
set_option linter.unusedVariables false
set_option linter.unusedSimpArgs false
set_option maxRecDepth 100000
set_option maxHeartbeats 8000000
-- laws.toRule
def L19 : AFun := ⟨15, [.cell true 3 2],
 (.seq (.ops false [⟨(some 1), .box 41 (.t 0), none, []⟩,
   ⟨(some 2), .alloc 27 [.int .i64 0, .int .i64 0, .sl 0 0 0], none, []⟩])
 (.seq (.ops false [⟨(some 3), .alloc 27 [.int .i64 0, .int .i64 0, .sl 0 0 0], none, []⟩])
 (.seq (.ops false [⟨(some 4), .fieldA 0 (.t 1), none, []⟩,
   ⟨(some 5), .load false 1 (.t 4), none, []⟩,
   ⟨(some 6), .fieldA 0 (.t 3), none, []⟩,
   ⟨none, .store 1 (.t 6) (.t 5), none, []⟩])
 (.seq (.ops false [⟨(some 7), .fieldA 1 (.t 1), none, []⟩,
   ⟨(some 8), .load false 1 (.t 7), none, []⟩,
   ⟨(some 9), .fieldA 1 (.t 3), none, []⟩,
   ⟨none, .store 1 (.t 9) (.t 8), none, []⟩])
 (.seq (.ops false [⟨(some 10), .fieldA 2 (.t 1), none, []⟩,
   ⟨(some 11), .load false 1 (.t 10), none, []⟩,
   ⟨(some 12), .call (.f 27) [(.t 11)], none, []⟩,
   ⟨(some 13), .fieldA 2 (.t 3), none, []⟩,
   ⟨none, .store 1 (.t 13) (.t 12), none, []⟩])
 (.seq (.ops false [⟨(some 14), .load true 3 (.t 3), none, []⟩,
   ⟨none, .store 3 (.t 2) (.t 14), none, []⟩])
 .ret))))))⟩
theorem code19 : acode Try.prog hints 19 = some L19 := by kernel_rfl

-- laws.szRule
def L17 : AFun := ⟨12, [.t 4],
 (.seq (.ops false [⟨(some 2), .box 41 (.t 0), none, []⟩,
   ⟨(some 4), .mv (.k (iv 0)), none, []⟩])
 (.seq (.ops false [⟨(some 5), .fieldA 2 (.t 2), none, []⟩,
   ⟨(some 6), .load false 1 (.t 5), none, []⟩,
   ⟨(some 7), .mv (.t 1), none, []⟩,
   ⟨(some 8), .call (.f 46) [(.t 6), (.t 7)], none, []⟩,
   ⟨(some 1), .mv (.t 8), none, []⟩])
 (.seq (.seq (.ops false [⟨(some 9), .mv (.t 1), none, []⟩,
    ⟨(some 10), .bin .lss (.t 9) (.k (iv 0)), none, []⟩])
  (.cond (.t 10) (.seq (.ops false [⟨(some 4), .mv (.k (iv (-1))), none, []⟩])
   .ret)
   .skip))
 (.seq (.ops false [⟨(some 11), .mv (.t 1), none, []⟩,
   ⟨(some 4), .mv (.t 11), none, []⟩])
 .ret))))⟩
theorem code17 : acode Try.prog hints 17 = some L17 := by kernel_rfl

-- laws.eqRule
def L22 : AFun := ⟨21, [.t 4],
 (.seq (.ops false [⟨(some 2), .box 27 (.t 0), none, []⟩,
   ⟨(some 3), .box 27 (.t 1), none, []⟩,
   ⟨(some 4), .mv (.k (bv false)), none, []⟩])
 (.seq (.seq (.ops false [⟨(some 5), .fieldA 0 (.t 2), none, []⟩,
    ⟨(some 6), .load false 1 (.t 5), none, []⟩,
    ⟨(some 7), .fieldA 0 (.t 3), none, []⟩,
    ⟨(some 8), .load false 1 (.t 7), none, []⟩,
    ⟨(some 9), .bin .neq (.t 6) (.t 8), none, []⟩])
  (.cond (.t 9) (.seq (.ops false [⟨(some 4), .mv (.k (bv false)), none, []⟩])
   .ret)
   .skip))
 (.seq (.seq (.ops false [⟨(some 10), .fieldA 1 (.t 2), none, []⟩,
    ⟨(some 11), .load false 1 (.t 10), none, []⟩,
    ⟨(some 12), .fieldA 1 (.t 3), none, []⟩,
    ⟨(some 13), .load false 1 (.t 12), none, []⟩,
    ⟨(some 14), .bin .neq (.t 11) (.t 13), none, []⟩])
  (.cond (.t 14) (.seq (.ops false [⟨(some 4), .mv (.k (bv false)), none, []⟩])
   .ret)
   .skip))
 (.seq (.seq (.ops false [⟨(some 15), .fieldA 2 (.t 2), none, []⟩,
    ⟨(some 16), .load false 1 (.t 15), none, []⟩,
    ⟨(some 17), .fieldA 2 (.t 3), none, []⟩,
    ⟨(some 18), .load false 1 (.t 17), none, []⟩,
    ⟨(some 19), .call (.f 21) [(.t 16), (.t 18)], none, []⟩,
    ⟨(some 20), .un .not (.t 19), none, []⟩])
  (.cond (.t 20) (.seq (.ops false [⟨(some 4), .mv (.k (bv false)), none, []⟩])
   .ret)
   .skip))
 (.seq (.ops false [⟨(some 4), .mv (.k (bv true)), none, []⟩])
 .ret)))))⟩
theorem code22 : acode Try.prog hints 22 = some L22 := by kernel_rfl

-- laws.markRule
def L23 : AFun := ⟨10, [.t 4],
 (.seq (.ops false [⟨(some 2), .box 27 (.t 0), none, []⟩,
   ⟨(some 4), .mv (.k (iv 0)), none, []⟩])
 (.seq (.ops false [⟨(some 5), .fieldA 2 (.t 2), none, []⟩,
   ⟨(some 6), .load false 1 (.t 5), none, []⟩,
   ⟨(some 7), .mv (.t 1), none, []⟩,
   ⟨(some 8), .call (.f 24) [(.t 6), (.t 7)], none, []⟩,
   ⟨(some 1), .mv (.t 8), none, []⟩])
 (.seq (.ops false [⟨(some 9), .mv (.t 1), none, []⟩,
   ⟨(some 4), .mv (.t 9), none, []⟩])
 .ret)))⟩
theorem code23 : acode Try.prog hints 23 = some L23 := by kernel_rfl


theorem c_toRule {s : St} [Wf s] {r c : Int} {id_xs off_xs len_xs : Nat} {xs : List Int} [h_xs : ArgE ic s id_xs off_xs xs] (hl_xs : xs.length = len_xs := by first | rfl | simp | omega | (simp; omega)) (hb : len_xs ≤ 2000000 := by omega) :
    Fn [] 19 [.agg [ic r, ic c, .sl id_xs off_xs len_xs]] s fun R N => ∃ p, R = .agg [ic r, ic c, .sl p 0 len_xs] ∧ N = [(p, ints xs)] := by
  refine F_start code19 ?_
  repeat' (first
 | refine A_go rfl ?_ | refine A_ifT rfl rfl ?_ | refine A_ifF rfl rfl ?_
 | (refine A_callM rfl rfl (fun s H => c_toInt64S) ?_; rintro _ _ ⟨pz, rfl, rfl⟩) | (refine A_callM0 rfl rfl (fun s H => c_toInt64S) ?_; rintro _ _ ⟨pz, rfl, rfl⟩)
 | refine A_fld rfl rfl ?_ | refine A_p (by rfl) rfl ?_
 | refine A_ldI rfl (by first | omega | (simp; done) | (simp; omega)) rfl ?_ | refine A_ldB rfl (by first | omega | (simp; done) | (simp; omega)) rfl ?_ | refine A_ld rfl (by rfl) rfl ?_
 | refine A_ldW rfl (by simp) rfl ?_
 | refine A_st rfl rfl rfl ?_ | refine A_stE rfl rfl (by first | omega | (simp; done) | (simp; omega)) rfl ?_
 | refine A_stW rfl rfl (by simp) rfl ?_
 | ((first | refine A_alloc rfl ?_ | refine A_box rfl rfl ?_ | refine A_boxC rfl rfl ?_) <;> intro pz hpz)
 | refine A_ret1 rfl (by exact (RP.c rfl inferInstance rfl (by simp) RP.nil)) ?_)
  exact R_s ⟨_, rfl, rfl⟩
theorem c_szRule {s : St} [Wf s] {r c : Int} {id off n : Nat} {left : Int} (hl : 0 ≤ left ∧ left ≤ 2000000 := by omega) (hn : n ≤ 9223372036854775807 := by omega) : Fn [] 17 [.agg [ic r, ic c, .sl id off n], iv left] s fun r N => (∃ l', r = iv l' ∧ l' ≤ left ∧ (l' < 0 ∨ l' = left - n)) ∧ N = [] := by
  refine F_start code17 ?_
  repeat' (first
 | refine A_go rfl ?_ | refine A_ifT rfl rfl ?_ | refine A_ifF rfl rfl ?_
 | ((first | refine A_lt rfl rfl rfl ?_ ?_) <;> intro hc <;> try first | contradiction | (exfalso; omega) | exact absurd rfl hc)
 | (refine A_callM rfl rfl (fun s H => c_szInt64S) ?_; rintro _ _ ⟨⟨l, rfl, hl1, hl2⟩, rfl⟩) | (refine A_callM0 rfl rfl (fun s H => c_szInt64S) ?_; rintro _ _ ⟨⟨l, rfl, hl1, hl2⟩, rfl⟩)
 | refine A_fld rfl rfl ?_ | refine A_p (by rfl) rfl ?_
 | refine A_ldI rfl (by first | omega | (simp; done) | (simp; omega)) rfl ?_ | refine A_ldB rfl (by first | omega | (simp; done) | (simp; omega)) rfl ?_ | refine A_ld rfl (by rfl) rfl ?_
 | ((first | refine A_box rfl rfl ?_ | refine A_boxC rfl rfl ?_) <;> intro pz hpz)
 | refine A_ret1 rfl (by exact (RP.t rfl RP.nil)) ?_)
  · exact R_s ⟨⟨_, rfl, by omega, .inl (by omega)⟩, rfl⟩
  · exact R_s ⟨⟨_, rfl, by omega, hl2⟩, rfl⟩
theorem c_eqRule {s : St} [Wf s] {r c r2 c2 : Int} {id_xs off_xs len_xs : Nat} {xs : List Int} [h_xs : ArgE ic s id_xs off_xs xs] (hl_xs : xs.length = len_xs := by first | rfl | simp | omega | (simp; omega)) {id_ys off_ys len_ys : Nat} {ys : List Int} [h_ys : ArgE ic s id_ys off_ys ys] (hl_ys : ys.length = len_ys := by first | rfl | simp | omega | (simp; omega)) (hb : len_xs ≤ 2000000 := by omega) :
    FnB 22 [.agg [ic r, ic c, .sl id_xs off_xs len_xs], .agg [ic r2, ic c2, .sl id_ys off_ys len_ys]] s (r = r2 ∧ c = c2 ∧ xs = ys) := by
  refine F_start code22 ?_
  repeat' (first
 | refine A_go rfl ?_ | refine A_ifT rfl rfl ?_ | refine A_ifF rfl rfl ?_
 | ((first | refine A_ne rfl rfl rfl ?_ ?_) <;> intro hc <;> try first | contradiction | (exfalso; omega) | exact absurd rfl hc)
 | (refine A_callB rfl rfl (fun s H => c_eqInt64S) ?_ ?_ <;> intro hc <;> try first | contradiction | (exfalso; omega) | exact absurd rfl hc | exact absurd (And.intro rfl rfl) hc | exact absurd (And.intro rfl (And.intro rfl rfl)) hc | exact absurd (Eq.trans (by assumption) (Eq.symm (by assumption))) hc)
 | refine A_fld rfl rfl ?_ | refine A_p (by rfl) rfl ?_
 | refine A_ldI rfl (by first | omega | (simp; done) | (simp; omega)) rfl ?_ | refine A_ldB rfl (by first | omega | (simp; done) | (simp; omega)) rfl ?_ | refine A_ld rfl (by rfl) rfl ?_
 | ((first | refine A_box rfl rfl ?_ | refine A_boxC rfl rfl ?_) <;> intro pz hpz)
 | refine A_ret1 rfl (by exact (RP.t rfl RP.nil)) ?_)
  all_goals first | exact R_t ⟨by assumption, by assumption, by assumption⟩ | exact R_f (by simp_all)
theorem c_markRule {s : St} [Wf s] {r c : Int} {p len : Nat} {xs : List Int} {k : Int} [hx : Bor s p (ints xs)] (hl : xs.length = len := by first | rfl | simp | omega | (simp; omega)) (hb : 0 ≤ k ∧ k + len ≤ 9223372036854775807 := by omega) :
    Fn [p] 23 [.agg [ic r, ic c, .sl p 0 len], iv k] s fun r N => r = iv (k + len) ∧ N = [(p, ints (marks k len))] := by
  refine F_start1 code23 ?_
  repeat' (first
 | refine A_go rfl ?_ | refine A_ifT rfl rfl ?_ | refine A_ifF rfl rfl ?_
 | (refine A_callM rfl rfl (fun s H => c_markInt64S) ?_; rintro _ _ ⟨rfl, rfl⟩) | (refine A_callM0 rfl rfl (fun s H => c_markInt64S) ?_; rintro _ _ ⟨rfl, rfl⟩)
 | refine A_fld rfl rfl ?_ | refine A_p (by rfl) rfl ?_
 | refine A_ldI rfl (by first | omega | (simp; done) | (simp; omega)) rfl ?_ | refine A_ldB rfl (by first | omega | (simp; done) | (simp; omega)) rfl ?_ | refine A_ld rfl (by rfl) rfl ?_
 | ((first | refine A_box rfl rfl ?_ | refine A_boxC rfl rfl ?_) <;> intro pz hpz)
 | refine A_ret1 rfl (by exact (RP.t rfl RP.nil)) ?_)
  exact R_s ⟨rfl, rfl⟩

end Go.Proofs.Ytlmbgaoeplffkaa
