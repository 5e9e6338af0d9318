/- What the laws do with fields. -/
import Derived.Test.YtlhidckolillaaaXtoInts
import Derived.Test.YtlhidckolillaaaXeqInts
import Derived.Test.YtlhidckolillaaaXsz
import Derived.Test.YtlhidckolillaaaXmark
import Derived.Test.YtlhidckolillaaaFB
namespace Go.Proofs.Ytlhidckolillaaa
open Go Go.RowKit
set_option linter.unusedVariables false
set_option linter.unusedSimpArgs false
set_option maxRecDepth 100000
set_option maxHeartbeats 8000000
-- laws.toField
def L8 : AFun := ⟨15, [.cell true 3 2],
 (.seq (.ops false [⟨(some 1), .box 24 (.t 0), none, []⟩,
   ⟨(some 2), .alloc 26 [.int .i64 0, .int .i64 0, .sl 0 0 0], none, []⟩])
 (.seq (.ops false [⟨(some 3), .alloc 26 [.int .i64 0, .int .i64 0, .sl 0 0 0], none, []⟩])
 (.seq (.ops false [⟨(some 4), .fieldA 0 (.t 1), none, []⟩,
   ⟨(some 5), .load false 1 (.t 4), none, []⟩,
   ⟨(some 6), .fieldA 0 (.t 3), none, []⟩,
   ⟨none, .store 1 (.t 6) (.t 5), none, []⟩])
 (.seq (.ops false [⟨(some 7), .fieldA 1 (.t 1), none, []⟩,
   ⟨(some 8), .load false 1 (.t 7), none, []⟩,
   ⟨(some 9), .fieldA 1 (.t 3), none, []⟩,
   ⟨none, .store 1 (.t 9) (.t 8), none, []⟩])
 (.seq (.ops false [⟨(some 10), .fieldA 2 (.t 1), none, []⟩,
   ⟨(some 11), .load false 1 (.t 10), none, []⟩,
   ⟨(some 12), .call (.f 9) [(.t 11)], none, []⟩,
   ⟨(some 13), .fieldA 2 (.t 3), none, []⟩,
   ⟨none, .store 1 (.t 13) (.t 12), none, []⟩])
 (.seq (.ops false [⟨(some 14), .load true 3 (.t 3), none, []⟩,
   ⟨none, .store 3 (.t 2) (.t 14), none, []⟩])
 .ret))))))⟩
theorem code8 : acode Try.prog hints 8 = some L8 := by kernel_rfl

-- laws.szField
def L6 : AFun := ⟨12, [.t 4],
 (.seq (.ops false [⟨(some 2), .box 24 (.t 0), none, []⟩,
   ⟨(some 4), .mv (.k (iv 0)), none, []⟩])
 (.seq (.ops false [⟨(some 5), .fieldA 2 (.t 2), none, []⟩,
   ⟨(some 6), .load false 1 (.t 5), none, []⟩,
   ⟨(some 7), .mv (.t 1), none, []⟩,
   ⟨(some 8), .call (.f 37) [(.t 6), (.t 7)], none, []⟩,
   ⟨(some 1), .mv (.t 8), none, []⟩])
 (.seq (.seq (.ops false [⟨(some 9), .mv (.t 1), none, []⟩,
    ⟨(some 10), .bin .lss (.t 9) (.k (iv 0)), none, []⟩])
  (.cond (.t 10) (.seq (.ops false [⟨(some 4), .mv (.k (iv (-1))), none, []⟩])
   .ret)
   .skip))
 (.seq (.ops false [⟨(some 11), .mv (.t 1), none, []⟩,
   ⟨(some 4), .mv (.t 11), none, []⟩])
 .ret))))⟩
theorem code6 : acode Try.prog hints 6 = some L6 := by kernel_rfl

-- laws.eqField
def L11 : AFun := ⟨21, [.t 4],
 (.seq (.ops false [⟨(some 2), .box 26 (.t 0), none, []⟩,
   ⟨(some 3), .box 26 (.t 1), none, []⟩,
   ⟨(some 4), .mv (.k (bv false)), none, []⟩])
 (.seq (.seq (.ops false [⟨(some 5), .fieldA 0 (.t 2), none, []⟩,
    ⟨(some 6), .load false 1 (.t 5), none, []⟩,
    ⟨(some 7), .fieldA 0 (.t 3), none, []⟩,
    ⟨(some 8), .load false 1 (.t 7), none, []⟩,
    ⟨(some 9), .bin .neq (.t 6) (.t 8), none, []⟩])
  (.cond (.t 9) (.seq (.ops false [⟨(some 4), .mv (.k (bv false)), none, []⟩])
   .ret)
   .skip))
 (.seq (.seq (.ops false [⟨(some 10), .fieldA 1 (.t 2), none, []⟩,
    ⟨(some 11), .load false 1 (.t 10), none, []⟩,
    ⟨(some 12), .fieldA 1 (.t 3), none, []⟩,
    ⟨(some 13), .load false 1 (.t 12), none, []⟩,
    ⟨(some 14), .bin .neq (.t 11) (.t 13), none, []⟩])
  (.cond (.t 14) (.seq (.ops false [⟨(some 4), .mv (.k (bv false)), none, []⟩])
   .ret)
   .skip))
 (.seq (.seq (.ops false [⟨(some 15), .fieldA 2 (.t 2), none, []⟩,
    ⟨(some 16), .load false 1 (.t 15), none, []⟩,
    ⟨(some 17), .fieldA 2 (.t 3), none, []⟩,
    ⟨(some 18), .load false 1 (.t 17), none, []⟩,
    ⟨(some 19), .call (.f 12) [(.t 16), (.t 18)], none, []⟩,
    ⟨(some 20), .un .not (.t 19), none, []⟩])
  (.cond (.t 20) (.seq (.ops false [⟨(some 4), .mv (.k (bv false)), none, []⟩])
   .ret)
   .skip))
 (.seq (.ops false [⟨(some 4), .mv (.k (bv true)), none, []⟩])
 .ret)))))⟩
theorem code11 : acode Try.prog hints 11 = some L11 := by kernel_rfl

-- laws.markField
def L13 : AFun := ⟨10, [.t 4],
 (.seq (.ops false [⟨(some 2), .box 26 (.t 0), none, []⟩,
   ⟨(some 4), .mv (.k (iv 0)), none, []⟩])
 (.seq (.ops false [⟨(some 5), .fieldA 2 (.t 2), none, []⟩,
   ⟨(some 6), .load false 1 (.t 5), none, []⟩,
   ⟨(some 7), .mv (.t 1), none, []⟩,
   ⟨(some 8), .call (.f 14) [(.t 6), (.t 7)], none, []⟩,
   ⟨(some 1), .mv (.t 8), none, []⟩])
 (.seq (.ops false [⟨(some 9), .mv (.t 1), none, []⟩,
   ⟨(some 4), .mv (.t 9), none, []⟩])
 .ret)))⟩
theorem code13 : acode Try.prog hints 13 = some L13 := by kernel_rfl

-- laws.heldField
def L15 : AFun := ⟨12, [.t 4],
 (.seq (.ops false [⟨(some 2), .box 26 (.t 0), none, []⟩,
   ⟨(some 4), .mv (.k (iv 0)), none, []⟩])
 (.seq (.ops false [⟨(some 5), .fieldA 2 (.t 2), none, []⟩,
   ⟨(some 6), .load false 1 (.t 5), none, []⟩,
   ⟨(some 7), .mv (.t 1), none, []⟩,
   ⟨(some 8), .call (.f 48) [(.t 6), (.t 7)], none, []⟩,
   ⟨(some 1), .mv (.t 8), none, []⟩])
 (.seq (.seq (.ops false [⟨(some 9), .mv (.t 1), none, []⟩,
    ⟨(some 10), .bin .lss (.t 9) (.k (iv 0)), none, []⟩])
  (.cond (.t 10) (.seq (.ops false [⟨(some 4), .mv (.k (iv (-1))), none, []⟩])
   .ret)
   .skip))
 (.seq (.ops false [⟨(some 11), .mv (.t 1), none, []⟩,
   ⟨(some 4), .mv (.t 11), none, []⟩])
 .ret))))⟩
theorem code15 : acode Try.prog hints 15 = some L15 := by kernel_rfl


theorem c_toField {s : St} [Wf s] {r c : Int} {id off len : Nat} {xs : List Int} [hx : ArgE ic s id off xs] (hl : xs.length = len := by first | rfl | simp | omega | (simp; omega)) (hb : len ≤ 2000000 := by omega) :
    Fn [] 8 [.agg [ic r, ic c, .sl id off len]] s fun R N => ∃ p, R = .agg [ic r, ic c, .sl p 0 len] ∧ N = [(p, ints xs)] := by
  refine F_start code8 ?_
  repeat' (first
 | refine A_go rfl ?_ | refine A_ifT rfl rfl ?_ | refine A_ifF rfl rfl ?_
 | (refine A_callM rfl rfl (fun s H => c_toInt64S) ?_; rintro _ _ ⟨pz, rfl, rfl⟩) | (refine A_callM0 rfl rfl (fun s H => c_toInt64S) ?_; rintro _ _ ⟨pz, rfl, rfl⟩)
 | refine A_fld rfl rfl ?_ | refine A_p (by rfl) rfl ?_
 | refine A_ldI rfl (by first | omega | (simp; done) | (simp; omega)) rfl ?_ | refine A_ldB rfl (by first | omega | (simp; done) | (simp; omega)) rfl ?_ | refine A_ld rfl (by rfl) rfl ?_
 | refine A_ldW rfl (by simp) rfl ?_
 | refine A_st rfl rfl rfl ?_ | refine A_stE rfl rfl (by first | omega | (simp; done) | (simp; omega)) rfl ?_
 | refine A_stW rfl rfl (by simp) rfl ?_
 | ((first | refine A_alloc rfl ?_ | refine A_box rfl rfl ?_ | refine A_boxC rfl rfl ?_) <;> intro pz hpz)
 | refine A_ret1 rfl (by exact (RP.c rfl inferInstance rfl (by simp) RP.nil)) ?_)
  exact R_s ⟨_, rfl, rfl⟩
theorem c_szField {s : St} [Wf s] {r c : Int} {id off n : Nat} {left : Int} (hl : 0 ≤ left ∧ left ≤ 2000000 := by omega) (hn : n ≤ 9223372036854775807 := by omega) : Fn [] 6 [.agg [ic r, ic c, .sl id off n], iv left] s fun r N => (∃ l', r = iv l' ∧ l' ≤ left ∧ (l' < 0 ∨ l' = left - n)) ∧ N = [] := by
  refine F_start code6 ?_
  repeat' (first
 | refine A_go rfl ?_ | refine A_ifT rfl rfl ?_ | refine A_ifF rfl rfl ?_
 | ((first | refine A_lt rfl rfl rfl ?_ ?_) <;> intro hc <;> try first | contradiction | (exfalso; omega) | exact absurd rfl hc)
 | (refine A_callM rfl rfl (fun s H => c_szInt64S) ?_; rintro _ _ ⟨⟨l, rfl, hl1, hl2⟩, rfl⟩) | (refine A_callM0 rfl rfl (fun s H => c_szInt64S) ?_; rintro _ _ ⟨⟨l, rfl, hl1, hl2⟩, rfl⟩)
 | refine A_fld rfl rfl ?_ | refine A_p (by rfl) rfl ?_
 | refine A_ldI rfl (by first | omega | (simp; done) | (simp; omega)) rfl ?_ | refine A_ldB rfl (by first | omega | (simp; done) | (simp; omega)) rfl ?_ | refine A_ld rfl (by rfl) rfl ?_
 | ((first | refine A_box rfl rfl ?_ | refine A_boxC rfl rfl ?_) <;> intro pz hpz)
 | refine A_ret1 rfl (by exact (RP.t rfl RP.nil)) ?_)
  · exact R_s ⟨⟨_, rfl, by omega, .inl (by omega)⟩, rfl⟩
  · exact R_s ⟨⟨_, rfl, by omega, hl2⟩, rfl⟩
theorem c_eqField {s : St} [Wf s] {r c r2 c2 : Int} {id off len id2 off2 len2 : Nat} {xs ys : List Int} [hx : ArgE ic s id off xs] [hy : ArgE ic s id2 off2 ys] (hl : xs.length = len := by first | rfl | simp | omega | (simp; omega)) (hl2 : ys.length = len2 := by first | rfl | simp | omega | (simp; omega)) (hb : len ≤ 2000000 := by omega) :
    FnB 11 [.agg [ic r, ic c, .sl id off len], .agg [ic r2, ic c2, .sl id2 off2 len2]] s (r = r2 ∧ c = c2 ∧ xs = ys) := by
  refine F_start code11 ?_
  repeat' (first
 | refine A_go rfl ?_ | refine A_ifT rfl rfl ?_ | refine A_ifF rfl rfl ?_
 | ((first | refine A_ne rfl rfl rfl ?_ ?_) <;> intro hc <;> try first | contradiction | (exfalso; omega) | exact absurd rfl hc)
 | (refine A_callB rfl rfl (fun s H => c_eqInt64S) ?_ ?_ <;> intro hc <;> try first | contradiction | (exfalso; omega) | exact absurd rfl hc | exact absurd (And.intro rfl rfl) hc | exact absurd (And.intro rfl (And.intro rfl rfl)) hc | exact absurd (Eq.trans (by assumption) (Eq.symm (by assumption))) hc)
 | refine A_fld rfl rfl ?_ | refine A_p (by rfl) rfl ?_
 | refine A_ldI rfl (by first | omega | (simp; done) | (simp; omega)) rfl ?_ | refine A_ldB rfl (by first | omega | (simp; done) | (simp; omega)) rfl ?_ | refine A_ld rfl (by rfl) rfl ?_
 | ((first | refine A_box rfl rfl ?_ | refine A_boxC rfl rfl ?_) <;> intro pz hpz)
 | refine A_ret1 rfl (by exact (RP.t rfl RP.nil)) ?_)
  all_goals first | exact R_t ⟨by assumption, by assumption, by assumption⟩ | exact R_f (by simp_all)
theorem c_markField {s : St} [Wf s] {r c : Int} {p len : Nat} {xs : List Int} {k : Int} [hx : Bor s p (ints xs)] (hl : xs.length = len := by first | rfl | simp | omega | (simp; omega)) (hb : 0 ≤ k ∧ k + len ≤ 9223372036854775807 := by omega) :
    Fn [p] 13 [.agg [ic r, ic c, .sl p 0 len], iv k] s fun r N => r = iv (k + len) ∧ N = [(p, ints (marks k len))] := by
  refine F_start1 code13 ?_
  repeat' (first
 | refine A_go rfl ?_ | refine A_ifT rfl rfl ?_ | refine A_ifF rfl rfl ?_
 | (refine A_callM rfl rfl (fun s H => c_markInt64S) ?_; rintro _ _ ⟨rfl, rfl⟩) | (refine A_callM0 rfl rfl (fun s H => c_markInt64S) ?_; rintro _ _ ⟨rfl, rfl⟩)
 | refine A_fld rfl rfl ?_ | refine A_p (by rfl) rfl ?_
 | refine A_ldI rfl (by first | omega | (simp; done) | (simp; omega)) rfl ?_ | refine A_ldB rfl (by first | omega | (simp; done) | (simp; omega)) rfl ?_ | refine A_ld rfl (by rfl) rfl ?_
 | ((first | refine A_box rfl rfl ?_ | refine A_boxC rfl rfl ?_) <;> intro pz hpz)
 | refine A_ret1 rfl (by exact (RP.t rfl RP.nil)) ?_)
  exact R_s ⟨rfl, rfl⟩
theorem c_heldField {s : St} [Wf s] {r c : Int} {id off len n : Nat} {k k' : Int} [hx : ArgE ic s id off (marks k n)] (hl : n = len := by first | rfl | simp | omega) (hk : k' = k := by first | rfl | omega) (hb : 0 ≤ k ∧ k + n ≤ 9223372036854775807 := by omega) :
    FnV 15 [.agg [ic r, ic c, .sl id off len], iv k'] s (iv (k + len)) := by
  refine F_start code15 ?_
  repeat' (first
 | refine A_go rfl ?_ | refine A_ifT rfl rfl ?_ | refine A_ifF rfl rfl ?_
 | ((first | refine A_lt rfl rfl rfl ?_ ?_) <;> intro hc <;> try first | contradiction | (exfalso; omega) | exact absurd rfl hc)
 | refine A_callV rfl rfl (fun s H => c_heldInt64S) ?_
 | refine A_fld rfl rfl ?_ | refine A_p (by rfl) rfl ?_
 | refine A_ldI rfl (by first | omega | (simp; done) | (simp; omega)) rfl ?_ | refine A_ldB rfl (by first | omega | (simp; done) | (simp; omega)) rfl ?_ | refine A_ld rfl (by rfl) rfl ?_
 | ((first | refine A_box rfl rfl ?_ | refine A_boxC rfl rfl ?_) <;> intro pz hpz)
 | refine A_ret1 rfl (by exact (RP.t rfl RP.nil)) ?_)
  exact R_v rfl

end Go.Proofs.Ytlhidckolillaaa
