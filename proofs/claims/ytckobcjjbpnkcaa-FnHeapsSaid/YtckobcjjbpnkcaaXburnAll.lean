/- Fires burn until nothing burns. -/
import Derived.Test.YtckobcjjbpnkcaaXfire
import Derived.Test.YtckobcjjbpnkcaaXcount
import Derived.Test.YtckobcjjbpnkcaaXturn
import Derived.Test.YtckobcjjbpnkcaaFB
namespace Go.Proofs.Ytckobcjjbpnkcaa
open Go Go.RowKit
set_option linter.unusedVariables false
set_option linter.unusedSimpArgs false
set_option maxRecDepth 100000
set_option maxHeartbeats 8000000
-- impl.BurnAll
def L35 : AFun := ⟨21, [.cell true 3 2, .t 3, .t 4],
 (.seq (.ops false [⟨(some 1), .box 25 (.t 0), none, []⟩,
   ⟨(some 2), .alloc 25 [.int .i64 0, .int .i64 0, .sl 0 0 0], none, []⟩,
   ⟨(some 3), .mv (.k (iv 0)), none, []⟩,
   ⟨(some 4), .mv (.k (bv false)), none, []⟩])
 (.seq (.seq (.ops false [⟨(some 6), .load true 3 (.t 1), none, []⟩,
    ⟨(some 7), .call (.f 25) [(.t 6)], none, []⟩,
    ⟨(some 8), .un .not (.t 7), none, []⟩])
  (.cond (.t 8) (.seq (.ops false [⟨(some 9), .build [.int .i64 0, .int .i64 0, .sl 0 0 0] [], none, []⟩,
     ⟨none, .store 3 (.t 2) (.t 9), none, []⟩,
     ⟨(some 3), .mv (.k (iv 0)), none, []⟩,
     ⟨(some 4), .mv (.k (bv false)), none, []⟩])
   .ret)
   .skip))
 (.seq (.ops false [⟨(some 10), .load true 3 (.t 1), none, []⟩,
   ⟨(some 11), .call (.f 73) [(.t 10)], none, []⟩,
   ⟨none, .store 3 (.t 1) (.t 11), none, []⟩])
 (.seq (.ops false [⟨(some 5), .mv (.k (iv 0)), none, []⟩])
 (.block 0 (.loop [1, 2, 5] (.seq (.block 1 (.seq (.seq (.ops false [⟨(some 14), .load true 3 (.t 1), none, []⟩,
        ⟨(some 15), .call (.f 55) [(.t 14), (.k (iv 2))], none, []⟩,
        ⟨(some 16), .bin .eql (.t 15) (.k (iv 0)), none, []⟩])
      (.cond (.t 16) (.seq (.ops false [⟨(some 17), .load true 3 (.t 1), none, []⟩,
         ⟨(some 18), .mv (.t 5), none, []⟩,
         ⟨none, .store 3 (.t 2) (.t 17), none, []⟩,
         ⟨(some 3), .mv (.t 18), none, []⟩,
         ⟨(some 4), .mv (.k (bv true)), none, []⟩])
       .ret)
       .skip))
     (.ops false [⟨(some 19), .load true 3 (.t 1), none, []⟩,
      ⟨(some 20), .call (.f 76) [(.t 19)], none, []⟩,
      ⟨none, .store 3 (.t 1) (.t 20), none, []⟩])))
   (.ops false [⟨(some 12), .mv (.t 5), none, []⟩,
    ⟨(some 13), .bin .add (.t 12) (.k (iv 1)), none, []⟩,
    ⟨(some 5), .mv (.t 13), none, []⟩]))))))))⟩
theorem code35 : acode Try.prog hints 35 = some L35 := by kernel_rfl


def burnN (R C : Nat) (xs : List Int) : Nat → List Int
  | 0 => xs
  | n + 1 => mk R C (burnV (burnN R C xs n) R C)
theorem burnN_len {R C : Nat} {xs : List Int} (hl : xs.length = R * C) : ∀ n, (burnN R C xs n).length = R * C
  | 0 => hl
  | n + 1 => by simp [burnN]
/-- How much can burn. -/
def wtx (x : Int) : Nat := if x = 1 then 2 else if x = 2 then 1 else 0
def wt (xs : List Int) : Nat → Nat
  | 0 => 0
  | n + 1 => wt xs n + wtx (xs.getD n 0)
theorem wt_le {xs : List Int} : ∀ n, wt xs n ≤ 2 * n
  | 0 => Nat.le_refl 0
  | n + 1 => by have := wt_le (xs := xs) n; rw [wt]; unfold wtx; (repeat' split) <;> omega
theorem wt_mono {xs ys : List Int} : ∀ n, (∀ i, i < n → wtx (ys.getD i 0) ≤ wtx (xs.getD i 0)) → wt ys n ≤ wt xs n
  | 0, _ => Nat.le_refl 0
  | n + 1, h => by have := wt_mono n fun i hi => h i (by omega); have := h n (by omega); rw [wt, wt]; omega
theorem wt_lt {xs ys : List Int} : ∀ n, (∀ i, i < n → wtx (ys.getD i 0) ≤ wtx (xs.getD i 0)) → (∃ i, i < n ∧ wtx (ys.getD i 0) < wtx (xs.getD i 0)) → wt ys n < wt xs n
  | 0, _, ⟨i, h, _⟩ => by omega
  | n + 1, h, ⟨i, h1, h2⟩ => by
    rw [wt, wt]
    have h0 := h n (by omega)
    by_cases e : i = n
    · subst e; have := wt_mono i fun j hj => h j (by omega); omega
    · have := wt_lt n (fun j hj => h j (by omega)) ⟨i, by omega, h2⟩; omega
theorem fireF {xs : List Int} : ∀ (l : List Int) (v : Int), v = 1 ∨ v = 2 → l.foldl (fireS xs) v = 1 ∨ l.foldl (fireS xs) v = 2
  | [], v, h => h
  | x :: l, v, h => fireF l _ (by unfold fireS; split; exact .inr rfl; exact h)
theorem burn_wt {R C n : Nat} {xs : List Int} (h : n < R * C) : wtx ((mk R C (burnV xs R C)).getD n 0) ≤ wtx (xs.getD n 0) ∧ (xs.getD n 0 = 2 → wtx ((mk R C (burnV xs R C)).getD n 0) < wtx (xs.getD n 0)) := by
  have hcel : cel xs C ((n / C : Nat) : Int) ((n % C : Nat) : Int) = xs.getD n 0 := by rw [cel, toNat_cell, (div_mod_lt h).2.2]
  rw [mk_at h, burnV, hcel]
  by_cases h1 : xs.getD n 0 = 1
  · rw [if_pos h1, h1]
    rcases fireF (xs := xs) (nbl R C ((n / C : Nat) : Int) ((n % C : Nat) : Int) 4) 1 (.inl rfl) with e | e <;> rw [e] <;> exact ⟨by decide, fun h => by omega⟩
  · rw [if_neg h1]
    by_cases h2 : xs.getD n 0 = 2
    · rw [if_pos h2, h2]; exact ⟨by decide, fun _ => by decide⟩
    · rw [if_neg h2]; exact ⟨Nat.le_refl _, fun h => absurd h h2⟩
theorem burn_less {R C : Nat} {xs : List Int} (hl : xs.length = R * C) (h : (2 : Int) ∈ xs) : wt (mk R C (burnV xs R C)) (R * C) < wt xs (R * C) := by
  obtain ⟨i, hi, e⟩ := mem_get (d := 0) h
  exact wt_lt _ (fun i hi => (burn_wt hi).1) ⟨i, by omega, (burn_wt (by omega)).2 e⟩
theorem cnt_zero {xs : List Int} {a : Int} : ∀ n, cnt xs a n = 0 ↔ ∀ i, i < n → xs.getD i 0 ≠ a
  | 0 => by simp [cnt]
  | n + 1 => by
    rw [cnt]
    constructor
    · intro h i hi
      by_cases e : i = n
      · subst e; split at h <;> omega
      · exact (cnt_zero n).1 (by omega) i (by omega)
    · intro h
      rw [(cnt_zero n).2 fun i hi => h i (by omega), if_neg (h n (by omega))]
theorem cnt_mem {xs : List Int} {a : Int} {n : Nat} (hn : xs.length = n) : cnt xs a n = 0 ↔ a ∉ xs := by
  rw [cnt_zero, ← hn]
  constructor
  · intro h hm
    obtain ⟨i, hi, e⟩ := mem_get (d := 0) hm
    exact h i hi e
  · intro h i hi e
    exact h (e ▸ getD_mem hi)
noncomputable def burnE (R C : Nat) (xs : List Int) : Nat := endOf fun n => (2 : Int) ∉ burnN R C xs n
theorem c_implBurnAll {s : St} [Wf s] {r c : Int} {id_xs off_xs len_xs : Nat} {xs : List Int} [h_xs : ArgE ic s id_xs off_xs xs] (hl_xs : xs.length = len_xs := by first | rfl | simp | omega | (simp; omega)) (hb : len_xs ≤ 2000000 := by omega) :
    Fn [] 35 [.agg [ic r, ic c, .sl id_xs off_xs len_xs]] s (FldNum (VF r c xs) r c (burnN r.toNat c.toNat xs (burnE r.toNat c.toNat xs)) (burnE r.toNat c.toNat xs)) := by
  refine F_start code35 ?_
  by_cases hv : VF r c xs
  case neg =>
    repeat' (first
 | refine A_go rfl ?_ | refine A_ifT rfl rfl ?_ | refine A_ifF rfl rfl ?_
 | refine A_add rfl rfl rfl (by omega) ?_
 | ((first | refine A_eq rfl rfl rfl ?_ ?_) <;> intro hc <;> try first | contradiction | (exfalso; omega) | exact absurd rfl hc)
 | (refine A_callB rfl rfl (fun s H => c_implValidField) ?_ ?_ <;> intro hc <;> try first | contradiction | (exfalso; omega) | exact absurd rfl hc | exact absurd (And.intro rfl rfl) hc | exact absurd (And.intro rfl (And.intro rfl rfl)) hc | exact absurd (Eq.trans (by assumption) (Eq.symm (by assumption))) hc)
 | refine A_mk3 rfl rfl rfl rfl ?_ | refine A_mk23 rfl rfl rfl ?_ | refine A_mk2 rfl rfl rfl ?_ | refine A_mk13 rfl rfl ?_ | refine A_p (by rfl) rfl ?_
 | refine A_ldW rfl (by simp) rfl ?_
 | refine A_stW rfl rfl (by simp) rfl ?_
 | ((first | refine A_alloc rfl ?_ | refine A_box rfl rfl ?_ | refine A_boxC rfl rfl ?_) <;> intro pz hpz)
 | refine A_ret rfl (by exact (RP.c rfl inferInstance rfl (by simp) (RP.t rfl (RP.t rfl RP.nil)))) ?_)
    exact R_fldNumN hv
  obtain ⟨R, C, rfl, rfl, h1, h2, h3, h4⟩ := hv.nat
  simp only [Int.toNat_natCast]
  repeat' (first
 | refine A_go rfl ?_ | refine A_ifT rfl rfl ?_ | refine A_ifF rfl rfl ?_
 | refine A_add rfl rfl rfl (by omega) ?_
 | ((first | refine A_eq rfl rfl rfl ?_ ?_) <;> intro hc <;> try first | contradiction | (exfalso; omega) | exact absurd rfl hc)
 | (refine A_callB rfl rfl (fun s H => c_implValidField) ?_ ?_ <;> intro hc <;> try first | contradiction | (exfalso; omega) | exact absurd rfl hc | exact absurd (And.intro rfl rfl) hc | exact absurd (And.intro rfl (And.intro rfl rfl)) hc | exact absurd (Eq.trans (by assumption) (Eq.symm (by assumption))) hc)
 | (refine A_callM rfl rfl (fun s H => c_copyField) ?_; rintro _ _ ⟨pz, rfl, rfl⟩) | (refine A_callM0 rfl rfl (fun s H => c_copyField) ?_; rintro _ _ ⟨pz, rfl, rfl⟩)
 | refine A_mk3 rfl rfl rfl rfl ?_ | refine A_mk23 rfl rfl rfl ?_ | refine A_mk2 rfl rfl rfl ?_ | refine A_mk13 rfl rfl ?_ | refine A_p (by rfl) rfl ?_
 | refine A_ldW rfl (by simp) rfl ?_
 | refine A_stW rfl rfl (by simp) rfl ?_
 | ((first | refine A_alloc rfl ?_ | refine A_box rfl rfl ?_ | refine A_boxC rfl rfl ?_) <;> intro pz hpz)
 | refine A_ret rfl (by exact (RP.c rfl inferInstance rfl (by simp) (RP.t rfl (RP.t rfl RP.nil)))) ?_)
  rename_i q1 _ q2
  refine A_loop rfl [q1, q2, pz] (fun m fr L => ∃ (n p : Nat), m = wt (burnN R C xs n) (R * C) ∧ fr = [(1, .c (.ptr q1 0)), (2, .c (.ptr q2 0)), (5, iv n)] ∧ L = [(q1, .rw 25 3 (fld R C p len_xs)), (q2, .rw 25 3 (fld 0 0 0 0)), (p, ints (burnN R C xs n))] ∧ n + wt (burnN R C xs n) (R * C) ≤ wt xs (R * C) ∧ ∀ m, m < n → ¬ (2 : Int) ∉ burnN R C xs m) (wt xs (R * C)) ⟨0, pz, rfl, rfl, rfl, by rw [burnN]; omega, fun m hm => by omega⟩ ?_
  rintro m fr L ⟨n, p, rfl, rfl, rfl, hn, hm⟩
  have hw := wt_le (xs := xs) (R * C)
  have hl := burnN_len h3 n
  have hcn := cnt_le (xs := burnN R C xs n) (a := 2) len_xs
  have hcm := cnt_mem (xs := burnN R C xs n) (a := 2) (n := len_xs) (by omega)
  by_cases h2m : (2 : Int) ∉ burnN R C xs n
  · have h0 := hcm.2 h2m
    have he : burnE R C xs = n := endOf_eq hm h2m
    rw [he]
    repeat' (first
 | refine A_go rfl ?_ | refine A_ifT rfl rfl ?_ | refine A_ifF rfl rfl ?_
 | refine A_add rfl rfl rfl (by omega) ?_
 | ((first | refine A_eq rfl rfl rfl ?_ ?_) <;> intro hc <;> try first | contradiction | (exfalso; omega) | exact absurd rfl hc)
 | refine A_callV rfl rfl (fun s H => c_count (xs := burnN R C xs n)) ?_
 | refine A_mk3 rfl rfl rfl rfl ?_ | refine A_mk23 rfl rfl rfl ?_ | refine A_mk2 rfl rfl rfl ?_ | refine A_mk13 rfl rfl ?_ | refine A_p (by rfl) rfl ?_
 | refine A_ldW rfl (by simp) rfl ?_
 | refine A_stW rfl rfl (by simp) rfl ?_
 | ((first | refine A_alloc rfl ?_ | refine A_box rfl rfl ?_ | refine A_boxC rfl rfl ?_) <;> intro pz hpz)
 | refine A_ret rfl (by exact (RP.c rfl inferInstance rfl (by simp) (RP.t rfl (RP.t rfl RP.nil)))) ?_)
    exact R_fldNum hv rfl (by omega) (by omega)
  · have h0 : cnt (burnN R C xs n) 2 len_xs ≠ 0 := fun h => h2m (hcm.1 h)
    have hlt := burn_less hl (Classical.not_not.1 h2m)
    repeat' (first
 | refine A_go rfl ?_ | refine A_ifT rfl rfl ?_ | refine A_ifF rfl rfl ?_
 | refine A_add rfl rfl rfl (by omega) ?_
 | ((first | refine A_eq rfl rfl rfl ?_ ?_) <;> intro hc <;> try first | contradiction | (exfalso; omega) | exact absurd rfl hc)
 | refine A_callV rfl rfl (fun s H => c_count (xs := burnN R C xs n)) ?_
 | (refine A_callM rfl rfl (fun s H => c_burn (xs := burnN R C xs n)) ?_; rintro _ _ ⟨pz, rfl, rfl⟩) | (refine A_callM0 rfl rfl (fun s H => c_burn (xs := burnN R C xs n)) ?_; rintro _ _ ⟨pz, rfl, rfl⟩)
 | refine A_mk3 rfl rfl rfl rfl ?_ | refine A_mk23 rfl rfl rfl ?_ | refine A_mk2 rfl rfl rfl ?_ | refine A_mk13 rfl rfl ?_ | refine A_p (by rfl) rfl ?_
 | refine A_ldW rfl (by simp) rfl ?_
 | refine A_stW rfl rfl (by simp) rfl ?_
 | ((first | refine A_alloc rfl ?_ | refine A_box rfl rfl ?_ | refine A_boxC rfl rfl ?_) <;> intro pz hpz)
 | refine A_ret rfl (by exact (RP.c rfl inferInstance rfl (by simp) (RP.t rfl (RP.t rfl RP.nil)))) ?_)
    refine A_round rfl [q1, q2, pz] (wt (burnN R C xs (n + 1)) (R * C)) hlt ?_
    refine ⟨n + 1, pz, rfl, rfl, by rw [← h3, hl_xs]; rfl, by rw [burnN]; omega, fun m hm' => ?_⟩
    by_cases e : m = n
    · subst e; exact h2m
    · exact hm m (by omega)
end Go.Proofs.Ytckobcjjbpnkcaa
