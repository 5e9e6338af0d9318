/- Fields turned, mirrored, cut, shifted: the program. -/
import Derived.Test.YtlhidckolillaaaXfieldAt
import Derived.Test.YtlhidckolillaaaXmadeField
import Derived.Test.YtlhidckolillaaaXvalid
import Derived.Test.YtlhidckolillaaaFB
namespace Go.Proofs.Ytlhidckolillaaa
open Go Go.RowKit
set_option linter.unusedVariables false
set_option linter.unusedSimpArgs false
set_option maxRecDepth 100000
set_option maxHeartbeats 8000000
-- (impl.Field).right$1
def L80 : AFun := ⟨14, [.t 5],
 (.seq (.ops false [⟨(some 5), .mv (.k (iv 0)), none, []⟩])
 (.seq (.ops false [⟨(some 6), .load true 3 (.t 2), none, []⟩,
   ⟨(some 7), .fieldA 0 (.t 2), none, []⟩,
   ⟨(some 8), .load false 1 (.t 7), none, []⟩,
   ⟨(some 9), .bin .sub (.t 8) (.k (iv 1)), none, []⟩,
   ⟨(some 10), .mv (.t 1), none, []⟩,
   ⟨(some 11), .bin .sub (.t 9) (.t 10), none, []⟩,
   ⟨(some 12), .mv (.t 0), none, []⟩,
   ⟨(some 13), .call (.f 75) [(.t 6), (.t 11), (.t 12)], none, []⟩,
   ⟨(some 5), .mv (.t 13), none, []⟩])
 .ret))⟩
theorem code80 : acode Try.prog hints 80 = some L80 := by kernel_rfl

-- (impl.Field).right
def L56 : AFun := ⟨9, [.cell true 3 2],
 (.seq (.ops false [⟨(some 1), .box 26 (.t 0), none, []⟩,
   ⟨(some 2), .alloc 26 [.int .i64 0, .int .i64 0, .sl 0 0 0], none, []⟩])
 (.seq (.ops false [⟨(some 3), .fieldA 1 (.t 1), none, []⟩,
   ⟨(some 4), .load false 1 (.t 3), none, []⟩,
   ⟨(some 5), .fieldA 0 (.t 1), none, []⟩,
   ⟨(some 6), .load false 1 (.t 5), none, []⟩,
   ⟨(some 7), .mkFn 80 [(.t 1)], none, []⟩,
   ⟨(some 8), .call (.f 44) [(.t 4), (.t 6), (.t 7)], none, []⟩,
   ⟨none, .store 3 (.t 2) (.t 8), none, []⟩])
 .ret))⟩
theorem code56 : acode Try.prog hints 56 = some L56 := by kernel_rfl

-- impl.TurnField
def L21 : AFun := ⟨10, [.cell true 3 2, .t 3],
 (.seq (.ops false [⟨(some 1), .box 26 (.t 0), none, []⟩,
   ⟨(some 2), .alloc 26 [.int .i64 0, .int .i64 0, .sl 0 0 0], none, []⟩,
   ⟨(some 3), .mv (.k (bv false)), none, []⟩])
 (.seq (.seq (.ops false [⟨(some 4), .load true 3 (.t 1), none, []⟩,
    ⟨(some 5), .call (.f 55) [(.t 4)], none, []⟩,
    ⟨(some 6), .un .not (.t 5), none, []⟩])
  (.cond (.t 6) (.seq (.ops false [⟨(some 7), .build [.int .i64 0, .int .i64 0, .sl 0 0 0] [], none, []⟩,
     ⟨none, .store 3 (.t 2) (.t 7), none, []⟩,
     ⟨(some 3), .mv (.k (bv false)), none, []⟩])
   .ret)
   .skip))
 (.seq (.ops false [⟨(some 8), .load true 3 (.t 1), none, []⟩,
   ⟨(some 9), .call (.f 56) [(.t 8)], none, []⟩,
   ⟨none, .store 3 (.t 2) (.t 9), none, []⟩,
   ⟨(some 3), .mv (.k (bv true)), none, []⟩])
 .ret)))⟩
theorem code21 : acode Try.prog hints 21 = some L21 := by kernel_rfl

-- (impl.Field).mirrored$1
def L81 : AFun := ⟨14, [.t 5],
 (.seq (.ops false [⟨(some 5), .mv (.k (iv 0)), none, []⟩])
 (.seq (.ops false [⟨(some 6), .load true 3 (.t 2), none, []⟩,
   ⟨(some 7), .mv (.t 0), none, []⟩,
   ⟨(some 8), .fieldA 1 (.t 2), none, []⟩,
   ⟨(some 9), .load false 1 (.t 8), none, []⟩,
   ⟨(some 10), .bin .sub (.t 9) (.k (iv 1)), none, []⟩,
   ⟨(some 11), .mv (.t 1), none, []⟩,
   ⟨(some 12), .bin .sub (.t 10) (.t 11), none, []⟩,
   ⟨(some 13), .call (.f 75) [(.t 6), (.t 7), (.t 12)], none, []⟩,
   ⟨(some 5), .mv (.t 13), none, []⟩])
 .ret))⟩
theorem code81 : acode Try.prog hints 81 = some L81 := by kernel_rfl

-- (impl.Field).mirrored
def L57 : AFun := ⟨9, [.cell true 3 2],
 (.seq (.ops false [⟨(some 1), .box 26 (.t 0), none, []⟩,
   ⟨(some 2), .alloc 26 [.int .i64 0, .int .i64 0, .sl 0 0 0], none, []⟩])
 (.seq (.ops false [⟨(some 3), .fieldA 0 (.t 1), none, []⟩,
   ⟨(some 4), .load false 1 (.t 3), none, []⟩,
   ⟨(some 5), .fieldA 1 (.t 1), none, []⟩,
   ⟨(some 6), .load false 1 (.t 5), none, []⟩,
   ⟨(some 7), .mkFn 81 [(.t 1)], none, []⟩,
   ⟨(some 8), .call (.f 44) [(.t 4), (.t 6), (.t 7)], none, []⟩,
   ⟨none, .store 3 (.t 2) (.t 8), none, []⟩])
 .ret))⟩
theorem code57 : acode Try.prog hints 57 = some L57 := by kernel_rfl

-- impl.MirrorField
def L22 : AFun := ⟨10, [.cell true 3 2, .t 3],
 (.seq (.ops false [⟨(some 1), .box 26 (.t 0), none, []⟩,
   ⟨(some 2), .alloc 26 [.int .i64 0, .int .i64 0, .sl 0 0 0], none, []⟩,
   ⟨(some 3), .mv (.k (bv false)), none, []⟩])
 (.seq (.seq (.ops false [⟨(some 4), .load true 3 (.t 1), none, []⟩,
    ⟨(some 5), .call (.f 55) [(.t 4)], none, []⟩,
    ⟨(some 6), .un .not (.t 5), none, []⟩])
  (.cond (.t 6) (.seq (.ops false [⟨(some 7), .build [.int .i64 0, .int .i64 0, .sl 0 0 0] [], none, []⟩,
     ⟨none, .store 3 (.t 2) (.t 7), none, []⟩,
     ⟨(some 3), .mv (.k (bv false)), none, []⟩])
   .ret)
   .skip))
 (.seq (.ops false [⟨(some 8), .load true 3 (.t 1), none, []⟩,
   ⟨(some 9), .call (.f 57) [(.t 8)], none, []⟩,
   ⟨none, .store 3 (.t 2) (.t 9), none, []⟩,
   ⟨(some 3), .mv (.k (bv true)), none, []⟩])
 .ret)))⟩
theorem code22 : acode Try.prog hints 22 = some L22 := by kernel_rfl

-- (impl.Field).shifted$1
def L82 : AFun := ⟨16, [.t 7],
 (.seq (.ops false [⟨(some 7), .mv (.k (iv 0)), none, []⟩])
 (.seq (.ops false [⟨(some 8), .load true 3 (.t 2), none, []⟩,
   ⟨(some 9), .mv (.t 0), none, []⟩,
   ⟨(some 10), .load false 1 (.t 3), none, []⟩,
   ⟨(some 11), .bin .sub (.t 9) (.t 10), none, []⟩,
   ⟨(some 12), .mv (.t 1), none, []⟩,
   ⟨(some 13), .load false 1 (.t 4), none, []⟩,
   ⟨(some 14), .bin .sub (.t 12) (.t 13), none, []⟩,
   ⟨(some 15), .call (.f 47) [(.t 8), (.t 11), (.t 14), (.k (bv true))], none, []⟩,
   ⟨(some 7), .mv (.t 15), none, []⟩])
 .ret))⟩
theorem code82 : acode Try.prog hints 82 = some L82 := by kernel_rfl

-- (impl.Field).shifted
def L61 : AFun := ⟨13, [.cell true 3 6],
 (.seq (.ops false [⟨(some 3), .box 26 (.t 0), none, []⟩,
   ⟨(some 4), .box 2 (.t 1), none, []⟩,
   ⟨(some 5), .box 2 (.t 2), none, []⟩,
   ⟨(some 6), .alloc 26 [.int .i64 0, .int .i64 0, .sl 0 0 0], none, []⟩])
 (.seq (.ops false [⟨(some 7), .fieldA 0 (.t 3), none, []⟩,
   ⟨(some 8), .load false 1 (.t 7), none, []⟩,
   ⟨(some 9), .fieldA 1 (.t 3), none, []⟩,
   ⟨(some 10), .load false 1 (.t 9), none, []⟩,
   ⟨(some 11), .mkFn 82 [(.t 3), (.t 4), (.t 5)], none, []⟩,
   ⟨(some 12), .call (.f 44) [(.t 8), (.t 10), (.t 11)], none, []⟩,
   ⟨none, .store 3 (.t 6) (.t 12), none, []⟩])
 .ret))⟩
theorem code61 : acode Try.prog hints 61 = some L61 := by kernel_rfl

-- impl.ShiftField
def L25 : AFun := ⟨23, [.cell true 3 6, .t 7],
 (.seq (.ops false [⟨(some 3), .box 26 (.t 0), none, []⟩,
   ⟨(some 6), .alloc 26 [.int .i64 0, .int .i64 0, .sl 0 0 0], none, []⟩,
   ⟨(some 7), .mv (.k (bv false)), none, []⟩])
 (.seq (.seq (.ops false [⟨(some 8), .load true 3 (.t 3), none, []⟩,
    ⟨(some 9), .call (.f 55) [(.t 8)], none, []⟩,
    ⟨(some 10), .un .not (.t 9), none, []⟩,
    ⟨(some 11), .mv (.t 10), none, []⟩,
    ⟨(some 12), .mv (.t 1), (some (11, false)), []⟩,
    ⟨(some 13), .mv (.t 2), (some (11, false)), []⟩,
    ⟨(some 14), .buildS 2 1 2 [.int .i64 0] [(0, 1, (.t 12)), (1, 1, (.t 13))], (some (11, false)), []⟩,
    ⟨(some 15), .call (.f 60) [(.t 14), (.k (iv (-24))), (.k (iv 24))], (some (11, false)), []⟩,
    ⟨(some 16), .un .not (.t 15), (some (11, false)), []⟩,
    ⟨(some 17), .pick (.t 11) (.k (bv true)) (.t 16), none, []⟩])
  (.cond (.t 17) (.seq (.ops false [⟨(some 18), .build [.int .i64 0, .int .i64 0, .sl 0 0 0] [], none, []⟩,
     ⟨none, .store 3 (.t 6) (.t 18), none, []⟩,
     ⟨(some 7), .mv (.k (bv false)), none, []⟩])
   .ret)
   .skip))
 (.seq (.ops false [⟨(some 19), .load true 3 (.t 3), none, []⟩,
   ⟨(some 20), .mv (.t 1), none, []⟩,
   ⟨(some 21), .mv (.t 2), none, []⟩,
   ⟨(some 22), .call (.f 61) [(.t 19), (.t 20), (.t 21)], none, []⟩,
   ⟨none, .store 3 (.t 6) (.t 22), none, []⟩,
   ⟨(some 7), .mv (.k (bv true)), none, []⟩])
 .ret)))⟩
theorem code25 : acode Try.prog hints 25 = some L25 := by kernel_rfl


/-- The sides of a valid field, as natural numbers. -/
theorem VF.nat {r c : Int} {xs : List Int} (h : VF r c xs) : ∃ R C : Nat, r = R ∧ c = C ∧ (1 ≤ R ∧ R ≤ 24) ∧ (1 ≤ C ∧ C ≤ 24) ∧ xs.length = R * C ∧ R * C ≤ 576 := by
  obtain ⟨h1, h2, h3, h4⟩ := h
  obtain ⟨R, rfl⟩ : ∃ R : Nat, r = R := ⟨r.toNat, by omega⟩
  obtain ⟨C, rfl⟩ : ∃ C : Nat, c = C := ⟨c.toNat, by omega⟩
  have : R * C ≤ 576 := Nat.mul_le_mul (show R ≤ 24 by omega) (show C ≤ 24 by omega)
  refine ⟨R, C, rfl, rfl, by omega, by omega, ?_, this⟩
  have e : ((R * C : Nat) : Int) = (R : Int) * C := by push_cast; rfl
  omega
theorem cell_nat {R C i k : Nat} (hi : i < R) (hk : k < C) : (0 ≤ (i : Int) * C ∧ 0 ≤ (i : Int) * C + k) ∧ (i : Int) * C + k < ((R * C : Nat) : Int) ∧ (i : Int) * C ≤ ((R * C : Nat) : Int) := by
  have := cell_in (r := R) (c := C) (i := i) (k := k) (by omega) (by omega)
  push_cast; exact this
theorem c_right1 {s : St} [Wf s] {q : Nat} {R C : Nat} {id_xs off_xs len_xs : Nat} {xs : List Int} [hq : Ref s q [ic R, ic C, .sl id_xs off_xs len_xs]] [h_xs : ArgE ic s id_xs off_xs xs] (hl_xs : xs.length = len_xs) (hl : len_xs = R * C) (hb : R ≤ 24 ∧ C ≤ 24) {i k : Nat} (hi : i < C) (hk : k < R) :
    FnV 80 [iv i, iv k, .c (.ptr q 0)] s (iv (cel xs C (R - 1 - k) i)) := by
  have hcc : R * C ≤ 576 := Nat.mul_le_mul hb.1 hb.2
  have hm := cell_in (r := R) (c := C) (i := (R : Int) - 1 - k) (k := i) (by omega) (by omega)
  have e : ((R * C : Nat) : Int) = (R : Int) * C := by push_cast; rfl
  refine F_start code80 ?_
  repeat' (first
 | refine A_go rfl ?_ | refine A_ifT rfl rfl ?_ | refine A_ifF rfl rfl ?_
 | refine A_sub rfl rfl rfl (by omega) ?_
 | refine A_callV rfl rfl (fun s H => c_at) ?_
 | refine A_fld rfl rfl ?_ | refine A_p (by rfl) rfl ?_
 | refine A_ldI rfl (by first | omega | (simp; done) | (simp; omega)) rfl ?_ | refine A_ldB rfl (by first | omega | (simp; done) | (simp; omega)) rfl ?_ | refine A_ld rfl (by rfl) rfl ?_
 | refine A_ldW rfl (by simp) rfl ?_
 | refine A_ret1 rfl (by exact (RP.t rfl RP.nil)) ?_)
  exact R_v rfl
theorem c_right {s : St} [Wf s] {R C : Nat} {id_xs off_xs len_xs : Nat} {xs : List Int} [h_xs : ArgE ic s id_xs off_xs xs] (hl_xs : xs.length = len_xs := by first | rfl | simp | omega | (simp; omega)) (hl : len_xs = R * C := by omega) (hb : R ≤ 24 ∧ C ≤ 24 := by omega) :
    Fn [] 56 [.agg [ic R, ic C, .sl id_xs off_xs len_xs]] s fun V N => ∃ p, V = .agg (fld C R p (C * R)) ∧ N = [(p, ints (mk C R fun i k => cel xs C (R - 1 - k) i))] := by
  refine F_start code56 ?_
  repeat' (first
 | refine A_go rfl ?_ | refine A_ifT rfl rfl ?_ | refine A_ifF rfl rfl ?_
 | (refine A_callM rfl rfl (fun s H => c_madeField (fun i k => cel xs C (R - 1 - k) i) (by omega) (fun s L H i k hi hk => c_right1 hl_xs hl hb hi hk)) ?_; rintro _ _ ⟨pz, rfl, rfl⟩) | (refine A_callM0 rfl rfl (fun s H => c_madeField (fun i k => cel xs C (R - 1 - k) i) (by omega) (fun s L H i k hi hk => c_right1 hl_xs hl hb hi hk)) ?_; rintro _ _ ⟨pz, rfl, rfl⟩)
 | refine A_fld rfl rfl ?_ | refine A_p (by rfl) rfl ?_
 | refine A_ldI rfl (by first | omega | (simp; done) | (simp; omega)) rfl ?_ | refine A_ldB rfl (by first | omega | (simp; done) | (simp; omega)) rfl ?_ | refine A_ld rfl (by rfl) rfl ?_
 | refine A_stW rfl rfl (by simp) rfl ?_
 | ((first | refine A_alloc rfl ?_ | refine A_box rfl rfl ?_ | refine A_boxC rfl rfl ?_) <;> intro pz hpz)
 | refine A_ret1 rfl (by exact (RP.c rfl inferInstance rfl (by simp) RP.nil)) ?_)
  exact R_s ⟨pz, rfl, rfl⟩
theorem c_implTurnField {s : St} [Wf s] {r c : Int} {id_xs off_xs len_xs : Nat} {xs : List Int} [h_xs : ArgE ic s id_xs off_xs xs] (hl_xs : xs.length = len_xs := by first | rfl | simp | omega | (simp; omega)) (hb : len_xs ≤ 2000000 := by omega) :
    Fn [] 21 [.agg [ic r, ic c, .sl id_xs off_xs len_xs]] s (FldRes (VF r c xs) c r (mk c.toNat r.toNat fun i k => cel xs c (r - 1 - k) i)) := by
  refine F_start code21 ?_
  by_cases hv : VF r c xs
  case neg =>
    repeat' (first
 | refine A_go rfl ?_ | refine A_ifT rfl rfl ?_ | refine A_ifF rfl rfl ?_
 | (refine A_callB rfl rfl (fun s H => c_implValidField) ?_ ?_ <;> intro hc <;> try first | contradiction | (exfalso; omega) | exact absurd rfl hc | exact absurd (And.intro rfl rfl) hc | exact absurd (And.intro rfl (And.intro rfl rfl)) hc | exact absurd (Eq.trans (by assumption) (Eq.symm (by assumption))) hc)
 | refine A_mk3 rfl rfl rfl rfl ?_ | refine A_mk23 rfl rfl rfl ?_ | refine A_mk2 rfl rfl rfl ?_ | refine A_mk13 rfl rfl ?_ | refine A_p (by rfl) rfl ?_
 | refine A_ldW rfl (by simp) rfl ?_
 | refine A_stW rfl rfl (by simp) rfl ?_
 | ((first | refine A_alloc rfl ?_ | refine A_box rfl rfl ?_ | refine A_boxC rfl rfl ?_) <;> intro pz hpz)
 | refine A_ret rfl (by exact (RP.c rfl inferInstance rfl (by simp) (RP.t rfl RP.nil))) ?_)
    exact R_fldN hv
  obtain ⟨R, C, rfl, rfl, h1, h2, h3, h4⟩ := hv.nat
  have h5 : C * R = R * C := Nat.mul_comm C R
  repeat' (first
 | refine A_go rfl ?_ | refine A_ifT rfl rfl ?_ | refine A_ifF rfl rfl ?_
 | (refine A_callB rfl rfl (fun s H => c_implValidField) ?_ ?_ <;> intro hc <;> try first | contradiction | (exfalso; omega) | exact absurd rfl hc | exact absurd (And.intro rfl rfl) hc | exact absurd (And.intro rfl (And.intro rfl rfl)) hc | exact absurd (Eq.trans (by assumption) (Eq.symm (by assumption))) hc)
 | (refine A_callM rfl rfl (fun s H => c_right) ?_; rintro _ _ ⟨pz, rfl, rfl⟩) | (refine A_callM0 rfl rfl (fun s H => c_right) ?_; rintro _ _ ⟨pz, rfl, rfl⟩)
 | refine A_mk3 rfl rfl rfl rfl ?_ | refine A_mk23 rfl rfl rfl ?_ | refine A_mk2 rfl rfl rfl ?_ | refine A_mk13 rfl rfl ?_ | refine A_p (by rfl) rfl ?_
 | refine A_ldW rfl (by simp) rfl ?_
 | refine A_stW rfl rfl (by simp) rfl ?_
 | ((first | refine A_alloc rfl ?_ | refine A_box rfl rfl ?_ | refine A_boxC rfl rfl ?_) <;> intro pz hpz)
 | refine A_ret rfl (by exact (RP.c rfl inferInstance rfl (by simp) (RP.t rfl RP.nil))) ?_)
  simp only [Int.toNat_natCast]
  exact R_fld hv (by simp) (by omega)
theorem c_mirrored1 {s : St} [Wf s] {q : Nat} {R C : Nat} {id_xs off_xs len_xs : Nat} {xs : List Int} [hq : Ref s q [ic R, ic C, .sl id_xs off_xs len_xs]] [h_xs : ArgE ic s id_xs off_xs xs] (hl_xs : xs.length = len_xs) (hl : len_xs = R * C) (hb : R ≤ 24 ∧ C ≤ 24) {i k : Nat} (hi : i < R) (hk : k < C) :
    FnV 81 [iv i, iv k, .c (.ptr q 0)] s (iv (cel xs C i (C - 1 - k))) := by
  have hcc : R * C ≤ 576 := Nat.mul_le_mul hb.1 hb.2
  have hm := cell_in (r := R) (c := C) (i := i) (k := (C : Int) - 1 - k) (by omega) (by omega)
  have e : ((R * C : Nat) : Int) = (R : Int) * C := by push_cast; rfl
  refine F_start code81 ?_
  repeat' (first
 | refine A_go rfl ?_ | refine A_ifT rfl rfl ?_ | refine A_ifF rfl rfl ?_
 | refine A_sub rfl rfl rfl (by omega) ?_
 | refine A_callV rfl rfl (fun s H => c_at) ?_
 | refine A_fld rfl rfl ?_ | refine A_p (by rfl) rfl ?_
 | refine A_ldI rfl (by first | omega | (simp; done) | (simp; omega)) rfl ?_ | refine A_ldB rfl (by first | omega | (simp; done) | (simp; omega)) rfl ?_ | refine A_ld rfl (by rfl) rfl ?_
 | refine A_ldW rfl (by simp) rfl ?_
 | refine A_ret1 rfl (by exact (RP.t rfl RP.nil)) ?_)
  exact R_v rfl
theorem c_mirrored {s : St} [Wf s] {R C : Nat} {id_xs off_xs len_xs : Nat} {xs : List Int} [h_xs : ArgE ic s id_xs off_xs xs] (hl_xs : xs.length = len_xs := by first | rfl | simp | omega | (simp; omega)) (hl : len_xs = R * C := by omega) (hb : R ≤ 24 ∧ C ≤ 24 := by omega) :
    Fn [] 57 [.agg [ic R, ic C, .sl id_xs off_xs len_xs]] s fun V N => ∃ p, V = .agg (fld R C p (R * C)) ∧ N = [(p, ints (mk R C fun i k => cel xs C i (C - 1 - k)))] := by
  refine F_start code57 ?_
  repeat' (first
 | refine A_go rfl ?_ | refine A_ifT rfl rfl ?_ | refine A_ifF rfl rfl ?_
 | (refine A_callM rfl rfl (fun s H => c_madeField (fun i k => cel xs C i (C - 1 - k)) (by omega) (fun s L H i k hi hk => c_mirrored1 hl_xs hl hb hi hk)) ?_; rintro _ _ ⟨pz, rfl, rfl⟩) | (refine A_callM0 rfl rfl (fun s H => c_madeField (fun i k => cel xs C i (C - 1 - k)) (by omega) (fun s L H i k hi hk => c_mirrored1 hl_xs hl hb hi hk)) ?_; rintro _ _ ⟨pz, rfl, rfl⟩)
 | refine A_fld rfl rfl ?_ | refine A_p (by rfl) rfl ?_
 | refine A_ldI rfl (by first | omega | (simp; done) | (simp; omega)) rfl ?_ | refine A_ldB rfl (by first | omega | (simp; done) | (simp; omega)) rfl ?_ | refine A_ld rfl (by rfl) rfl ?_
 | refine A_stW rfl rfl (by simp) rfl ?_
 | ((first | refine A_alloc rfl ?_ | refine A_box rfl rfl ?_ | refine A_boxC rfl rfl ?_) <;> intro pz hpz)
 | refine A_ret1 rfl (by exact (RP.c rfl inferInstance rfl (by simp) RP.nil)) ?_)
  exact R_s ⟨pz, rfl, rfl⟩
theorem c_implMirrorField {s : St} [Wf s] {r c : Int} {id_xs off_xs len_xs : Nat} {xs : List Int} [h_xs : ArgE ic s id_xs off_xs xs] (hl_xs : xs.length = len_xs := by first | rfl | simp | omega | (simp; omega)) (hb : len_xs ≤ 2000000 := by omega) :
    Fn [] 22 [.agg [ic r, ic c, .sl id_xs off_xs len_xs]] s (FldRes (VF r c xs) r c (mk r.toNat c.toNat fun i k => cel xs c i (c - 1 - k))) := by
  refine F_start code22 ?_
  by_cases hv : VF r c xs
  case neg =>
    repeat' (first
 | refine A_go rfl ?_ | refine A_ifT rfl rfl ?_ | refine A_ifF rfl rfl ?_
 | (refine A_callB rfl rfl (fun s H => c_implValidField) ?_ ?_ <;> intro hc <;> try first | contradiction | (exfalso; omega) | exact absurd rfl hc | exact absurd (And.intro rfl rfl) hc | exact absurd (And.intro rfl (And.intro rfl rfl)) hc | exact absurd (Eq.trans (by assumption) (Eq.symm (by assumption))) hc)
 | refine A_mk3 rfl rfl rfl rfl ?_ | refine A_mk23 rfl rfl rfl ?_ | refine A_mk2 rfl rfl rfl ?_ | refine A_mk13 rfl rfl ?_ | refine A_p (by rfl) rfl ?_
 | refine A_ldW rfl (by simp) rfl ?_
 | refine A_stW rfl rfl (by simp) rfl ?_
 | ((first | refine A_alloc rfl ?_ | refine A_box rfl rfl ?_ | refine A_boxC rfl rfl ?_) <;> intro pz hpz)
 | refine A_ret rfl (by exact (RP.c rfl inferInstance rfl (by simp) (RP.t rfl RP.nil))) ?_)
    exact R_fldN hv
  obtain ⟨R, C, rfl, rfl, h1, h2, h3, h4⟩ := hv.nat
  repeat' (first
 | refine A_go rfl ?_ | refine A_ifT rfl rfl ?_ | refine A_ifF rfl rfl ?_
 | (refine A_callB rfl rfl (fun s H => c_implValidField) ?_ ?_ <;> intro hc <;> try first | contradiction | (exfalso; omega) | exact absurd rfl hc | exact absurd (And.intro rfl rfl) hc | exact absurd (And.intro rfl (And.intro rfl rfl)) hc | exact absurd (Eq.trans (by assumption) (Eq.symm (by assumption))) hc)
 | (refine A_callM rfl rfl (fun s H => c_mirrored) ?_; rintro _ _ ⟨pz, rfl, rfl⟩) | (refine A_callM0 rfl rfl (fun s H => c_mirrored) ?_; rintro _ _ ⟨pz, rfl, rfl⟩)
 | refine A_mk3 rfl rfl rfl rfl ?_ | refine A_mk23 rfl rfl rfl ?_ | refine A_mk2 rfl rfl rfl ?_ | refine A_mk13 rfl rfl ?_ | refine A_p (by rfl) rfl ?_
 | refine A_ldW rfl (by simp) rfl ?_
 | refine A_stW rfl rfl (by simp) rfl ?_
 | ((first | refine A_alloc rfl ?_ | refine A_box rfl rfl ?_ | refine A_boxC rfl rfl ?_) <;> intro pz hpz)
 | refine A_ret rfl (by exact (RP.c rfl inferInstance rfl (by simp) (RP.t rfl RP.nil))) ?_)
  simp only [Int.toNat_natCast]
  exact R_fld hv (by simp) (by omega)
/-- A part of a field. -/
def Cov (r c row col rows cols : Int) : Prop := ((1 ≤ rows ∧ rows ≤ 24) ∧ 1 ≤ cols ∧ cols ≤ 24) ∧ (0 ≤ row ∧ row ≤ r - rows) ∧ 0 ≤ col ∧ col ≤ c - cols
def shG (xs : List Int) (R C row col i k : Int) : Int := cel xs C ((i - row) % R) ((k - col) % C)
theorem c_shifted1 {s : St} [Wf s] {q p1 p2 : Nat} {R C : Nat} {row col : Int} {id_xs off_xs len_xs : Nat} {xs : List Int} [hq : Ref s q [ic R, ic C, .sl id_xs off_xs len_xs]] [hp1 : Ref s p1 [ic row]] [hp2 : Ref s p2 [ic col]] [h_xs : ArgE ic s id_xs off_xs xs] (hl_xs : xs.length = len_xs) (hv : VF R C xs) (hb : (-24 ≤ row ∧ row ≤ 24) ∧ -24 ≤ col ∧ col ≤ 24) {i k : Nat} (hi : i < R) (hk : k < C) :
    FnV 82 [iv i, iv k, .c (.ptr q 0), .c (.ptr p1 0), .c (.ptr p2 0)] s (iv (shG xs R C row col i k)) := by
  have g1 := hv.1
  have g2 := hv.2.1
  refine F_start code82 ?_
  repeat' (first
 | refine A_go rfl ?_ | refine A_ifT rfl rfl ?_ | refine A_ifF rfl rfl ?_
 | refine A_sub rfl rfl rfl (by omega) ?_
 | refine A_callV rfl rfl (fun s H => c_look (hv := hv)) ?_
 | refine A_p (by rfl) rfl ?_
 | refine A_ldI rfl (by first | omega | (simp; done) | (simp; omega)) rfl ?_ | refine A_ldB rfl (by first | omega | (simp; done) | (simp; omega)) rfl ?_ | refine A_ld rfl (by rfl) rfl ?_
 | refine A_ldW rfl (by simp) rfl ?_
 | refine A_ret1 rfl (by exact (RP.t rfl RP.nil)) ?_)
  exact R_v (by simp [lookV, shG])
theorem c_shifted {s : St} [Wf s] {R C : Nat} {row col : Int} {id_xs off_xs len_xs : Nat} {xs : List Int} [h_xs : ArgE ic s id_xs off_xs xs] (hl_xs : xs.length = len_xs := by first | rfl | simp | omega | (simp; omega)) (hv : VF R C xs) (hb : (-24 ≤ row ∧ row ≤ 24) ∧ -24 ≤ col ∧ col ≤ 24 := by omega) :
    Fn [] 61 [.agg [ic R, ic C, .sl id_xs off_xs len_xs], iv row, iv col] s fun V L => ∃ p, V = .agg (fld R C p (R * C)) ∧ L = [(p, ints (mk R C (shG xs R C row col)))] := by
  have g1 := hv.1
  have g2 := hv.2.1
  refine F_start code61 ?_
  repeat' (first
 | refine A_go rfl ?_ | refine A_ifT rfl rfl ?_ | refine A_ifF rfl rfl ?_
 | (refine A_callM rfl rfl (fun s H => c_madeField (shG xs R C row col) (by omega) (fun s L H i k hi hk => c_shifted1 hl_xs hv hb hi hk)) ?_; rintro _ _ ⟨pz, rfl, rfl⟩) | (refine A_callM0 rfl rfl (fun s H => c_madeField (shG xs R C row col) (by omega) (fun s L H i k hi hk => c_shifted1 hl_xs hv hb hi hk)) ?_; rintro _ _ ⟨pz, rfl, rfl⟩)
 | refine A_fld rfl rfl ?_ | refine A_p (by rfl) rfl ?_
 | refine A_ldI rfl (by first | omega | (simp; done) | (simp; omega)) rfl ?_ | refine A_ldB rfl (by first | omega | (simp; done) | (simp; omega)) rfl ?_ | refine A_ld rfl (by rfl) rfl ?_
 | refine A_stW rfl rfl (by simp) rfl ?_
 | ((first | refine A_alloc rfl ?_ | refine A_box rfl rfl ?_ | refine A_boxC rfl rfl ?_) <;> intro pz hpz)
 | refine A_ret1 rfl (by exact (RP.c rfl inferInstance rfl (by simp) RP.nil)) ?_)
  exact R_s ⟨pz, rfl, rfl⟩
/-- By how much fields are shifted. -/
def Shf (row col : Int) : Prop := (-24 ≤ row ∧ row ≤ 24) ∧ -24 ≤ col ∧ col ≤ 24
theorem c_areWithin2 {s : St} [Wf s] {id : Nat} {a b : Int} [h : ArgE ic s id 0 [a, b]] : FnB 60 [.c (.sl id 0 2), iv (-24), iv 24] s (Shf a b) := by
  have := c_areWithin (s := s) (id_xs := id) (off_xs := 0) (len_xs := 2) (xs := [a, b]) (a := -24) (b := 24)
  have e : (∀ x ∈ [a, b], -24 ≤ x ∧ x ≤ 24) = Shf a b := by simp [Shf]
  rw [e] at this; exact this
theorem c_implShiftField {s : St} [Wf s] {r c row col : Int} {id_xs off_xs len_xs : Nat} {xs : List Int} [h_xs : ArgE ic s id_xs off_xs xs] (hl_xs : xs.length = len_xs := by first | rfl | simp | omega | (simp; omega)) (hb : len_xs ≤ 2000000 := by omega) :
    Fn [] 25 [.agg [ic r, ic c, .sl id_xs off_xs len_xs], iv row, iv col] s (FldRes (VF r c xs ∧ Shf row col) r c (mk r.toNat c.toNat (shG xs r c row col))) := by
  refine F_start code25 ?_
  by_cases hv : VF r c xs
  case neg =>
    repeat' (first
 | refine A_go rfl ?_ | refine A_ifT rfl rfl ?_ | refine A_ifF rfl rfl ?_
 | refine A_offP rfl rfl ?_ | refine A_offH rfl rfl ?_ | refine A_off0 rfl rfl ?_
 | (refine A_callB rfl rfl (fun s H => c_implValidField) ?_ ?_ <;> intro hc <;> try first | contradiction | (exfalso; omega) | exact absurd rfl hc | exact absurd (And.intro rfl rfl) hc | exact absurd (And.intro rfl (And.intro rfl rfl)) hc | exact absurd (Eq.trans (by assumption) (Eq.symm (by assumption))) hc)
 | refine A_mk3 rfl rfl rfl rfl ?_ | refine A_mk23 rfl rfl rfl ?_ | refine A_mk2 rfl rfl rfl ?_ | refine A_mk13 rfl rfl ?_ | refine A_p (by rfl) rfl ?_
 | refine A_ldW rfl (by simp) rfl ?_
 | refine A_stW rfl rfl (by simp) rfl ?_
 | ((first | refine A_alloc rfl ?_ | refine A_box rfl rfl ?_ | refine A_boxC rfl rfl ?_ | refine A_bld1 rfl rfl ?_ | refine A_bld2 rfl rfl rfl ?_ | refine A_bld4 rfl rfl rfl rfl rfl ?_) <;> intro pz hpz)
 | refine A_bld0 rfl ?_
 | refine A_ret rfl (by exact (RP.c rfl inferInstance rfl (by simp) (RP.t rfl RP.nil))) ?_)
    exact R_fldN fun h => hv h.1
  by_cases hcv : Shf row col
  case neg =>
    repeat' (first
 | refine A_go rfl ?_ | refine A_ifT rfl rfl ?_ | refine A_ifF rfl rfl ?_
 | refine A_offP rfl rfl ?_ | refine A_offH rfl rfl ?_ | refine A_off0 rfl rfl ?_
 | (refine A_callB rfl rfl (fun s H => c_implValidField) ?_ ?_ <;> intro hc <;> try first | contradiction | (exfalso; omega) | exact absurd rfl hc | exact absurd (And.intro rfl rfl) hc | exact absurd (And.intro rfl (And.intro rfl rfl)) hc | exact absurd (Eq.trans (by assumption) (Eq.symm (by assumption))) hc)
 | (refine A_callB rfl rfl (fun s H => c_areWithin2) ?_ ?_ <;> intro hc <;> try first | contradiction | (exfalso; omega) | exact absurd rfl hc | exact absurd (And.intro rfl rfl) hc | exact absurd (And.intro rfl (And.intro rfl rfl)) hc | exact absurd (Eq.trans (by assumption) (Eq.symm (by assumption))) hc)
 | refine A_mk3 rfl rfl rfl rfl ?_ | refine A_mk23 rfl rfl rfl ?_ | refine A_mk2 rfl rfl rfl ?_ | refine A_mk13 rfl rfl ?_ | refine A_p (by rfl) rfl ?_
 | refine A_ldW rfl (by simp) rfl ?_
 | refine A_stW rfl rfl (by simp) rfl ?_
 | ((first | refine A_alloc rfl ?_ | refine A_box rfl rfl ?_ | refine A_boxC rfl rfl ?_ | refine A_bld1 rfl rfl ?_ | refine A_bld2 rfl rfl rfl ?_ | refine A_bld4 rfl rfl rfl rfl rfl ?_) <;> intro pz hpz)
 | refine A_bld0 rfl ?_
 | refine A_ret rfl (by exact (RP.c rfl inferInstance rfl (by simp) (RP.t rfl RP.nil))) ?_)
    exact R_fldN fun h => hcv h.2
  obtain ⟨R, C, rfl, rfl, h1, h2, h3, h4⟩ := hv.nat
  have hb2 := hcv.1
  have hb3 := hcv.2
  repeat' (first
 | refine A_go rfl ?_ | refine A_ifT rfl rfl ?_ | refine A_ifF rfl rfl ?_
 | refine A_offP rfl rfl ?_ | refine A_offH rfl rfl ?_ | refine A_off0 rfl rfl ?_
 | (refine A_callB rfl rfl (fun s H => c_implValidField) ?_ ?_ <;> intro hc <;> try first | contradiction | (exfalso; omega) | exact absurd rfl hc | exact absurd (And.intro rfl rfl) hc | exact absurd (And.intro rfl (And.intro rfl rfl)) hc | exact absurd (Eq.trans (by assumption) (Eq.symm (by assumption))) hc)
 | (refine A_callB rfl rfl (fun s H => c_areWithin2) ?_ ?_ <;> intro hc <;> try first | contradiction | (exfalso; omega) | exact absurd rfl hc | exact absurd (And.intro rfl rfl) hc | exact absurd (And.intro rfl (And.intro rfl rfl)) hc | exact absurd (Eq.trans (by assumption) (Eq.symm (by assumption))) hc)
 | (refine A_callM rfl rfl (fun s H => c_shifted (hv := hv)) ?_; rintro _ _ ⟨pz, rfl, rfl⟩) | (refine A_callM0 rfl rfl (fun s H => c_shifted (hv := hv)) ?_; rintro _ _ ⟨pz, rfl, rfl⟩)
 | refine A_mk3 rfl rfl rfl rfl ?_ | refine A_mk23 rfl rfl rfl ?_ | refine A_mk2 rfl rfl rfl ?_ | refine A_mk13 rfl rfl ?_ | refine A_p (by rfl) rfl ?_
 | refine A_ldW rfl (by simp) rfl ?_
 | refine A_stW rfl rfl (by simp) rfl ?_
 | ((first | refine A_alloc rfl ?_ | refine A_box rfl rfl ?_ | refine A_boxC rfl rfl ?_ | refine A_bld1 rfl rfl ?_ | refine A_bld2 rfl rfl rfl ?_ | refine A_bld4 rfl rfl rfl rfl rfl ?_) <;> intro pz hpz)
 | refine A_bld0 rfl ?_
 | refine A_ret rfl (by exact (RP.c rfl inferInstance rfl (by simp) (RP.t rfl RP.nil))) ?_)
  simp only [Int.toNat_natCast]
  exact R_fld ⟨hv, hcv⟩ (by simp) (by omega)
/-- A cell of a field on which another one is pasted. -/
def paG (xs : List Int) (C : Int) (ys : List Int) (M N row col i k : Int) : Int := if (0 ≤ i - row ∧ i - row < M) ∧ 0 ≤ k - col ∧ k - col < N then cel ys N (i - row) (k - col) else cel xs C i k
end Go.Proofs.Ytlhidckolillaaa
