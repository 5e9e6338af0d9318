/- Fires. -/
import Derived.Test.YtckobcjjbpnkcaaXbeside
import Derived.Test.YtckobcjjbpnkcaaFB
namespace Go.Proofs.Ytckobcjjbpnkcaa
open Go Go.RowKit
set_option linter.unusedVariables false
set_option linter.unusedSimpArgs false
set_option maxRecDepth 100000
set_option maxHeartbeats 8000000
-- (impl.Field).burn$1
def L93 : AFun := ⟨25, [.t 5],
 (.seq (.ops false [⟨(some 5), .mv (.k (iv 0)), none, []⟩])
 (.seq (.seq (.ops false [⟨(some 7), .load true 3 (.t 2), none, []⟩,
    ⟨(some 8), .mv (.t 0), none, []⟩,
    ⟨(some 9), .mv (.t 1), none, []⟩,
    ⟨(some 10), .call (.f 68) [(.t 7), (.t 8), (.t 9)], none, []⟩])
  (.block 0 (.seq (.ops false [⟨(some 12), .bin .eql (.t 10) (.k (iv 1)), none, []⟩,
     ⟨(some 11), .mv (.t 12), none, []⟩])
   (.cond (.t 11) (.seq (.ops false [⟨(some 6), .alloc 2 [.int .i64 0], none, []⟩,
      ⟨none, .store 1 (.t 6) (.k (iv 1)), none, []⟩])
    (.seq (.ops false [⟨(some 13), .load true 3 (.t 2), none, []⟩,
      ⟨(some 14), .mv (.t 0), none, []⟩,
      ⟨(some 15), .mv (.t 1), none, []⟩,
      ⟨(some 16), .mkFn 94 [(.t 2), (.t 6)], none, []⟩,
      ⟨(some 17), .call (.f 72) [(.t 13), (.t 14), (.t 15), (.t 16)], none, []⟩])
    (.seq (.ops false [⟨(some 18), .load false 1 (.t 6), none, []⟩,
      ⟨(some 5), .mv (.t 18), none, []⟩])
    .ret)))
    (.seq (.ops false [⟨(some 20), .bin .eql (.t 10) (.k (iv 2)), none, []⟩,
      ⟨(some 19), .mv (.t 20), none, []⟩])
    (.cond (.t 19) (.seq (.ops false [⟨(some 5), .mv (.k (iv 0)), none, []⟩])
     .ret)
     .skip))))))
 (.seq (.ops false [⟨(some 21), .load true 3 (.t 2), none, []⟩,
   ⟨(some 22), .mv (.t 0), none, []⟩,
   ⟨(some 23), .mv (.t 1), none, []⟩,
   ⟨(some 24), .call (.f 68) [(.t 21), (.t 22), (.t 23)], none, []⟩,
   ⟨(some 5), .mv (.t 24), none, []⟩])
 .ret)))⟩
theorem code93 : acode Try.prog hints 93 = some L93 := by kernel_rfl

-- (impl.Field).burn$1$1
def L94 : AFun := ⟨11, [],
 (.seq (.ops false [⟨(some 6), .load true 3 (.t 2), none, []⟩,
   ⟨(some 7), .mv (.t 0), none, []⟩,
   ⟨(some 8), .mv (.t 1), none, []⟩,
   ⟨(some 9), .call (.f 68) [(.t 6), (.t 7), (.t 8)], none, []⟩,
   ⟨(some 10), .bin .eql (.t 9) (.k (iv 2)), none, []⟩])
 (.cond (.t 10) (.ops false [⟨none, .store 1 (.t 3) (.k (iv 2)), none, []⟩])
  .skip))⟩
theorem code94 : acode Try.prog hints 94 = some L94 := by kernel_rfl

-- (impl.Field).burn
def L76 : AFun := ⟨9, [.cell true 3 2],
 (.seq (.ops false [⟨(some 1), .box 25 (.t 0), none, []⟩,
   ⟨(some 2), .alloc 25 [.int .i64 0, .int .i64 0, .sl 0 0 0], none, []⟩])
 (.seq (.ops false [⟨(some 3), .fieldA 0 (.t 1), none, []⟩,
   ⟨(some 4), .load false 1 (.t 3), none, []⟩,
   ⟨(some 5), .fieldA 1 (.t 1), none, []⟩,
   ⟨(some 6), .load false 1 (.t 5), none, []⟩,
   ⟨(some 7), .mkFn 93 [(.t 1)], none, []⟩,
   ⟨(some 8), .call (.f 44) [(.t 4), (.t 6), (.t 7)], none, []⟩,
   ⟨none, .store 3 (.t 2) (.t 8), none, []⟩])
 .ret))⟩
theorem code76 : acode Try.prog hints 76 = some L76 := by kernel_rfl

-- impl.FireStep
def L36 : AFun := ⟨10, [.cell true 3 2, .t 3],
 (.seq (.ops false [⟨(some 1), .box 25 (.t 0), none, []⟩,
   ⟨(some 2), .alloc 25 [.int .i64 0, .int .i64 0, .sl 0 0 0], none, []⟩,
   ⟨(some 3), .mv (.k (bv false)), none, []⟩])
 (.seq (.seq (.ops false [⟨(some 4), .load true 3 (.t 1), none, []⟩,
    ⟨(some 5), .call (.f 25) [(.t 4)], none, []⟩,
    ⟨(some 6), .un .not (.t 5), none, []⟩])
  (.cond (.t 6) (.seq (.ops false [⟨(some 7), .build [.int .i64 0, .int .i64 0, .sl 0 0 0] [], none, []⟩,
     ⟨none, .store 3 (.t 2) (.t 7), none, []⟩,
     ⟨(some 3), .mv (.k (bv false)), none, []⟩])
   .ret)
   .skip))
 (.seq (.ops false [⟨(some 8), .load true 3 (.t 1), none, []⟩,
   ⟨(some 9), .call (.f 76) [(.t 8)], none, []⟩,
   ⟨none, .store 3 (.t 2) (.t 9), none, []⟩,
   ⟨(some 3), .mv (.k (bv true)), none, []⟩])
 .ret)))⟩
theorem code36 : acode Try.prog hints 36 = some L36 := by kernel_rfl


def fireS (xs : List Int) (v x : Int) : Int := if xs.getD x.toNat 0 = 2 then 2 else v
/-- A cell behind a step of fire. -/
def burnV (xs : List Int) (R C i k : Int) : Int := if cel xs C i k = 1 then (nbl R C i k 4).foldl (fireS xs) 1 else if cel xs C i k = 2 then 0 else cel xs C i k
theorem c_burn11 {s : St} {q po R C : Nat} {id_xs off_xs len_xs : Nat} {xs : List Int} {v : Int} [hq : Ref s q [ic R, ic C, .sl id_xs off_xs len_xs]] [h_xs : ArgE ic s id_xs off_xs xs] (H : Own [po] s s [(po, .rw 2 1 [ic v])]) [k1 : NotIn q [po]] [k2 : NotIn id_xs [po]] (hl_xs : xs.length = len_xs) (hl : len_xs = R * C) (hb : R ≤ 24 ∧ C ≤ 24) {r c : Int} (hin : InF R C r c) :
    Fn [po] 94 [iv r, iv c, .c (.ptr q 0), .c (.ptr po 0)] s fun _ N => N = [(po, .rw 2 1 [ic (fireS xs v (r * C + c))])] := by
  have hcc : R * C ≤ 576 := Nat.mul_le_mul hb.1 hb.2
  have hm := cell_in hin.1 hin.2
  have e : ((R * C : Nat) : Int) = (R : Int) * C := by push_cast; rfl
  refine F_startB code94 H ?_
  repeat' (first
 | refine A_go rfl ?_ | refine A_ifT rfl rfl ?_ | refine A_ifF rfl rfl ?_
 | ((first | refine A_eq rfl rfl rfl ?_ ?_) <;> intro hc <;> try first | contradiction | (exfalso; omega) | exact absurd rfl hc)
 | refine A_callV rfl rfl (fun s H => c_at) ?_
 | refine A_p (by rfl) rfl ?_
 | refine A_ldW rfl (by simp) rfl ?_
 | refine A_st rfl rfl rfl ?_ | refine A_stE rfl rfl (by first | omega | (simp; done) | (simp; omega)) rfl ?_
 | refine A_ret0 rfl ?_)
  · exact R_s (by rw [fireS, if_pos hc])
  · exact R_s (by rw [fireS, if_neg hc])
theorem c_burn1 {s : St} [Wf s] {q R C : Nat} {id_xs off_xs len_xs : Nat} {xs : List Int} [hq : Ref s q [ic R, ic C, .sl id_xs off_xs len_xs]] [h_xs : ArgE ic s id_xs off_xs xs] (hl_xs : xs.length = len_xs) (hl : len_xs = R * C) (hb : R ≤ 24 ∧ C ≤ 24) {i k : Nat} (hi : i < R) (hk : k < C) :
    FnV 93 [iv i, iv k, .c (.ptr q 0)] s (iv (burnV xs R C i k)) := by
  have hcc : R * C ≤ 576 := Nat.mul_le_mul hb.1 hb.2
  have hm := cell_nat hi hk
  refine F_start code93 ?_
  repeat' (first
 | refine A_go rfl ?_ | refine A_ifT rfl rfl ?_ | refine A_ifF rfl rfl ?_
 | ((first | refine A_eq rfl rfl rfl ?_ ?_) <;> intro hc <;> try first | contradiction | (exfalso; omega) | exact absurd rfl hc)
 | refine A_callV rfl rfl (fun s H => c_at) ?_
 | refine A_p (by rfl) rfl ?_
 | refine A_ldI rfl (by first | omega | (simp; done) | (simp; omega)) rfl ?_ | refine A_ldB rfl (by first | omega | (simp; done) | (simp; omega)) rfl ?_ | refine A_ld rfl (by rfl) rfl ?_
 | refine A_ldW rfl (by simp) rfl ?_
 | refine A_st rfl rfl rfl ?_ | refine A_stE rfl rfl (by first | omega | (simp; done) | (simp; omega)) rfl ?_
 | ((first | refine A_alloc rfl ?_) <;> intro pz hpz)
 | refine A_ret1 rfl (by exact (RP.t rfl RP.nil)) ?_)
  · refine A_callM (C := [pz]) (P := fun _ N => N = [(pz, .rw 2 1 [ic ((nbl R C i k 4).foldl (fireS xs) 1)])]) rfl rfl (fun s' H => ?_) ?_
    · have n1 : NotIn q [pz] := ⟨NotIn.cons (H.neB hq.lt) NotIn.nil⟩
      have n2 : NotIn id_xs [pz] := ⟨NotIn.cons (H.neB h_xs.lt) NotIn.nil⟩
      refine c_beside (ids := [pz]) (N0 := [(pz, .rw 2 1 [ic 1])]) (borOwn (H := H) : Bor s' pz (.rw 2 1 [ic 1])).own (fireS xs) (fun v N => N = [(pz, .rw 2 1 [ic v])]) 1 rfl (by omega) ?_
      rintro r c hin s1 M N st H1 rfl K
      exact c_burn11 K hl_xs hl hb hin
    · rintro r N rfl
      repeat' (first
 | refine A_go rfl ?_ | refine A_ifT rfl rfl ?_ | refine A_ifF rfl rfl ?_
 | ((first | refine A_eq rfl rfl rfl ?_ ?_) <;> intro hc <;> try first | contradiction | (exfalso; omega) | exact absurd rfl hc)
 | refine A_p (by rfl) rfl ?_
 | refine A_ldI rfl (by first | omega | (simp; done) | (simp; omega)) rfl ?_ | refine A_ldB rfl (by first | omega | (simp; done) | (simp; omega)) rfl ?_ | refine A_ld rfl (by rfl) rfl ?_
 | refine A_ldW rfl (by simp) rfl ?_
 | refine A_st rfl rfl rfl ?_ | refine A_stE rfl rfl (by first | omega | (simp; done) | (simp; omega)) rfl ?_
 | ((first | refine A_alloc rfl ?_) <;> intro pz hpz)
 | refine A_ret1 rfl (by exact (RP.t rfl RP.nil)) ?_)
      exact R_v (by rw [burnV, if_pos hc])
  · exact R_v (by rw [burnV, if_neg (by omega), if_pos hc])
  · exact R_v (by rw [burnV, if_neg (by assumption), if_neg (by assumption)])
theorem c_burn {s : St} [Wf s] {R C : Nat} {id_xs off_xs len_xs : Nat} {xs : List Int} [h_xs : ArgE ic s id_xs off_xs xs] (hl_xs : xs.length = len_xs := by first | rfl | simp | omega | (simp; omega)) (hl : len_xs = R * C := by omega) (hb : R ≤ 24 ∧ C ≤ 24 := by omega) :
    Fn [] 76 [.agg [ic R, ic C, .sl id_xs off_xs len_xs]] s fun V N => ∃ p, V = .agg (fld R C p (R * C)) ∧ N = [(p, ints (mk R C (burnV xs R C)))] := by
  refine F_start code76 ?_
  repeat' (first
 | refine A_go rfl ?_ | refine A_ifT rfl rfl ?_ | refine A_ifF rfl rfl ?_
 | (refine A_callM rfl rfl (fun s H => c_madeField (burnV xs R C) (by omega) (fun s L H i k hi hk => c_burn1 hl_xs hl hb hi hk)) ?_; rintro _ _ ⟨pz, rfl, rfl⟩) | (refine A_callM0 rfl rfl (fun s H => c_madeField (burnV xs R C) (by omega) (fun s L H i k hi hk => c_burn1 hl_xs hl hb hi hk)) ?_; rintro _ _ ⟨pz, rfl, rfl⟩)
 | refine A_fld rfl rfl ?_ | refine A_p (by rfl) rfl ?_
 | refine A_ldI rfl (by first | omega | (simp; done) | (simp; omega)) rfl ?_ | refine A_ldB rfl (by first | omega | (simp; done) | (simp; omega)) rfl ?_ | refine A_ld rfl (by rfl) rfl ?_
 | refine A_stW rfl rfl (by simp) rfl ?_
 | ((first | refine A_alloc rfl ?_ | refine A_box rfl rfl ?_ | refine A_boxC rfl rfl ?_) <;> intro pz hpz)
 | refine A_ret1 rfl (by exact (RP.c rfl inferInstance rfl (by simp) RP.nil)) ?_)
  exact R_s ⟨pz, rfl, rfl⟩
theorem c_implFireStep {s : St} [Wf s] {r c : Int} {id_xs off_xs len_xs : Nat} {xs : List Int} [h_xs : ArgE ic s id_xs off_xs xs] (hl_xs : xs.length = len_xs := by first | rfl | simp | omega | (simp; omega)) (hb : len_xs ≤ 2000000 := by omega) :
    Fn [] 36 [.agg [ic r, ic c, .sl id_xs off_xs len_xs]] s (FldRes (VF r c xs) r c (mk r.toNat c.toNat (burnV xs r c))) := by
  refine F_start code36 ?_
  by_cases hv : VF r c xs
  case neg =>
    repeat' (first
 | refine A_go rfl ?_ | refine A_ifT rfl rfl ?_ | refine A_ifF rfl rfl ?_
 | (refine A_callB rfl rfl (fun s H => c_implValidField) ?_ ?_ <;> intro hc <;> try first | contradiction | (exfalso; omega) | exact absurd rfl hc | exact absurd (And.intro rfl rfl) hc | exact absurd (And.intro rfl (And.intro rfl rfl)) hc | exact absurd (Eq.trans (by assumption) (Eq.symm (by assumption))) hc)
 | refine A_mk3 rfl rfl rfl rfl ?_ | refine A_mk23 rfl rfl rfl ?_ | refine A_mk2 rfl rfl rfl ?_ | refine A_mk13 rfl rfl ?_ | refine A_p (by rfl) rfl ?_
 | refine A_ldW rfl (by simp) rfl ?_
 | refine A_stW rfl rfl (by simp) rfl ?_
 | ((first | refine A_alloc rfl ?_ | refine A_box rfl rfl ?_ | refine A_boxC rfl rfl ?_) <;> intro pz hpz)
 | refine A_ret rfl (by exact (RP.c rfl inferInstance rfl (by simp) (RP.t rfl RP.nil))) ?_)
    exact R_fldN hv
  obtain ⟨R, C, rfl, rfl, h1, h2, h3, h4⟩ := hv.nat
  repeat' (first
 | refine A_go rfl ?_ | refine A_ifT rfl rfl ?_ | refine A_ifF rfl rfl ?_
 | (refine A_callB rfl rfl (fun s H => c_implValidField) ?_ ?_ <;> intro hc <;> try first | contradiction | (exfalso; omega) | exact absurd rfl hc | exact absurd (And.intro rfl rfl) hc | exact absurd (And.intro rfl (And.intro rfl rfl)) hc | exact absurd (Eq.trans (by assumption) (Eq.symm (by assumption))) hc)
 | (refine A_callM rfl rfl (fun s H => c_burn) ?_; rintro _ _ ⟨pz, rfl, rfl⟩) | (refine A_callM0 rfl rfl (fun s H => c_burn) ?_; rintro _ _ ⟨pz, rfl, rfl⟩)
 | refine A_mk3 rfl rfl rfl rfl ?_ | refine A_mk23 rfl rfl rfl ?_ | refine A_mk2 rfl rfl rfl ?_ | refine A_mk13 rfl rfl ?_ | refine A_p (by rfl) rfl ?_
 | refine A_ldW rfl (by simp) rfl ?_
 | refine A_stW rfl rfl (by simp) rfl ?_
 | ((first | refine A_alloc rfl ?_ | refine A_box rfl rfl ?_ | refine A_boxC rfl rfl ?_) <;> intro pz hpz)
 | refine A_ret rfl (by exact (RP.c rfl inferInstance rfl (by simp) (RP.t rfl RP.nil))) ?_)
  simp only [Int.toNat_natCast]
  exact R_fld hv (by simp) (by omega)
theorem mk_at {r c n : Nat} {g : Int → Int → Int} (h : n < r * c) : (mk r c g).getD n 0 = g ((n / c : Nat) : Int) ((n % c : Nat) : Int) := getD_map_range h
end Go.Proofs.Ytckobcjjbpnkcaa
