/- Neighbours of cells. -/
import Derived.Test.YtckobcjjbpnkcaaXlend
import Derived.Test.YtckobcjjbpnkcaaXplain
import Derived.Test.YtckobcjjbpnkcaaFB
namespace Go.Proofs.Ytckobcjjbpnkcaa
open Go Go.RowKit
set_option linter.unusedVariables false
set_option linter.unusedSimpArgs false
set_option maxRecDepth 100000
set_option maxHeartbeats 8000000
-- (impl.Field).beside
def L72 : AFun := ⟨43, [],
 (.seq (.ops false [⟨(some 4), .box 25 (.t 0), none, []⟩])
 (.seq (.ops false [⟨(some 10), .mv (.t 1), none, []⟩,
   ⟨(some 11), .bin .sub (.t 10) (.k (iv 1)), none, []⟩,
   ⟨(some 12), .mv (.t 2), none, []⟩,
   ⟨(some 13), .build [.int .i64 0, .int .i64 0] [(0, 1, (.t 11)), (1, 1, (.t 12))], none, []⟩,
   ⟨(some 14), .mv (.t 1), none, []⟩,
   ⟨(some 15), .bin .add (.t 14) (.k (iv 1)), none, []⟩,
   ⟨(some 16), .mv (.t 2), none, []⟩,
   ⟨(some 17), .build [.int .i64 0, .int .i64 0] [(0, 1, (.t 15)), (1, 1, (.t 16))], none, []⟩,
   ⟨(some 18), .mv (.t 1), none, []⟩,
   ⟨(some 19), .mv (.t 2), none, []⟩,
   ⟨(some 20), .bin .sub (.t 19) (.k (iv 1)), none, []⟩,
   ⟨(some 21), .build [.int .i64 0, .int .i64 0] [(0, 1, (.t 18)), (1, 1, (.t 20))], none, []⟩,
   ⟨(some 22), .mv (.t 1), none, []⟩,
   ⟨(some 23), .mv (.t 2), none, []⟩,
   ⟨(some 24), .bin .add (.t 23) (.k (iv 1)), none, []⟩,
   ⟨(some 25), .build [.int .i64 0, .int .i64 0] [(0, 1, (.t 22)), (1, 1, (.t 24))], none, []⟩,
   ⟨(some 26), .build [.int .i64 0, .int .i64 0, .int .i64 0, .int .i64 0, .int .i64 0, .int .i64 0, .int .i64 0, .int .i64 0] [(0, 2, (.t 13)), (2, 2, (.t 17)), (4, 2, (.t 21)), (6, 2, (.t 25))], none, []⟩,
   ⟨(some 27), .mv (.k (iv 0)), none, []⟩])
 (.block 0 (.loop [3, 4, 26, 27] (.seq (.ops false [⟨(some 28), .bin .lss (.t 27) (.k (iv 4)), none, []⟩])
   (.seq (.cond (.t 28) .skip
     (.exit 0))
   (.seq (.block 1 (.seq (.ops false [⟨(some 29), .idxV 4 2 true (.t 26) (.t 27), none, []⟩,
       ⟨(some 9), .alloc 94 [.int .i64 0, .int .i64 0], none, []⟩,
       ⟨none, .store 2 (.t 9) (.t 29), none, []⟩])
     (.seq (.ops false [⟨(some 30), .load true 3 (.t 4), none, []⟩,
       ⟨(some 31), .idxArr 2 1 (.t 9) (.k (iv 0)), none, []⟩,
       ⟨(some 32), .load false 1 (.t 31), none, []⟩,
       ⟨(some 33), .idxArr 2 1 (.t 9) (.k (iv 1)), none, []⟩,
       ⟨(some 34), .load false 1 (.t 33), none, []⟩,
       ⟨(some 35), .call (.f 67) [(.t 30), (.t 32), (.t 34)], none, []⟩])
     (.cond (.t 35) (.ops false [⟨(some 36), .mv (.t 3), none, []⟩,
       ⟨(some 37), .idxArr 2 1 (.t 9) (.k (iv 0)), none, []⟩,
       ⟨(some 38), .load false 1 (.t 37), none, []⟩,
       ⟨(some 39), .idxArr 2 1 (.t 9) (.k (iv 1)), none, []⟩,
       ⟨(some 40), .load false 1 (.t 39), none, []⟩,
       ⟨(some 41), .call (.t 36) [(.t 38), (.t 40)], none, []⟩])
      .skip))))
   (.ops false [⟨(some 42), .bin .add (.t 27) (.k (iv 1)), none, []⟩,
    ⟨(some 27), .mv (.t 42), none, []⟩]))))))))⟩
theorem code72 : acode Try.prog hints 72 = some L72 := by kernel_rfl

-- spec.l04Beside
def L100 : AFun := ⟨68, [.t 4],
 (.seq (.ops false [⟨(some 4), .mv (.k (.c (.sl 0 0 0))), none, []⟩])
 (.seq (.ops false [⟨(some 8), .mv (.t 1), none, []⟩,
   ⟨(some 9), .mv (.t 0), none, []⟩,
   ⟨(some 10), .nilChk (.t 9), none, []⟩,
   ⟨(some 11), .fieldA 1 (.t 10), none, []⟩,
   ⟨(some 12), .load false 1 (.t 11), none, []⟩,
   ⟨(some 13), .bin .quo (.t 8) (.t 12), none, []⟩,
   ⟨(some 5), .mv (.t 13), none, []⟩])
 (.seq (.ops false [⟨(some 14), .mv (.t 1), none, []⟩,
   ⟨(some 15), .mv (.t 0), none, []⟩,
   ⟨(some 16), .nilChk (.t 15), none, []⟩,
   ⟨(some 17), .fieldA 1 (.t 16), none, []⟩,
   ⟨(some 18), .load false 1 (.t 17), none, []⟩,
   ⟨(some 19), .bin .rem (.t 14) (.t 18), none, []⟩,
   ⟨(some 6), .mv (.t 19), none, []⟩])
 (.seq (.ops false [⟨(some 20), .buildS 2 1 0 [.int .i64 0] [], none, []⟩,
   ⟨(some 7), .mv (.t 20), none, []⟩])
 (.seq (.seq (.ops false [⟨(some 21), .mv (.t 5), none, []⟩,
    ⟨(some 22), .bin .gtr (.t 21) (.k (iv 0)), none, []⟩])
  (.cond (.t 22) (.ops false [⟨(some 23), .mv (.t 7), none, []⟩,
    ⟨(some 24), .mv (.t 1), none, []⟩,
    ⟨(some 25), .mv (.t 0), none, []⟩,
    ⟨(some 26), .nilChk (.t 25), none, []⟩,
    ⟨(some 27), .fieldA 1 (.t 26), none, []⟩,
    ⟨(some 28), .load false 1 (.t 27), none, []⟩,
    ⟨(some 29), .bin .sub (.t 24) (.t 28), none, []⟩,
    ⟨(some 30), .buildS 2 1 1 [.int .i64 0] [(0, 1, (.t 29))], none, []⟩,
    ⟨(some 31), .append 2 1 8 (.t 23) (.t 30), none, []⟩,
    ⟨(some 7), .mv (.t 31), none, []⟩])
   .skip))
 (.seq (.seq (.ops false [⟨(some 32), .mv (.t 5), none, []⟩,
    ⟨(some 33), .bin .add (.t 32) (.k (iv 1)), none, []⟩,
    ⟨(some 34), .mv (.t 0), none, []⟩,
    ⟨(some 35), .nilChk (.t 34), none, []⟩,
    ⟨(some 36), .fieldA 0 (.t 35), none, []⟩,
    ⟨(some 37), .load false 1 (.t 36), none, []⟩,
    ⟨(some 38), .bin .lss (.t 33) (.t 37), none, []⟩])
  (.cond (.t 38) (.ops false [⟨(some 39), .mv (.t 7), none, []⟩,
    ⟨(some 40), .mv (.t 1), none, []⟩,
    ⟨(some 41), .mv (.t 0), none, []⟩,
    ⟨(some 42), .nilChk (.t 41), none, []⟩,
    ⟨(some 43), .fieldA 1 (.t 42), none, []⟩,
    ⟨(some 44), .load false 1 (.t 43), none, []⟩,
    ⟨(some 45), .bin .add (.t 40) (.t 44), none, []⟩,
    ⟨(some 46), .buildS 2 1 1 [.int .i64 0] [(0, 1, (.t 45))], none, []⟩,
    ⟨(some 47), .append 2 1 8 (.t 39) (.t 46), none, []⟩,
    ⟨(some 7), .mv (.t 47), none, []⟩])
   .skip))
 (.seq (.seq (.ops false [⟨(some 48), .mv (.t 6), none, []⟩,
    ⟨(some 49), .bin .gtr (.t 48) (.k (iv 0)), none, []⟩])
  (.cond (.t 49) (.ops false [⟨(some 50), .mv (.t 7), none, []⟩,
    ⟨(some 51), .mv (.t 1), none, []⟩,
    ⟨(some 52), .bin .sub (.t 51) (.k (iv 1)), none, []⟩,
    ⟨(some 53), .buildS 2 1 1 [.int .i64 0] [(0, 1, (.t 52))], none, []⟩,
    ⟨(some 54), .append 2 1 8 (.t 50) (.t 53), none, []⟩,
    ⟨(some 7), .mv (.t 54), none, []⟩])
   .skip))
 (.seq (.seq (.ops false [⟨(some 55), .mv (.t 6), none, []⟩,
    ⟨(some 56), .bin .add (.t 55) (.k (iv 1)), none, []⟩,
    ⟨(some 57), .mv (.t 0), none, []⟩,
    ⟨(some 58), .nilChk (.t 57), none, []⟩,
    ⟨(some 59), .fieldA 1 (.t 58), none, []⟩,
    ⟨(some 60), .load false 1 (.t 59), none, []⟩,
    ⟨(some 61), .bin .lss (.t 56) (.t 60), none, []⟩])
  (.cond (.t 61) (.ops false [⟨(some 62), .mv (.t 7), none, []⟩,
    ⟨(some 63), .mv (.t 1), none, []⟩,
    ⟨(some 64), .bin .add (.t 63) (.k (iv 1)), none, []⟩,
    ⟨(some 65), .buildS 2 1 1 [.int .i64 0] [(0, 1, (.t 64))], none, []⟩,
    ⟨(some 66), .append 2 1 8 (.t 62) (.t 65), none, []⟩,
    ⟨(some 7), .mv (.t 66), none, []⟩])
   .skip))
 (.seq (.ops false [⟨(some 67), .mv (.t 7), none, []⟩,
   ⟨(some 4), .mv (.t 67), none, []⟩])
 .ret)))))))))⟩
theorem code100 : acode Try.prog hints 100 = some L100 := by kernel_rfl


/-- The neighbours: above, below, to the left and to the right. -/
def posR (i : Int) : Nat → Int
  | 0 => i - 1
  | 1 => i + 1
  | _ => i
def posC (k : Int) : Nat → Int
  | 2 => k - 1
  | 3 => k + 1
  | _ => k
abbrev InF (R C r c : Int) : Prop := (0 ≤ r ∧ r < R) ∧ 0 ≤ c ∧ c < C
def nbl (R C i k : Int) : Nat → List Int
  | 0 => []
  | j + 1 => if InF R C (posR i j) (posC k j) then nbl R C i k j ++ [posR i j * C + posC k j] else nbl R C i k j
theorem nbl_t {R C i k : Int} {j : Nat} (h : InF R C (posR i j) (posC k j)) : nbl R C i k (j + 1) = nbl R C i k j ++ [posR i j * C + posC k j] := by rw [nbl, if_pos h]
theorem nbl_f {R C i k : Int} {j : Nat} (h : ¬ InF R C (posR i j) (posC k j)) : nbl R C i k (j + 1) = nbl R C i k j := by rw [nbl, if_neg h]
theorem nbl_len {R C i k : Int} : ∀ j, (nbl R C i k j).length ≤ j
  | 0 => Nat.le_refl 0
  | j + 1 => by have := nbl_len (R := R) (C := C) (i := i) (k := k) j; rw [nbl]; split <;> simp <;> omega
/-- All these are cells. -/
theorem nbl_in {R C i k : Int} : ∀ j, ∀ x ∈ nbl R C i k j, 0 ≤ x ∧ x < R * C
  | 0, x, h => by cases h
  | j + 1, x, h => by
    rw [nbl] at h
    split at h
    · rename_i hin
      rcases List.mem_append.1 h with h | h
      · exact nbl_in j x h
      · obtain rfl := List.mem_singleton.1 h
        have := cell_in hin.1 hin.2; omega
    · exact nbl_in j x h
theorem A_idx4 {B : List Nat} {b : St} {L : Objs} {l : List AStep} {hist : List Objs} {fr : Frm} {kk : KK} {d : Nat} {chk : List Nat} {g : Option (Nat × Bool)} {x y : Opd} {i k : Int} {j : Nat} (hx : ev fr x = some (.agg [ic (i - 1), ic k, ic (i + 1), ic k, ic i, ic (k - 1), ic i, ic (k + 1)])) (hy : ev fr y = some (iv j)) (hj : j < 4) (hg : gon fr g = some true)
    (h : At B b L l hist ((d, .agg [ic (posR i j), ic (posC k j)]) :: fr) kk) : At B b L (⟨some d, .idxV 4 2 true x y, g, chk⟩ :: l) hist fr kk := by
  refine A_p ?_ hg h
  simp only [evP, hx, hy, Option.bind_some]
  obtain rfl | rfl | rfl | rfl : j = 0 ∨ j = 1 ∨ j = 2 ∨ j = 3 := by omega
  all_goals rfl
theorem posRC_in {i k : Int} (h : (-1000 ≤ i ∧ i ≤ 1000) ∧ -1000 ≤ k ∧ k ≤ 1000) (j : Nat) : (-1001 ≤ posR i j ∧ posR i j ≤ 1001) ∧ -1001 ≤ posC k j ∧ posC k j ≤ 1001 := by
  unfold posR posC; constructor <;> split <;> omega
/-- A function is called for all neighbours, in their order: what it does to 'st' is 'step'. -/
theorem c_besideJ {s : St} {R C i k : Int} {v : AC} {fn : Nat} {caps : List (Nat × Nat)} {ids : List Nat} {N0 : Objs} (hO : Own ids s s N0) {T : Type} (step : T → Int → T) (Enc : T → Objs → Prop) (st0 : T) (h0 : Enc st0 N0)
    (hb : ((-1000 ≤ i ∧ i ≤ 1000) ∧ -1000 ≤ k ∧ k ≤ 1000) ∧ (-1000 ≤ R ∧ R ≤ 1000) ∧ -1000 ≤ C ∧ C ≤ 1000)
    (hdo : ∀ r c, InF R C r c → ∀ s1 M N st, (∃ j, j < 4 ∧ st = (nbl R C i k j).foldl step st0) → Own ids s s1 (M ++ N) → Enc st N → Own (N.map Prod.fst) s1 s1 N → Fn (N.map Prod.fst) fn ([iv r, iv c] ++ caps.map fun p => AV.c (.ptr p.1 p.2)) s1 fun _ N' => Enc (step st (r * C + c)) N') :
    Fn ids 72 [.agg [ic R, ic C, v], iv i, iv k, .c (.fn fn caps)] s fun _ N => Enc ((nbl R C i k 4).foldl step st0) N := by
  refine F_startB code72 hO ?_
  repeat' (first
 | refine A_go rfl ?_ | refine A_ifT rfl rfl ?_ | refine A_ifF rfl rfl ?_
 | refine A_add rfl rfl rfl (by omega) ?_ | refine A_sub rfl rfl rfl (by omega) ?_
 | ((first | refine A_lt rfl rfl rfl ?_ ?_) <;> intro hc <;> try first | contradiction | (exfalso; omega) | exact absurd rfl hc)
 | refine A_idxArr1 rfl rfl rfl (by omega) ?_
 | refine A_mk3 rfl rfl rfl rfl ?_ | refine A_mk23 rfl rfl rfl ?_ | refine A_mk2 rfl rfl rfl ?_ | refine A_mk13 rfl rfl ?_ | refine A_p (by rfl) rfl ?_
 | refine A_ldI rfl (by first | omega | (simp; done) | (simp; omega)) rfl ?_ | refine A_ldB rfl (by first | omega | (simp; done) | (simp; omega)) rfl ?_ | refine A_ld rfl (by rfl) rfl ?_
 | refine A_ldW rfl (by simp) rfl ?_
 | refine A_stW rfl rfl (by simp) rfl ?_
 | ((first | refine A_alloc rfl ?_ | refine A_box rfl rfl ?_ | refine A_boxC rfl rfl ?_) <;> intro pz hpz)
 | refine A_ret0 rfl ?_)
  refine A_loopX rfl (fun m fr L => ∃ (j : Nat) (N : Objs), m = 4 - j ∧ fr = [(3, .c (.fn fn caps)), (4, .c (.ptr pz 0)), (26, .agg [ic (i - 1), ic k, ic (i + 1), ic k, ic i, ic (k - 1), ic i, ic (k + 1)]), (27, iv j)] ∧ L = (pz, .rw 25 3 [ic R, ic C, v]) :: N ∧ j ≤ 4 ∧ Enc ((nbl R C i k j).foldl step st0) N) (n := 4) ⟨(pz, .rw 25 3 [ic R, ic C, v]) :: N0, ⟨0, N0, rfl, rfl, rfl, by omega, h0⟩, inferInstance⟩ ?_
  rintro m fr L ⟨j, N, rfl, rfl, rfl, hj, hN⟩
  have hp := posRC_in hb.1 j
  by_cases hj' : j < 4
  · by_cases hin : InF R C (posR i j) (posC k j)
    · repeat' (first
 | refine A_go rfl ?_ | refine A_ifT rfl rfl ?_ | refine A_ifF rfl rfl ?_
 | refine A_add rfl rfl rfl (by omega) ?_ | refine A_sub rfl rfl rfl (by omega) ?_
 | ((first | refine A_lt rfl rfl rfl ?_ ?_) <;> intro hc <;> try first | contradiction | (exfalso; omega) | exact absurd rfl hc)
 | refine A_idxArr1 rfl rfl rfl (by omega) ?_
 | refine A_idx4 rfl rfl hj' rfl ?_
 | (refine A_callB rfl rfl (fun s H => c_has) ?_ ?_ <;> intro hc <;> try first | contradiction | (exfalso; omega) | exact absurd rfl hc | exact absurd (And.intro rfl rfl) hc | exact absurd (And.intro rfl (And.intro rfl rfl)) hc | exact absurd (Eq.trans (by assumption) (Eq.symm (by assumption))) hc)
 | refine A_mk3 rfl rfl rfl rfl ?_ | refine A_mk23 rfl rfl rfl ?_ | refine A_mk2 rfl rfl rfl ?_ | refine A_mk13 rfl rfl ?_ | refine A_p (by rfl) rfl ?_
 | refine A_ldI rfl (by first | omega | (simp; done) | (simp; omega)) rfl ?_ | refine A_ldB rfl (by first | omega | (simp; done) | (simp; omega)) rfl ?_ | refine A_ld rfl (by rfl) rfl ?_
 | refine A_ldW rfl (by simp) rfl ?_
 | refine A_stW rfl rfl (by simp) rfl ?_
 | ((first | refine A_alloc rfl ?_ | refine A_box rfl rfl ?_ | refine A_boxC rfl rfl ?_) <;> intro pz hpz)
 | refine A_ret0 rfl ?_)
      refine A_callI (M := [_, _]) (N := N) rfl rfl rfl (fun s H K => hdo _ _ hin s _ N _ ⟨j, hj', rfl⟩ H hN K) ?_
      intro r N' hN'
      repeat' (first
 | refine A_go rfl ?_ | refine A_ifT rfl rfl ?_ | refine A_ifF rfl rfl ?_
 | refine A_add rfl rfl rfl (by omega) ?_ | refine A_sub rfl rfl rfl (by omega) ?_
 | ((first | refine A_lt rfl rfl rfl ?_ ?_) <;> intro hc <;> try first | contradiction | (exfalso; omega) | exact absurd rfl hc)
 | refine A_idxArr1 rfl rfl rfl (by omega) ?_
 | refine A_mk3 rfl rfl rfl rfl ?_ | refine A_mk23 rfl rfl rfl ?_ | refine A_mk2 rfl rfl rfl ?_ | refine A_mk13 rfl rfl ?_ | refine A_p (by rfl) rfl ?_
 | refine A_ldI rfl (by first | omega | (simp; done) | (simp; omega)) rfl ?_ | refine A_ldB rfl (by first | omega | (simp; done) | (simp; omega)) rfl ?_ | refine A_ld rfl (by rfl) rfl ?_
 | refine A_ldW rfl (by simp) rfl ?_
 | refine A_stW rfl rfl (by simp) rfl ?_
 | ((first | refine A_alloc rfl ?_ | refine A_box rfl rfl ?_ | refine A_boxC rfl rfl ?_) <;> intro pz hpz)
 | refine A_ret0 rfl ?_)
      refine A_roundX rfl ⟨4 - (j + 1), (_, .rw 25 3 [ic R, ic C, v]) :: N', by omega, ⟨j + 1, N', rfl, rfl, rfl, by omega, ?_⟩, inferInstance⟩
      rw [nbl_t hin, List.foldl_append]; exact hN'
    · repeat' (first
 | refine A_go rfl ?_ | refine A_ifT rfl rfl ?_ | refine A_ifF rfl rfl ?_
 | refine A_add rfl rfl rfl (by omega) ?_ | refine A_sub rfl rfl rfl (by omega) ?_
 | ((first | refine A_lt rfl rfl rfl ?_ ?_) <;> intro hc <;> try first | contradiction | (exfalso; omega) | exact absurd rfl hc)
 | refine A_idxArr1 rfl rfl rfl (by omega) ?_
 | refine A_idx4 rfl rfl hj' rfl ?_
 | (refine A_callB rfl rfl (fun s H => c_has) ?_ ?_ <;> intro hc <;> try first | contradiction | (exfalso; omega) | exact absurd rfl hc | exact absurd (And.intro rfl rfl) hc | exact absurd (And.intro rfl (And.intro rfl rfl)) hc | exact absurd (Eq.trans (by assumption) (Eq.symm (by assumption))) hc)
 | refine A_mk3 rfl rfl rfl rfl ?_ | refine A_mk23 rfl rfl rfl ?_ | refine A_mk2 rfl rfl rfl ?_ | refine A_mk13 rfl rfl ?_ | refine A_p (by rfl) rfl ?_
 | refine A_ldI rfl (by first | omega | (simp; done) | (simp; omega)) rfl ?_ | refine A_ldB rfl (by first | omega | (simp; done) | (simp; omega)) rfl ?_ | refine A_ld rfl (by rfl) rfl ?_
 | refine A_ldW rfl (by simp) rfl ?_
 | refine A_stW rfl rfl (by simp) rfl ?_
 | ((first | refine A_alloc rfl ?_ | refine A_box rfl rfl ?_ | refine A_boxC rfl rfl ?_) <;> intro pz hpz)
 | refine A_ret0 rfl ?_)
      refine A_roundX rfl ⟨4 - (j + 1), (_, .rw 25 3 [ic R, ic C, v]) :: N, by omega, ⟨j + 1, N, rfl, rfl, rfl, by omega, ?_⟩, inferInstance⟩
      rw [nbl_f hin]; exact hN
  · obtain rfl : j = 4 := by omega
    repeat' (first
 | refine A_go rfl ?_ | refine A_ifT rfl rfl ?_ | refine A_ifF rfl rfl ?_
 | refine A_add rfl rfl rfl (by omega) ?_ | refine A_sub rfl rfl rfl (by omega) ?_
 | ((first | refine A_lt rfl rfl rfl ?_ ?_) <;> intro hc <;> try first | contradiction | (exfalso; omega) | exact absurd rfl hc)
 | refine A_idxArr1 rfl rfl rfl (by omega) ?_
 | refine A_mk3 rfl rfl rfl rfl ?_ | refine A_mk23 rfl rfl rfl ?_ | refine A_mk2 rfl rfl rfl ?_ | refine A_mk13 rfl rfl ?_ | refine A_p (by rfl) rfl ?_
 | refine A_ldI rfl (by first | omega | (simp; done) | (simp; omega)) rfl ?_ | refine A_ldB rfl (by first | omega | (simp; done) | (simp; omega)) rfl ?_ | refine A_ld rfl (by rfl) rfl ?_
 | refine A_ldW rfl (by simp) rfl ?_
 | refine A_stW rfl rfl (by simp) rfl ?_
 | ((first | refine A_alloc rfl ?_ | refine A_box rfl rfl ?_ | refine A_boxC rfl rfl ?_) <;> intro pz hpz)
 | refine A_ret0 rfl ?_)
    exact ⟨N, hN, inferInstance⟩
/-- A function is called for all neighbours, in their order: what it does to 'st' is 'step'. -/
theorem c_beside {s : St} {R C i k : Int} {v : AC} {fn : Nat} {caps : List (Nat × Nat)} {ids : List Nat} {N0 : Objs} (hO : Own ids s s N0) {T : Type} (step : T → Int → T) (Enc : T → Objs → Prop) (st0 : T) (h0 : Enc st0 N0)
    (hb : ((-1000 ≤ i ∧ i ≤ 1000) ∧ -1000 ≤ k ∧ k ≤ 1000) ∧ (-1000 ≤ R ∧ R ≤ 1000) ∧ -1000 ≤ C ∧ C ≤ 1000)
    (hdo : ∀ r c, InF R C r c → ∀ s1 M N st, Own ids s s1 (M ++ N) → Enc st N → Own (N.map Prod.fst) s1 s1 N → Fn (N.map Prod.fst) fn ([iv r, iv c] ++ caps.map fun p => AV.c (.ptr p.1 p.2)) s1 fun _ N' => Enc (step st (r * C + c)) N') :
    Fn ids 72 [.agg [ic R, ic C, v], iv i, iv k, .c (.fn fn caps)] s fun _ N => Enc ((nbl R C i k 4).foldl step st0) N :=
  c_besideJ hO step Enc st0 h0 hb fun r c hin s1 M N st _ => hdo r c hin s1 M N st
theorem nbl4 {R C i k a : Int} (hi : 0 ≤ i ∧ i < R) (hk : 0 ≤ k ∧ k < C) (ha : a = i * C + k) : nbl R C i k 4 = (((if 0 < i then [a - C] else []) ++ if i + 1 < R then [a + C] else []) ++ if 0 < k then [a - 1] else []) ++ if k + 1 < C then [a + 1] else [] := by
  have w1 : a - C = (i - 1) * C + k := by rw [Int.sub_mul]; omega
  have w2 : a + C = (i + 1) * C + k := by rw [Int.add_mul]; omega
  have w3 : a - 1 = i * C + (k - 1) := by omega
  have w4 : a + 1 = i * C + (k + 1) := by omega
  have e : ∀ (c : Prop) [Decidable c] (l : List Int) (x : Int), (if c then l ++ [x] else l) = l ++ if c then [x] else [] := fun c _ l x => by split <;> simp
  have c1 : (InF R C (i - 1) k) = (0 < i) := propext (by unfold InF; omega)
  have c2 : (InF R C (i + 1) k) = (i + 1 < R) := propext (by unfold InF; omega)
  have c3 : (InF R C i (k - 1)) = (0 < k) := propext (by unfold InF; omega)
  have c4 : (InF R C i (k + 1)) = (k + 1 < C) := propext (by unfold InF; omega)
  simp only [nbl, posR, posC, e, w1, w2, w3, w4, List.nil_append]
  simp only [c1, c2, c3, c4]
theorem c_l04Beside {s : St} [Wf s] {q : Nat} {R C i k a : Int} {v : AC} [hq : Ref s q [ic R, ic C, v]] (hi : 0 ≤ i ∧ i < R) (hk : 0 ≤ k ∧ k < C) (ha : a = i * C + k) (hb : R ≤ 24 ∧ C ≤ 24) :
    Fn [] 100 [.c (.ptr q 0), iv a] s fun r N => ∃ p, r = .c (.sl p 0 (nbl R C i k 4).length) ∧ N = [(p, ints (nbl R C i k 4))] := by
  have hm := cell_in hi hk
  have hs := side_mul (r := R) (c := C) (by omega) (by omega)
  obtain ⟨e1, e2⟩ := cell_div (a := i) (b := k) (C := C) (by omega)
  rw [← ha] at e1 e2
  rw [nbl4 hi hk ha]
  refine F_start code100 ?_
  repeat' (first
 | refine A_go rfl ?_ | refine A_ifT rfl rfl ?_ | refine A_ifF rfl rfl ?_
 | refine A_add rfl rfl rfl (by omega) ?_ | refine A_sub rfl rfl rfl (by omega) ?_ | refine A_rem rfl rfl rfl (by omega) ?_ | refine A_remT rfl rfl rfl (by omega) ?_ | refine A_quo rfl rfl rfl (by omega) ?_
 | ((first | refine A_lt rfl rfl rfl ?_ ?_ | refine A_gt rfl rfl rfl ?_ ?_) <;> intro hc <;> try first | contradiction | (exfalso; omega) | exact absurd rfl hc)
 | refine A_fld rfl rfl ?_ | refine A_p (by rfl) rfl ?_
 | refine A_ldI rfl (by first | omega | (simp; done) | (simp; omega)) rfl ?_ | refine A_ldB rfl (by first | omega | (simp; done) | (simp; omega)) rfl ?_ | refine A_ld rfl (by rfl) rfl ?_
 | ((first | refine A_bld1 rfl rfl ?_ | refine A_bld2 rfl rfl rfl ?_ | refine A_bld4 rfl rfl rfl rfl rfl ?_) <;> intro pz hpz)
 | refine A_bld0 rfl ?_
 | (refine A_app rfl rfl rfl (by first | omega | (simp; done) | (simp; omega)) (by first | omega | (simp; done) | (simp; omega)) (by omega) ?_; intro pz) | (refine A_appN (enc := ic) rfl (by decide) rfl rfl (by first | omega | (simp; done) | (simp; omega)) (by omega) ?_; intro pz)
 | refine A_ret1 rfl (by exact (RP.t rfl RP.nil)) ?_)
  all_goals
    (repeat' split) <;> first | (exfalso; omega) | skip
  all_goals
    simp only [List.nil_append, List.append_nil, List.cons_append]
    exact R_s ⟨_, rfl, rfl⟩

end Go.Proofs.Ytckobcjjbpnkcaa
