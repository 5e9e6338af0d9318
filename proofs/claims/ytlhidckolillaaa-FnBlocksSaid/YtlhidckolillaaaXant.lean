/- Ants walk. -/
import Derived.Test.YtlhidckolillaaaXplain
import Derived.Test.YtlhidckolillaaaFB
namespace Go.Proofs.Ytlhidckolillaaa
open Go Go.RowKit
set_option linter.unusedVariables false
set_option linter.unusedSimpArgs false
set_option maxRecDepth 100000
set_option maxHeartbeats 8000000
-- impl.wayOf
def L70 : AFun := ⟨11, [.t 2, .t 3],
 (.seq (.ops false [⟨(some 2), .mv (.k (iv 0)), none, []⟩,
   ⟨(some 3), .mv (.k (iv 0)), none, []⟩])
 (.seq (.seq (.ops false [⟨(some 4), .mv (.t 0), none, []⟩])
  (.block 0 (.seq (.ops false [⟨(some 6), .bin .eql (.t 4) (.k (iv 0)), none, []⟩,
     ⟨(some 5), .mv (.t 6), none, []⟩])
   (.cond (.t 5) (.seq (.ops false [⟨(some 2), .mv (.k (iv (-1))), none, []⟩,
      ⟨(some 3), .mv (.k (iv 0)), none, []⟩])
    .ret)
    (.seq (.ops false [⟨(some 8), .bin .eql (.t 4) (.k (iv 1)), none, []⟩,
      ⟨(some 7), .mv (.t 8), none, []⟩])
    (.cond (.t 7) (.seq (.ops false [⟨(some 2), .mv (.k (iv 0)), none, []⟩,
       ⟨(some 3), .mv (.k (iv 1)), none, []⟩])
     .ret)
     (.seq (.ops false [⟨(some 10), .bin .eql (.t 4) (.k (iv 2)), none, []⟩,
       ⟨(some 9), .mv (.t 10), none, []⟩])
     (.cond (.t 9) (.seq (.ops false [⟨(some 2), .mv (.k (iv 1)), none, []⟩,
        ⟨(some 3), .mv (.k (iv 0)), none, []⟩])
      .ret)
      .skip))))))))
 (.seq (.ops false [⟨(some 2), .mv (.k (iv 0)), none, []⟩,
   ⟨(some 3), .mv (.k (iv (-1))), none, []⟩])
 .ret)))⟩
theorem code70 : acode Try.prog hints 70 = some L70 := by kernel_rfl

-- impl.RunAnt
def L35 : AFun := ⟨92, [.cell true 3 10, .t 11, .t 12, .t 13, .t 14],
 (.seq (.ops false [⟨(some 5), .box 26 (.t 0), none, []⟩,
   ⟨(some 10), .alloc 26 [.int .i64 0, .int .i64 0, .sl 0 0 0], none, []⟩,
   ⟨(some 11), .mv (.k (iv 0)), none, []⟩,
   ⟨(some 12), .mv (.k (iv 0)), none, []⟩,
   ⟨(some 13), .mv (.k (iv 0)), none, []⟩,
   ⟨(some 14), .mv (.k (bv false)), none, []⟩])
 (.seq (.seq (.ops false [⟨(some 18), .load true 3 (.t 5), none, []⟩,
    ⟨(some 19), .call (.f 42) [(.t 18)], none, []⟩,
    ⟨(some 20), .un .not (.t 19), none, []⟩,
    ⟨(some 21), .mv (.t 20), none, []⟩,
    ⟨(some 22), .load true 3 (.t 5), (some (21, false)), []⟩,
    ⟨(some 23), .mv (.t 1), (some (21, false)), []⟩,
    ⟨(some 24), .mv (.t 2), (some (21, false)), []⟩,
    ⟨(some 25), .call (.f 68) [(.t 22), (.t 23), (.t 24)], (some (21, false)), []⟩,
    ⟨(some 26), .un .not (.t 25), (some (21, false)), []⟩,
    ⟨(some 27), .pick (.t 21) (.k (bv true)) (.t 26), none, []⟩,
    ⟨(some 28), .mv (.t 27), none, []⟩,
    ⟨(some 29), .mv (.t 3), (some (28, false)), []⟩,
    ⟨(some 30), .call (.f 53) [(.t 29), (.k (iv 0)), (.k (iv 3))], (some (28, false)), []⟩,
    ⟨(some 31), .un .not (.t 30), (some (28, false)), []⟩,
    ⟨(some 32), .pick (.t 28) (.k (bv true)) (.t 31), none, []⟩,
    ⟨(some 33), .mv (.t 32), none, []⟩,
    ⟨(some 34), .mv (.t 4), (some (33, false)), []⟩,
    ⟨(some 35), .call (.f 53) [(.t 34), (.k (iv 0)), (.k (iv 4096))], (some (33, false)), []⟩,
    ⟨(some 36), .un .not (.t 35), (some (33, false)), []⟩,
    ⟨(some 37), .pick (.t 33) (.k (bv true)) (.t 36), none, []⟩])
  (.cond (.t 37) (.seq (.ops false [⟨(some 38), .build [.int .i64 0, .int .i64 0, .sl 0 0 0] [], none, []⟩,
     ⟨none, .store 3 (.t 10) (.t 38), none, []⟩,
     ⟨(some 11), .mv (.k (iv 0)), none, []⟩,
     ⟨(some 12), .mv (.k (iv 0)), none, []⟩,
     ⟨(some 13), .mv (.k (iv 0)), none, []⟩,
     ⟨(some 14), .mv (.k (bv false)), none, []⟩])
   .ret)
   .skip))
 (.seq (.ops false [⟨(some 39), .load true 3 (.t 5), none, []⟩,
   ⟨(some 40), .call (.f 69) [(.t 39)], none, []⟩,
   ⟨none, .store 3 (.t 5) (.t 40), none, []⟩])
 (.seq (.seq (.ops false [⟨(some 41), .mv (.t 4), none, []⟩,
    ⟨(some 42), .mv (.k (iv 0)), none, []⟩])
  (.block 0 (.loop [1, 2, 3, 5, 10, 41, 42] (.seq (.ops false [⟨(some 43), .bin .lss (.t 42) (.t 41), none, []⟩])
    (.seq (.cond (.t 43) .skip
      (.exit 0))
    (.seq (.block 1 (.seq (.ops false [⟨(some 44), .mv (.t 1), none, []⟩,
        ⟨(some 45), .fieldA 1 (.t 5), none, []⟩,
        ⟨(some 46), .load false 1 (.t 45), none, []⟩,
        ⟨(some 47), .bin .mul (.t 44) (.t 46), none, []⟩,
        ⟨(some 48), .mv (.t 2), none, []⟩,
        ⟨(some 49), .bin .add (.t 47) (.t 48), none, []⟩,
        ⟨(some 15), .mv (.t 49), none, []⟩])
      (.seq (.ops false [⟨(some 50), .mv (.t 3), none, []⟩,
        ⟨(some 51), .bin .add (.t 50) (.k (iv 1)), none, []⟩,
        ⟨(some 52), .fieldA 2 (.t 5), none, []⟩,
        ⟨(some 53), .load false 1 (.t 52), none, []⟩,
        ⟨(some 54), .mv (.t 15), none, []⟩,
        ⟨(some 55), .idxA 1 (.t 53) (.t 54), none, []⟩,
        ⟨(some 56), .load false 1 (.t 55), none, []⟩,
        ⟨(some 57), .bin .mul (.k (iv 2)) (.t 56), none, []⟩,
        ⟨(some 58), .bin .add (.t 51) (.t 57), none, []⟩,
        ⟨(some 59), .bin .rem (.t 58) (.k (iv 4)), none, []⟩,
        ⟨(some 3), .mv (.t 59), none, []⟩])
      (.seq (.ops true [⟨(some 60), .fieldA 2 (.t 5), none, []⟩,
        ⟨(some 61), .load false 1 (.t 60), none, []⟩,
        ⟨(some 62), .mv (.t 15), none, []⟩,
        ⟨(some 63), .fieldA 2 (.t 5), none, []⟩,
        ⟨(some 64), .load false 1 (.t 63), none, []⟩,
        ⟨(some 65), .mv (.t 15), none, []⟩,
        ⟨(some 66), .idxA 1 (.t 64) (.t 65), none, []⟩,
        ⟨(some 67), .load false 1 (.t 66), none, []⟩,
        ⟨(some 68), .bin .sub (.k (iv 1)) (.t 67), none, []⟩,
        ⟨(some 69), .idxA 1 (.t 61) (.t 62), none, []⟩,
        ⟨none, .store 1 (.t 69) (.t 68), none, []⟩])
      (.seq (.ops false [⟨(some 71), .mv (.t 3), none, []⟩,
        ⟨(some 72), .call (.f 70) [(.t 71)], none, []⟩,
        ⟨(some 70), .mv (.t 72), none, []⟩,
        ⟨(some 73), .ext (.t 70) 0, none, []⟩,
        ⟨(some 74), .ext (.t 70) 1, none, []⟩,
        ⟨(some 16), .mv (.t 73), none, []⟩,
        ⟨(some 17), .mv (.t 74), none, []⟩])
      (.ops true [⟨(some 75), .mv (.t 1), none, []⟩,
       ⟨(some 76), .mv (.t 16), none, []⟩,
       ⟨(some 77), .bin .add (.t 75) (.t 76), none, []⟩,
       ⟨(some 78), .fieldA 0 (.t 5), none, []⟩,
       ⟨(some 79), .load false 1 (.t 78), none, []⟩,
       ⟨(some 80), .call (.f 46) [(.t 77), (.t 79)], none, []⟩,
       ⟨(some 81), .mv (.t 2), none, []⟩,
       ⟨(some 82), .mv (.t 17), none, []⟩,
       ⟨(some 83), .bin .add (.t 81) (.t 82), none, []⟩,
       ⟨(some 84), .fieldA 1 (.t 5), none, []⟩,
       ⟨(some 85), .load false 1 (.t 84), none, [0]⟩,
       ⟨(some 86), .call (.f 46) [(.t 83), (.t 85)], none, []⟩,
       ⟨(some 1), .mv (.t 80), none, []⟩,
       ⟨(some 2), .mv (.t 86), none, []⟩]))))))
    (.ops false [⟨(some 87), .bin .add (.t 42) (.k (iv 1)), none, []⟩,
     ⟨(some 42), .mv (.t 87), none, []⟩])))))))
 (.seq (.ops false [⟨(some 88), .load true 3 (.t 5), none, []⟩,
   ⟨(some 89), .mv (.t 1), none, []⟩,
   ⟨(some 90), .mv (.t 2), none, []⟩,
   ⟨(some 91), .mv (.t 3), none, []⟩,
   ⟨none, .store 3 (.t 10) (.t 88), none, []⟩,
   ⟨(some 11), .mv (.t 89), none, []⟩,
   ⟨(some 12), .mv (.t 90), none, []⟩,
   ⟨(some 13), .mv (.t 91), none, []⟩,
   ⟨(some 14), .mv (.k (bv true)), none, []⟩])
 .ret)))))⟩
theorem code35 : acode Try.prog hints 35 = some L35 := by kernel_rfl


abbrev Ant := List Int × Int × Int × Int
def dr (w : Int) : Int := if w = 0 then -1 else if w = 1 then 0 else if w = 2 then 1 else 0
def dc (w : Int) : Int := if w = 0 then 0 else if w = 1 then 1 else if w = 2 then 0 else -1
theorem dr_in (w : Int) : -1 ≤ dr w ∧ dr w ≤ 1 := by unfold dr; (repeat' split) <;> omega
theorem dc_in (w : Int) : -1 ≤ dc w ∧ dc w ≤ 1 := by unfold dc; (repeat' split) <;> omega
theorem dr_tab {w : Int} (h : 0 ≤ w ∧ w ≤ 3) : ([-1, 0, 1, 0] : List Int).getD w.toNat 0 = dr w := by
  obtain rfl | rfl | rfl | rfl : w = 0 ∨ w = 1 ∨ w = 2 ∨ w = 3 := by omega
  all_goals rfl
theorem dc_tab {w : Int} (h : 0 ≤ w ∧ w ≤ 3) : ([0, 1, 0, -1] : List Int).getD w.toNat 0 = dc w := by
  obtain rfl | rfl | rfl | rfl : w = 0 ∨ w = 1 ∨ w = 2 ∨ w = 3 := by omega
  all_goals rfl
def antW (C : Int) (zs : List Int) (r c w : Int) : Int := (w + 1 + 2 * zs.getD (r * C + c).toNat 0) % 4
def antStep (R C : Int) : Ant → Ant
  | (zs, r, c, w) => (zs.set (r * C + c).toNat (1 - zs.getD (r * C + c).toNat 0), (r + dr (antW C zs r c w)) % R, (c + dc (antW C zs r c w)) % C, antW C zs r c w)
def antRun (R C : Int) (A : Ant) : Nat → Ant
  | 0 => A
  | n + 1 => antStep R C (antRun R C A n)
def AntOk (R C : Nat) : Ant → Prop
  | (zs, r, c, w) => zs.length = R * C ∧ (∀ x ∈ zs, 0 ≤ x ∧ x ≤ 1) ∧ (0 ≤ r ∧ r < R) ∧ (0 ≤ c ∧ c < C) ∧ (0 ≤ w ∧ w ≤ 3)
theorem AntOk.at {R C : Nat} {zs : List Int} {r c w : Int} (h : AntOk R C (zs, r, c, w)) : (0 ≤ r * C ∧ 0 ≤ r * C + c) ∧ r * C + c < ((R * C : Nat) : Int) ∧ r * C ≤ ((R * C : Nat) : Int) := by
  obtain ⟨h1, h2, h3, h4, h5⟩ := h
  have := cell_in h3 h4
  push_cast; exact this
theorem AntOk.cell {R C : Nat} {zs : List Int} {r c w : Int} (h : AntOk R C (zs, r, c, w)) : 0 ≤ zs.getD (r * C + c).toNat 0 ∧ zs.getD (r * C + c).toNat 0 ≤ 1 := by
  have h1 := h.at
  have h2 := h.1
  exact h.2.1 _ (getD_mem (by omega))
theorem mem_set {α : Type} {xs : List α} {i : Nat} {a x : α} (h : x ∈ xs.set i a) : x ∈ xs ∨ x = a := by
  obtain ⟨j, hj⟩ := List.mem_iff_getElem?.1 h
  rw [List.getElem?_set] at hj
  split at hj
  · split at hj
    · exact .inr (Option.some.inj hj).symm
    · cases hj
  · exact .inl (List.mem_of_getElem? hj)
theorem AntOk.step {R C : Nat} : ∀ {A : Ant}, AntOk R C A → AntOk R C (antStep R C A)
  | (zs, r, c, w), h => by
    have h1 := h.cell
    have h2 := h.2.2.1
    have h3 := h.2.2.2.1
    refine ⟨by simp [h.1], fun x hx => ?_, emod_in (by omega), emod_in (by omega), ?_⟩
    · rcases mem_set hx with hx | rfl
      · exact h.2.1 x hx
      · omega
    · have := emod_in (a := w + 1 + 2 * zs.getD (r * C + c).toNat 0) (b := 4) (by omega)
      unfold antW; omega
theorem AntOk.run {R C : Nat} {A : Ant} (h : AntOk R C A) : ∀ n, AntOk R C (antRun R C A n)
  | 0 => h
  | n + 1 => (AntOk.run h n).step
abbrev AntRes (P : Prop) (r c : Int) (A : Ant) (V : AV) (N : Objs) : Prop :=
  ∃ p, V = .tup [.agg (fld (sel P r 0) (sel P c 0) p (sel P A.1 []).length), .c (ic (sel P A.2.1 0)), .c (ic (sel P A.2.2.1 0)), .c (ic (sel P A.2.2.2 0)), .c (.bool (tt P))] ∧ N = [(p, ints (sel P A.1 []))] ∧ (sel P A.1 []).length ≤ 600
theorem R_ant {P : Prop} {r c x y z : Int} {A : Ant} {ys : List Int} {p n : Nat} {L : Objs} (h : P) (hA : A = (ys, x, y, z)) (hn : ys.length = n) (hb : n ≤ 600) [hs : Sub [(p, ints ys)] L] : ∃ N, AntRes P r c A (.tup [.agg [ic r, ic c, .sl p 0 n], .c (ic x), .c (ic y), .c (ic z), .c (.bool true)]) N ∧ Sub N L := by
  subst hA
  exact ⟨_, ⟨p, by subst hn; simp only [sel_t h, tt_t h], by rw [sel_t h], by rw [sel_t h]; show ys.length ≤ 600; omega⟩, hs⟩
theorem R_antN {P : Prop} {r c : Int} {A : Ant} {L : Objs} (h : ¬ P) : ∃ N, AntRes P r c A (.tup [.agg [ic 0, ic 0, .sl 0 0 0], .c (ic 0), .c (ic 0), .c (ic 0), .c (.bool false)]) N ∧ Sub N L :=
  ⟨_, ⟨0, by simp only [sel_f h, tt_f h, List.length_nil], rfl, by simp [sel_f h]⟩, by rw [sel_f h]; exact inferInstance⟩
/-- Where ants may walk. -/
def AntP (r c : Int) (xs : List Int) (row col way steps : Int) : Prop := PL r c xs ∧ ((0 ≤ row ∧ row < r) ∧ 0 ≤ col ∧ col < c) ∧ (0 ≤ way ∧ way ≤ 3) ∧ 0 ≤ steps ∧ steps ≤ 4096
theorem c_wayOf {s : St} [Wf s] {w : Int} : FnV 70 [iv w] s (.tup [.c (ic (dr w)), .c (ic (dc w))]) := by
  refine F_start code70 ?_
  repeat' (first
 | refine A_go rfl ?_ | refine A_ifT rfl rfl ?_ | refine A_ifF rfl rfl ?_
 | ((first | refine A_eq rfl rfl rfl ?_ ?_) <;> intro hc <;> try first | contradiction | (exfalso; omega) | exact absurd rfl hc)
 | refine A_p (by rfl) rfl ?_
 | refine A_ret rfl (by exact (RP.t rfl (RP.t rfl RP.nil))) ?_)
  all_goals exact R_v (by simp [dr, dc, *])
theorem c_implRunAnt {s : St} [Wf s] {r c row col way steps : Int} {id_xs off_xs len_xs : Nat} {xs : List Int} [h_xs : ArgE ic s id_xs off_xs xs] (hl_xs : xs.length = len_xs := by first | rfl | simp | omega | (simp; omega)) (hb : len_xs ≤ 2000000 := by omega) :
    Fn [] 35 [.agg [ic r, ic c, .sl id_xs off_xs len_xs], iv row, iv col, iv way, iv steps] s (AntRes (AntP r c xs row col way steps) r c (antRun r c (xs, row, col, way) steps.toNat)) := by
  refine F_start code35 ?_
  by_cases hp : PL r c xs
  case neg =>
    repeat' (first
 | refine A_go rfl ?_ | refine A_ifT rfl rfl ?_ | refine A_ifF rfl rfl ?_
 | refine A_offP rfl rfl ?_ | refine A_offH rfl rfl ?_ | refine A_off0 rfl rfl ?_
 | refine A_add rfl rfl rfl (by omega) ?_ | refine A_sub rfl rfl rfl (by omega) ?_ | refine A_mul rfl rfl rfl (by omega) ?_ | refine A_rem rfl rfl rfl (by omega) ?_ | refine A_remT rfl rfl rfl (by omega) ?_
 | ((first | refine A_lt rfl rfl rfl ?_ ?_) <;> intro hc <;> try first | contradiction | (exfalso; omega) | exact absurd rfl hc)
 | refine A_idxN1 rfl rfl rfl (by omega) ?_ | refine A_idx1 rfl rfl rfl (by omega) ?_
 | (refine A_callB rfl rfl (fun s H => c_isPlain) ?_ ?_ <;> intro hc <;> try first | contradiction | (exfalso; omega) | exact absurd rfl hc | exact absurd (And.intro rfl rfl) hc | exact absurd (And.intro rfl (And.intro rfl rfl)) hc | exact absurd (Eq.trans (by assumption) (Eq.symm (by assumption))) hc)
 | refine A_fld rfl rfl ?_ | refine A_mk3 rfl rfl rfl rfl ?_ | refine A_mk23 rfl rfl rfl ?_ | refine A_mk2 rfl rfl rfl ?_ | refine A_mk13 rfl rfl ?_ | refine A_p (by rfl) rfl ?_
 | refine A_ldI rfl (by first | omega | (simp; done) | (simp; omega)) rfl ?_ | refine A_ldB rfl (by first | omega | (simp; done) | (simp; omega)) rfl ?_ | refine A_ld rfl (by rfl) rfl ?_
 | refine A_ldW rfl (by simp) rfl ?_
 | refine A_st rfl rfl rfl ?_ | refine A_stE rfl rfl (by first | omega | (simp; done) | (simp; omega)) rfl ?_
 | refine A_stW rfl rfl (by simp) rfl ?_
 | ((first | refine A_alloc rfl ?_ | refine A_box rfl rfl ?_ | refine A_boxC rfl rfl ?_) <;> intro pz hpz)
 | refine A_chk1 rfl rfl rfl ?_ | refine A_chk2 rfl rfl rfl rfl ?_ | refine A_chk3 rfl rfl rfl rfl rfl ?_ | refine A_chk4 rfl rfl rfl rfl rfl rfl ?_ | refine A_chkI rfl (by assumption) rfl (by simp) ?_
 | refine A_ret rfl (by exact (RP.c rfl inferInstance rfl (by simp) (RP.t rfl (RP.t rfl (RP.t rfl (RP.t rfl RP.nil)))))) ?_)
    exact R_antN fun h => hp h.1
  have g1 := hp.1.1
  have g2 := hp.1.2.1
  by_cases hq : (0 ≤ row ∧ row < r) ∧ 0 ≤ col ∧ col < c
  case neg =>
    repeat' (first
 | refine A_go rfl ?_ | refine A_ifT rfl rfl ?_ | refine A_ifF rfl rfl ?_
 | refine A_offP rfl rfl ?_ | refine A_offH rfl rfl ?_ | refine A_off0 rfl rfl ?_
 | refine A_add rfl rfl rfl (by omega) ?_ | refine A_sub rfl rfl rfl (by omega) ?_ | refine A_mul rfl rfl rfl (by omega) ?_ | refine A_rem rfl rfl rfl (by omega) ?_ | refine A_remT rfl rfl rfl (by omega) ?_
 | ((first | refine A_lt rfl rfl rfl ?_ ?_) <;> intro hc <;> try first | contradiction | (exfalso; omega) | exact absurd rfl hc)
 | refine A_idxN1 rfl rfl rfl (by omega) ?_ | refine A_idx1 rfl rfl rfl (by omega) ?_
 | (refine A_callB rfl rfl (fun s H => c_isPlain) ?_ ?_ <;> intro hc <;> try first | contradiction | (exfalso; omega) | exact absurd rfl hc | exact absurd (And.intro rfl rfl) hc | exact absurd (And.intro rfl (And.intro rfl rfl)) hc | exact absurd (Eq.trans (by assumption) (Eq.symm (by assumption))) hc)
 | (refine A_callB rfl rfl (fun s H => c_has) ?_ ?_ <;> intro hc <;> try first | contradiction | (exfalso; omega) | exact absurd rfl hc | exact absurd (And.intro rfl rfl) hc | exact absurd (And.intro rfl (And.intro rfl rfl)) hc | exact absurd (Eq.trans (by assumption) (Eq.symm (by assumption))) hc)
 | refine A_fld rfl rfl ?_ | refine A_mk3 rfl rfl rfl rfl ?_ | refine A_mk23 rfl rfl rfl ?_ | refine A_mk2 rfl rfl rfl ?_ | refine A_mk13 rfl rfl ?_ | refine A_p (by rfl) rfl ?_
 | refine A_ldI rfl (by first | omega | (simp; done) | (simp; omega)) rfl ?_ | refine A_ldB rfl (by first | omega | (simp; done) | (simp; omega)) rfl ?_ | refine A_ld rfl (by rfl) rfl ?_
 | refine A_ldW rfl (by simp) rfl ?_
 | refine A_st rfl rfl rfl ?_ | refine A_stE rfl rfl (by first | omega | (simp; done) | (simp; omega)) rfl ?_
 | refine A_stW rfl rfl (by simp) rfl ?_
 | ((first | refine A_alloc rfl ?_ | refine A_box rfl rfl ?_ | refine A_boxC rfl rfl ?_) <;> intro pz hpz)
 | refine A_chk1 rfl rfl rfl ?_ | refine A_chk2 rfl rfl rfl rfl ?_ | refine A_chk3 rfl rfl rfl rfl rfl ?_ | refine A_chk4 rfl rfl rfl rfl rfl rfl ?_ | refine A_chkI rfl (by assumption) rfl (by simp) ?_
 | refine A_ret rfl (by exact (RP.c rfl inferInstance rfl (by simp) (RP.t rfl (RP.t rfl (RP.t rfl (RP.t rfl RP.nil)))))) ?_)
    exact R_antN fun h => hq h.2.1
  by_cases hw : 0 ≤ way ∧ way ≤ 3
  case neg =>
    repeat' (first
 | refine A_go rfl ?_ | refine A_ifT rfl rfl ?_ | refine A_ifF rfl rfl ?_
 | refine A_offP rfl rfl ?_ | refine A_offH rfl rfl ?_ | refine A_off0 rfl rfl ?_
 | refine A_add rfl rfl rfl (by omega) ?_ | refine A_sub rfl rfl rfl (by omega) ?_ | refine A_mul rfl rfl rfl (by omega) ?_ | refine A_rem rfl rfl rfl (by omega) ?_ | refine A_remT rfl rfl rfl (by omega) ?_
 | ((first | refine A_lt rfl rfl rfl ?_ ?_) <;> intro hc <;> try first | contradiction | (exfalso; omega) | exact absurd rfl hc)
 | refine A_idxN1 rfl rfl rfl (by omega) ?_ | refine A_idx1 rfl rfl rfl (by omega) ?_
 | (refine A_callB rfl rfl (fun s H => c_isPlain) ?_ ?_ <;> intro hc <;> try first | contradiction | (exfalso; omega) | exact absurd rfl hc | exact absurd (And.intro rfl rfl) hc | exact absurd (And.intro rfl (And.intro rfl rfl)) hc | exact absurd (Eq.trans (by assumption) (Eq.symm (by assumption))) hc)
 | (refine A_callB rfl rfl (fun s H => c_has) ?_ ?_ <;> intro hc <;> try first | contradiction | (exfalso; omega) | exact absurd rfl hc | exact absurd (And.intro rfl rfl) hc | exact absurd (And.intro rfl (And.intro rfl rfl)) hc | exact absurd (Eq.trans (by assumption) (Eq.symm (by assumption))) hc)
 | (refine A_callB rfl rfl (fun s H => c_within) ?_ ?_ <;> intro hc <;> try first | contradiction | (exfalso; omega) | exact absurd rfl hc | exact absurd (And.intro rfl rfl) hc | exact absurd (And.intro rfl (And.intro rfl rfl)) hc | exact absurd (Eq.trans (by assumption) (Eq.symm (by assumption))) hc)
 | refine A_fld rfl rfl ?_ | refine A_mk3 rfl rfl rfl rfl ?_ | refine A_mk23 rfl rfl rfl ?_ | refine A_mk2 rfl rfl rfl ?_ | refine A_mk13 rfl rfl ?_ | refine A_p (by rfl) rfl ?_
 | refine A_ldI rfl (by first | omega | (simp; done) | (simp; omega)) rfl ?_ | refine A_ldB rfl (by first | omega | (simp; done) | (simp; omega)) rfl ?_ | refine A_ld rfl (by rfl) rfl ?_
 | refine A_ldW rfl (by simp) rfl ?_
 | refine A_st rfl rfl rfl ?_ | refine A_stE rfl rfl (by first | omega | (simp; done) | (simp; omega)) rfl ?_
 | refine A_stW rfl rfl (by simp) rfl ?_
 | ((first | refine A_alloc rfl ?_ | refine A_box rfl rfl ?_ | refine A_boxC rfl rfl ?_) <;> intro pz hpz)
 | refine A_chk1 rfl rfl rfl ?_ | refine A_chk2 rfl rfl rfl rfl ?_ | refine A_chk3 rfl rfl rfl rfl rfl ?_ | refine A_chk4 rfl rfl rfl rfl rfl rfl ?_ | refine A_chkI rfl (by assumption) rfl (by simp) ?_
 | refine A_ret rfl (by exact (RP.c rfl inferInstance rfl (by simp) (RP.t rfl (RP.t rfl (RP.t rfl (RP.t rfl RP.nil)))))) ?_)
    exact R_antN fun h => hw h.2.2.1
  by_cases hs : 0 ≤ steps ∧ steps ≤ 4096
  case neg =>
    repeat' (first
 | refine A_go rfl ?_ | refine A_ifT rfl rfl ?_ | refine A_ifF rfl rfl ?_
 | refine A_offP rfl rfl ?_ | refine A_offH rfl rfl ?_ | refine A_off0 rfl rfl ?_
 | refine A_add rfl rfl rfl (by omega) ?_ | refine A_sub rfl rfl rfl (by omega) ?_ | refine A_mul rfl rfl rfl (by omega) ?_ | refine A_rem rfl rfl rfl (by omega) ?_ | refine A_remT rfl rfl rfl (by omega) ?_
 | ((first | refine A_lt rfl rfl rfl ?_ ?_) <;> intro hc <;> try first | contradiction | (exfalso; omega) | exact absurd rfl hc)
 | refine A_idxN1 rfl rfl rfl (by omega) ?_ | refine A_idx1 rfl rfl rfl (by omega) ?_
 | (refine A_callB rfl rfl (fun s H => c_isPlain) ?_ ?_ <;> intro hc <;> try first | contradiction | (exfalso; omega) | exact absurd rfl hc | exact absurd (And.intro rfl rfl) hc | exact absurd (And.intro rfl (And.intro rfl rfl)) hc | exact absurd (Eq.trans (by assumption) (Eq.symm (by assumption))) hc)
 | (refine A_callB rfl rfl (fun s H => c_has) ?_ ?_ <;> intro hc <;> try first | contradiction | (exfalso; omega) | exact absurd rfl hc | exact absurd (And.intro rfl rfl) hc | exact absurd (And.intro rfl (And.intro rfl rfl)) hc | exact absurd (Eq.trans (by assumption) (Eq.symm (by assumption))) hc)
 | (refine A_callB rfl rfl (fun s H => c_within) ?_ ?_ <;> intro hc <;> try first | contradiction | (exfalso; omega) | exact absurd rfl hc | exact absurd (And.intro rfl rfl) hc | exact absurd (And.intro rfl (And.intro rfl rfl)) hc | exact absurd (Eq.trans (by assumption) (Eq.symm (by assumption))) hc)
 | refine A_fld rfl rfl ?_ | refine A_mk3 rfl rfl rfl rfl ?_ | refine A_mk23 rfl rfl rfl ?_ | refine A_mk2 rfl rfl rfl ?_ | refine A_mk13 rfl rfl ?_ | refine A_p (by rfl) rfl ?_
 | refine A_ldI rfl (by first | omega | (simp; done) | (simp; omega)) rfl ?_ | refine A_ldB rfl (by first | omega | (simp; done) | (simp; omega)) rfl ?_ | refine A_ld rfl (by rfl) rfl ?_
 | refine A_ldW rfl (by simp) rfl ?_
 | refine A_st rfl rfl rfl ?_ | refine A_stE rfl rfl (by first | omega | (simp; done) | (simp; omega)) rfl ?_
 | refine A_stW rfl rfl (by simp) rfl ?_
 | ((first | refine A_alloc rfl ?_ | refine A_box rfl rfl ?_ | refine A_boxC rfl rfl ?_) <;> intro pz hpz)
 | refine A_chk1 rfl rfl rfl ?_ | refine A_chk2 rfl rfl rfl rfl ?_ | refine A_chk3 rfl rfl rfl rfl rfl ?_ | refine A_chk4 rfl rfl rfl rfl rfl rfl ?_ | refine A_chkI rfl (by assumption) rfl (by simp) ?_
 | refine A_ret rfl (by exact (RP.c rfl inferInstance rfl (by simp) (RP.t rfl (RP.t rfl (RP.t rfl (RP.t rfl RP.nil)))))) ?_)
    exact R_antN fun h => hs h.2.2.2
  obtain ⟨R, C, rfl, rfl, h1, h2, h3, h4⟩ := hp.1.nat
  obtain ⟨n, rfl⟩ : ∃ n : Nat, steps = n := ⟨steps.toNat, by omega⟩
  have hok : AntOk R C (xs, row, col, way) := ⟨h3, hp.2, hq.1, hq.2, hw⟩
  repeat' (first
 | refine A_go rfl ?_ | refine A_ifT rfl rfl ?_ | refine A_ifF rfl rfl ?_
 | refine A_offP rfl rfl ?_ | refine A_offH rfl rfl ?_ | refine A_off0 rfl rfl ?_
 | refine A_add rfl rfl rfl (by omega) ?_ | refine A_sub rfl rfl rfl (by omega) ?_ | refine A_mul rfl rfl rfl (by omega) ?_ | refine A_rem rfl rfl rfl (by omega) ?_ | refine A_remT rfl rfl rfl (by omega) ?_
 | ((first | refine A_lt rfl rfl rfl ?_ ?_) <;> intro hc <;> try first | contradiction | (exfalso; omega) | exact absurd rfl hc)
 | refine A_idxN1 rfl rfl rfl (by omega) ?_ | refine A_idx1 rfl rfl rfl (by omega) ?_
 | (refine A_callB rfl rfl (fun s H => c_isPlain) ?_ ?_ <;> intro hc <;> try first | contradiction | (exfalso; omega) | exact absurd rfl hc | exact absurd (And.intro rfl rfl) hc | exact absurd (And.intro rfl (And.intro rfl rfl)) hc | exact absurd (Eq.trans (by assumption) (Eq.symm (by assumption))) hc)
 | (refine A_callB rfl rfl (fun s H => c_has) ?_ ?_ <;> intro hc <;> try first | contradiction | (exfalso; omega) | exact absurd rfl hc | exact absurd (And.intro rfl rfl) hc | exact absurd (And.intro rfl (And.intro rfl rfl)) hc | exact absurd (Eq.trans (by assumption) (Eq.symm (by assumption))) hc)
 | (refine A_callB rfl rfl (fun s H => c_within) ?_ ?_ <;> intro hc <;> try first | contradiction | (exfalso; omega) | exact absurd rfl hc | exact absurd (And.intro rfl rfl) hc | exact absurd (And.intro rfl (And.intro rfl rfl)) hc | exact absurd (Eq.trans (by assumption) (Eq.symm (by assumption))) hc)
 | (refine A_callM rfl rfl (fun s H => c_copyField) ?_; rintro _ _ ⟨pz, rfl, rfl⟩) | (refine A_callM0 rfl rfl (fun s H => c_copyField) ?_; rintro _ _ ⟨pz, rfl, rfl⟩)
 | refine A_fld rfl rfl ?_ | refine A_mk3 rfl rfl rfl rfl ?_ | refine A_mk23 rfl rfl rfl ?_ | refine A_mk2 rfl rfl rfl ?_ | refine A_mk13 rfl rfl ?_ | refine A_p (by rfl) rfl ?_
 | refine A_ldI rfl (by first | omega | (simp; done) | (simp; omega)) rfl ?_ | refine A_ldB rfl (by first | omega | (simp; done) | (simp; omega)) rfl ?_ | refine A_ld rfl (by rfl) rfl ?_
 | refine A_ldW rfl (by simp) rfl ?_
 | refine A_st rfl rfl rfl ?_ | refine A_stE rfl rfl (by first | omega | (simp; done) | (simp; omega)) rfl ?_
 | refine A_stW rfl rfl (by simp) rfl ?_
 | ((first | refine A_alloc rfl ?_ | refine A_box rfl rfl ?_ | refine A_boxC rfl rfl ?_) <;> intro pz hpz)
 | refine A_chk1 rfl rfl rfl ?_ | refine A_chk2 rfl rfl rfl rfl ?_ | refine A_chk3 rfl rfl rfl rfl rfl ?_ | refine A_chk4 rfl rfl rfl rfl rfl rfl ?_ | refine A_chkI rfl (by assumption) rfl (by simp) ?_
 | refine A_ret rfl (by exact (RP.c rfl inferInstance rfl (by simp) (RP.t rfl (RP.t rfl (RP.t rfl (RP.t rfl RP.nil)))))) ?_)
  rename_i q5 _ q10 _ _ _
  refine A_loop rfl [q5, q10, pz] (fun m fr L => ∃ (i : Nat) (zs : List Int) (row' col' w : Int), m = n - i ∧ fr = [(1, iv row'), (2, iv col'), (3, iv w), (5, .c (.ptr q5 0)), (10, .c (.ptr q10 0)), (41, iv n), (42, iv i)] ∧ L = [(q5, .rw 26 3 (fld R C pz len_xs)), (q10, .rw 26 3 (fld 0 0 0 0)), (pz, ints zs)] ∧ i ≤ n ∧ antRun R C (xs, row, col, way) i = (zs, row', col', w)) n ⟨0, _, _, _, _, rfl, rfl, rfl, by omega, rfl⟩ ?_
  rintro m fr L ⟨i, zs, row', col', w, rfl, rfl, rfl, hi, hz⟩
  have ho := hok.run i
  rw [hz] at ho
  have a1 := ho.at
  have a2 := ho.cell
  have a3 := ho.1
  have a4 := ho.2.2.1
  have a5 := ho.2.2.2.1
  have a6 := ho.2.2.2.2
  have a7 := dr_in ((w + 1 + 2 * zs.getD (row' * C + col').toNat 0) % 4)
  have a8 := dc_in ((w + 1 + 2 * zs.getD (row' * C + col').toNat 0) % 4)
  repeat' (first
 | refine A_go rfl ?_ | refine A_ifT rfl rfl ?_ | refine A_ifF rfl rfl ?_
 | refine A_offP rfl rfl ?_ | refine A_offH rfl rfl ?_ | refine A_off0 rfl rfl ?_
 | refine A_add rfl rfl rfl (by omega) ?_ | refine A_sub rfl rfl rfl (by omega) ?_ | refine A_mul rfl rfl rfl (by omega) ?_ | refine A_rem rfl rfl rfl (by omega) ?_ | refine A_remT rfl rfl rfl (by omega) ?_
 | ((first | refine A_lt rfl rfl rfl ?_ ?_) <;> intro hc <;> try first | contradiction | (exfalso; omega) | exact absurd rfl hc)
 | refine A_idxN1 rfl rfl rfl (by omega) ?_ | refine A_idx1 rfl rfl rfl (by omega) ?_
 | refine A_callV rfl rfl (fun s H => c_wayOf) ?_
 | refine A_callV rfl rfl (fun s H => c_floorMod) ?_
 | refine A_fld rfl rfl ?_ | refine A_mk3 rfl rfl rfl rfl ?_ | refine A_mk23 rfl rfl rfl ?_ | refine A_mk2 rfl rfl rfl ?_ | refine A_mk13 rfl rfl ?_ | refine A_p (by rfl) rfl ?_
 | refine A_ldI rfl (by first | omega | (simp; done) | (simp; omega)) rfl ?_ | refine A_ldB rfl (by first | omega | (simp; done) | (simp; omega)) rfl ?_ | refine A_ld rfl (by rfl) rfl ?_
 | refine A_ldW rfl (by simp) rfl ?_
 | refine A_st rfl rfl rfl ?_ | refine A_stE rfl rfl (by first | omega | (simp; done) | (simp; omega)) rfl ?_
 | refine A_stW rfl rfl (by simp) rfl ?_
 | ((first | refine A_alloc rfl ?_ | refine A_box rfl rfl ?_ | refine A_boxC rfl rfl ?_) <;> intro pz hpz)
 | refine A_chk1 rfl rfl rfl ?_ | refine A_chk2 rfl rfl rfl rfl ?_ | refine A_chk3 rfl rfl rfl rfl rfl ?_ | refine A_chk4 rfl rfl rfl rfl rfl rfl ?_ | refine A_chkI rfl (by assumption) rfl (by simp) ?_
 | refine A_ret rfl (by exact (RP.c rfl inferInstance rfl (by simp) (RP.t rfl (RP.t rfl (RP.t rfl (RP.t rfl RP.nil)))))) ?_)
  · refine A_round rfl [q5, q10, pz] (n - (i + 1)) (by omega) ?_
    exact ⟨i + 1, _, _, _, _, rfl, rfl, rfl, by omega, by rw [antRun, hz]; rfl⟩
  · obtain rfl : n = i := by omega
    rw [Int.toNat_natCast]
    exact R_ant ⟨hp, hq, hw, hs⟩ hz (by omega) (by omega)
end Go.Proofs.Ytlhidckolillaaa
