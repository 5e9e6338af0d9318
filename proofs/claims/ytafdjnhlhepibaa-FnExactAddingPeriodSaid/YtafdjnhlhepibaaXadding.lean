/- When the first cell comes again, by a rule that adds. -/
import Derived.Test.YtafdjnhlhepibaaXaddingA
import Derived.Test.YtafdjnhlhepibaaFB
namespace Go.Proofs.Ytafdjnhlhepibaa
open Go Go.RowKit
set_option linter.unusedVariables false
set_option linter.unusedSimpArgs false
set_option maxRecDepth 100000
set_option maxHeartbeats 8000000
-- impl.AddingPeriod
def L28 : AFun := ⟨38, [.t 6, .t 7, .t 8],
 (.seq (.ops false [⟨(some 3), .box 30 (.t 0), none, []⟩,
   ⟨(some 6), .mv (.k (iv 0)), none, []⟩,
   ⟨(some 7), .mv (.k (iv 0)), none, []⟩,
   ⟨(some 8), .mv (.k (bv false)), none, []⟩])
 (.seq (.seq (.ops false [⟨(some 9), .load true 3 (.t 3), none, []⟩,
    ⟨(some 10), .call (.f 66) [(.t 9)], none, []⟩,
    ⟨(some 11), .un .not (.t 10), none, []⟩,
    ⟨(some 12), .mv (.t 11), none, []⟩,
    ⟨(some 13), .mv (.t 1), (some (12, false)), []⟩,
    ⟨(some 14), .load true 3 (.t 3), (some (12, false)), []⟩,
    ⟨(some 15), .call (.f 73) [(.t 14)], (some (12, false)), []⟩,
    ⟨(some 16), .call (.f 72) [(.t 13), (.t 15), (.k (iv 64))], (some (12, false)), []⟩,
    ⟨(some 17), .un .not (.t 16), (some (12, false)), []⟩,
    ⟨(some 18), .pick (.t 12) (.k (bv true)) (.t 17), none, []⟩,
    ⟨(some 19), .mv (.t 18), none, []⟩,
    ⟨(some 20), .load true 3 (.t 3), (some (19, false)), []⟩,
    ⟨(some 21), .call (.f 74) [(.t 20)], (some (19, false)), []⟩,
    ⟨(some 22), .un .not (.t 21), (some (19, false)), []⟩,
    ⟨(some 23), .pick (.t 19) (.k (bv true)) (.t 22), none, []⟩,
    ⟨(some 24), .mv (.t 23), none, []⟩,
    ⟨(some 25), .mv (.t 2), (some (24, false)), []⟩,
    ⟨(some 26), .call (.f 72) [(.t 25), (.k (iv 1)), (.k (iv 4096))], (some (24, false)), []⟩,
    ⟨(some 27), .un .not (.t 26), (some (24, false)), []⟩,
    ⟨(some 28), .pick (.t 24) (.k (bv true)) (.t 27), none, []⟩])
  (.cond (.t 28) (.seq (.ops false [⟨(some 6), .mv (.k (iv 0)), none, []⟩,
     ⟨(some 7), .mv (.k (iv 0)), none, []⟩,
     ⟨(some 8), .mv (.k (bv false)), none, []⟩])
   .ret)
   .skip))
 (.seq (.ops true [⟨(some 29), .mv (.t 1), none, []⟩,
   ⟨(some 30), .call (.f 76) [(.t 29)], none, []⟩,
   ⟨(some 31), .load true 3 (.t 3), none, [0]⟩,
   ⟨(some 32), .mkBound 78 [(.t 31)], none, []⟩,
   ⟨(some 33), .mv (.t 2), none, []⟩,
   ⟨(some 34), .call (.f 75) [(.t 30), (.f 77), (.t 32), (.t 33)], none, []⟩,
   ⟨(some 35), .ext (.t 34) 0, none, []⟩,
   ⟨(some 36), .ext (.t 34) 1, none, []⟩,
   ⟨(some 37), .ext (.t 34) 2, none, []⟩,
   ⟨(some 6), .mv (.t 35), none, []⟩,
   ⟨(some 7), .mv (.t 36), none, []⟩,
   ⟨(some 8), .mv (.t 37), none, []⟩])
 .ret)))⟩
theorem code28 : acode Try.prog hints 28 = some L28 := by kernel_rfl

-- spec.AddingPeriod
def L27 : AFun := ⟨113, [.t 6, .t 7, .t 8],
 (.seq (.ops false [⟨(some 3), .box 30 (.t 0), none, []⟩,
   ⟨(some 6), .mv (.k (iv 0)), none, []⟩,
   ⟨(some 7), .mv (.k (iv 0)), none, []⟩,
   ⟨(some 8), .mv (.k (bv false)), none, []⟩])
 (.seq (.seq (.ops false [⟨(some 22), .call (.f 63) [(.t 3)], none, []⟩,
    ⟨(some 23), .un .not (.t 22), none, []⟩,
    ⟨(some 24), .mv (.t 23), none, []⟩,
    ⟨(some 25), .mv (.t 1), (some (24, false)), []⟩,
    ⟨(some 26), .call (.f 67) [(.t 3)], (some (24, false)), []⟩,
    ⟨(some 27), .call (.f 60) [(.t 25), (.t 26), (.k (iv 64))], (some (24, false)), []⟩,
    ⟨(some 28), .un .not (.t 27), (some (24, false)), []⟩,
    ⟨(some 29), .pick (.t 24) (.k (bv true)) (.t 28), none, []⟩,
    ⟨(some 30), .mv (.t 29), none, []⟩,
    ⟨(some 31), .mv (.t 2), (some (30, false)), []⟩,
    ⟨(some 32), .call (.f 60) [(.t 31), (.k (iv 1)), (.k (iv 4096))], (some (30, false)), []⟩,
    ⟨(some 33), .un .not (.t 32), (some (30, false)), []⟩,
    ⟨(some 34), .pick (.t 30) (.k (bv true)) (.t 33), none, []⟩])
  (.cond (.t 34) (.seq (.ops false [⟨(some 6), .mv (.k (iv 0)), none, []⟩,
     ⟨(some 7), .mv (.k (iv 0)), none, []⟩,
     ⟨(some 8), .mv (.k (bv false)), none, []⟩])
   .ret)
   .skip))
 (.seq (.ops false [⟨(some 36), .call (.f 68) [(.t 3)], none, []⟩,
   ⟨(some 35), .mv (.t 36), none, []⟩,
   ⟨(some 37), .ext (.t 35) 0, none, []⟩,
   ⟨(some 38), .ext (.t 35) 1, none, []⟩,
   ⟨(some 9), .mv (.t 37), none, []⟩,
   ⟨(some 10), .mv (.t 38), none, []⟩])
 (.seq (.seq (.ops false [⟨(some 39), .mv (.t 10), none, []⟩,
    ⟨(some 40), .un .not (.t 39), none, []⟩])
  (.cond (.t 40) (.seq (.ops false [⟨(some 6), .mv (.k (iv 0)), none, []⟩,
     ⟨(some 7), .mv (.k (iv 0)), none, []⟩,
     ⟨(some 8), .mv (.k (bv false)), none, []⟩])
   .ret)
   .skip))
 (.seq (.ops false [⟨(some 41), .mv (.t 9), none, []⟩,
   ⟨(some 42), .mv (.t 1), none, []⟩,
   ⟨(some 43), .call (.f 69) [(.t 3), (.t 41), (.t 42)], none, []⟩,
   ⟨(some 11), .mv (.t 43), none, []⟩])
 (.seq (.ops false [⟨(some 44), .mv (.t 1), none, []⟩,
   ⟨(some 45), .makeS 2 1 8 [.int .i64 0] (.t 44) (.t 44), none, []⟩,
   ⟨(some 12), .mv (.t 45), none, []⟩])
 (.seq (.ops false [⟨(some 46), .mv (.t 12), none, []⟩,
   ⟨(some 47), .idxA 1 (.t 46) (.k (iv 0)), none, []⟩,
   ⟨none, .store 1 (.t 47) (.k (iv 1)), none, []⟩])
 (.seq (.ops false [⟨(some 48), .mv (.t 12), none, []⟩,
   ⟨(some 13), .mv (.t 48), none, []⟩])
 (.seq (.ops false [⟨(some 49), .fieldA 0 (.t 3), none, []⟩,
   ⟨(some 50), .load false 1 (.t 49), none, []⟩,
   ⟨(some 51), .mv (.t 12), none, []⟩,
   ⟨(some 52), .mv (.t 11), none, []⟩,
   ⟨(some 53), .call (.f 70) [(.t 50), (.t 51), (.t 52)], none, []⟩,
   ⟨(some 14), .mv (.t 53), none, []⟩])
 (.seq (.ops false [⟨(some 15), .mv (.k (iv 1)), none, []⟩])
 (.seq (.ops false [⟨(some 16), .mv (.k (iv 1)), none, []⟩])
 (.seq (.seq (.ops false [⟨(some 17), .mv (.k (iv 1)), none, []⟩])
  (.block 0 (.loop [2, 3, 11, 12, 13, 14, 15, 16, 17] (.seq (.seq (.ops false [⟨(some 54), .mv (.t 13), none, []⟩,
       ⟨(some 55), .mv (.t 14), none, []⟩,
       ⟨(some 56), .call (.f 71) [(.t 54), (.t 55)], none, []⟩,
       ⟨(some 57), .un .not (.t 56), none, []⟩])
     (.cond (.t 57) .skip
      (.exit 0)))
    (.seq (.block 1 (.seq (.seq (.ops false [⟨(some 60), .mv (.t 17), none, []⟩,
         ⟨(some 61), .mv (.t 2), none, []⟩,
         ⟨(some 62), .bin .mul (.k (iv 4)) (.t 61), none, []⟩,
         ⟨(some 63), .bin .add (.t 62) (.k (iv 8)), none, []⟩,
         ⟨(some 64), .bin .gtr (.t 60) (.t 63), none, []⟩])
       (.cond (.t 64) (.seq (.ops false [⟨(some 6), .mv (.k (iv 0)), none, []⟩,
          ⟨(some 7), .mv (.k (iv 0)), none, []⟩,
          ⟨(some 8), .mv (.k (bv false)), none, []⟩])
        .ret)
        .skip))
      (.seq (.seq (.ops false [⟨(some 65), .mv (.t 15), none, []⟩,
         ⟨(some 66), .mv (.t 16), none, []⟩,
         ⟨(some 67), .bin .eql (.t 65) (.t 66), none, []⟩])
       (.cond (.t 67) (.seq (.ops false [⟨(some 68), .mv (.t 14), none, []⟩,
          ⟨(some 13), .mv (.t 68), none, []⟩])
        (.seq (.ops false [⟨(some 69), .mv (.t 16), none, []⟩,
          ⟨(some 70), .bin .mul (.t 69) (.k (iv 2)), none, []⟩,
          ⟨(some 16), .mv (.t 70), none, []⟩])
        (.ops false [⟨(some 15), .mv (.k (iv 0)), none, []⟩])))
        .skip))
      (.seq (.ops false [⟨(some 71), .fieldA 0 (.t 3), none, []⟩,
        ⟨(some 72), .load false 1 (.t 71), none, []⟩,
        ⟨(some 73), .mv (.t 14), none, []⟩,
        ⟨(some 74), .mv (.t 11), none, []⟩,
        ⟨(some 75), .call (.f 70) [(.t 72), (.t 73), (.t 74)], none, []⟩,
        ⟨(some 14), .mv (.t 75), none, []⟩])
      (.ops false [⟨(some 76), .mv (.t 15), none, []⟩,
       ⟨(some 77), .bin .add (.t 76) (.k (iv 1)), none, []⟩,
       ⟨(some 15), .mv (.t 77), none, []⟩])))))
    (.ops false [⟨(some 58), .mv (.t 17), none, []⟩,
     ⟨(some 59), .bin .add (.t 58) (.k (iv 1)), none, []⟩,
     ⟨(some 17), .mv (.t 59), none, []⟩]))))))
 (.seq (.ops false [⟨(some 78), .mv (.t 12), none, []⟩,
   ⟨(some 18), .mv (.t 78), none, []⟩])
 (.seq (.seq (.ops false [⟨(some 19), .mv (.k (iv 0)), none, []⟩])
  (.block 2 (.loop [2, 3, 11, 12, 15, 18, 19] (.seq (.seq (.ops false [⟨(some 79), .mv (.t 19), none, []⟩,
       ⟨(some 80), .mv (.t 15), none, []⟩,
       ⟨(some 81), .bin .lss (.t 79) (.t 80), none, []⟩])
     (.cond (.t 81) .skip
      (.exit 2)))
    (.seq (.block 3 (.ops false [⟨(some 84), .fieldA 0 (.t 3), none, []⟩,
       ⟨(some 85), .load false 1 (.t 84), none, []⟩,
       ⟨(some 86), .mv (.t 18), none, []⟩,
       ⟨(some 87), .mv (.t 11), none, []⟩,
       ⟨(some 88), .call (.f 70) [(.t 85), (.t 86), (.t 87)], none, []⟩,
       ⟨(some 18), .mv (.t 88), none, []⟩]))
    (.ops false [⟨(some 82), .mv (.t 19), none, []⟩,
     ⟨(some 83), .bin .add (.t 82) (.k (iv 1)), none, []⟩,
     ⟨(some 19), .mv (.t 83), none, []⟩]))))))
 (.seq (.ops false [⟨(some 20), .mv (.k (iv 0)), none, []⟩])
 (.seq (.seq (.ops false [⟨(some 89), .mv (.t 12), none, []⟩,
    ⟨(some 21), .mv (.t 89), none, []⟩])
  (.block 4 (.loop [2, 3, 11, 15, 18, 20, 21] (.seq (.seq (.ops false [⟨(some 90), .mv (.t 21), none, []⟩,
       ⟨(some 91), .mv (.t 18), none, []⟩,
       ⟨(some 92), .call (.f 71) [(.t 90), (.t 91)], none, []⟩,
       ⟨(some 93), .un .not (.t 92), none, []⟩])
     (.cond (.t 93) .skip
      (.exit 4)))
    (.seq (.block 5 (.seq (.ops false [⟨(some 96), .fieldA 0 (.t 3), none, []⟩,
        ⟨(some 97), .load false 1 (.t 96), none, []⟩,
        ⟨(some 98), .mv (.t 21), none, []⟩,
        ⟨(some 99), .mv (.t 11), none, []⟩,
        ⟨(some 100), .call (.f 70) [(.t 97), (.t 98), (.t 99)], none, []⟩,
        ⟨(some 21), .mv (.t 100), none, []⟩])
      (.ops false [⟨(some 101), .fieldA 0 (.t 3), none, []⟩,
       ⟨(some 102), .load false 1 (.t 101), none, []⟩,
       ⟨(some 103), .mv (.t 18), none, []⟩,
       ⟨(some 104), .mv (.t 11), none, []⟩,
       ⟨(some 105), .call (.f 70) [(.t 102), (.t 103), (.t 104)], none, []⟩,
       ⟨(some 18), .mv (.t 105), none, []⟩])))
    (.ops false [⟨(some 94), .mv (.t 20), none, []⟩,
     ⟨(some 95), .bin .add (.t 94) (.k (iv 1)), none, []⟩,
     ⟨(some 20), .mv (.t 95), none, []⟩]))))))
 (.seq (.seq (.ops false [⟨(some 106), .mv (.t 20), none, []⟩,
    ⟨(some 107), .mv (.t 15), none, []⟩,
    ⟨(some 108), .bin .add (.t 106) (.t 107), none, []⟩,
    ⟨(some 109), .mv (.t 2), none, []⟩,
    ⟨(some 110), .bin .gtr (.t 108) (.t 109), none, []⟩])
  (.cond (.t 110) (.seq (.ops false [⟨(some 6), .mv (.k (iv 0)), none, []⟩,
     ⟨(some 7), .mv (.k (iv 0)), none, []⟩,
     ⟨(some 8), .mv (.k (bv false)), none, []⟩])
   .ret)
   .skip))
 (.seq (.ops false [⟨(some 111), .mv (.t 20), none, []⟩,
   ⟨(some 112), .mv (.t 15), none, []⟩,
   ⟨(some 6), .mv (.t 111), none, []⟩,
   ⟨(some 7), .mv (.t 112), none, []⟩,
   ⟨(some 8), .mv (.k (bv true)), none, []⟩])
 .ret))))))))))))))))))⟩
theorem code27 : acode Try.prog hints 27 = some L27 := by kernel_rfl


theorem irs_yes {P : Prop} {ys : List Int} (h : P) {R : AV} {N : Objs} (k : IntsRes P ys R N) : ∃ p, R = .tup [.c (.sl p 0 ys.length), .c (.bool true)] ∧ N = [(p, ints ys)] := by
  obtain ⟨p, rfl, rfl, _⟩ := k
  exact ⟨p, by simp only [sel_t h, tt_t h], by rw [sel_t h]⟩
theorem irs_no {P : Prop} {ys : List Int} (h : ¬ P) {R : AV} {N : Objs} (k : IntsRes P ys R N) : ∃ p, R = .tup [.c (.sl p 0 0), .c (.bool false)] ∧ N = [(p, ints [])] := by
  obtain ⟨p, rfl, rfl, _⟩ := k
  exact ⟨p, by simp only [sel_f h, tt_f h, List.length_nil], by rw [sel_f h]⟩
theorem c_l03TermsY {s : St} [Wf s] {q S w E : Nat} {re : Int} {id_xs off_xs len_xs : Nat} {xs : List Int} [hq : Ref s q [ic S, ic re, .sl id_xs off_xs len_xs]] [h_xs : ArgE ic s id_xs off_xs xs] (hl_xs : xs.length = len_xs := by first | rfl | simp | omega) (hE : E = S ^ (w - 1)) (hl : xs.length = E * S) (hd : DG S xs) (hA : Adds S w xs) (hS : 2 ≤ S ∧ S ≤ 3 := by omega) (hw : 2 * re + 1 = w ∧ 1 ≤ w ∧ w ≤ 5 := by omega) (hEb : 1 ≤ E ∧ E ≤ 81 := by omega) :
    Fn [] 68 [.c (.ptr q 0)] s fun R N => ∃ p, R = .tup [.c (.sl p 0 w), .c (.bool true)] ∧ N = [(p, ints (trm S w xs))] :=
  (c_l03Terms (hl_xs := hl_xs) (hE := hE) (hl := hl) (hd := hd) (hS := hS) (hw := hw) (hEb := hEb)).mono fun R N k => by
    obtain ⟨p, h1, h2⟩ := irs_yes hA k
    exact ⟨p, by rw [h1]; simp [trm], h2⟩
theorem c_l03TermsN {s : St} [Wf s] {q S w E : Nat} {re : Int} {id_xs off_xs len_xs : Nat} {xs : List Int} [hq : Ref s q [ic S, ic re, .sl id_xs off_xs len_xs]] [h_xs : ArgE ic s id_xs off_xs xs] (hl_xs : xs.length = len_xs := by first | rfl | simp | omega) (hE : E = S ^ (w - 1)) (hl : xs.length = E * S) (hd : DG S xs) (hA : ¬ Adds S w xs) (hS : 2 ≤ S ∧ S ≤ 3 := by omega) (hw : 2 * re + 1 = w ∧ 1 ≤ w ∧ w ≤ 5 := by omega) (hEb : 1 ≤ E ∧ E ≤ 81 := by omega) :
    Fn [] 68 [.c (.ptr q 0)] s fun R N => ∃ p, R = .tup [.c (.sl p 0 0), .c (.bool false)] ∧ N = [(p, ints [])] :=
  (c_l03Terms (hl_xs := hl_xs) (hE := hE) (hl := hl) (hd := hd) (hS := hS) (hw := hw) (hEb := hEb)).mono fun R N k => irs_no hA k
theorem imp_dg {S n : Nat} (hS : 2 ≤ S) : DG S (imp n) := fun x hx => by
  rcases List.mem_or_eq_of_mem_set hx with h | rfl
  · obtain ⟨_, rfl⟩ := List.mem_replicate.1 h; omega
  · omega
theorem rg_dg {S : Nat} {ys : List Int} (h : RG S ys) : DG S ys := fun x hx => by
  have := h.2 x hx; omega
abbrev ApP (st re : Int) (xs : List Int) (n most : Int) : Prop := (((VR st re xs ∧ (2 * re + 1 ≤ n ∧ n ≤ 64)) ∧ AddsP st re xs) ∧ 1 ≤ most ∧ most ≤ 4096) ∧ PerP (runR st re xs (imp n.toNat)) most
theorem c_implAddingPeriod {s : St} [Wf s] {st re n0 most0 : Int} {id_xs off_xs len_xs : Nat} {xs : List Int} [h_xs : ArgE ic s id_xs off_xs xs] (hl_xs : xs.length = len_xs := by first | rfl | simp | omega | (simp; omega)) (hb : len_xs ≤ 2000000 := by omega) :
    FnV 28 [.agg [ic st, ic re, .sl id_xs off_xs len_xs], iv n0, iv most0] s (perV (ApP st re xs n0 most0) (runR st re xs (imp n0.toNat))) := by
  refine F_start code28 ?_
  by_cases hv : VR st re xs
  case neg =>
    repeat' (first
 | refine A_go rfl ?_ | refine A_ifT rfl rfl ?_ | refine A_ifF rfl rfl ?_ | refine A_offP rfl rfl ?_ | refine A_offH rfl rfl ?_ | refine A_off0 rfl rfl ?_
 | refine A_add rfl rfl rfl (by omega) ?_ | refine A_sub rfl rfl rfl (by omega) ?_ | refine A_mul rfl rfl rfl (by omega) ?_ | refine A_rem rfl rfl rfl (by omega) ?_ | refine A_remT rfl rfl rfl (by omega) ?_ | refine A_quo rfl rfl rfl (by omega) ?_
 | ((first | refine A_lt rfl rfl rfl ?_ ?_ | refine A_le rfl rfl rfl ?_ ?_ | refine A_gt rfl rfl rfl ?_ ?_ | refine A_ge rfl rfl rfl ?_ ?_ | refine A_eq rfl rfl rfl ?_ ?_ | refine A_ne rfl rfl rfl ?_ ?_ | refine A_beq rfl rfl rfl ?_ ?_) <;> intro hc <;> try first | contradiction | (exfalso; omega) | exact absurd rfl hc)
 | refine A_idxN1 rfl rfl rfl (by omega) ?_ | refine A_idx1 rfl rfl rfl (by omega) ?_ | refine A_idxArr1 rfl rfl rfl (by omega) ?_
 | (refine A_callB rfl rfl (fun s H => c_ValidRule) ?_ ?_ <;> intro hc <;> try first | contradiction | (exfalso; omega) | exact absurd rfl hc | exact absurd (And.intro rfl rfl) hc | exact absurd (And.intro rfl (And.intro rfl rfl)) hc | exact absurd (Eq.trans (by assumption) (Eq.symm (by assumption))) hc)
 | refine A_fld rfl rfl ?_ | refine A_mk3 rfl rfl rfl rfl ?_ | refine A_mk23 rfl rfl rfl ?_ | refine A_mk2 rfl rfl rfl ?_ | refine A_mk13 rfl rfl ?_ | refine A_p (by rfl) rfl ?_
 | refine A_ldI rfl (by first | omega | (simp; done) | (simp; omega)) rfl ?_ | refine A_ldB rfl (by first | omega | (simp; done) | (simp; omega)) rfl ?_ | refine A_ld rfl (by rfl) rfl ?_ | refine A_ldW rfl (by simp) rfl ?_
 | refine A_st rfl rfl rfl ?_ | refine A_stW rfl rfl (by simp) rfl ?_ | refine A_stE rfl rfl (by first | omega | (simp; done) | (simp; omega)) rfl ?_
 | ((first | refine A_alloc rfl ?_ | refine A_box rfl rfl ?_ | refine A_boxC rfl rfl ?_ | refine A_makeN rfl rfl rfl (by omega) ?_ | refine A_make rfl rfl rfl (by omega) ?_ | refine A_bld1 rfl rfl ?_ | refine A_bld2 rfl rfl rfl ?_ | refine A_bld4 rfl rfl rfl rfl rfl ?_) <;> intro pz hpz)
 | refine A_bld0 rfl ?_ | (refine A_app rfl rfl rfl (by first | omega | (simp; done) | (simp; omega)) (by first | omega | (simp; done) | (simp; omega)) (by omega) ?_; intro pz) | (refine A_appN (enc := ic) rfl (by decide) rfl rfl (by first | omega | (simp; done) | (simp; omega)) (by omega) ?_; intro pz)
 | refine A_chk1 rfl rfl rfl ?_ | refine A_chk2 rfl rfl rfl rfl ?_ | refine A_chk3 rfl rfl rfl rfl rfl ?_ | refine A_chk4 rfl rfl rfl rfl rfl rfl ?_ | refine A_chkI rfl (by assumption) rfl (by simp) ?_
 | refine A_ret1 rfl (by first | exact (RP.t rfl RP.nil) | exact (RP.c rfl inferInstance rfl (by simp) RP.nil)) ?_ | refine A_ret rfl (by first | exact (RP.t rfl (RP.t rfl RP.nil)) | exact (RP.c rfl inferInstance rfl (by simp) (RP.t rfl RP.nil)) | exact (RP.t rfl (RP.t rfl (RP.t rfl RP.nil))) | exact (RP.c rfl inferInstance rfl (by simp) (RP.t rfl (RP.t rfl RP.nil))) | exact (RP.c rfl inferInstance rfl (by simp) (RP.t rfl (RP.t rfl (RP.t rfl (RP.t rfl RP.nil)))))) ?_ | refine A_ret0 rfl ?_)
    exact R_num2N fun h => hv h.1.1.1.1
  obtain ⟨S, w, E, rfl, hS, hw, hw1, hE, hl, hEb, hdg⟩ := hv.nat
  by_cases hn0 : (w : Int) ≤ n0 ∧ n0 ≤ 64
  case neg =>
    repeat' (first
 | refine A_go rfl ?_ | refine A_ifT rfl rfl ?_ | refine A_ifF rfl rfl ?_ | refine A_offP rfl rfl ?_ | refine A_offH rfl rfl ?_ | refine A_off0 rfl rfl ?_
 | refine A_add rfl rfl rfl (by omega) ?_ | refine A_sub rfl rfl rfl (by omega) ?_ | refine A_mul rfl rfl rfl (by omega) ?_ | refine A_rem rfl rfl rfl (by omega) ?_ | refine A_remT rfl rfl rfl (by omega) ?_ | refine A_quo rfl rfl rfl (by omega) ?_
 | ((first | refine A_lt rfl rfl rfl ?_ ?_ | refine A_le rfl rfl rfl ?_ ?_ | refine A_gt rfl rfl rfl ?_ ?_ | refine A_ge rfl rfl rfl ?_ ?_ | refine A_eq rfl rfl rfl ?_ ?_ | refine A_ne rfl rfl rfl ?_ ?_ | refine A_beq rfl rfl rfl ?_ ?_) <;> intro hc <;> try first | contradiction | (exfalso; omega) | exact absurd rfl hc)
 | refine A_idxN1 rfl rfl rfl (by omega) ?_ | refine A_idx1 rfl rfl rfl (by omega) ?_ | refine A_idxArr1 rfl rfl rfl (by omega) ?_
 | (refine A_callB rfl rfl (fun s H => c_ValidRule) ?_ ?_ <;> intro hc <;> try first | contradiction | (exfalso; omega) | exact absurd rfl hc | exact absurd (And.intro rfl rfl) hc | exact absurd (And.intro rfl (And.intro rfl rfl)) hc | exact absurd (Eq.trans (by assumption) (Eq.symm (by assumption))) hc)
 | refine A_callV rfl rfl (fun s H => c_cellsW (w := w) (hw := hw)) ?_
 | (refine A_callB rfl rfl (fun s H => c_within) ?_ ?_ <;> intro hc <;> try first | contradiction | (exfalso; omega) | exact absurd rfl hc | exact absurd (And.intro rfl rfl) hc | exact absurd (And.intro rfl (And.intro rfl rfl)) hc | exact absurd (Eq.trans (by assumption) (Eq.symm (by assumption))) hc)
 | refine A_fld rfl rfl ?_ | refine A_mk3 rfl rfl rfl rfl ?_ | refine A_mk23 rfl rfl rfl ?_ | refine A_mk2 rfl rfl rfl ?_ | refine A_mk13 rfl rfl ?_ | refine A_p (by rfl) rfl ?_
 | refine A_ldI rfl (by first | omega | (simp; done) | (simp; omega)) rfl ?_ | refine A_ldB rfl (by first | omega | (simp; done) | (simp; omega)) rfl ?_ | refine A_ld rfl (by rfl) rfl ?_ | refine A_ldW rfl (by simp) rfl ?_
 | refine A_st rfl rfl rfl ?_ | refine A_stW rfl rfl (by simp) rfl ?_ | refine A_stE rfl rfl (by first | omega | (simp; done) | (simp; omega)) rfl ?_
 | ((first | refine A_alloc rfl ?_ | refine A_box rfl rfl ?_ | refine A_boxC rfl rfl ?_ | refine A_makeN rfl rfl rfl (by omega) ?_ | refine A_make rfl rfl rfl (by omega) ?_ | refine A_bld1 rfl rfl ?_ | refine A_bld2 rfl rfl rfl ?_ | refine A_bld4 rfl rfl rfl rfl rfl ?_) <;> intro pz hpz)
 | refine A_bld0 rfl ?_ | (refine A_app rfl rfl rfl (by first | omega | (simp; done) | (simp; omega)) (by first | omega | (simp; done) | (simp; omega)) (by omega) ?_; intro pz) | (refine A_appN (enc := ic) rfl (by decide) rfl rfl (by first | omega | (simp; done) | (simp; omega)) (by omega) ?_; intro pz)
 | refine A_chk1 rfl rfl rfl ?_ | refine A_chk2 rfl rfl rfl rfl ?_ | refine A_chk3 rfl rfl rfl rfl rfl ?_ | refine A_chk4 rfl rfl rfl rfl rfl rfl ?_ | refine A_chkI rfl (by assumption) rfl (by simp) ?_
 | refine A_ret1 rfl (by first | exact (RP.t rfl RP.nil) | exact (RP.c rfl inferInstance rfl (by simp) RP.nil)) ?_ | refine A_ret rfl (by first | exact (RP.t rfl (RP.t rfl RP.nil)) | exact (RP.c rfl inferInstance rfl (by simp) (RP.t rfl RP.nil)) | exact (RP.t rfl (RP.t rfl (RP.t rfl RP.nil))) | exact (RP.c rfl inferInstance rfl (by simp) (RP.t rfl (RP.t rfl RP.nil))) | exact (RP.c rfl inferInstance rfl (by simp) (RP.t rfl (RP.t rfl (RP.t rfl (RP.t rfl RP.nil)))))) ?_ | refine A_ret0 rfl ?_)
    exact R_num2N fun h => hn0 (by have := h.1.1.1.2; omega)
  have e : AddsP S re xs = Adds S w xs := by rw [AddsP, hw]; rfl
  by_cases hA : Adds S w xs
  case neg =>
    repeat' (first
 | refine A_go rfl ?_ | refine A_ifT rfl rfl ?_ | refine A_ifF rfl rfl ?_ | refine A_offP rfl rfl ?_ | refine A_offH rfl rfl ?_ | refine A_off0 rfl rfl ?_
 | refine A_add rfl rfl rfl (by omega) ?_ | refine A_sub rfl rfl rfl (by omega) ?_ | refine A_mul rfl rfl rfl (by omega) ?_ | refine A_rem rfl rfl rfl (by omega) ?_ | refine A_remT rfl rfl rfl (by omega) ?_ | refine A_quo rfl rfl rfl (by omega) ?_
 | ((first | refine A_lt rfl rfl rfl ?_ ?_ | refine A_le rfl rfl rfl ?_ ?_ | refine A_gt rfl rfl rfl ?_ ?_ | refine A_ge rfl rfl rfl ?_ ?_ | refine A_eq rfl rfl rfl ?_ ?_ | refine A_ne rfl rfl rfl ?_ ?_ | refine A_beq rfl rfl rfl ?_ ?_) <;> intro hc <;> try first | contradiction | (exfalso; omega) | exact absurd rfl hc)
 | refine A_idxN1 rfl rfl rfl (by omega) ?_ | refine A_idx1 rfl rfl rfl (by omega) ?_ | refine A_idxArr1 rfl rfl rfl (by omega) ?_
 | (refine A_callB rfl rfl (fun s H => c_ValidRule) ?_ ?_ <;> intro hc <;> try first | contradiction | (exfalso; omega) | exact absurd rfl hc | exact absurd (And.intro rfl rfl) hc | exact absurd (And.intro rfl (And.intro rfl rfl)) hc | exact absurd (Eq.trans (by assumption) (Eq.symm (by assumption))) hc)
 | refine A_callV rfl rfl (fun s H => c_cellsW (w := w) (hw := hw)) ?_
 | (refine A_callB rfl rfl (fun s H => c_within) ?_ ?_ <;> intro hc <;> try first | contradiction | (exfalso; omega) | exact absurd rfl hc | exact absurd (And.intro rfl rfl) hc | exact absurd (And.intro rfl (And.intro rfl rfl)) hc | exact absurd (Eq.trans (by assumption) (Eq.symm (by assumption))) hc)
 | (refine A_callB rfl rfl (fun s H => c_adds (hE := hE) (hl := hl) (hd := hdg)) ?_ ?_ <;> intro hc <;> try first | contradiction | (exfalso; omega) | exact absurd rfl hc | exact absurd (And.intro rfl rfl) hc | exact absurd (And.intro rfl (And.intro rfl rfl)) hc | exact absurd (Eq.trans (by assumption) (Eq.symm (by assumption))) hc)
 | refine A_fld rfl rfl ?_ | refine A_mk3 rfl rfl rfl rfl ?_ | refine A_mk23 rfl rfl rfl ?_ | refine A_mk2 rfl rfl rfl ?_ | refine A_mk13 rfl rfl ?_ | refine A_p (by rfl) rfl ?_
 | refine A_ldI rfl (by first | omega | (simp; done) | (simp; omega)) rfl ?_ | refine A_ldB rfl (by first | omega | (simp; done) | (simp; omega)) rfl ?_ | refine A_ld rfl (by rfl) rfl ?_ | refine A_ldW rfl (by simp) rfl ?_
 | refine A_st rfl rfl rfl ?_ | refine A_stW rfl rfl (by simp) rfl ?_ | refine A_stE rfl rfl (by first | omega | (simp; done) | (simp; omega)) rfl ?_
 | ((first | refine A_alloc rfl ?_ | refine A_box rfl rfl ?_ | refine A_boxC rfl rfl ?_ | refine A_makeN rfl rfl rfl (by omega) ?_ | refine A_make rfl rfl rfl (by omega) ?_ | refine A_bld1 rfl rfl ?_ | refine A_bld2 rfl rfl rfl ?_ | refine A_bld4 rfl rfl rfl rfl rfl ?_) <;> intro pz hpz)
 | refine A_bld0 rfl ?_ | (refine A_app rfl rfl rfl (by first | omega | (simp; done) | (simp; omega)) (by first | omega | (simp; done) | (simp; omega)) (by omega) ?_; intro pz) | (refine A_appN (enc := ic) rfl (by decide) rfl rfl (by first | omega | (simp; done) | (simp; omega)) (by omega) ?_; intro pz)
 | refine A_chk1 rfl rfl rfl ?_ | refine A_chk2 rfl rfl rfl rfl ?_ | refine A_chk3 rfl rfl rfl rfl rfl ?_ | refine A_chk4 rfl rfl rfl rfl rfl rfl ?_ | refine A_chkI rfl (by assumption) rfl (by simp) ?_
 | refine A_ret1 rfl (by first | exact (RP.t rfl RP.nil) | exact (RP.c rfl inferInstance rfl (by simp) RP.nil)) ?_ | refine A_ret rfl (by first | exact (RP.t rfl (RP.t rfl RP.nil)) | exact (RP.c rfl inferInstance rfl (by simp) (RP.t rfl RP.nil)) | exact (RP.t rfl (RP.t rfl (RP.t rfl RP.nil))) | exact (RP.c rfl inferInstance rfl (by simp) (RP.t rfl (RP.t rfl RP.nil))) | exact (RP.c rfl inferInstance rfl (by simp) (RP.t rfl (RP.t rfl (RP.t rfl (RP.t rfl RP.nil)))))) ?_ | refine A_ret0 rfl ?_)
    exact R_num2N fun h => hA (by have := h.1.1.2; rw [e] at this; exact this)
  by_cases hs : 1 ≤ most0 ∧ most0 ≤ 4096
  case neg =>
    repeat' (first
 | refine A_go rfl ?_ | refine A_ifT rfl rfl ?_ | refine A_ifF rfl rfl ?_ | refine A_offP rfl rfl ?_ | refine A_offH rfl rfl ?_ | refine A_off0 rfl rfl ?_
 | refine A_add rfl rfl rfl (by omega) ?_ | refine A_sub rfl rfl rfl (by omega) ?_ | refine A_mul rfl rfl rfl (by omega) ?_ | refine A_rem rfl rfl rfl (by omega) ?_ | refine A_remT rfl rfl rfl (by omega) ?_ | refine A_quo rfl rfl rfl (by omega) ?_
 | ((first | refine A_lt rfl rfl rfl ?_ ?_ | refine A_le rfl rfl rfl ?_ ?_ | refine A_gt rfl rfl rfl ?_ ?_ | refine A_ge rfl rfl rfl ?_ ?_ | refine A_eq rfl rfl rfl ?_ ?_ | refine A_ne rfl rfl rfl ?_ ?_ | refine A_beq rfl rfl rfl ?_ ?_) <;> intro hc <;> try first | contradiction | (exfalso; omega) | exact absurd rfl hc)
 | refine A_idxN1 rfl rfl rfl (by omega) ?_ | refine A_idx1 rfl rfl rfl (by omega) ?_ | refine A_idxArr1 rfl rfl rfl (by omega) ?_
 | (refine A_callB rfl rfl (fun s H => c_ValidRule) ?_ ?_ <;> intro hc <;> try first | contradiction | (exfalso; omega) | exact absurd rfl hc | exact absurd (And.intro rfl rfl) hc | exact absurd (And.intro rfl (And.intro rfl rfl)) hc | exact absurd (Eq.trans (by assumption) (Eq.symm (by assumption))) hc)
 | refine A_callV rfl rfl (fun s H => c_cellsW (w := w) (hw := hw)) ?_
 | (refine A_callB rfl rfl (fun s H => c_within) ?_ ?_ <;> intro hc <;> try first | contradiction | (exfalso; omega) | exact absurd rfl hc | exact absurd (And.intro rfl rfl) hc | exact absurd (And.intro rfl (And.intro rfl rfl)) hc | exact absurd (Eq.trans (by assumption) (Eq.symm (by assumption))) hc)
 | (refine A_callB rfl rfl (fun s H => c_adds (hE := hE) (hl := hl) (hd := hdg)) ?_ ?_ <;> intro hc <;> try first | contradiction | (exfalso; omega) | exact absurd rfl hc | exact absurd (And.intro rfl rfl) hc | exact absurd (And.intro rfl (And.intro rfl rfl)) hc | exact absurd (Eq.trans (by assumption) (Eq.symm (by assumption))) hc)
 | refine A_fld rfl rfl ?_ | refine A_mk3 rfl rfl rfl rfl ?_ | refine A_mk23 rfl rfl rfl ?_ | refine A_mk2 rfl rfl rfl ?_ | refine A_mk13 rfl rfl ?_ | refine A_p (by rfl) rfl ?_
 | refine A_ldI rfl (by first | omega | (simp; done) | (simp; omega)) rfl ?_ | refine A_ldB rfl (by first | omega | (simp; done) | (simp; omega)) rfl ?_ | refine A_ld rfl (by rfl) rfl ?_ | refine A_ldW rfl (by simp) rfl ?_
 | refine A_st rfl rfl rfl ?_ | refine A_stW rfl rfl (by simp) rfl ?_ | refine A_stE rfl rfl (by first | omega | (simp; done) | (simp; omega)) rfl ?_
 | ((first | refine A_alloc rfl ?_ | refine A_box rfl rfl ?_ | refine A_boxC rfl rfl ?_ | refine A_makeN rfl rfl rfl (by omega) ?_ | refine A_make rfl rfl rfl (by omega) ?_ | refine A_bld1 rfl rfl ?_ | refine A_bld2 rfl rfl rfl ?_ | refine A_bld4 rfl rfl rfl rfl rfl ?_) <;> intro pz hpz)
 | refine A_bld0 rfl ?_ | (refine A_app rfl rfl rfl (by first | omega | (simp; done) | (simp; omega)) (by first | omega | (simp; done) | (simp; omega)) (by omega) ?_; intro pz) | (refine A_appN (enc := ic) rfl (by decide) rfl rfl (by first | omega | (simp; done) | (simp; omega)) (by omega) ?_; intro pz)
 | refine A_chk1 rfl rfl rfl ?_ | refine A_chk2 rfl rfl rfl rfl ?_ | refine A_chk3 rfl rfl rfl rfl rfl ?_ | refine A_chk4 rfl rfl rfl rfl rfl rfl ?_ | refine A_chkI rfl (by assumption) rfl (by simp) ?_
 | refine A_ret1 rfl (by first | exact (RP.t rfl RP.nil) | exact (RP.c rfl inferInstance rfl (by simp) RP.nil)) ?_ | refine A_ret rfl (by first | exact (RP.t rfl (RP.t rfl RP.nil)) | exact (RP.c rfl inferInstance rfl (by simp) (RP.t rfl RP.nil)) | exact (RP.t rfl (RP.t rfl (RP.t rfl RP.nil))) | exact (RP.c rfl inferInstance rfl (by simp) (RP.t rfl (RP.t rfl RP.nil))) | exact (RP.c rfl inferInstance rfl (by simp) (RP.t rfl (RP.t rfl (RP.t rfl (RP.t rfl RP.nil)))))) ?_ | refine A_ret0 rfl ?_)
    exact R_num2N fun h => hs h.1.2
  obtain ⟨most, rfl⟩ : ∃ n : Nat, most0 = n := ⟨most0.toNat, by omega⟩
  obtain ⟨n, rfl⟩ : ∃ n : Nat, n0 = n := ⟨n0.toNat, by omega⟩
  have hr := imp_rg (S := S) (n := n) (by omega) (by omega)
  have e2 : ApP S re xs n most = PerP (runR S re xs (imp n)) most := propext ⟨fun h => h.2, fun h => ⟨⟨⟨⟨hv, by omega⟩, e ▸ hA⟩, hs⟩, h⟩⟩
  rw [Int.toNat_natCast, e2]
  repeat' (first
 | refine A_go rfl ?_ | refine A_ifT rfl rfl ?_ | refine A_ifF rfl rfl ?_ | refine A_offP rfl rfl ?_ | refine A_offH rfl rfl ?_ | refine A_off0 rfl rfl ?_
 | refine A_add rfl rfl rfl (by omega) ?_ | refine A_sub rfl rfl rfl (by omega) ?_ | refine A_mul rfl rfl rfl (by omega) ?_ | refine A_rem rfl rfl rfl (by omega) ?_ | refine A_remT rfl rfl rfl (by omega) ?_ | refine A_quo rfl rfl rfl (by omega) ?_
 | ((first | refine A_lt rfl rfl rfl ?_ ?_ | refine A_le rfl rfl rfl ?_ ?_ | refine A_gt rfl rfl rfl ?_ ?_ | refine A_ge rfl rfl rfl ?_ ?_ | refine A_eq rfl rfl rfl ?_ ?_ | refine A_ne rfl rfl rfl ?_ ?_ | refine A_beq rfl rfl rfl ?_ ?_) <;> intro hc <;> try first | contradiction | (exfalso; omega) | exact absurd rfl hc)
 | refine A_idxN1 rfl rfl rfl (by omega) ?_ | refine A_idx1 rfl rfl rfl (by omega) ?_ | refine A_idxArr1 rfl rfl rfl (by omega) ?_
 | (refine A_callB rfl rfl (fun s H => c_ValidRule) ?_ ?_ <;> intro hc <;> try first | contradiction | (exfalso; omega) | exact absurd rfl hc | exact absurd (And.intro rfl rfl) hc | exact absurd (And.intro rfl (And.intro rfl rfl)) hc | exact absurd (Eq.trans (by assumption) (Eq.symm (by assumption))) hc)
 | refine A_callV rfl rfl (fun s H => c_cellsW (w := w) (hw := hw)) ?_
 | (refine A_callB rfl rfl (fun s H => c_within) ?_ ?_ <;> intro hc <;> try first | contradiction | (exfalso; omega) | exact absurd rfl hc | exact absurd (And.intro rfl rfl) hc | exact absurd (And.intro rfl (And.intro rfl rfl)) hc | exact absurd (Eq.trans (by assumption) (Eq.symm (by assumption))) hc)
 | (refine A_callB rfl rfl (fun s H => c_adds (hE := hE) (hl := hl) (hd := hdg)) ?_ ?_ <;> intro hc <;> try first | contradiction | (exfalso; omega) | exact absurd rfl hc | exact absurd (And.intro rfl rfl) hc | exact absurd (And.intro rfl (And.intro rfl rfl)) hc | exact absurd (Eq.trans (by assumption) (Eq.symm (by assumption))) hc)
 | (refine A_callM rfl rfl (fun s H => c_impulse) ?_; rintro _ _ ⟨pz, rfl, rfl⟩) | (refine A_callM0 rfl rfl (fun s H => c_impulse) ?_; rintro _ _ ⟨pz, rfl, rfl⟩)
 | refine A_callV rfl rfl (fun s H => c_period (ys := imp n) (hv := hv) (hr := hr)) ?_
 | refine A_fld rfl rfl ?_ | refine A_mk3 rfl rfl rfl rfl ?_ | refine A_mk23 rfl rfl rfl ?_ | refine A_mk2 rfl rfl rfl ?_ | refine A_mk13 rfl rfl ?_ | refine A_p (by rfl) rfl ?_
 | refine A_ldI rfl (by first | omega | (simp; done) | (simp; omega)) rfl ?_ | refine A_ldB rfl (by first | omega | (simp; done) | (simp; omega)) rfl ?_ | refine A_ld rfl (by rfl) rfl ?_ | refine A_ldW rfl (by simp) rfl ?_
 | refine A_st rfl rfl rfl ?_ | refine A_stW rfl rfl (by simp) rfl ?_ | refine A_stE rfl rfl (by first | omega | (simp; done) | (simp; omega)) rfl ?_
 | ((first | refine A_alloc rfl ?_ | refine A_box rfl rfl ?_ | refine A_boxC rfl rfl ?_ | refine A_makeN rfl rfl rfl (by omega) ?_ | refine A_make rfl rfl rfl (by omega) ?_ | refine A_bld1 rfl rfl ?_ | refine A_bld2 rfl rfl rfl ?_ | refine A_bld4 rfl rfl rfl rfl rfl ?_) <;> intro pz hpz)
 | refine A_bld0 rfl ?_ | (refine A_app rfl rfl rfl (by first | omega | (simp; done) | (simp; omega)) (by first | omega | (simp; done) | (simp; omega)) (by omega) ?_; intro pz) | (refine A_appN (enc := ic) rfl (by decide) rfl rfl (by first | omega | (simp; done) | (simp; omega)) (by omega) ?_; intro pz)
 | refine A_chk1 rfl rfl rfl ?_ | refine A_chk2 rfl rfl rfl rfl ?_ | refine A_chk3 rfl rfl rfl rfl rfl ?_ | refine A_chk4 rfl rfl rfl rfl rfl rfl ?_ | refine A_chkI rfl (by assumption) rfl (by simp) ?_
 | refine A_ret1 rfl (by first | exact (RP.t rfl RP.nil) | exact (RP.c rfl inferInstance rfl (by simp) RP.nil)) ?_ | refine A_ret rfl (by first | exact (RP.t rfl (RP.t rfl RP.nil)) | exact (RP.c rfl inferInstance rfl (by simp) (RP.t rfl RP.nil)) | exact (RP.t rfl (RP.t rfl (RP.t rfl RP.nil))) | exact (RP.c rfl inferInstance rfl (by simp) (RP.t rfl (RP.t rfl RP.nil))) | exact (RP.c rfl inferInstance rfl (by simp) (RP.t rfl (RP.t rfl (RP.t rfl (RP.t rfl RP.nil)))))) ?_ | refine A_ret0 rfl ?_)
  exact R_v rfl
theorem c_specAddingPeriod {s : St} [Wf s] {st re n0 most0 : Int} {id_xs off_xs len_xs : Nat} {xs : List Int} [h_xs : ArgE ic s id_xs off_xs xs] (hl_xs : xs.length = len_xs := by first | rfl | simp | omega | (simp; omega)) (hb : len_xs ≤ 2000000 := by omega) :
    FnV 27 [.agg [ic st, ic re, .sl id_xs off_xs len_xs], iv n0, iv most0] s (perV (ApP st re xs n0 most0) (runR st re xs (imp n0.toNat))) := by
  refine F_start code27 ?_
  by_cases hv : VR st re xs
  case neg =>
    repeat' (first
 | refine A_go rfl ?_ | refine A_ifT rfl rfl ?_ | refine A_ifF rfl rfl ?_ | refine A_offP rfl rfl ?_ | refine A_offH rfl rfl ?_ | refine A_off0 rfl rfl ?_
 | refine A_add rfl rfl rfl (by omega) ?_ | refine A_sub rfl rfl rfl (by omega) ?_ | refine A_mul rfl rfl rfl (by omega) ?_ | refine A_rem rfl rfl rfl (by omega) ?_ | refine A_remT rfl rfl rfl (by omega) ?_ | refine A_quo rfl rfl rfl (by omega) ?_
 | ((first | refine A_lt rfl rfl rfl ?_ ?_ | refine A_le rfl rfl rfl ?_ ?_ | refine A_gt rfl rfl rfl ?_ ?_ | refine A_ge rfl rfl rfl ?_ ?_ | refine A_eq rfl rfl rfl ?_ ?_ | refine A_ne rfl rfl rfl ?_ ?_ | refine A_beq rfl rfl rfl ?_ ?_) <;> intro hc <;> try first | contradiction | (exfalso; omega) | exact absurd rfl hc)
 | refine A_idxN1 rfl rfl rfl (by omega) ?_ | refine A_idx1 rfl rfl rfl (by omega) ?_ | refine A_idxArr1 rfl rfl rfl (by omega) ?_
 | (refine A_callB rfl rfl (fun s H => c_l02Is) ?_ ?_ <;> intro hc <;> try first | contradiction | (exfalso; omega) | exact absurd rfl hc | exact absurd (And.intro rfl rfl) hc | exact absurd (And.intro rfl (And.intro rfl rfl)) hc | exact absurd (Eq.trans (by assumption) (Eq.symm (by assumption))) hc)
 | refine A_fld rfl rfl ?_ | refine A_mk3 rfl rfl rfl rfl ?_ | refine A_mk23 rfl rfl rfl ?_ | refine A_mk2 rfl rfl rfl ?_ | refine A_mk13 rfl rfl ?_ | refine A_p (by rfl) rfl ?_
 | refine A_ldI rfl (by first | omega | (simp; done) | (simp; omega)) rfl ?_ | refine A_ldB rfl (by first | omega | (simp; done) | (simp; omega)) rfl ?_ | refine A_ld rfl (by rfl) rfl ?_ | refine A_ldW rfl (by simp) rfl ?_
 | refine A_st rfl rfl rfl ?_ | refine A_stW rfl rfl (by simp) rfl ?_ | refine A_stE rfl rfl (by first | omega | (simp; done) | (simp; omega)) rfl ?_
 | ((first | refine A_alloc rfl ?_ | refine A_box rfl rfl ?_ | refine A_boxC rfl rfl ?_ | refine A_makeN rfl rfl rfl (by omega) ?_ | refine A_make rfl rfl rfl (by omega) ?_ | refine A_bld1 rfl rfl ?_ | refine A_bld2 rfl rfl rfl ?_ | refine A_bld4 rfl rfl rfl rfl rfl ?_) <;> intro pz hpz)
 | refine A_bld0 rfl ?_ | (refine A_app rfl rfl rfl (by first | omega | (simp; done) | (simp; omega)) (by first | omega | (simp; done) | (simp; omega)) (by omega) ?_; intro pz) | (refine A_appN (enc := ic) rfl (by decide) rfl rfl (by first | omega | (simp; done) | (simp; omega)) (by omega) ?_; intro pz)
 | refine A_chk1 rfl rfl rfl ?_ | refine A_chk2 rfl rfl rfl rfl ?_ | refine A_chk3 rfl rfl rfl rfl rfl ?_ | refine A_chk4 rfl rfl rfl rfl rfl rfl ?_ | refine A_chkI rfl (by assumption) rfl (by simp) ?_
 | refine A_ret1 rfl (by first | exact (RP.t rfl RP.nil) | exact (RP.c rfl inferInstance rfl (by simp) RP.nil)) ?_ | refine A_ret rfl (by first | exact (RP.t rfl (RP.t rfl RP.nil)) | exact (RP.c rfl inferInstance rfl (by simp) (RP.t rfl RP.nil)) | exact (RP.t rfl (RP.t rfl (RP.t rfl RP.nil))) | exact (RP.c rfl inferInstance rfl (by simp) (RP.t rfl (RP.t rfl RP.nil))) | exact (RP.c rfl inferInstance rfl (by simp) (RP.t rfl (RP.t rfl (RP.t rfl (RP.t rfl RP.nil)))))) ?_ | refine A_ret0 rfl ?_)
    exact R_num2N fun h => hv h.1.1.1.1
  obtain ⟨S, w, E, rfl, hS, hw, hw1, hE, hl, hEb, hdg⟩ := hv.nat
  by_cases hn0 : (w : Int) ≤ n0 ∧ n0 ≤ 64
  case neg =>
    repeat' (first
 | refine A_go rfl ?_ | refine A_ifT rfl rfl ?_ | refine A_ifF rfl rfl ?_ | refine A_offP rfl rfl ?_ | refine A_offH rfl rfl ?_ | refine A_off0 rfl rfl ?_
 | refine A_add rfl rfl rfl (by omega) ?_ | refine A_sub rfl rfl rfl (by omega) ?_ | refine A_mul rfl rfl rfl (by omega) ?_ | refine A_rem rfl rfl rfl (by omega) ?_ | refine A_remT rfl rfl rfl (by omega) ?_ | refine A_quo rfl rfl rfl (by omega) ?_
 | ((first | refine A_lt rfl rfl rfl ?_ ?_ | refine A_le rfl rfl rfl ?_ ?_ | refine A_gt rfl rfl rfl ?_ ?_ | refine A_ge rfl rfl rfl ?_ ?_ | refine A_eq rfl rfl rfl ?_ ?_ | refine A_ne rfl rfl rfl ?_ ?_ | refine A_beq rfl rfl rfl ?_ ?_) <;> intro hc <;> try first | contradiction | (exfalso; omega) | exact absurd rfl hc)
 | refine A_idxN1 rfl rfl rfl (by omega) ?_ | refine A_idx1 rfl rfl rfl (by omega) ?_ | refine A_idxArr1 rfl rfl rfl (by omega) ?_
 | (refine A_callB rfl rfl (fun s H => c_l02Is) ?_ ?_ <;> intro hc <;> try first | contradiction | (exfalso; omega) | exact absurd rfl hc | exact absurd (And.intro rfl rfl) hc | exact absurd (And.intro rfl (And.intro rfl rfl)) hc | exact absurd (Eq.trans (by assumption) (Eq.symm (by assumption))) hc)
 | refine A_callV rfl rfl (fun s H => c_l03Wide (w := w)) ?_
 | (refine A_callB rfl rfl (fun s H => c_l00In) ?_ ?_ <;> intro hc <;> try first | contradiction | (exfalso; omega) | exact absurd rfl hc | exact absurd (And.intro rfl rfl) hc | exact absurd (And.intro rfl (And.intro rfl rfl)) hc | exact absurd (Eq.trans (by assumption) (Eq.symm (by assumption))) hc)
 | refine A_fld rfl rfl ?_ | refine A_mk3 rfl rfl rfl rfl ?_ | refine A_mk23 rfl rfl rfl ?_ | refine A_mk2 rfl rfl rfl ?_ | refine A_mk13 rfl rfl ?_ | refine A_p (by rfl) rfl ?_
 | refine A_ldI rfl (by first | omega | (simp; done) | (simp; omega)) rfl ?_ | refine A_ldB rfl (by first | omega | (simp; done) | (simp; omega)) rfl ?_ | refine A_ld rfl (by rfl) rfl ?_ | refine A_ldW rfl (by simp) rfl ?_
 | refine A_st rfl rfl rfl ?_ | refine A_stW rfl rfl (by simp) rfl ?_ | refine A_stE rfl rfl (by first | omega | (simp; done) | (simp; omega)) rfl ?_
 | ((first | refine A_alloc rfl ?_ | refine A_box rfl rfl ?_ | refine A_boxC rfl rfl ?_ | refine A_makeN rfl rfl rfl (by omega) ?_ | refine A_make rfl rfl rfl (by omega) ?_ | refine A_bld1 rfl rfl ?_ | refine A_bld2 rfl rfl rfl ?_ | refine A_bld4 rfl rfl rfl rfl rfl ?_) <;> intro pz hpz)
 | refine A_bld0 rfl ?_ | (refine A_app rfl rfl rfl (by first | omega | (simp; done) | (simp; omega)) (by first | omega | (simp; done) | (simp; omega)) (by omega) ?_; intro pz) | (refine A_appN (enc := ic) rfl (by decide) rfl rfl (by first | omega | (simp; done) | (simp; omega)) (by omega) ?_; intro pz)
 | refine A_chk1 rfl rfl rfl ?_ | refine A_chk2 rfl rfl rfl rfl ?_ | refine A_chk3 rfl rfl rfl rfl rfl ?_ | refine A_chk4 rfl rfl rfl rfl rfl rfl ?_ | refine A_chkI rfl (by assumption) rfl (by simp) ?_
 | refine A_ret1 rfl (by first | exact (RP.t rfl RP.nil) | exact (RP.c rfl inferInstance rfl (by simp) RP.nil)) ?_ | refine A_ret rfl (by first | exact (RP.t rfl (RP.t rfl RP.nil)) | exact (RP.c rfl inferInstance rfl (by simp) (RP.t rfl RP.nil)) | exact (RP.t rfl (RP.t rfl (RP.t rfl RP.nil))) | exact (RP.c rfl inferInstance rfl (by simp) (RP.t rfl (RP.t rfl RP.nil))) | exact (RP.c rfl inferInstance rfl (by simp) (RP.t rfl (RP.t rfl (RP.t rfl (RP.t rfl RP.nil)))))) ?_ | refine A_ret0 rfl ?_)
    exact R_num2N fun h => hn0 (by have := h.1.1.1.2; omega)
  by_cases hs : 1 ≤ most0 ∧ most0 ≤ 4096
  case neg =>
    repeat' (first
 | refine A_go rfl ?_ | refine A_ifT rfl rfl ?_ | refine A_ifF rfl rfl ?_ | refine A_offP rfl rfl ?_ | refine A_offH rfl rfl ?_ | refine A_off0 rfl rfl ?_
 | refine A_add rfl rfl rfl (by omega) ?_ | refine A_sub rfl rfl rfl (by omega) ?_ | refine A_mul rfl rfl rfl (by omega) ?_ | refine A_rem rfl rfl rfl (by omega) ?_ | refine A_remT rfl rfl rfl (by omega) ?_ | refine A_quo rfl rfl rfl (by omega) ?_
 | ((first | refine A_lt rfl rfl rfl ?_ ?_ | refine A_le rfl rfl rfl ?_ ?_ | refine A_gt rfl rfl rfl ?_ ?_ | refine A_ge rfl rfl rfl ?_ ?_ | refine A_eq rfl rfl rfl ?_ ?_ | refine A_ne rfl rfl rfl ?_ ?_ | refine A_beq rfl rfl rfl ?_ ?_) <;> intro hc <;> try first | contradiction | (exfalso; omega) | exact absurd rfl hc)
 | refine A_idxN1 rfl rfl rfl (by omega) ?_ | refine A_idx1 rfl rfl rfl (by omega) ?_ | refine A_idxArr1 rfl rfl rfl (by omega) ?_
 | (refine A_callB rfl rfl (fun s H => c_l02Is) ?_ ?_ <;> intro hc <;> try first | contradiction | (exfalso; omega) | exact absurd rfl hc | exact absurd (And.intro rfl rfl) hc | exact absurd (And.intro rfl (And.intro rfl rfl)) hc | exact absurd (Eq.trans (by assumption) (Eq.symm (by assumption))) hc)
 | refine A_callV rfl rfl (fun s H => c_l03Wide (w := w)) ?_
 | (refine A_callB rfl rfl (fun s H => c_l00In) ?_ ?_ <;> intro hc <;> try first | contradiction | (exfalso; omega) | exact absurd rfl hc | exact absurd (And.intro rfl rfl) hc | exact absurd (And.intro rfl (And.intro rfl rfl)) hc | exact absurd (Eq.trans (by assumption) (Eq.symm (by assumption))) hc)
 | refine A_fld rfl rfl ?_ | refine A_mk3 rfl rfl rfl rfl ?_ | refine A_mk23 rfl rfl rfl ?_ | refine A_mk2 rfl rfl rfl ?_ | refine A_mk13 rfl rfl ?_ | refine A_p (by rfl) rfl ?_
 | refine A_ldI rfl (by first | omega | (simp; done) | (simp; omega)) rfl ?_ | refine A_ldB rfl (by first | omega | (simp; done) | (simp; omega)) rfl ?_ | refine A_ld rfl (by rfl) rfl ?_ | refine A_ldW rfl (by simp) rfl ?_
 | refine A_st rfl rfl rfl ?_ | refine A_stW rfl rfl (by simp) rfl ?_ | refine A_stE rfl rfl (by first | omega | (simp; done) | (simp; omega)) rfl ?_
 | ((first | refine A_alloc rfl ?_ | refine A_box rfl rfl ?_ | refine A_boxC rfl rfl ?_ | refine A_makeN rfl rfl rfl (by omega) ?_ | refine A_make rfl rfl rfl (by omega) ?_ | refine A_bld1 rfl rfl ?_ | refine A_bld2 rfl rfl rfl ?_ | refine A_bld4 rfl rfl rfl rfl rfl ?_) <;> intro pz hpz)
 | refine A_bld0 rfl ?_ | (refine A_app rfl rfl rfl (by first | omega | (simp; done) | (simp; omega)) (by first | omega | (simp; done) | (simp; omega)) (by omega) ?_; intro pz) | (refine A_appN (enc := ic) rfl (by decide) rfl rfl (by first | omega | (simp; done) | (simp; omega)) (by omega) ?_; intro pz)
 | refine A_chk1 rfl rfl rfl ?_ | refine A_chk2 rfl rfl rfl rfl ?_ | refine A_chk3 rfl rfl rfl rfl rfl ?_ | refine A_chk4 rfl rfl rfl rfl rfl rfl ?_ | refine A_chkI rfl (by assumption) rfl (by simp) ?_
 | refine A_ret1 rfl (by first | exact (RP.t rfl RP.nil) | exact (RP.c rfl inferInstance rfl (by simp) RP.nil)) ?_ | refine A_ret rfl (by first | exact (RP.t rfl (RP.t rfl RP.nil)) | exact (RP.c rfl inferInstance rfl (by simp) (RP.t rfl RP.nil)) | exact (RP.t rfl (RP.t rfl (RP.t rfl RP.nil))) | exact (RP.c rfl inferInstance rfl (by simp) (RP.t rfl (RP.t rfl RP.nil))) | exact (RP.c rfl inferInstance rfl (by simp) (RP.t rfl (RP.t rfl (RP.t rfl (RP.t rfl RP.nil)))))) ?_ | refine A_ret0 rfl ?_)
    exact R_num2N fun h => hs h.1.2
  have e : AddsP S re xs = Adds S w xs := by rw [AddsP, hw]; rfl
  by_cases hA : Adds S w xs
  case neg =>
    repeat' (first
 | refine A_go rfl ?_ | refine A_ifT rfl rfl ?_ | refine A_ifF rfl rfl ?_ | refine A_offP rfl rfl ?_ | refine A_offH rfl rfl ?_ | refine A_off0 rfl rfl ?_
 | refine A_add rfl rfl rfl (by omega) ?_ | refine A_sub rfl rfl rfl (by omega) ?_ | refine A_mul rfl rfl rfl (by omega) ?_ | refine A_rem rfl rfl rfl (by omega) ?_ | refine A_remT rfl rfl rfl (by omega) ?_ | refine A_quo rfl rfl rfl (by omega) ?_
 | ((first | refine A_lt rfl rfl rfl ?_ ?_ | refine A_le rfl rfl rfl ?_ ?_ | refine A_gt rfl rfl rfl ?_ ?_ | refine A_ge rfl rfl rfl ?_ ?_ | refine A_eq rfl rfl rfl ?_ ?_ | refine A_ne rfl rfl rfl ?_ ?_ | refine A_beq rfl rfl rfl ?_ ?_) <;> intro hc <;> try first | contradiction | (exfalso; omega) | exact absurd rfl hc)
 | refine A_idxN1 rfl rfl rfl (by omega) ?_ | refine A_idx1 rfl rfl rfl (by omega) ?_ | refine A_idxArr1 rfl rfl rfl (by omega) ?_
 | (refine A_callB rfl rfl (fun s H => c_l02Is) ?_ ?_ <;> intro hc <;> try first | contradiction | (exfalso; omega) | exact absurd rfl hc | exact absurd (And.intro rfl rfl) hc | exact absurd (And.intro rfl (And.intro rfl rfl)) hc | exact absurd (Eq.trans (by assumption) (Eq.symm (by assumption))) hc)
 | refine A_callV rfl rfl (fun s H => c_l03Wide (w := w)) ?_
 | (refine A_callB rfl rfl (fun s H => c_l00In) ?_ ?_ <;> intro hc <;> try first | contradiction | (exfalso; omega) | exact absurd rfl hc | exact absurd (And.intro rfl rfl) hc | exact absurd (And.intro rfl (And.intro rfl rfl)) hc | exact absurd (Eq.trans (by assumption) (Eq.symm (by assumption))) hc)
 | (refine A_callM rfl rfl (fun s H => c_l03TermsN (hE := hE) (hl := hl) (hd := hdg) (hA := hA)) ?_; rintro _ _ ⟨pz, rfl, rfl⟩) | (refine A_callM0 rfl rfl (fun s H => c_l03TermsN (hE := hE) (hl := hl) (hd := hdg) (hA := hA)) ?_; rintro _ _ ⟨pz, rfl, rfl⟩)
 | refine A_fld rfl rfl ?_ | refine A_mk3 rfl rfl rfl rfl ?_ | refine A_mk23 rfl rfl rfl ?_ | refine A_mk2 rfl rfl rfl ?_ | refine A_mk13 rfl rfl ?_ | refine A_p (by rfl) rfl ?_
 | refine A_ldI rfl (by first | omega | (simp; done) | (simp; omega)) rfl ?_ | refine A_ldB rfl (by first | omega | (simp; done) | (simp; omega)) rfl ?_ | refine A_ld rfl (by rfl) rfl ?_ | refine A_ldW rfl (by simp) rfl ?_
 | refine A_st rfl rfl rfl ?_ | refine A_stW rfl rfl (by simp) rfl ?_ | refine A_stE rfl rfl (by first | omega | (simp; done) | (simp; omega)) rfl ?_
 | ((first | refine A_alloc rfl ?_ | refine A_box rfl rfl ?_ | refine A_boxC rfl rfl ?_ | refine A_makeN rfl rfl rfl (by omega) ?_ | refine A_make rfl rfl rfl (by omega) ?_ | refine A_bld1 rfl rfl ?_ | refine A_bld2 rfl rfl rfl ?_ | refine A_bld4 rfl rfl rfl rfl rfl ?_) <;> intro pz hpz)
 | refine A_bld0 rfl ?_ | (refine A_app rfl rfl rfl (by first | omega | (simp; done) | (simp; omega)) (by first | omega | (simp; done) | (simp; omega)) (by omega) ?_; intro pz) | (refine A_appN (enc := ic) rfl (by decide) rfl rfl (by first | omega | (simp; done) | (simp; omega)) (by omega) ?_; intro pz)
 | refine A_chk1 rfl rfl rfl ?_ | refine A_chk2 rfl rfl rfl rfl ?_ | refine A_chk3 rfl rfl rfl rfl rfl ?_ | refine A_chk4 rfl rfl rfl rfl rfl rfl ?_ | refine A_chkI rfl (by assumption) rfl (by simp) ?_
 | refine A_ret1 rfl (by first | exact (RP.t rfl RP.nil) | exact (RP.c rfl inferInstance rfl (by simp) RP.nil)) ?_ | refine A_ret rfl (by first | exact (RP.t rfl (RP.t rfl RP.nil)) | exact (RP.c rfl inferInstance rfl (by simp) (RP.t rfl RP.nil)) | exact (RP.t rfl (RP.t rfl (RP.t rfl RP.nil))) | exact (RP.c rfl inferInstance rfl (by simp) (RP.t rfl (RP.t rfl RP.nil))) | exact (RP.c rfl inferInstance rfl (by simp) (RP.t rfl (RP.t rfl (RP.t rfl (RP.t rfl RP.nil)))))) ?_ | refine A_ret0 rfl ?_)
    exact R_num2N fun h => hA (by have := h.1.1.2; rw [e] at this; exact this)
  obtain ⟨most, rfl⟩ : ∃ n : Nat, most0 = n := ⟨most0.toNat, by omega⟩
  obtain ⟨n, rfl⟩ : ∃ n : Nat, n0 = n := ⟨n0.toNat, by omega⟩
  have hre := hv.2.1
  obtain ⟨R, rfl⟩ : ∃ R : Nat, re = R := ⟨re.toNat, by omega⟩
  have hr := imp_rg (S := S) (n := n) (by omega) (by omega)
  have e2 : ApP S R xs n most = PerP (runR S R xs (imp n)) most := propext ⟨fun h => h.2, fun h => ⟨⟨⟨⟨hv, by omega⟩, e ▸ hA⟩, hs⟩, h⟩⟩
  rw [Int.toNat_natCast, e2]
  have hx : ∀ i j, runR S R xs (imp n) i = runR S R xs (imp n) j → runR S R xs (imp n) (i + 1) = runR S R xs (imp n) (j + 1) := runR_up
  have hlen : ∀ i, (runR S R xs (imp n) i).length = n := fun i => by rw [runR_len, imp_len]
  have hrg := fun i => runR_rg hv hr i
  have hdn := fun i => rg_dg (hrg i)
  have hi0 := imp_dg (S := S) (n := n) (by omega)
  have hod := onc_in (S := S) (R := R) (n := n) (ts := trm S w xs) (by omega) (by omega) w
  have htd := trm_dg hE hS.1 hl hdg
  have hst : ∀ i, turA S (runR S R xs (imp n) i) (onc S R n (trm S w xs) w) = runR S R xs (imp n) (i + 1) := fun i => by
    have h := turA_step hA hv (hrg i) hw (by rw [hlen]; omega)
    rw [hlen, Int.toNat_natCast] at h; exact h
  have hst0 := hst 0
  have hst1 := hst 1
  have hno : ∀ P : Nat, 1 ≤ P → (P = 1 ∨ ∃ P', P = 2 * P' ∧ 1 ≤ P' ∧ ∀ k, 1 ≤ k → k ≤ P' → runR S R xs (imp n) (P' - 1) ≠ runR S R xs (imp n) (P' - 1 + k)) → (2 * most < P) → ¬ PerP (runR S R xs (imp n)) most := fun P h1 h2 h3 ⟨u, v, h4, h5⟩ => by
    have hv := h4.pos
    rcases h2 with h2 | ⟨P', rfl, h6, h7⟩
    · omega
    · have := h4.miss hx h7 h6; omega
  repeat' (first
 | refine A_go rfl ?_ | refine A_ifT rfl rfl ?_ | refine A_ifF rfl rfl ?_ | refine A_offP rfl rfl ?_ | refine A_offH rfl rfl ?_ | refine A_off0 rfl rfl ?_
 | refine A_add rfl rfl rfl (by omega) ?_ | refine A_sub rfl rfl rfl (by omega) ?_ | refine A_mul rfl rfl rfl (by omega) ?_ | refine A_rem rfl rfl rfl (by omega) ?_ | refine A_remT rfl rfl rfl (by omega) ?_ | refine A_quo rfl rfl rfl (by omega) ?_
 | ((first | refine A_lt rfl rfl rfl ?_ ?_ | refine A_le rfl rfl rfl ?_ ?_ | refine A_gt rfl rfl rfl ?_ ?_ | refine A_ge rfl rfl rfl ?_ ?_ | refine A_eq rfl rfl rfl ?_ ?_ | refine A_ne rfl rfl rfl ?_ ?_ | refine A_beq rfl rfl rfl ?_ ?_) <;> intro hc <;> try first | contradiction | (exfalso; omega) | exact absurd rfl hc)
 | refine A_idxN1 rfl rfl rfl (by omega) ?_ | refine A_idx1 rfl rfl rfl (by omega) ?_ | refine A_idxArr1 rfl rfl rfl (by omega) ?_
 | (refine A_callB rfl rfl (fun s H => c_l02Is) ?_ ?_ <;> intro hc <;> try first | contradiction | (exfalso; omega) | exact absurd rfl hc | exact absurd (And.intro rfl rfl) hc | exact absurd (And.intro rfl (And.intro rfl rfl)) hc | exact absurd (Eq.trans (by assumption) (Eq.symm (by assumption))) hc)
 | refine A_callV rfl rfl (fun s H => c_l03Wide (w := w)) ?_
 | (refine A_callB rfl rfl (fun s H => c_l00In) ?_ ?_ <;> intro hc <;> try first | contradiction | (exfalso; omega) | exact absurd rfl hc | exact absurd (And.intro rfl rfl) hc | exact absurd (And.intro rfl (And.intro rfl rfl)) hc | exact absurd (Eq.trans (by assumption) (Eq.symm (by assumption))) hc)
 | (refine A_callM rfl rfl (fun s H => c_l03TermsY (hE := hE) (hl := hl) (hd := hdg) (hA := hA)) ?_; rintro _ _ ⟨pz, rfl, rfl⟩) | (refine A_callM0 rfl rfl (fun s H => c_l03TermsY (hE := hE) (hl := hl) (hd := hdg) (hA := hA)) ?_; rintro _ _ ⟨pz, rfl, rfl⟩)
 | (refine A_callM rfl rfl (fun s H => c_l03Once (n := n) (w := w) (hS := hS) (hd := htd)) ?_; rintro _ _ ⟨pz, rfl, rfl⟩) | (refine A_callM0 rfl rfl (fun s H => c_l03Once (n := n) (w := w) (hS := hS) (hd := htd)) ?_; rintro _ _ ⟨pz, rfl, rfl⟩)
 | refine A_fld rfl rfl ?_ | refine A_mk3 rfl rfl rfl rfl ?_ | refine A_mk23 rfl rfl rfl ?_ | refine A_mk2 rfl rfl rfl ?_ | refine A_mk13 rfl rfl ?_ | refine A_p (by rfl) rfl ?_
 | refine A_ldI rfl (by first | omega | (simp; done) | (simp; omega)) rfl ?_ | refine A_ldB rfl (by first | omega | (simp; done) | (simp; omega)) rfl ?_ | refine A_ld rfl (by rfl) rfl ?_ | refine A_ldW rfl (by simp) rfl ?_
 | refine A_st rfl rfl rfl ?_ | refine A_stW rfl rfl (by simp) rfl ?_ | refine A_stE rfl rfl (by first | omega | (simp; done) | (simp; omega)) rfl ?_
 | ((first | refine A_alloc rfl ?_ | refine A_box rfl rfl ?_ | refine A_boxC rfl rfl ?_ | refine A_makeN rfl rfl rfl (by omega) ?_ | refine A_make rfl rfl rfl (by omega) ?_ | refine A_bld1 rfl rfl ?_ | refine A_bld2 rfl rfl rfl ?_ | refine A_bld4 rfl rfl rfl rfl rfl ?_) <;> intro pz hpz)
 | refine A_bld0 rfl ?_ | (refine A_app rfl rfl rfl (by first | omega | (simp; done) | (simp; omega)) (by first | omega | (simp; done) | (simp; omega)) (by omega) ?_; intro pz) | (refine A_appN (enc := ic) rfl (by decide) rfl rfl (by first | omega | (simp; done) | (simp; omega)) (by omega) ?_; intro pz)
 | refine A_chk1 rfl rfl rfl ?_ | refine A_chk2 rfl rfl rfl rfl ?_ | refine A_chk3 rfl rfl rfl rfl rfl ?_ | refine A_chk4 rfl rfl rfl rfl rfl rfl ?_ | refine A_chkI rfl (by assumption) rfl (by simp) ?_
 | refine A_ret1 rfl (by first | exact (RP.t rfl RP.nil) | exact (RP.c rfl inferInstance rfl (by simp) RP.nil)) ?_ | refine A_ret rfl (by first | exact (RP.t rfl (RP.t rfl RP.nil)) | exact (RP.c rfl inferInstance rfl (by simp) (RP.t rfl RP.nil)) | exact (RP.t rfl (RP.t rfl (RP.t rfl RP.nil))) | exact (RP.c rfl inferInstance rfl (by simp) (RP.t rfl (RP.t rfl RP.nil))) | exact (RP.c rfl inferInstance rfl (by simp) (RP.t rfl (RP.t rfl (RP.t rfl (RP.t rfl RP.nil)))))) ?_ | refine A_ret0 rfl ?_)
  obtain ⟨p0, hEq⟩ : ∃ p, p = pz := ⟨_, rfl⟩; subst hEq
  obtain ⟨po, hEq⟩ : ∃ p, p = pz := ⟨_, rfl⟩; subst hEq
  obtain ⟨qt, hEq⟩ : ∃ p, p = pz := ⟨_, rfl⟩; subst hEq
  obtain ⟨q, hEq⟩ : ∃ p, p = pz := ⟨_, rfl⟩; subst hEq
  try rw [show (List.replicate n (0 : Int)).set (Int.toNat 0) 1 = imp n from rfl]
  repeat' (first
 | refine A_go rfl ?_ | refine A_ifT rfl rfl ?_ | refine A_ifF rfl rfl ?_ | refine A_offP rfl rfl ?_ | refine A_offH rfl rfl ?_ | refine A_off0 rfl rfl ?_
 | refine A_add rfl rfl rfl (by omega) ?_ | refine A_sub rfl rfl rfl (by omega) ?_ | refine A_mul rfl rfl rfl (by omega) ?_ | refine A_rem rfl rfl rfl (by omega) ?_ | refine A_remT rfl rfl rfl (by omega) ?_ | refine A_quo rfl rfl rfl (by omega) ?_
 | ((first | refine A_lt rfl rfl rfl ?_ ?_ | refine A_le rfl rfl rfl ?_ ?_ | refine A_gt rfl rfl rfl ?_ ?_ | refine A_ge rfl rfl rfl ?_ ?_ | refine A_eq rfl rfl rfl ?_ ?_ | refine A_ne rfl rfl rfl ?_ ?_ | refine A_beq rfl rfl rfl ?_ ?_) <;> intro hc <;> try first | contradiction | (exfalso; omega) | exact absurd rfl hc)
 | refine A_idxN1 rfl rfl rfl (by omega) ?_ | refine A_idx1 rfl rfl rfl (by omega) ?_ | refine A_idxArr1 rfl rfl rfl (by omega) ?_
 | (refine A_callM rfl rfl (fun s H => c_l03Turn (n := n) (hS := hS) (ha := hi0) (hb := hod)) ?_; rintro _ _ ⟨pz, rfl, rfl⟩) | (refine A_callM0 rfl rfl (fun s H => c_l03Turn (n := n) (hS := hS) (ha := hi0) (hb := hod)) ?_; rintro _ _ ⟨pz, rfl, rfl⟩)
 | refine A_fld rfl rfl ?_ | refine A_mk3 rfl rfl rfl rfl ?_ | refine A_mk23 rfl rfl rfl ?_ | refine A_mk2 rfl rfl rfl ?_ | refine A_mk13 rfl rfl ?_ | refine A_p (by rfl) rfl ?_
 | refine A_ldI rfl (by first | omega | (simp; done) | (simp; omega)) rfl ?_ | refine A_ldB rfl (by first | omega | (simp; done) | (simp; omega)) rfl ?_ | refine A_ld rfl (by rfl) rfl ?_ | refine A_ldW rfl (by simp) rfl ?_
 | refine A_st rfl rfl rfl ?_ | refine A_stW rfl rfl (by simp) rfl ?_ | refine A_stE rfl rfl (by first | omega | (simp; done) | (simp; omega)) rfl ?_
 | ((first | refine A_alloc rfl ?_ | refine A_box rfl rfl ?_ | refine A_boxC rfl rfl ?_ | refine A_makeN rfl rfl rfl (by omega) ?_ | refine A_make rfl rfl rfl (by omega) ?_ | refine A_bld1 rfl rfl ?_ | refine A_bld2 rfl rfl rfl ?_ | refine A_bld4 rfl rfl rfl rfl rfl ?_) <;> intro pz hpz)
 | refine A_bld0 rfl ?_ | (refine A_app rfl rfl rfl (by first | omega | (simp; done) | (simp; omega)) (by first | omega | (simp; done) | (simp; omega)) (by omega) ?_; intro pz) | (refine A_appN (enc := ic) rfl (by decide) rfl rfl (by first | omega | (simp; done) | (simp; omega)) (by omega) ?_; intro pz)
 | refine A_chk1 rfl rfl rfl ?_ | refine A_chk2 rfl rfl rfl rfl ?_ | refine A_chk3 rfl rfl rfl rfl rfl ?_ | refine A_chk4 rfl rfl rfl rfl rfl rfl ?_ | refine A_chkI rfl (by assumption) rfl (by simp) ?_
 | refine A_ret1 rfl (by first | exact (RP.t rfl RP.nil) | exact (RP.c rfl inferInstance rfl (by simp) RP.nil)) ?_ | refine A_ret rfl (by first | exact (RP.t rfl (RP.t rfl RP.nil)) | exact (RP.c rfl inferInstance rfl (by simp) (RP.t rfl RP.nil)) | exact (RP.t rfl (RP.t rfl (RP.t rfl RP.nil))) | exact (RP.c rfl inferInstance rfl (by simp) (RP.t rfl (RP.t rfl RP.nil))) | exact (RP.c rfl inferInstance rfl (by simp) (RP.t rfl (RP.t rfl (RP.t rfl (RP.t rfl RP.nil)))))) ?_ | refine A_ret0 rfl ?_)
  obtain ⟨p1, hEq⟩ : ∃ p, p = pz := ⟨_, rfl⟩; subst hEq
  rw [show turA S (imp n) (onc S R n (trm S w xs) w) = runR S R xs (imp n) 1 from hst0]
  have hl1 := hlen 1
  by_cases h01 : imp n = runR S R xs (imp n) 1
  · have hper : Per (runR S R xs (imp n)) 0 1 := ⟨by omega, h01, fun k hk h => by obtain ⟨i, hi, _⟩ := h; omega⟩
    refine A_unroll rfl ?_
    repeat' (first
 | refine A_go rfl ?_ | refine A_ifT rfl rfl ?_ | refine A_ifF rfl rfl ?_ | refine A_offP rfl rfl ?_ | refine A_offH rfl rfl ?_ | refine A_off0 rfl rfl ?_
 | refine A_add rfl rfl rfl (by omega) ?_ | refine A_sub rfl rfl rfl (by omega) ?_ | refine A_mul rfl rfl rfl (by omega) ?_ | refine A_rem rfl rfl rfl (by omega) ?_ | refine A_remT rfl rfl rfl (by omega) ?_ | refine A_quo rfl rfl rfl (by omega) ?_
 | ((first | refine A_lt rfl rfl rfl ?_ ?_ | refine A_le rfl rfl rfl ?_ ?_ | refine A_gt rfl rfl rfl ?_ ?_ | refine A_ge rfl rfl rfl ?_ ?_ | refine A_eq rfl rfl rfl ?_ ?_ | refine A_ne rfl rfl rfl ?_ ?_ | refine A_beq rfl rfl rfl ?_ ?_) <;> intro hc <;> try first | contradiction | (exfalso; omega) | exact absurd rfl hc)
 | refine A_idxN1 rfl rfl rfl (by omega) ?_ | refine A_idx1 rfl rfl rfl (by omega) ?_ | refine A_idxArr1 rfl rfl rfl (by omega) ?_
 | (refine A_callB rfl rfl (fun s H => c_l00Same (xs := imp n) (ys := runR S R xs (imp n) 1)) ?_ ?_ <;> intro hc <;> try first | contradiction | (exfalso; omega) | exact absurd rfl hc | exact absurd (And.intro rfl rfl) hc | exact absurd (And.intro rfl (And.intro rfl rfl)) hc | exact absurd (Eq.trans (by assumption) (Eq.symm (by assumption))) hc)
 | refine A_fld rfl rfl ?_ | refine A_mk3 rfl rfl rfl rfl ?_ | refine A_mk23 rfl rfl rfl ?_ | refine A_mk2 rfl rfl rfl ?_ | refine A_mk13 rfl rfl ?_ | refine A_p (by rfl) rfl ?_
 | refine A_ldI rfl (by first | omega | (simp; done) | (simp; omega)) rfl ?_ | refine A_ldB rfl (by first | omega | (simp; done) | (simp; omega)) rfl ?_ | refine A_ld rfl (by rfl) rfl ?_ | refine A_ldW rfl (by simp) rfl ?_
 | refine A_st rfl rfl rfl ?_ | refine A_stW rfl rfl (by simp) rfl ?_ | refine A_stE rfl rfl (by first | omega | (simp; done) | (simp; omega)) rfl ?_
 | ((first | refine A_alloc rfl ?_ | refine A_box rfl rfl ?_ | refine A_boxC rfl rfl ?_ | refine A_makeN rfl rfl rfl (by omega) ?_ | refine A_make rfl rfl rfl (by omega) ?_ | refine A_bld1 rfl rfl ?_ | refine A_bld2 rfl rfl rfl ?_ | refine A_bld4 rfl rfl rfl rfl rfl ?_) <;> intro pz hpz)
 | refine A_bld0 rfl ?_ | (refine A_app rfl rfl rfl (by first | omega | (simp; done) | (simp; omega)) (by first | omega | (simp; done) | (simp; omega)) (by omega) ?_; intro pz) | (refine A_appN (enc := ic) rfl (by decide) rfl rfl (by first | omega | (simp; done) | (simp; omega)) (by omega) ?_; intro pz)
 | refine A_chk1 rfl rfl rfl ?_ | refine A_chk2 rfl rfl rfl rfl ?_ | refine A_chk3 rfl rfl rfl rfl rfl ?_ | refine A_chk4 rfl rfl rfl rfl rfl rfl ?_ | refine A_chkI rfl (by assumption) rfl (by simp) ?_
 | refine A_ret1 rfl (by first | exact (RP.t rfl RP.nil) | exact (RP.c rfl inferInstance rfl (by simp) RP.nil)) ?_ | refine A_ret rfl (by first | exact (RP.t rfl (RP.t rfl RP.nil)) | exact (RP.c rfl inferInstance rfl (by simp) (RP.t rfl RP.nil)) | exact (RP.t rfl (RP.t rfl (RP.t rfl RP.nil))) | exact (RP.c rfl inferInstance rfl (by simp) (RP.t rfl (RP.t rfl RP.nil))) | exact (RP.c rfl inferInstance rfl (by simp) (RP.t rfl (RP.t rfl (RP.t rfl (RP.t rfl RP.nil)))))) ?_ | refine A_ret0 rfl ?_)
    refine A_unroll rfl ?_
    repeat' (first
 | refine A_go rfl ?_ | refine A_ifT rfl rfl ?_ | refine A_ifF rfl rfl ?_ | refine A_offP rfl rfl ?_ | refine A_offH rfl rfl ?_ | refine A_off0 rfl rfl ?_
 | refine A_add rfl rfl rfl (by omega) ?_ | refine A_sub rfl rfl rfl (by omega) ?_ | refine A_mul rfl rfl rfl (by omega) ?_ | refine A_rem rfl rfl rfl (by omega) ?_ | refine A_remT rfl rfl rfl (by omega) ?_ | refine A_quo rfl rfl rfl (by omega) ?_
 | ((first | refine A_lt rfl rfl rfl ?_ ?_ | refine A_le rfl rfl rfl ?_ ?_ | refine A_gt rfl rfl rfl ?_ ?_ | refine A_ge rfl rfl rfl ?_ ?_ | refine A_eq rfl rfl rfl ?_ ?_ | refine A_ne rfl rfl rfl ?_ ?_ | refine A_beq rfl rfl rfl ?_ ?_) <;> intro hc <;> try first | contradiction | (exfalso; omega) | exact absurd rfl hc)
 | refine A_idxN1 rfl rfl rfl (by omega) ?_ | refine A_idx1 rfl rfl rfl (by omega) ?_ | refine A_idxArr1 rfl rfl rfl (by omega) ?_
 | (refine A_callM rfl rfl (fun s H => c_l03Turn (n := n) (hS := hS) (ha := hi0) (hb := hod)) ?_; rintro _ _ ⟨pz, rfl, rfl⟩) | (refine A_callM0 rfl rfl (fun s H => c_l03Turn (n := n) (hS := hS) (ha := hi0) (hb := hod)) ?_; rintro _ _ ⟨pz, rfl, rfl⟩)
 | refine A_fld rfl rfl ?_ | refine A_mk3 rfl rfl rfl rfl ?_ | refine A_mk23 rfl rfl rfl ?_ | refine A_mk2 rfl rfl rfl ?_ | refine A_mk13 rfl rfl ?_ | refine A_p (by rfl) rfl ?_
 | refine A_ldI rfl (by first | omega | (simp; done) | (simp; omega)) rfl ?_ | refine A_ldB rfl (by first | omega | (simp; done) | (simp; omega)) rfl ?_ | refine A_ld rfl (by rfl) rfl ?_ | refine A_ldW rfl (by simp) rfl ?_
 | refine A_st rfl rfl rfl ?_ | refine A_stW rfl rfl (by simp) rfl ?_ | refine A_stE rfl rfl (by first | omega | (simp; done) | (simp; omega)) rfl ?_
 | ((first | refine A_alloc rfl ?_ | refine A_box rfl rfl ?_ | refine A_boxC rfl rfl ?_ | refine A_makeN rfl rfl rfl (by omega) ?_ | refine A_make rfl rfl rfl (by omega) ?_ | refine A_bld1 rfl rfl ?_ | refine A_bld2 rfl rfl rfl ?_ | refine A_bld4 rfl rfl rfl rfl rfl ?_) <;> intro pz hpz)
 | refine A_bld0 rfl ?_ | (refine A_app rfl rfl rfl (by first | omega | (simp; done) | (simp; omega)) (by first | omega | (simp; done) | (simp; omega)) (by omega) ?_; intro pz) | (refine A_appN (enc := ic) rfl (by decide) rfl rfl (by first | omega | (simp; done) | (simp; omega)) (by omega) ?_; intro pz)
 | refine A_chk1 rfl rfl rfl ?_ | refine A_chk2 rfl rfl rfl rfl ?_ | refine A_chk3 rfl rfl rfl rfl rfl ?_ | refine A_chk4 rfl rfl rfl rfl rfl rfl ?_ | refine A_chkI rfl (by assumption) rfl (by simp) ?_
 | refine A_ret1 rfl (by first | exact (RP.t rfl RP.nil) | exact (RP.c rfl inferInstance rfl (by simp) RP.nil)) ?_ | refine A_ret rfl (by first | exact (RP.t rfl (RP.t rfl RP.nil)) | exact (RP.c rfl inferInstance rfl (by simp) (RP.t rfl RP.nil)) | exact (RP.t rfl (RP.t rfl (RP.t rfl RP.nil))) | exact (RP.c rfl inferInstance rfl (by simp) (RP.t rfl (RP.t rfl RP.nil))) | exact (RP.c rfl inferInstance rfl (by simp) (RP.t rfl (RP.t rfl (RP.t rfl (RP.t rfl RP.nil)))))) ?_ | refine A_ret0 rfl ?_)
    refine A_unroll rfl ?_
    repeat' (first
 | refine A_go rfl ?_ | refine A_ifT rfl rfl ?_ | refine A_ifF rfl rfl ?_ | refine A_offP rfl rfl ?_ | refine A_offH rfl rfl ?_ | refine A_off0 rfl rfl ?_
 | refine A_add rfl rfl rfl (by omega) ?_ | refine A_sub rfl rfl rfl (by omega) ?_ | refine A_mul rfl rfl rfl (by omega) ?_ | refine A_rem rfl rfl rfl (by omega) ?_ | refine A_remT rfl rfl rfl (by omega) ?_ | refine A_quo rfl rfl rfl (by omega) ?_
 | ((first | refine A_lt rfl rfl rfl ?_ ?_ | refine A_le rfl rfl rfl ?_ ?_ | refine A_gt rfl rfl rfl ?_ ?_ | refine A_ge rfl rfl rfl ?_ ?_ | refine A_eq rfl rfl rfl ?_ ?_ | refine A_ne rfl rfl rfl ?_ ?_ | refine A_beq rfl rfl rfl ?_ ?_) <;> intro hc <;> try first | contradiction | (exfalso; omega) | exact absurd rfl hc)
 | refine A_idxN1 rfl rfl rfl (by omega) ?_ | refine A_idx1 rfl rfl rfl (by omega) ?_ | refine A_idxArr1 rfl rfl rfl (by omega) ?_
 | refine A_fld rfl rfl ?_ | refine A_mk3 rfl rfl rfl rfl ?_ | refine A_mk23 rfl rfl rfl ?_ | refine A_mk2 rfl rfl rfl ?_ | refine A_mk13 rfl rfl ?_ | refine A_p (by rfl) rfl ?_
 | refine A_ldI rfl (by first | omega | (simp; done) | (simp; omega)) rfl ?_ | refine A_ldB rfl (by first | omega | (simp; done) | (simp; omega)) rfl ?_ | refine A_ld rfl (by rfl) rfl ?_ | refine A_ldW rfl (by simp) rfl ?_
 | refine A_st rfl rfl rfl ?_ | refine A_stW rfl rfl (by simp) rfl ?_ | refine A_stE rfl rfl (by first | omega | (simp; done) | (simp; omega)) rfl ?_
 | ((first | refine A_alloc rfl ?_ | refine A_box rfl rfl ?_ | refine A_boxC rfl rfl ?_ | refine A_makeN rfl rfl rfl (by omega) ?_ | refine A_make rfl rfl rfl (by omega) ?_ | refine A_bld1 rfl rfl ?_ | refine A_bld2 rfl rfl rfl ?_ | refine A_bld4 rfl rfl rfl rfl rfl ?_) <;> intro pz hpz)
 | refine A_bld0 rfl ?_ | (refine A_app rfl rfl rfl (by first | omega | (simp; done) | (simp; omega)) (by first | omega | (simp; done) | (simp; omega)) (by omega) ?_; intro pz) | (refine A_appN (enc := ic) rfl (by decide) rfl rfl (by first | omega | (simp; done) | (simp; omega)) (by omega) ?_; intro pz)
 | refine A_chk1 rfl rfl rfl ?_ | refine A_chk2 rfl rfl rfl rfl ?_ | refine A_chk3 rfl rfl rfl rfl rfl ?_ | refine A_chk4 rfl rfl rfl rfl rfl rfl ?_ | refine A_chkI rfl (by assumption) rfl (by simp) ?_
 | refine A_ret1 rfl (by first | exact (RP.t rfl RP.nil) | exact (RP.c rfl inferInstance rfl (by simp) RP.nil)) ?_ | refine A_ret rfl (by first | exact (RP.t rfl (RP.t rfl RP.nil)) | exact (RP.c rfl inferInstance rfl (by simp) (RP.t rfl RP.nil)) | exact (RP.t rfl (RP.t rfl (RP.t rfl RP.nil))) | exact (RP.c rfl inferInstance rfl (by simp) (RP.t rfl (RP.t rfl RP.nil))) | exact (RP.c rfl inferInstance rfl (by simp) (RP.t rfl (RP.t rfl (RP.t rfl (RP.t rfl RP.nil)))))) ?_ | refine A_ret0 rfl ?_)
    rw [show turA S (imp n) (onc S R n (trm S w xs) w) = runR S R xs (imp n) 1 from hst0]
    refine A_unroll rfl ?_
    repeat' (first
 | refine A_go rfl ?_ | refine A_ifT rfl rfl ?_ | refine A_ifF rfl rfl ?_ | refine A_offP rfl rfl ?_ | refine A_offH rfl rfl ?_ | refine A_off0 rfl rfl ?_
 | refine A_add rfl rfl rfl (by omega) ?_ | refine A_sub rfl rfl rfl (by omega) ?_ | refine A_mul rfl rfl rfl (by omega) ?_ | refine A_rem rfl rfl rfl (by omega) ?_ | refine A_remT rfl rfl rfl (by omega) ?_ | refine A_quo rfl rfl rfl (by omega) ?_
 | ((first | refine A_lt rfl rfl rfl ?_ ?_ | refine A_le rfl rfl rfl ?_ ?_ | refine A_gt rfl rfl rfl ?_ ?_ | refine A_ge rfl rfl rfl ?_ ?_ | refine A_eq rfl rfl rfl ?_ ?_ | refine A_ne rfl rfl rfl ?_ ?_ | refine A_beq rfl rfl rfl ?_ ?_) <;> intro hc <;> try first | contradiction | (exfalso; omega) | exact absurd rfl hc)
 | refine A_idxN1 rfl rfl rfl (by omega) ?_ | refine A_idx1 rfl rfl rfl (by omega) ?_ | refine A_idxArr1 rfl rfl rfl (by omega) ?_
 | (refine A_callB rfl rfl (fun s H => c_l00Same (xs := imp n) (ys := runR S R xs (imp n) 1)) ?_ ?_ <;> intro hc <;> try first | contradiction | (exfalso; omega) | exact absurd rfl hc | exact absurd (And.intro rfl rfl) hc | exact absurd (And.intro rfl (And.intro rfl rfl)) hc | exact absurd (Eq.trans (by assumption) (Eq.symm (by assumption))) hc)
 | refine A_fld rfl rfl ?_ | refine A_mk3 rfl rfl rfl rfl ?_ | refine A_mk23 rfl rfl rfl ?_ | refine A_mk2 rfl rfl rfl ?_ | refine A_mk13 rfl rfl ?_ | refine A_p (by rfl) rfl ?_
 | refine A_ldI rfl (by first | omega | (simp; done) | (simp; omega)) rfl ?_ | refine A_ldB rfl (by first | omega | (simp; done) | (simp; omega)) rfl ?_ | refine A_ld rfl (by rfl) rfl ?_ | refine A_ldW rfl (by simp) rfl ?_
 | refine A_st rfl rfl rfl ?_ | refine A_stW rfl rfl (by simp) rfl ?_ | refine A_stE rfl rfl (by first | omega | (simp; done) | (simp; omega)) rfl ?_
 | ((first | refine A_alloc rfl ?_ | refine A_box rfl rfl ?_ | refine A_boxC rfl rfl ?_ | refine A_makeN rfl rfl rfl (by omega) ?_ | refine A_make rfl rfl rfl (by omega) ?_ | refine A_bld1 rfl rfl ?_ | refine A_bld2 rfl rfl rfl ?_ | refine A_bld4 rfl rfl rfl rfl rfl ?_) <;> intro pz hpz)
 | refine A_bld0 rfl ?_ | (refine A_app rfl rfl rfl (by first | omega | (simp; done) | (simp; omega)) (by first | omega | (simp; done) | (simp; omega)) (by omega) ?_; intro pz) | (refine A_appN (enc := ic) rfl (by decide) rfl rfl (by first | omega | (simp; done) | (simp; omega)) (by omega) ?_; intro pz)
 | refine A_chk1 rfl rfl rfl ?_ | refine A_chk2 rfl rfl rfl rfl ?_ | refine A_chk3 rfl rfl rfl rfl rfl ?_ | refine A_chk4 rfl rfl rfl rfl rfl rfl ?_ | refine A_chkI rfl (by assumption) rfl (by simp) ?_
 | refine A_ret1 rfl (by first | exact (RP.t rfl RP.nil) | exact (RP.c rfl inferInstance rfl (by simp) RP.nil)) ?_ | refine A_ret rfl (by first | exact (RP.t rfl (RP.t rfl RP.nil)) | exact (RP.c rfl inferInstance rfl (by simp) (RP.t rfl RP.nil)) | exact (RP.t rfl (RP.t rfl (RP.t rfl RP.nil))) | exact (RP.c rfl inferInstance rfl (by simp) (RP.t rfl (RP.t rfl RP.nil))) | exact (RP.c rfl inferInstance rfl (by simp) (RP.t rfl (RP.t rfl (RP.t rfl (RP.t rfl RP.nil)))))) ?_ | refine A_ret0 rfl ?_)
    exact R_num2 ⟨0, 1, hper, by omega⟩ (by rw [perOf_eq hper]; rfl) (by rw [perOf_eq hper]; rfl)
  have hd1 := hdn 1
  refine A_unroll rfl ?_
  repeat' (first
 | refine A_go rfl ?_ | refine A_ifT rfl rfl ?_ | refine A_ifF rfl rfl ?_ | refine A_offP rfl rfl ?_ | refine A_offH rfl rfl ?_ | refine A_off0 rfl rfl ?_
 | refine A_add rfl rfl rfl (by omega) ?_ | refine A_sub rfl rfl rfl (by omega) ?_ | refine A_mul rfl rfl rfl (by omega) ?_ | refine A_rem rfl rfl rfl (by omega) ?_ | refine A_remT rfl rfl rfl (by omega) ?_ | refine A_quo rfl rfl rfl (by omega) ?_
 | ((first | refine A_lt rfl rfl rfl ?_ ?_ | refine A_le rfl rfl rfl ?_ ?_ | refine A_gt rfl rfl rfl ?_ ?_ | refine A_ge rfl rfl rfl ?_ ?_ | refine A_eq rfl rfl rfl ?_ ?_ | refine A_ne rfl rfl rfl ?_ ?_ | refine A_beq rfl rfl rfl ?_ ?_) <;> intro hc <;> try first | contradiction | (exfalso; omega) | exact absurd rfl hc)
 | refine A_idxN1 rfl rfl rfl (by omega) ?_ | refine A_idx1 rfl rfl rfl (by omega) ?_ | refine A_idxArr1 rfl rfl rfl (by omega) ?_
 | (refine A_callB rfl rfl (fun s H => c_l00Same (xs := imp n) (ys := runR S R xs (imp n) 1)) ?_ ?_ <;> intro hc <;> try first | contradiction | (exfalso; omega) | exact absurd rfl hc | exact absurd (And.intro rfl rfl) hc | exact absurd (And.intro rfl (And.intro rfl rfl)) hc | exact absurd (Eq.trans (by assumption) (Eq.symm (by assumption))) hc)
 | (refine A_callM rfl rfl (fun s H => c_l03Turn (n := n) (hS := hS) (ha := hd1) (hb := hod)) ?_; rintro _ _ ⟨pz, rfl, rfl⟩) | (refine A_callM0 rfl rfl (fun s H => c_l03Turn (n := n) (hS := hS) (ha := hd1) (hb := hod)) ?_; rintro _ _ ⟨pz, rfl, rfl⟩)
 | refine A_fld rfl rfl ?_ | refine A_mk3 rfl rfl rfl rfl ?_ | refine A_mk23 rfl rfl rfl ?_ | refine A_mk2 rfl rfl rfl ?_ | refine A_mk13 rfl rfl ?_ | refine A_p (by rfl) rfl ?_
 | refine A_ldI rfl (by first | omega | (simp; done) | (simp; omega)) rfl ?_ | refine A_ldB rfl (by first | omega | (simp; done) | (simp; omega)) rfl ?_ | refine A_ld rfl (by rfl) rfl ?_ | refine A_ldW rfl (by simp) rfl ?_
 | refine A_st rfl rfl rfl ?_ | refine A_stW rfl rfl (by simp) rfl ?_ | refine A_stE rfl rfl (by first | omega | (simp; done) | (simp; omega)) rfl ?_
 | ((first | refine A_alloc rfl ?_ | refine A_box rfl rfl ?_ | refine A_boxC rfl rfl ?_ | refine A_makeN rfl rfl rfl (by omega) ?_ | refine A_make rfl rfl rfl (by omega) ?_ | refine A_bld1 rfl rfl ?_ | refine A_bld2 rfl rfl rfl ?_ | refine A_bld4 rfl rfl rfl rfl rfl ?_) <;> intro pz hpz)
 | refine A_bld0 rfl ?_ | (refine A_app rfl rfl rfl (by first | omega | (simp; done) | (simp; omega)) (by first | omega | (simp; done) | (simp; omega)) (by omega) ?_; intro pz) | (refine A_appN (enc := ic) rfl (by decide) rfl rfl (by first | omega | (simp; done) | (simp; omega)) (by omega) ?_; intro pz)
 | refine A_chk1 rfl rfl rfl ?_ | refine A_chk2 rfl rfl rfl rfl ?_ | refine A_chk3 rfl rfl rfl rfl rfl ?_ | refine A_chk4 rfl rfl rfl rfl rfl rfl ?_ | refine A_chkI rfl (by assumption) rfl (by simp) ?_
 | refine A_ret1 rfl (by first | exact (RP.t rfl RP.nil) | exact (RP.c rfl inferInstance rfl (by simp) RP.nil)) ?_ | refine A_ret rfl (by first | exact (RP.t rfl (RP.t rfl RP.nil)) | exact (RP.c rfl inferInstance rfl (by simp) (RP.t rfl RP.nil)) | exact (RP.t rfl (RP.t rfl (RP.t rfl RP.nil))) | exact (RP.c rfl inferInstance rfl (by simp) (RP.t rfl (RP.t rfl RP.nil))) | exact (RP.c rfl inferInstance rfl (by simp) (RP.t rfl (RP.t rfl (RP.t rfl (RP.t rfl RP.nil)))))) ?_ | refine A_ret0 rfl ?_)
  obtain ⟨p2, hEq⟩ : ∃ p, p = pz := ⟨_, rfl⟩; subst hEq
  rw [hst1]
  refine A_loop rfl [q, po, p0, p1, p2] (fun m fr L => ∃ (P k a b : Nat), m = 4 * most + 10 - (P - 1 + k) ∧ fr = [(2, iv most), (3, .c (.ptr q 0)), (11, .c (.sl po 0 n)), (12, .c (.sl p0 0 n)), (13, .c (.sl a 0 n)), (14, .c (.sl b 0 n)), (15, iv k), (16, iv P), (17, iv (P - 1 + k : Nat))] ∧ L = [(q, .rw 30 3 [ic S, ic R, .sl id_xs off_xs len_xs]), (po, ints (onc S R n (trm S w xs) w)), (p0, ints (imp n)), (a, ints (runR S R xs (imp n) (P - 1))), (b, ints (runR S R xs (imp n) (P - 1 + k)))] ∧ (1 ≤ k ∧ k ≤ P ∧ P - 1 + k ≤ 4 * most + 9) ∧ (∀ j, 1 ≤ j → j < k → runR S R xs (imp n) (P - 1) ≠ runR S R xs (imp n) (P - 1 + j)) ∧ (P = 1 ∨ ∃ P', P = 2 * P' ∧ 1 ≤ P' ∧ ∀ k, 1 ≤ k → k ≤ P' → runR S R xs (imp n) (P' - 1) ≠ runR S R xs (imp n) (P' - 1 + k))) (4 * most + 8) ⟨2, 1, p1, p2, rfl, rfl, rfl, by omega, fun j h1 h2 => by omega, .inr ⟨1, rfl, by omega, fun k h1 h2 => by obtain rfl : k = 1 := (by omega); exact h01⟩⟩ ?_
  rintro m fr L ⟨P, k, a, b, rfl, rfl, rfl, hk, hnk, hP⟩
  have ha := hlen (P - 1)
  have hb' := hlen (P - 1 + k)
  have hda := hdn (P - 1)
  have hdb := hdn (P - 1 + k)
  have hsb := hst (P - 1 + k)
  by_cases heq : runR S R xs (imp n) (P - 1) = runR S R xs (imp n) (P - 1 + k)
  · obtain ⟨u, v, hper, huv⟩ := Rep.per (P - 1 + k) ⟨P - 1, by omega, heq⟩
    obtain ⟨hu, rfl⟩ := hper.met hx hk.1 heq (fun j h1 h2 => hnk j h1 h2)
    have hpe : PerP (runR S R xs (imp n)) most ↔ u + v ≤ most := ⟨fun ⟨u', v', h1, h2⟩ => by obtain ⟨e1, e2⟩ := hper.uniq h1; omega, fun h => ⟨u, v, hper, by omega⟩⟩
    repeat' (first
 | refine A_go rfl ?_ | refine A_ifT rfl rfl ?_ | refine A_ifF rfl rfl ?_ | refine A_offP rfl rfl ?_ | refine A_offH rfl rfl ?_ | refine A_off0 rfl rfl ?_
 | refine A_add rfl rfl rfl (by omega) ?_ | refine A_sub rfl rfl rfl (by omega) ?_ | refine A_mul rfl rfl rfl (by omega) ?_ | refine A_rem rfl rfl rfl (by omega) ?_ | refine A_remT rfl rfl rfl (by omega) ?_ | refine A_quo rfl rfl rfl (by omega) ?_
 | ((first | refine A_lt rfl rfl rfl ?_ ?_ | refine A_le rfl rfl rfl ?_ ?_ | refine A_gt rfl rfl rfl ?_ ?_ | refine A_ge rfl rfl rfl ?_ ?_ | refine A_eq rfl rfl rfl ?_ ?_ | refine A_ne rfl rfl rfl ?_ ?_ | refine A_beq rfl rfl rfl ?_ ?_) <;> intro hc <;> try first | contradiction | (exfalso; omega) | exact absurd rfl hc)
 | refine A_idxN1 rfl rfl rfl (by omega) ?_ | refine A_idx1 rfl rfl rfl (by omega) ?_ | refine A_idxArr1 rfl rfl rfl (by omega) ?_
 | (refine A_callB rfl rfl (fun s H => c_l00Same (xs := runR S R xs (imp n) (P - 1)) (ys := runR S R xs (imp n) (P - 1 + v))) ?_ ?_ <;> intro hc <;> try first | contradiction | (exfalso; omega) | exact absurd rfl hc | exact absurd (And.intro rfl rfl) hc | exact absurd (And.intro rfl (And.intro rfl rfl)) hc | exact absurd (Eq.trans (by assumption) (Eq.symm (by assumption))) hc)
 | refine A_fld rfl rfl ?_ | refine A_mk3 rfl rfl rfl rfl ?_ | refine A_mk23 rfl rfl rfl ?_ | refine A_mk2 rfl rfl rfl ?_ | refine A_mk13 rfl rfl ?_ | refine A_p (by rfl) rfl ?_
 | refine A_ldI rfl (by first | omega | (simp; done) | (simp; omega)) rfl ?_ | refine A_ldB rfl (by first | omega | (simp; done) | (simp; omega)) rfl ?_ | refine A_ld rfl (by rfl) rfl ?_ | refine A_ldW rfl (by simp) rfl ?_
 | refine A_st rfl rfl rfl ?_ | refine A_stW rfl rfl (by simp) rfl ?_ | refine A_stE rfl rfl (by first | omega | (simp; done) | (simp; omega)) rfl ?_
 | ((first | refine A_alloc rfl ?_ | refine A_box rfl rfl ?_ | refine A_boxC rfl rfl ?_ | refine A_makeN rfl rfl rfl (by omega) ?_ | refine A_make rfl rfl rfl (by omega) ?_ | refine A_bld1 rfl rfl ?_ | refine A_bld2 rfl rfl rfl ?_ | refine A_bld4 rfl rfl rfl rfl rfl ?_) <;> intro pz hpz)
 | refine A_bld0 rfl ?_ | (refine A_app rfl rfl rfl (by first | omega | (simp; done) | (simp; omega)) (by first | omega | (simp; done) | (simp; omega)) (by omega) ?_; intro pz) | (refine A_appN (enc := ic) rfl (by decide) rfl rfl (by first | omega | (simp; done) | (simp; omega)) (by omega) ?_; intro pz)
 | refine A_chk1 rfl rfl rfl ?_ | refine A_chk2 rfl rfl rfl rfl ?_ | refine A_chk3 rfl rfl rfl rfl rfl ?_ | refine A_chk4 rfl rfl rfl rfl rfl rfl ?_ | refine A_chkI rfl (by assumption) rfl (by simp) ?_
 | refine A_ret1 rfl (by first | exact (RP.t rfl RP.nil) | exact (RP.c rfl inferInstance rfl (by simp) RP.nil)) ?_ | refine A_ret rfl (by first | exact (RP.t rfl (RP.t rfl RP.nil)) | exact (RP.c rfl inferInstance rfl (by simp) (RP.t rfl RP.nil)) | exact (RP.t rfl (RP.t rfl (RP.t rfl RP.nil))) | exact (RP.c rfl inferInstance rfl (by simp) (RP.t rfl (RP.t rfl RP.nil))) | exact (RP.c rfl inferInstance rfl (by simp) (RP.t rfl (RP.t rfl (RP.t rfl (RP.t rfl RP.nil)))))) ?_ | refine A_ret0 rfl ?_)
    refine A_unroll rfl ?_
    repeat' (first
 | refine A_go rfl ?_ | refine A_ifT rfl rfl ?_ | refine A_ifF rfl rfl ?_ | refine A_offP rfl rfl ?_ | refine A_offH rfl rfl ?_ | refine A_off0 rfl rfl ?_
 | refine A_add rfl rfl rfl (by omega) ?_ | refine A_sub rfl rfl rfl (by omega) ?_ | refine A_mul rfl rfl rfl (by omega) ?_ | refine A_rem rfl rfl rfl (by omega) ?_ | refine A_remT rfl rfl rfl (by omega) ?_ | refine A_quo rfl rfl rfl (by omega) ?_
 | ((first | refine A_lt rfl rfl rfl ?_ ?_ | refine A_le rfl rfl rfl ?_ ?_ | refine A_gt rfl rfl rfl ?_ ?_ | refine A_ge rfl rfl rfl ?_ ?_ | refine A_eq rfl rfl rfl ?_ ?_ | refine A_ne rfl rfl rfl ?_ ?_ | refine A_beq rfl rfl rfl ?_ ?_) <;> intro hc <;> try first | contradiction | (exfalso; omega) | exact absurd rfl hc)
 | refine A_idxN1 rfl rfl rfl (by omega) ?_ | refine A_idx1 rfl rfl rfl (by omega) ?_ | refine A_idxArr1 rfl rfl rfl (by omega) ?_
 | (refine A_callM rfl rfl (fun s H => c_l03Turn (n := n) (hS := hS) (ha := hi0) (hb := hod)) ?_; rintro _ _ ⟨pz, rfl, rfl⟩) | (refine A_callM0 rfl rfl (fun s H => c_l03Turn (n := n) (hS := hS) (ha := hi0) (hb := hod)) ?_; rintro _ _ ⟨pz, rfl, rfl⟩)
 | refine A_fld rfl rfl ?_ | refine A_mk3 rfl rfl rfl rfl ?_ | refine A_mk23 rfl rfl rfl ?_ | refine A_mk2 rfl rfl rfl ?_ | refine A_mk13 rfl rfl ?_ | refine A_p (by rfl) rfl ?_
 | refine A_ldI rfl (by first | omega | (simp; done) | (simp; omega)) rfl ?_ | refine A_ldB rfl (by first | omega | (simp; done) | (simp; omega)) rfl ?_ | refine A_ld rfl (by rfl) rfl ?_ | refine A_ldW rfl (by simp) rfl ?_
 | refine A_st rfl rfl rfl ?_ | refine A_stW rfl rfl (by simp) rfl ?_ | refine A_stE rfl rfl (by first | omega | (simp; done) | (simp; omega)) rfl ?_
 | ((first | refine A_alloc rfl ?_ | refine A_box rfl rfl ?_ | refine A_boxC rfl rfl ?_ | refine A_makeN rfl rfl rfl (by omega) ?_ | refine A_make rfl rfl rfl (by omega) ?_ | refine A_bld1 rfl rfl ?_ | refine A_bld2 rfl rfl rfl ?_ | refine A_bld4 rfl rfl rfl rfl rfl ?_) <;> intro pz hpz)
 | refine A_bld0 rfl ?_ | (refine A_app rfl rfl rfl (by first | omega | (simp; done) | (simp; omega)) (by first | omega | (simp; done) | (simp; omega)) (by omega) ?_; intro pz) | (refine A_appN (enc := ic) rfl (by decide) rfl rfl (by first | omega | (simp; done) | (simp; omega)) (by omega) ?_; intro pz)
 | refine A_chk1 rfl rfl rfl ?_ | refine A_chk2 rfl rfl rfl rfl ?_ | refine A_chk3 rfl rfl rfl rfl rfl ?_ | refine A_chk4 rfl rfl rfl rfl rfl rfl ?_ | refine A_chkI rfl (by assumption) rfl (by simp) ?_
 | refine A_ret1 rfl (by first | exact (RP.t rfl RP.nil) | exact (RP.c rfl inferInstance rfl (by simp) RP.nil)) ?_ | refine A_ret rfl (by first | exact (RP.t rfl (RP.t rfl RP.nil)) | exact (RP.c rfl inferInstance rfl (by simp) (RP.t rfl RP.nil)) | exact (RP.t rfl (RP.t rfl (RP.t rfl RP.nil))) | exact (RP.c rfl inferInstance rfl (by simp) (RP.t rfl (RP.t rfl RP.nil))) | exact (RP.c rfl inferInstance rfl (by simp) (RP.t rfl (RP.t rfl (RP.t rfl (RP.t rfl RP.nil)))))) ?_ | refine A_ret0 rfl ?_)
    obtain ⟨c1, hEq⟩ : ∃ p, p = pz := ⟨_, rfl⟩; subst hEq
    rw [show turA S (imp n) (onc S R n (trm S w xs) w) = runR S R xs (imp n) 1 from hst0]
    refine A_loop rfl [q, po, p0, c1] (fun m fr L => ∃ (i c : Nat), m = v - i ∧ fr = [(2, iv most), (3, .c (.ptr q 0)), (11, .c (.sl po 0 n)), (12, .c (.sl p0 0 n)), (15, iv v), (18, .c (.sl c 0 n)), (19, iv i)] ∧ L = [(q, .rw 30 3 [ic S, ic R, .sl id_xs off_xs len_xs]), (po, ints (onc S R n (trm S w xs) w)), (p0, ints (imp n)), (c, ints (runR S R xs (imp n) i))] ∧ 1 ≤ i ∧ i ≤ v) (v - 1) ⟨1, c1, rfl, rfl, rfl, by omega, by omega⟩ ?_
    rintro m fr L ⟨i, c, rfl, rfl, rfl, hi1, hi⟩
    have hli := hlen i
    have hdi := hdn i
    have hsi := hst i
    by_cases hi' : i < v
    · repeat' (first
 | refine A_go rfl ?_ | refine A_ifT rfl rfl ?_ | refine A_ifF rfl rfl ?_ | refine A_offP rfl rfl ?_ | refine A_offH rfl rfl ?_ | refine A_off0 rfl rfl ?_
 | refine A_add rfl rfl rfl (by omega) ?_ | refine A_sub rfl rfl rfl (by omega) ?_ | refine A_mul rfl rfl rfl (by omega) ?_ | refine A_rem rfl rfl rfl (by omega) ?_ | refine A_remT rfl rfl rfl (by omega) ?_ | refine A_quo rfl rfl rfl (by omega) ?_
 | ((first | refine A_lt rfl rfl rfl ?_ ?_ | refine A_le rfl rfl rfl ?_ ?_ | refine A_gt rfl rfl rfl ?_ ?_ | refine A_ge rfl rfl rfl ?_ ?_ | refine A_eq rfl rfl rfl ?_ ?_ | refine A_ne rfl rfl rfl ?_ ?_ | refine A_beq rfl rfl rfl ?_ ?_) <;> intro hc <;> try first | contradiction | (exfalso; omega) | exact absurd rfl hc)
 | refine A_idxN1 rfl rfl rfl (by omega) ?_ | refine A_idx1 rfl rfl rfl (by omega) ?_ | refine A_idxArr1 rfl rfl rfl (by omega) ?_
 | (refine A_callM rfl rfl (fun s H => c_l03Turn (a := runR S R xs (imp n) i) (n := n) (hS := hS) (ha := hdi) (hb := hod)) ?_; rintro _ _ ⟨pz, rfl, rfl⟩) | (refine A_callM0 rfl rfl (fun s H => c_l03Turn (a := runR S R xs (imp n) i) (n := n) (hS := hS) (ha := hdi) (hb := hod)) ?_; rintro _ _ ⟨pz, rfl, rfl⟩)
 | refine A_fld rfl rfl ?_ | refine A_mk3 rfl rfl rfl rfl ?_ | refine A_mk23 rfl rfl rfl ?_ | refine A_mk2 rfl rfl rfl ?_ | refine A_mk13 rfl rfl ?_ | refine A_p (by rfl) rfl ?_
 | refine A_ldI rfl (by first | omega | (simp; done) | (simp; omega)) rfl ?_ | refine A_ldB rfl (by first | omega | (simp; done) | (simp; omega)) rfl ?_ | refine A_ld rfl (by rfl) rfl ?_ | refine A_ldW rfl (by simp) rfl ?_
 | refine A_st rfl rfl rfl ?_ | refine A_stW rfl rfl (by simp) rfl ?_ | refine A_stE rfl rfl (by first | omega | (simp; done) | (simp; omega)) rfl ?_
 | ((first | refine A_alloc rfl ?_ | refine A_box rfl rfl ?_ | refine A_boxC rfl rfl ?_ | refine A_makeN rfl rfl rfl (by omega) ?_ | refine A_make rfl rfl rfl (by omega) ?_ | refine A_bld1 rfl rfl ?_ | refine A_bld2 rfl rfl rfl ?_ | refine A_bld4 rfl rfl rfl rfl rfl ?_) <;> intro pz hpz)
 | refine A_bld0 rfl ?_ | (refine A_app rfl rfl rfl (by first | omega | (simp; done) | (simp; omega)) (by first | omega | (simp; done) | (simp; omega)) (by omega) ?_; intro pz) | (refine A_appN (enc := ic) rfl (by decide) rfl rfl (by first | omega | (simp; done) | (simp; omega)) (by omega) ?_; intro pz)
 | refine A_chk1 rfl rfl rfl ?_ | refine A_chk2 rfl rfl rfl rfl ?_ | refine A_chk3 rfl rfl rfl rfl rfl ?_ | refine A_chk4 rfl rfl rfl rfl rfl rfl ?_ | refine A_chkI rfl (by assumption) rfl (by simp) ?_
 | refine A_ret1 rfl (by first | exact (RP.t rfl RP.nil) | exact (RP.c rfl inferInstance rfl (by simp) RP.nil)) ?_ | refine A_ret rfl (by first | exact (RP.t rfl (RP.t rfl RP.nil)) | exact (RP.c rfl inferInstance rfl (by simp) (RP.t rfl RP.nil)) | exact (RP.t rfl (RP.t rfl (RP.t rfl RP.nil))) | exact (RP.c rfl inferInstance rfl (by simp) (RP.t rfl (RP.t rfl RP.nil))) | exact (RP.c rfl inferInstance rfl (by simp) (RP.t rfl (RP.t rfl (RP.t rfl (RP.t rfl RP.nil)))))) ?_ | refine A_ret0 rfl ?_)
      rw [hsi]
      refine A_round rfl [q, po, p0, pz] (v - (i + 1)) (by omega) ?_
      exact ⟨i + 1, pz, rfl, rfl, rfl, by omega, by omega⟩
    obtain rfl : v = i := by omega
    repeat' (first
 | refine A_go rfl ?_ | refine A_ifT rfl rfl ?_ | refine A_ifF rfl rfl ?_ | refine A_offP rfl rfl ?_ | refine A_offH rfl rfl ?_ | refine A_off0 rfl rfl ?_
 | refine A_add rfl rfl rfl (by omega) ?_ | refine A_sub rfl rfl rfl (by omega) ?_ | refine A_mul rfl rfl rfl (by omega) ?_ | refine A_rem rfl rfl rfl (by omega) ?_ | refine A_remT rfl rfl rfl (by omega) ?_ | refine A_quo rfl rfl rfl (by omega) ?_
 | ((first | refine A_lt rfl rfl rfl ?_ ?_ | refine A_le rfl rfl rfl ?_ ?_ | refine A_gt rfl rfl rfl ?_ ?_ | refine A_ge rfl rfl rfl ?_ ?_ | refine A_eq rfl rfl rfl ?_ ?_ | refine A_ne rfl rfl rfl ?_ ?_ | refine A_beq rfl rfl rfl ?_ ?_) <;> intro hc <;> try first | contradiction | (exfalso; omega) | exact absurd rfl hc)
 | refine A_idxN1 rfl rfl rfl (by omega) ?_ | refine A_idx1 rfl rfl rfl (by omega) ?_ | refine A_idxArr1 rfl rfl rfl (by omega) ?_
 | refine A_fld rfl rfl ?_ | refine A_mk3 rfl rfl rfl rfl ?_ | refine A_mk23 rfl rfl rfl ?_ | refine A_mk2 rfl rfl rfl ?_ | refine A_mk13 rfl rfl ?_ | refine A_p (by rfl) rfl ?_
 | refine A_ldI rfl (by first | omega | (simp; done) | (simp; omega)) rfl ?_ | refine A_ldB rfl (by first | omega | (simp; done) | (simp; omega)) rfl ?_ | refine A_ld rfl (by rfl) rfl ?_ | refine A_ldW rfl (by simp) rfl ?_
 | refine A_st rfl rfl rfl ?_ | refine A_stW rfl rfl (by simp) rfl ?_ | refine A_stE rfl rfl (by first | omega | (simp; done) | (simp; omega)) rfl ?_
 | ((first | refine A_alloc rfl ?_ | refine A_box rfl rfl ?_ | refine A_boxC rfl rfl ?_ | refine A_makeN rfl rfl rfl (by omega) ?_ | refine A_make rfl rfl rfl (by omega) ?_ | refine A_bld1 rfl rfl ?_ | refine A_bld2 rfl rfl rfl ?_ | refine A_bld4 rfl rfl rfl rfl rfl ?_) <;> intro pz hpz)
 | refine A_bld0 rfl ?_ | (refine A_app rfl rfl rfl (by first | omega | (simp; done) | (simp; omega)) (by first | omega | (simp; done) | (simp; omega)) (by omega) ?_; intro pz) | (refine A_appN (enc := ic) rfl (by decide) rfl rfl (by first | omega | (simp; done) | (simp; omega)) (by omega) ?_; intro pz)
 | refine A_chk1 rfl rfl rfl ?_ | refine A_chk2 rfl rfl rfl rfl ?_ | refine A_chk3 rfl rfl rfl rfl rfl ?_ | refine A_chk4 rfl rfl rfl rfl rfl rfl ?_ | refine A_chkI rfl (by assumption) rfl (by simp) ?_
 | refine A_ret1 rfl (by first | exact (RP.t rfl RP.nil) | exact (RP.c rfl inferInstance rfl (by simp) RP.nil)) ?_ | refine A_ret rfl (by first | exact (RP.t rfl (RP.t rfl RP.nil)) | exact (RP.c rfl inferInstance rfl (by simp) (RP.t rfl RP.nil)) | exact (RP.t rfl (RP.t rfl (RP.t rfl RP.nil))) | exact (RP.c rfl inferInstance rfl (by simp) (RP.t rfl (RP.t rfl RP.nil))) | exact (RP.c rfl inferInstance rfl (by simp) (RP.t rfl (RP.t rfl (RP.t rfl (RP.t rfl RP.nil)))))) ?_ | refine A_ret0 rfl ?_)
    refine A_loop rfl [q, po, p0, c] (fun m fr L => ∃ (i a b : Nat), m = u + 1 - i ∧ fr = [(2, iv most), (3, .c (.ptr q 0)), (11, .c (.sl po 0 n)), (15, iv v), (18, .c (.sl b 0 n)), (20, iv i), (21, .c (.sl a 0 n))] ∧ L = [(q, .rw 30 3 [ic S, ic R, .sl id_xs off_xs len_xs]), (po, ints (onc S R n (trm S w xs) w)), (a, ints (runR S R xs (imp n) i)), (b, ints (runR S R xs (imp n) (i + v)))] ∧ i ≤ u ∧ ∀ j, j < i → runR S R xs (imp n) j ≠ runR S R xs (imp n) (j + v)) (u + 1) ⟨0, p0, c, rfl, rfl, by rw [Nat.zero_add]; rfl, by omega, fun j hj => by omega⟩ ?_
    rintro m fr L ⟨i, a, b, rfl, rfl, rfl, hi, hni⟩
    have hx1 := hlen i
    have hx2 := hlen (i + v)
    have hy1 := hdn i
    have hy2 := hdn (i + v)
    have hz1 := hst i
    have hz2 := hst (i + v)
    by_cases h2 : runR S R xs (imp n) i = runR S R xs (imp n) (i + v)
    · have hiu := hper.first hx h2 hni
      subst hiu
      by_cases h3 : i + v ≤ most
      · repeat' (first
 | refine A_go rfl ?_ | refine A_ifT rfl rfl ?_ | refine A_ifF rfl rfl ?_ | refine A_offP rfl rfl ?_ | refine A_offH rfl rfl ?_ | refine A_off0 rfl rfl ?_
 | refine A_add rfl rfl rfl (by omega) ?_ | refine A_sub rfl rfl rfl (by omega) ?_ | refine A_mul rfl rfl rfl (by omega) ?_ | refine A_rem rfl rfl rfl (by omega) ?_ | refine A_remT rfl rfl rfl (by omega) ?_ | refine A_quo rfl rfl rfl (by omega) ?_
 | ((first | refine A_lt rfl rfl rfl ?_ ?_ | refine A_le rfl rfl rfl ?_ ?_ | refine A_gt rfl rfl rfl ?_ ?_ | refine A_ge rfl rfl rfl ?_ ?_ | refine A_eq rfl rfl rfl ?_ ?_ | refine A_ne rfl rfl rfl ?_ ?_ | refine A_beq rfl rfl rfl ?_ ?_) <;> intro hc <;> try first | contradiction | (exfalso; omega) | exact absurd rfl hc)
 | refine A_idxN1 rfl rfl rfl (by omega) ?_ | refine A_idx1 rfl rfl rfl (by omega) ?_ | refine A_idxArr1 rfl rfl rfl (by omega) ?_
 | (refine A_callB rfl rfl (fun s H => c_l00Same (xs := runR S R xs (imp n) i) (ys := runR S R xs (imp n) (i + v))) ?_ ?_ <;> intro hc <;> try first | contradiction | (exfalso; omega) | exact absurd rfl hc | exact absurd (And.intro rfl rfl) hc | exact absurd (And.intro rfl (And.intro rfl rfl)) hc | exact absurd (Eq.trans (by assumption) (Eq.symm (by assumption))) hc)
 | refine A_fld rfl rfl ?_ | refine A_mk3 rfl rfl rfl rfl ?_ | refine A_mk23 rfl rfl rfl ?_ | refine A_mk2 rfl rfl rfl ?_ | refine A_mk13 rfl rfl ?_ | refine A_p (by rfl) rfl ?_
 | refine A_ldI rfl (by first | omega | (simp; done) | (simp; omega)) rfl ?_ | refine A_ldB rfl (by first | omega | (simp; done) | (simp; omega)) rfl ?_ | refine A_ld rfl (by rfl) rfl ?_ | refine A_ldW rfl (by simp) rfl ?_
 | refine A_st rfl rfl rfl ?_ | refine A_stW rfl rfl (by simp) rfl ?_ | refine A_stE rfl rfl (by first | omega | (simp; done) | (simp; omega)) rfl ?_
 | ((first | refine A_alloc rfl ?_ | refine A_box rfl rfl ?_ | refine A_boxC rfl rfl ?_ | refine A_makeN rfl rfl rfl (by omega) ?_ | refine A_make rfl rfl rfl (by omega) ?_ | refine A_bld1 rfl rfl ?_ | refine A_bld2 rfl rfl rfl ?_ | refine A_bld4 rfl rfl rfl rfl rfl ?_) <;> intro pz hpz)
 | refine A_bld0 rfl ?_ | (refine A_app rfl rfl rfl (by first | omega | (simp; done) | (simp; omega)) (by first | omega | (simp; done) | (simp; omega)) (by omega) ?_; intro pz) | (refine A_appN (enc := ic) rfl (by decide) rfl rfl (by first | omega | (simp; done) | (simp; omega)) (by omega) ?_; intro pz)
 | refine A_chk1 rfl rfl rfl ?_ | refine A_chk2 rfl rfl rfl rfl ?_ | refine A_chk3 rfl rfl rfl rfl rfl ?_ | refine A_chk4 rfl rfl rfl rfl rfl rfl ?_ | refine A_chkI rfl (by assumption) rfl (by simp) ?_
 | refine A_ret1 rfl (by first | exact (RP.t rfl RP.nil) | exact (RP.c rfl inferInstance rfl (by simp) RP.nil)) ?_ | refine A_ret rfl (by first | exact (RP.t rfl (RP.t rfl RP.nil)) | exact (RP.c rfl inferInstance rfl (by simp) (RP.t rfl RP.nil)) | exact (RP.t rfl (RP.t rfl (RP.t rfl RP.nil))) | exact (RP.c rfl inferInstance rfl (by simp) (RP.t rfl (RP.t rfl RP.nil))) | exact (RP.c rfl inferInstance rfl (by simp) (RP.t rfl (RP.t rfl (RP.t rfl (RP.t rfl RP.nil)))))) ?_ | refine A_ret0 rfl ?_)
        exact R_num2 (hpe.2 h3) (by rw [perOf_eq hper]) (by rw [perOf_eq hper])
      · repeat' (first
 | refine A_go rfl ?_ | refine A_ifT rfl rfl ?_ | refine A_ifF rfl rfl ?_ | refine A_offP rfl rfl ?_ | refine A_offH rfl rfl ?_ | refine A_off0 rfl rfl ?_
 | refine A_add rfl rfl rfl (by omega) ?_ | refine A_sub rfl rfl rfl (by omega) ?_ | refine A_mul rfl rfl rfl (by omega) ?_ | refine A_rem rfl rfl rfl (by omega) ?_ | refine A_remT rfl rfl rfl (by omega) ?_ | refine A_quo rfl rfl rfl (by omega) ?_
 | ((first | refine A_lt rfl rfl rfl ?_ ?_ | refine A_le rfl rfl rfl ?_ ?_ | refine A_gt rfl rfl rfl ?_ ?_ | refine A_ge rfl rfl rfl ?_ ?_ | refine A_eq rfl rfl rfl ?_ ?_ | refine A_ne rfl rfl rfl ?_ ?_ | refine A_beq rfl rfl rfl ?_ ?_) <;> intro hc <;> try first | contradiction | (exfalso; omega) | exact absurd rfl hc)
 | refine A_idxN1 rfl rfl rfl (by omega) ?_ | refine A_idx1 rfl rfl rfl (by omega) ?_ | refine A_idxArr1 rfl rfl rfl (by omega) ?_
 | (refine A_callB rfl rfl (fun s H => c_l00Same (xs := runR S R xs (imp n) i) (ys := runR S R xs (imp n) (i + v))) ?_ ?_ <;> intro hc <;> try first | contradiction | (exfalso; omega) | exact absurd rfl hc | exact absurd (And.intro rfl rfl) hc | exact absurd (And.intro rfl (And.intro rfl rfl)) hc | exact absurd (Eq.trans (by assumption) (Eq.symm (by assumption))) hc)
 | refine A_fld rfl rfl ?_ | refine A_mk3 rfl rfl rfl rfl ?_ | refine A_mk23 rfl rfl rfl ?_ | refine A_mk2 rfl rfl rfl ?_ | refine A_mk13 rfl rfl ?_ | refine A_p (by rfl) rfl ?_
 | refine A_ldI rfl (by first | omega | (simp; done) | (simp; omega)) rfl ?_ | refine A_ldB rfl (by first | omega | (simp; done) | (simp; omega)) rfl ?_ | refine A_ld rfl (by rfl) rfl ?_ | refine A_ldW rfl (by simp) rfl ?_
 | refine A_st rfl rfl rfl ?_ | refine A_stW rfl rfl (by simp) rfl ?_ | refine A_stE rfl rfl (by first | omega | (simp; done) | (simp; omega)) rfl ?_
 | ((first | refine A_alloc rfl ?_ | refine A_box rfl rfl ?_ | refine A_boxC rfl rfl ?_ | refine A_makeN rfl rfl rfl (by omega) ?_ | refine A_make rfl rfl rfl (by omega) ?_ | refine A_bld1 rfl rfl ?_ | refine A_bld2 rfl rfl rfl ?_ | refine A_bld4 rfl rfl rfl rfl rfl ?_) <;> intro pz hpz)
 | refine A_bld0 rfl ?_ | (refine A_app rfl rfl rfl (by first | omega | (simp; done) | (simp; omega)) (by first | omega | (simp; done) | (simp; omega)) (by omega) ?_; intro pz) | (refine A_appN (enc := ic) rfl (by decide) rfl rfl (by first | omega | (simp; done) | (simp; omega)) (by omega) ?_; intro pz)
 | refine A_chk1 rfl rfl rfl ?_ | refine A_chk2 rfl rfl rfl rfl ?_ | refine A_chk3 rfl rfl rfl rfl rfl ?_ | refine A_chk4 rfl rfl rfl rfl rfl rfl ?_ | refine A_chkI rfl (by assumption) rfl (by simp) ?_
 | refine A_ret1 rfl (by first | exact (RP.t rfl RP.nil) | exact (RP.c rfl inferInstance rfl (by simp) RP.nil)) ?_ | refine A_ret rfl (by first | exact (RP.t rfl (RP.t rfl RP.nil)) | exact (RP.c rfl inferInstance rfl (by simp) (RP.t rfl RP.nil)) | exact (RP.t rfl (RP.t rfl (RP.t rfl RP.nil))) | exact (RP.c rfl inferInstance rfl (by simp) (RP.t rfl (RP.t rfl RP.nil))) | exact (RP.c rfl inferInstance rfl (by simp) (RP.t rfl (RP.t rfl (RP.t rfl (RP.t rfl RP.nil)))))) ?_ | refine A_ret0 rfl ?_)
        exact R_num2N fun h => h3 (hpe.1 h)
    · have hiu : i ≠ u := fun e => h2 (e ▸ hper.eq)
      repeat' (first
 | refine A_go rfl ?_ | refine A_ifT rfl rfl ?_ | refine A_ifF rfl rfl ?_ | refine A_offP rfl rfl ?_ | refine A_offH rfl rfl ?_ | refine A_off0 rfl rfl ?_
 | refine A_add rfl rfl rfl (by omega) ?_ | refine A_sub rfl rfl rfl (by omega) ?_ | refine A_mul rfl rfl rfl (by omega) ?_ | refine A_rem rfl rfl rfl (by omega) ?_ | refine A_remT rfl rfl rfl (by omega) ?_ | refine A_quo rfl rfl rfl (by omega) ?_
 | ((first | refine A_lt rfl rfl rfl ?_ ?_ | refine A_le rfl rfl rfl ?_ ?_ | refine A_gt rfl rfl rfl ?_ ?_ | refine A_ge rfl rfl rfl ?_ ?_ | refine A_eq rfl rfl rfl ?_ ?_ | refine A_ne rfl rfl rfl ?_ ?_ | refine A_beq rfl rfl rfl ?_ ?_) <;> intro hc <;> try first | contradiction | (exfalso; omega) | exact absurd rfl hc)
 | refine A_idxN1 rfl rfl rfl (by omega) ?_ | refine A_idx1 rfl rfl rfl (by omega) ?_ | refine A_idxArr1 rfl rfl rfl (by omega) ?_
 | (refine A_callB rfl rfl (fun s H => c_l00Same (xs := runR S R xs (imp n) i) (ys := runR S R xs (imp n) (i + v))) ?_ ?_ <;> intro hc <;> try first | contradiction | (exfalso; omega) | exact absurd rfl hc | exact absurd (And.intro rfl rfl) hc | exact absurd (And.intro rfl (And.intro rfl rfl)) hc | exact absurd (Eq.trans (by assumption) (Eq.symm (by assumption))) hc)
 | (refine A_callM rfl rfl (fun s H => c_l03Turn (a := runR S R xs (imp n) i) (n := n) (hS := hS) (ha := hy1) (hb := hod)) ?_; rintro _ _ ⟨pz, rfl, rfl⟩) | (refine A_callM0 rfl rfl (fun s H => c_l03Turn (a := runR S R xs (imp n) i) (n := n) (hS := hS) (ha := hy1) (hb := hod)) ?_; rintro _ _ ⟨pz, rfl, rfl⟩)
 | (refine A_callM rfl rfl (fun s H => c_l03Turn (a := runR S R xs (imp n) (i + v)) (n := n) (hS := hS) (ha := hy2) (hb := hod)) ?_; rintro _ _ ⟨pz, rfl, rfl⟩) | (refine A_callM0 rfl rfl (fun s H => c_l03Turn (a := runR S R xs (imp n) (i + v)) (n := n) (hS := hS) (ha := hy2) (hb := hod)) ?_; rintro _ _ ⟨pz, rfl, rfl⟩)
 | refine A_fld rfl rfl ?_ | refine A_mk3 rfl rfl rfl rfl ?_ | refine A_mk23 rfl rfl rfl ?_ | refine A_mk2 rfl rfl rfl ?_ | refine A_mk13 rfl rfl ?_ | refine A_p (by rfl) rfl ?_
 | refine A_ldI rfl (by first | omega | (simp; done) | (simp; omega)) rfl ?_ | refine A_ldB rfl (by first | omega | (simp; done) | (simp; omega)) rfl ?_ | refine A_ld rfl (by rfl) rfl ?_ | refine A_ldW rfl (by simp) rfl ?_
 | refine A_st rfl rfl rfl ?_ | refine A_stW rfl rfl (by simp) rfl ?_ | refine A_stE rfl rfl (by first | omega | (simp; done) | (simp; omega)) rfl ?_
 | ((first | refine A_alloc rfl ?_ | refine A_box rfl rfl ?_ | refine A_boxC rfl rfl ?_ | refine A_makeN rfl rfl rfl (by omega) ?_ | refine A_make rfl rfl rfl (by omega) ?_ | refine A_bld1 rfl rfl ?_ | refine A_bld2 rfl rfl rfl ?_ | refine A_bld4 rfl rfl rfl rfl rfl ?_) <;> intro pz hpz)
 | refine A_bld0 rfl ?_ | (refine A_app rfl rfl rfl (by first | omega | (simp; done) | (simp; omega)) (by first | omega | (simp; done) | (simp; omega)) (by omega) ?_; intro pz) | (refine A_appN (enc := ic) rfl (by decide) rfl rfl (by first | omega | (simp; done) | (simp; omega)) (by omega) ?_; intro pz)
 | refine A_chk1 rfl rfl rfl ?_ | refine A_chk2 rfl rfl rfl rfl ?_ | refine A_chk3 rfl rfl rfl rfl rfl ?_ | refine A_chk4 rfl rfl rfl rfl rfl rfl ?_ | refine A_chkI rfl (by assumption) rfl (by simp) ?_
 | refine A_ret1 rfl (by first | exact (RP.t rfl RP.nil) | exact (RP.c rfl inferInstance rfl (by simp) RP.nil)) ?_ | refine A_ret rfl (by first | exact (RP.t rfl (RP.t rfl RP.nil)) | exact (RP.c rfl inferInstance rfl (by simp) (RP.t rfl RP.nil)) | exact (RP.t rfl (RP.t rfl (RP.t rfl RP.nil))) | exact (RP.c rfl inferInstance rfl (by simp) (RP.t rfl (RP.t rfl RP.nil))) | exact (RP.c rfl inferInstance rfl (by simp) (RP.t rfl (RP.t rfl (RP.t rfl (RP.t rfl RP.nil)))))) ?_ | refine A_ret0 rfl ?_)
      rename_i pa
      rw [hz1, hz2]
      refine A_round rfl [q, po, pa, pz] (u + 1 - (i + 1)) (by omega) ?_
      refine ⟨i + 1, pa, pz, rfl, rfl, ?_, by omega, fun j hj => ?_⟩
      · rw [show i + 1 + v = i + v + 1 by omega]
      · by_cases e : j = i
        · subst e; exact h2
        · exact hni j (by omega)
  · have hnk' : ∀ j, 1 ≤ j → j ≤ k → runR S R xs (imp n) (P - 1) ≠ runR S R xs (imp n) (P - 1 + j) := fun j h1 h2 => by
      by_cases e : j = k
      · subst e; exact heq
      · exact hnk j h1 (by omega)
    by_cases hb1 : 4 * most + 8 < P - 1 + k
    · repeat' (first
 | refine A_go rfl ?_ | refine A_ifT rfl rfl ?_ | refine A_ifF rfl rfl ?_ | refine A_offP rfl rfl ?_ | refine A_offH rfl rfl ?_ | refine A_off0 rfl rfl ?_
 | refine A_add rfl rfl rfl (by omega) ?_ | refine A_sub rfl rfl rfl (by omega) ?_ | refine A_mul rfl rfl rfl (by omega) ?_ | refine A_rem rfl rfl rfl (by omega) ?_ | refine A_remT rfl rfl rfl (by omega) ?_ | refine A_quo rfl rfl rfl (by omega) ?_
 | ((first | refine A_lt rfl rfl rfl ?_ ?_ | refine A_le rfl rfl rfl ?_ ?_ | refine A_gt rfl rfl rfl ?_ ?_ | refine A_ge rfl rfl rfl ?_ ?_ | refine A_eq rfl rfl rfl ?_ ?_ | refine A_ne rfl rfl rfl ?_ ?_ | refine A_beq rfl rfl rfl ?_ ?_) <;> intro hc <;> try first | contradiction | (exfalso; omega) | exact absurd rfl hc)
 | refine A_idxN1 rfl rfl rfl (by omega) ?_ | refine A_idx1 rfl rfl rfl (by omega) ?_ | refine A_idxArr1 rfl rfl rfl (by omega) ?_
 | (refine A_callB rfl rfl (fun s H => c_l00Same (xs := runR S R xs (imp n) (P - 1)) (ys := runR S R xs (imp n) (P - 1 + k))) ?_ ?_ <;> intro hc <;> try first | contradiction | (exfalso; omega) | exact absurd rfl hc | exact absurd (And.intro rfl rfl) hc | exact absurd (And.intro rfl (And.intro rfl rfl)) hc | exact absurd (Eq.trans (by assumption) (Eq.symm (by assumption))) hc)
 | refine A_fld rfl rfl ?_ | refine A_mk3 rfl rfl rfl rfl ?_ | refine A_mk23 rfl rfl rfl ?_ | refine A_mk2 rfl rfl rfl ?_ | refine A_mk13 rfl rfl ?_ | refine A_p (by rfl) rfl ?_
 | refine A_ldI rfl (by first | omega | (simp; done) | (simp; omega)) rfl ?_ | refine A_ldB rfl (by first | omega | (simp; done) | (simp; omega)) rfl ?_ | refine A_ld rfl (by rfl) rfl ?_ | refine A_ldW rfl (by simp) rfl ?_
 | refine A_st rfl rfl rfl ?_ | refine A_stW rfl rfl (by simp) rfl ?_ | refine A_stE rfl rfl (by first | omega | (simp; done) | (simp; omega)) rfl ?_
 | ((first | refine A_alloc rfl ?_ | refine A_box rfl rfl ?_ | refine A_boxC rfl rfl ?_ | refine A_makeN rfl rfl rfl (by omega) ?_ | refine A_make rfl rfl rfl (by omega) ?_ | refine A_bld1 rfl rfl ?_ | refine A_bld2 rfl rfl rfl ?_ | refine A_bld4 rfl rfl rfl rfl rfl ?_) <;> intro pz hpz)
 | refine A_bld0 rfl ?_ | (refine A_app rfl rfl rfl (by first | omega | (simp; done) | (simp; omega)) (by first | omega | (simp; done) | (simp; omega)) (by omega) ?_; intro pz) | (refine A_appN (enc := ic) rfl (by decide) rfl rfl (by first | omega | (simp; done) | (simp; omega)) (by omega) ?_; intro pz)
 | refine A_chk1 rfl rfl rfl ?_ | refine A_chk2 rfl rfl rfl rfl ?_ | refine A_chk3 rfl rfl rfl rfl rfl ?_ | refine A_chk4 rfl rfl rfl rfl rfl rfl ?_ | refine A_chkI rfl (by assumption) rfl (by simp) ?_
 | refine A_ret1 rfl (by first | exact (RP.t rfl RP.nil) | exact (RP.c rfl inferInstance rfl (by simp) RP.nil)) ?_ | refine A_ret rfl (by first | exact (RP.t rfl (RP.t rfl RP.nil)) | exact (RP.c rfl inferInstance rfl (by simp) (RP.t rfl RP.nil)) | exact (RP.t rfl (RP.t rfl (RP.t rfl RP.nil))) | exact (RP.c rfl inferInstance rfl (by simp) (RP.t rfl (RP.t rfl RP.nil))) | exact (RP.c rfl inferInstance rfl (by simp) (RP.t rfl (RP.t rfl (RP.t rfl (RP.t rfl RP.nil)))))) ?_ | refine A_ret0 rfl ?_)
      exact R_num2N (hno P (by omega) hP (by omega))
    by_cases hb3 : P = k
    · subst hb3
      repeat' (first
 | refine A_go rfl ?_ | refine A_ifT rfl rfl ?_ | refine A_ifF rfl rfl ?_ | refine A_offP rfl rfl ?_ | refine A_offH rfl rfl ?_ | refine A_off0 rfl rfl ?_
 | refine A_add rfl rfl rfl (by omega) ?_ | refine A_sub rfl rfl rfl (by omega) ?_ | refine A_mul rfl rfl rfl (by omega) ?_ | refine A_rem rfl rfl rfl (by omega) ?_ | refine A_remT rfl rfl rfl (by omega) ?_ | refine A_quo rfl rfl rfl (by omega) ?_
 | ((first | refine A_lt rfl rfl rfl ?_ ?_ | refine A_le rfl rfl rfl ?_ ?_ | refine A_gt rfl rfl rfl ?_ ?_ | refine A_ge rfl rfl rfl ?_ ?_ | refine A_eq rfl rfl rfl ?_ ?_ | refine A_ne rfl rfl rfl ?_ ?_ | refine A_beq rfl rfl rfl ?_ ?_) <;> intro hc <;> try first | contradiction | (exfalso; omega) | exact absurd rfl hc)
 | refine A_idxN1 rfl rfl rfl (by omega) ?_ | refine A_idx1 rfl rfl rfl (by omega) ?_ | refine A_idxArr1 rfl rfl rfl (by omega) ?_
 | (refine A_callB rfl rfl (fun s H => c_l00Same (xs := runR S R xs (imp n) (P - 1)) (ys := runR S R xs (imp n) (P - 1 + P))) ?_ ?_ <;> intro hc <;> try first | contradiction | (exfalso; omega) | exact absurd rfl hc | exact absurd (And.intro rfl rfl) hc | exact absurd (And.intro rfl (And.intro rfl rfl)) hc | exact absurd (Eq.trans (by assumption) (Eq.symm (by assumption))) hc)
 | (refine A_callM rfl rfl (fun s H => c_l03Turn (a := runR S R xs (imp n) (P - 1 + P)) (n := n) (hS := hS) (ha := hdb) (hb := hod)) ?_; rintro _ _ ⟨pz, rfl, rfl⟩) | (refine A_callM0 rfl rfl (fun s H => c_l03Turn (a := runR S R xs (imp n) (P - 1 + P)) (n := n) (hS := hS) (ha := hdb) (hb := hod)) ?_; rintro _ _ ⟨pz, rfl, rfl⟩)
 | refine A_fld rfl rfl ?_ | refine A_mk3 rfl rfl rfl rfl ?_ | refine A_mk23 rfl rfl rfl ?_ | refine A_mk2 rfl rfl rfl ?_ | refine A_mk13 rfl rfl ?_ | refine A_p (by rfl) rfl ?_
 | refine A_ldI rfl (by first | omega | (simp; done) | (simp; omega)) rfl ?_ | refine A_ldB rfl (by first | omega | (simp; done) | (simp; omega)) rfl ?_ | refine A_ld rfl (by rfl) rfl ?_ | refine A_ldW rfl (by simp) rfl ?_
 | refine A_st rfl rfl rfl ?_ | refine A_stW rfl rfl (by simp) rfl ?_ | refine A_stE rfl rfl (by first | omega | (simp; done) | (simp; omega)) rfl ?_
 | ((first | refine A_alloc rfl ?_ | refine A_box rfl rfl ?_ | refine A_boxC rfl rfl ?_ | refine A_makeN rfl rfl rfl (by omega) ?_ | refine A_make rfl rfl rfl (by omega) ?_ | refine A_bld1 rfl rfl ?_ | refine A_bld2 rfl rfl rfl ?_ | refine A_bld4 rfl rfl rfl rfl rfl ?_) <;> intro pz hpz)
 | refine A_bld0 rfl ?_ | (refine A_app rfl rfl rfl (by first | omega | (simp; done) | (simp; omega)) (by first | omega | (simp; done) | (simp; omega)) (by omega) ?_; intro pz) | (refine A_appN (enc := ic) rfl (by decide) rfl rfl (by first | omega | (simp; done) | (simp; omega)) (by omega) ?_; intro pz)
 | refine A_chk1 rfl rfl rfl ?_ | refine A_chk2 rfl rfl rfl rfl ?_ | refine A_chk3 rfl rfl rfl rfl rfl ?_ | refine A_chk4 rfl rfl rfl rfl rfl rfl ?_ | refine A_chkI rfl (by assumption) rfl (by simp) ?_
 | refine A_ret1 rfl (by first | exact (RP.t rfl RP.nil) | exact (RP.c rfl inferInstance rfl (by simp) RP.nil)) ?_ | refine A_ret rfl (by first | exact (RP.t rfl (RP.t rfl RP.nil)) | exact (RP.c rfl inferInstance rfl (by simp) (RP.t rfl RP.nil)) | exact (RP.t rfl (RP.t rfl (RP.t rfl RP.nil))) | exact (RP.c rfl inferInstance rfl (by simp) (RP.t rfl (RP.t rfl RP.nil))) | exact (RP.c rfl inferInstance rfl (by simp) (RP.t rfl (RP.t rfl (RP.t rfl (RP.t rfl RP.nil)))))) ?_ | refine A_ret0 rfl ?_)
      rw [hsb]
      refine A_round rfl [q, po, p0, b, pz] (4 * most + 10 - (2 * P - 1 + 1)) (by omega) ?_
      refine ⟨2 * P, 1, b, pz, rfl, ?_, ?_, by omega, fun j h1 h2 => by omega, .inr ⟨P, rfl, by omega, hnk'⟩⟩
      · rw [show ((2 * P : Nat) : Int) = (P : Int) * 2 by push_cast; omega, show ((2 * P - 1 + 1 : Nat) : Int) = ((P - 1 + P : Nat) : Int) + 1 by omega]; rfl
      · rw [show 2 * P - 1 + 1 = P - 1 + P + 1 by omega, show 2 * P - 1 = P - 1 + P by omega]
    · repeat' (first
 | refine A_go rfl ?_ | refine A_ifT rfl rfl ?_ | refine A_ifF rfl rfl ?_ | refine A_offP rfl rfl ?_ | refine A_offH rfl rfl ?_ | refine A_off0 rfl rfl ?_
 | refine A_add rfl rfl rfl (by omega) ?_ | refine A_sub rfl rfl rfl (by omega) ?_ | refine A_mul rfl rfl rfl (by omega) ?_ | refine A_rem rfl rfl rfl (by omega) ?_ | refine A_remT rfl rfl rfl (by omega) ?_ | refine A_quo rfl rfl rfl (by omega) ?_
 | ((first | refine A_lt rfl rfl rfl ?_ ?_ | refine A_le rfl rfl rfl ?_ ?_ | refine A_gt rfl rfl rfl ?_ ?_ | refine A_ge rfl rfl rfl ?_ ?_ | refine A_eq rfl rfl rfl ?_ ?_ | refine A_ne rfl rfl rfl ?_ ?_ | refine A_beq rfl rfl rfl ?_ ?_) <;> intro hc <;> try first | contradiction | (exfalso; omega) | exact absurd rfl hc)
 | refine A_idxN1 rfl rfl rfl (by omega) ?_ | refine A_idx1 rfl rfl rfl (by omega) ?_ | refine A_idxArr1 rfl rfl rfl (by omega) ?_
 | (refine A_callB rfl rfl (fun s H => c_l00Same (xs := runR S R xs (imp n) (P - 1)) (ys := runR S R xs (imp n) (P - 1 + k))) ?_ ?_ <;> intro hc <;> try first | contradiction | (exfalso; omega) | exact absurd rfl hc | exact absurd (And.intro rfl rfl) hc | exact absurd (And.intro rfl (And.intro rfl rfl)) hc | exact absurd (Eq.trans (by assumption) (Eq.symm (by assumption))) hc)
 | (refine A_callM rfl rfl (fun s H => c_l03Turn (a := runR S R xs (imp n) (P - 1 + k)) (n := n) (hS := hS) (ha := hdb) (hb := hod)) ?_; rintro _ _ ⟨pz, rfl, rfl⟩) | (refine A_callM0 rfl rfl (fun s H => c_l03Turn (a := runR S R xs (imp n) (P - 1 + k)) (n := n) (hS := hS) (ha := hdb) (hb := hod)) ?_; rintro _ _ ⟨pz, rfl, rfl⟩)
 | refine A_fld rfl rfl ?_ | refine A_mk3 rfl rfl rfl rfl ?_ | refine A_mk23 rfl rfl rfl ?_ | refine A_mk2 rfl rfl rfl ?_ | refine A_mk13 rfl rfl ?_ | refine A_p (by rfl) rfl ?_
 | refine A_ldI rfl (by first | omega | (simp; done) | (simp; omega)) rfl ?_ | refine A_ldB rfl (by first | omega | (simp; done) | (simp; omega)) rfl ?_ | refine A_ld rfl (by rfl) rfl ?_ | refine A_ldW rfl (by simp) rfl ?_
 | refine A_st rfl rfl rfl ?_ | refine A_stW rfl rfl (by simp) rfl ?_ | refine A_stE rfl rfl (by first | omega | (simp; done) | (simp; omega)) rfl ?_
 | ((first | refine A_alloc rfl ?_ | refine A_box rfl rfl ?_ | refine A_boxC rfl rfl ?_ | refine A_makeN rfl rfl rfl (by omega) ?_ | refine A_make rfl rfl rfl (by omega) ?_ | refine A_bld1 rfl rfl ?_ | refine A_bld2 rfl rfl rfl ?_ | refine A_bld4 rfl rfl rfl rfl rfl ?_) <;> intro pz hpz)
 | refine A_bld0 rfl ?_ | (refine A_app rfl rfl rfl (by first | omega | (simp; done) | (simp; omega)) (by first | omega | (simp; done) | (simp; omega)) (by omega) ?_; intro pz) | (refine A_appN (enc := ic) rfl (by decide) rfl rfl (by first | omega | (simp; done) | (simp; omega)) (by omega) ?_; intro pz)
 | refine A_chk1 rfl rfl rfl ?_ | refine A_chk2 rfl rfl rfl rfl ?_ | refine A_chk3 rfl rfl rfl rfl rfl ?_ | refine A_chk4 rfl rfl rfl rfl rfl rfl ?_ | refine A_chkI rfl (by assumption) rfl (by simp) ?_
 | refine A_ret1 rfl (by first | exact (RP.t rfl RP.nil) | exact (RP.c rfl inferInstance rfl (by simp) RP.nil)) ?_ | refine A_ret rfl (by first | exact (RP.t rfl (RP.t rfl RP.nil)) | exact (RP.c rfl inferInstance rfl (by simp) (RP.t rfl RP.nil)) | exact (RP.t rfl (RP.t rfl (RP.t rfl RP.nil))) | exact (RP.c rfl inferInstance rfl (by simp) (RP.t rfl (RP.t rfl RP.nil))) | exact (RP.c rfl inferInstance rfl (by simp) (RP.t rfl (RP.t rfl (RP.t rfl (RP.t rfl RP.nil)))))) ?_ | refine A_ret0 rfl ?_)
      rw [hsb]
      refine A_round rfl [q, po, p0, a, pz] (4 * most + 10 - (P - 1 + (k + 1))) (by omega) ?_
      refine ⟨P, k + 1, a, pz, rfl, ?_, rfl, by omega, fun j h1 h2 => hnk' j h1 (by omega), hP⟩
      rw [show ((P - 1 + (k + 1) : Nat) : Int) = ((P - 1 + k : Nat) : Int) + 1 by omega]; rfl

end Go.Proofs.Ytafdjnhlhepibaa
