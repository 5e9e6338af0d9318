/- The law FnComing runs to true. -/
import Derived.Test.YtafdjnhlhepibaaXb10
import Derived.Test.YtafdjnhlhepibaaXcomingW
import Derived.Test.YtafdjnhlhepibaaXcomes
import Derived.Test.YtafdjnhlhepibaaXrunOk
import Derived.Test.YtafdjnhlhepibaaFB
namespace Go.Proofs.Ytafdjnhlhepibaa
open Go Go.RowKit
set_option linter.unusedVariables false
set_option linter.unusedSimpArgs false
set_option maxRecDepth 100000
set_option maxHeartbeats 8000000
-- laws.FnComing
def L10 : AFun := ⟨147, [.t 4],
 (.seq (.ops false [⟨(some 4), .mv (.k (bv false)), none, []⟩])
 (.seq (.seq (.ops false [⟨(some 25), .mv (.t 0), none, []⟩,
    ⟨(some 26), .mv (.t 1), none, []⟩,
    ⟨(some 27), .call (.f 34) [(.t 25), (.t 26)], none, []⟩])
  (.cond (.t 27) (.seq (.ops false [⟨(some 4), .mv (.k (bv true)), none, []⟩])
   .ret)
   .skip))
 (.seq (.ops false [⟨(some 28), .mv (.t 0), none, []⟩,
   ⟨(some 29), .call (.f 36) [(.t 28), (.k (iv 1))], none, []⟩,
   ⟨(some 5), .alloc 30 [.int .i64 0, .int .i64 0, .sl 0 0 0], none, []⟩,
   ⟨none, .store 3 (.t 5) (.t 29), none, []⟩])
 (.seq (.ops false [⟨(some 30), .mv (.t 1), none, []⟩,
   ⟨(some 31), .call (.f 35) [(.t 30), (.k (iv 0)), (.k (iv 4))], none, []⟩,
   ⟨(some 6), .mv (.t 31), none, []⟩])
 (.seq (.ops false [⟨(some 32), .mv (.t 1), none, []⟩,
   ⟨(some 33), .call (.f 35) [(.t 32), (.k (iv 1)), (.k (iv 6))], none, []⟩,
   ⟨(some 34), .bin .add (.k (iv 1)) (.t 33), none, []⟩,
   ⟨(some 7), .mv (.t 34), none, []⟩])
 (.seq (.ops false [⟨(some 35), .mv (.t 1), none, []⟩,
   ⟨(some 36), .call (.f 37) [(.t 35), (.k (iv 2)), (.k (iv 12))], none, []⟩,
   ⟨(some 8), .mv (.t 36), none, []⟩])
 (.seq (.ops false [⟨(some 38), .load true 3 (.t 5), none, []⟩,
   ⟨(some 39), .mv (.t 8), none, []⟩,
   ⟨(some 40), .mv (.t 6), none, []⟩,
   ⟨(some 41), .call (.f 54) [(.t 38), (.t 39), (.t 40)], none, []⟩,
   ⟨(some 37), .mv (.t 41), none, []⟩,
   ⟨(some 42), .ext (.t 37) 0, none, []⟩,
   ⟨(some 43), .ext (.t 37) 1, none, []⟩,
   ⟨(some 9), .mv (.t 42), none, []⟩,
   ⟨(some 10), .mv (.t 43), none, []⟩])
 (.seq (.seq (.ops false [⟨(some 44), .mv (.t 10), none, []⟩,
    ⟨(some 45), .un .not (.t 44), none, []⟩])
  (.cond (.t 45) (.seq (.ops false [⟨(some 4), .mv (.k (bv false)), none, []⟩])
   .ret)
   .skip))
 (.seq (.ops false [⟨(some 46), .buildS 2 1 0 [.int .i64 0] [], none, []⟩,
   ⟨(some 47), .mv (.t 9), none, []⟩,
   ⟨(some 48), .mv (.t 7), none, []⟩,
   ⟨(some 49), .slice 1 (.t 47) none (some (.t 48)), none, []⟩,
   ⟨(some 50), .append 2 1 8 (.t 46) (.t 49), none, []⟩,
   ⟨(some 11), .mv (.t 50), none, []⟩])
 (.seq (.ops false [⟨(some 52), .load true 3 (.t 5), none, []⟩,
   ⟨(some 53), .mv (.t 11), none, []⟩,
   ⟨(some 54), .mv (.t 6), none, []⟩,
   ⟨(some 55), .call (.f 55) [(.t 52), (.t 53), (.t 54)], none, []⟩,
   ⟨(some 51), .mv (.t 55), none, []⟩,
   ⟨(some 56), .ext (.t 51) 0, none, []⟩,
   ⟨(some 57), .ext (.t 51) 1, none, []⟩,
   ⟨(some 12), .mv (.t 56), none, []⟩,
   ⟨(some 13), .mv (.t 57), none, []⟩])
 (.seq (.ops false [⟨(some 59), .load true 3 (.t 5), none, []⟩,
   ⟨(some 60), .mv (.t 7), none, []⟩,
   ⟨(some 61), .mv (.t 6), none, []⟩,
   ⟨(some 62), .call (.f 56) [(.t 59), (.t 60), (.t 61)], none, []⟩,
   ⟨(some 58), .mv (.t 62), none, []⟩,
   ⟨(some 63), .ext (.t 58) 0, none, []⟩,
   ⟨(some 64), .ext (.t 58) 1, none, []⟩,
   ⟨(some 14), .mv (.t 63), none, []⟩,
   ⟨(some 15), .mv (.t 64), none, []⟩])
 (.seq (.ops false [⟨(some 66), .load true 3 (.t 5), none, []⟩,
   ⟨(some 67), .mv (.t 7), none, []⟩,
   ⟨(some 68), .mv (.t 6), none, []⟩,
   ⟨(some 69), .bin .add (.t 68) (.k (iv 1)), none, []⟩,
   ⟨(some 70), .call (.f 56) [(.t 66), (.t 67), (.t 69)], none, []⟩,
   ⟨(some 65), .mv (.t 70), none, []⟩,
   ⟨(some 71), .ext (.t 65) 0, none, []⟩,
   ⟨(some 72), .ext (.t 65) 1, none, []⟩,
   ⟨(some 16), .mv (.t 71), none, []⟩,
   ⟨(some 17), .mv (.t 72), none, []⟩])
 (.seq (.seq (.ops false [⟨(some 73), .mv (.t 13), none, []⟩,
    ⟨(some 74), .un .not (.t 73), none, []⟩,
    ⟨(some 75), .mv (.t 74), none, []⟩,
    ⟨(some 76), .mv (.t 15), (some (75, false)), []⟩,
    ⟨(some 77), .un .not (.t 76), (some (75, false)), []⟩,
    ⟨(some 78), .pick (.t 75) (.k (bv true)) (.t 77), none, []⟩,
    ⟨(some 79), .mv (.t 78), none, []⟩,
    ⟨(some 80), .mv (.t 12), (some (79, false)), []⟩,
    ⟨(some 81), .un .not (.t 80), (some (79, false)), []⟩,
    ⟨(some 82), .pick (.t 79) (.k (bv true)) (.t 81), none, []⟩,
    ⟨(some 83), .mv (.t 82), none, []⟩,
    ⟨(some 84), .mv (.t 14), (some (83, false)), []⟩,
    ⟨(some 85), .bin .lss (.t 84) (.k (iv 1)), (some (83, false)), []⟩,
    ⟨(some 86), .pick (.t 83) (.k (bv true)) (.t 85), none, []⟩,
    ⟨(some 87), .mv (.t 86), none, []⟩,
    ⟨(some 88), .mv (.t 14), (some (87, false)), []⟩,
    ⟨(some 89), .mv (.t 7), (some (87, false)), []⟩,
    ⟨(some 90), .bin .shl (.k (iv 1)) (.t 89), (some (87, false)), []⟩,
    ⟨(some 91), .bin .gtr (.t 88) (.t 90), (some (87, false)), []⟩,
    ⟨(some 92), .pick (.t 87) (.k (bv true)) (.t 91), none, []⟩])
  (.cond (.t 92) (.seq (.ops false [⟨(some 4), .mv (.k (bv false)), none, []⟩])
   .ret)
   .skip))
 (.seq (.ops false [⟨(some 94), .load true 3 (.t 5), none, []⟩,
   ⟨(some 95), .mv (.t 7), none, []⟩,
   ⟨(some 96), .mv (.t 6), none, []⟩,
   ⟨(some 97), .bin .add (.t 96) (.k (iv 1)), none, []⟩,
   ⟨(some 98), .call (.f 57) [(.t 94), (.t 95), (.t 97)], none, []⟩,
   ⟨(some 93), .mv (.t 98), none, []⟩,
   ⟨(some 99), .ext (.t 93) 0, none, []⟩,
   ⟨(some 100), .ext (.t 93) 1, none, []⟩,
   ⟨(some 18), .mv (.t 99), none, []⟩,
   ⟨(some 19), .mv (.t 100), none, []⟩])
 (.seq (.seq (.ops false [⟨(some 101), .mv (.t 17), none, []⟩,
    ⟨(some 102), .mv (.t 19), none, []⟩,
    ⟨(some 103), .beq true (.t 101) (.t 102), none, []⟩,
    ⟨(some 104), .mv (.t 103), none, []⟩,
    ⟨(some 105), .mv (.t 17), (some (104, false)), []⟩,
    ⟨(some 106), .mv (.t 105), (some (104, false)), []⟩,
    ⟨(some 107), .mv (.t 16), (some (106, true)), []⟩,
    ⟨(some 108), .mv (.t 14), (some (106, true)), []⟩,
    ⟨(some 109), .bin .gtr (.t 107) (.t 108), (some (106, true)), []⟩,
    ⟨(some 110), .pick (.t 106) (.t 109) (.k (bv false)), (some (104, false)), []⟩,
    ⟨(some 111), .pick (.t 104) (.k (bv true)) (.t 110), none, []⟩,
    ⟨(some 112), .mv (.t 111), none, []⟩,
    ⟨(some 113), .mv (.t 6), (some (112, false)), []⟩,
    ⟨(some 114), .bin .eql (.t 113) (.k (iv 0)), (some (112, false)), []⟩,
    ⟨(some 115), .mv (.t 114), (some (112, false)), []⟩,
    ⟨(some 116), .mv (.t 14), (some (115, true)), []⟩,
    ⟨(some 117), .mv (.t 7), (some (115, true)), []⟩,
    ⟨(some 118), .bin .shl (.k (iv 1)) (.t 117), (some (115, true)), []⟩,
    ⟨(some 119), .bin .neq (.t 116) (.t 118), (some (115, true)), []⟩,
    ⟨(some 120), .pick (.t 115) (.t 119) (.k (bv false)), (some (112, false)), []⟩,
    ⟨(some 121), .pick (.t 112) (.k (bv true)) (.t 120), none, []⟩])
  (.cond (.t 121) (.seq (.ops false [⟨(some 4), .mv (.k (bv false)), none, []⟩])
   .ret)
   .skip))
 (.seq (.ops false [⟨(some 122), .mv (.t 0), none, []⟩,
   ⟨(some 123), .mv (.t 7), none, []⟩,
   ⟨(some 124), .call (.f 37) [(.t 122), (.k (iv 2)), (.t 123)], none, []⟩,
   ⟨(some 20), .mv (.t 124), none, []⟩])
 (.seq (.ops false [⟨(some 126), .load true 3 (.t 5), none, []⟩,
   ⟨(some 127), .mv (.t 20), none, []⟩,
   ⟨(some 128), .call (.f 55) [(.t 126), (.t 127), (.k (iv 1))], none, []⟩,
   ⟨(some 125), .mv (.t 128), none, []⟩,
   ⟨(some 129), .ext (.t 125) 0, none, []⟩,
   ⟨(some 130), .ext (.t 125) 1, none, []⟩,
   ⟨(some 21), .mv (.t 129), none, []⟩,
   ⟨(some 22), .mv (.t 130), none, []⟩])
 (.seq (.ops false [⟨(some 132), .load true 3 (.t 5), none, []⟩,
   ⟨(some 133), .mv (.t 20), none, []⟩,
   ⟨(some 134), .call (.f 58) [(.t 132), (.t 133)], none, []⟩,
   ⟨(some 131), .mv (.t 134), none, []⟩,
   ⟨(some 135), .ext (.t 131) 0, none, []⟩,
   ⟨(some 136), .ext (.t 131) 1, none, []⟩,
   ⟨(some 23), .mv (.t 135), none, []⟩,
   ⟨(some 24), .mv (.t 136), none, []⟩])
 (.seq (.ops false [⟨(some 137), .mv (.t 22), none, []⟩,
   ⟨(some 138), .mv (.t 137), none, []⟩,
   ⟨(some 139), .mv (.t 24), (some (138, true)), []⟩,
   ⟨(some 140), .pick (.t 138) (.t 139) (.k (bv false)), none, []⟩,
   ⟨(some 141), .mv (.t 140), none, []⟩,
   ⟨(some 142), .mv (.t 21), (some (141, true)), []⟩,
   ⟨(some 143), .mv (.t 23), (some (141, true)), []⟩,
   ⟨(some 144), .bin .gtr (.t 143) (.k (iv 0)), (some (141, true)), []⟩,
   ⟨(some 145), .beq false (.t 142) (.t 144), (some (141, true)), []⟩,
   ⟨(some 146), .pick (.t 141) (.t 145) (.k (bv false)), none, []⟩,
   ⟨(some 4), .mv (.t 146), none, []⟩])
 .ret)))))))))))))))))))⟩
theorem code10 : acode Try.prog hints 10 = some L10 := by kernel_rfl


theorem c_canV {s : St} [Wf s] {st re T0 : Int} {t : Bool} {id_xs off_xs len_xs : Nat} {xs : List Int} [h_xs : ArgE ic s id_xs off_xs xs] (hl_xs : xs.length = len_xs := by first | rfl | simp | omega | (simp; omega)) {id_ws off_ws len_ws : Nat} {ws : List Int} [h_ws : ArgE ic s id_ws off_ws ws] (hl_ws : ws.length = len_ws := by first | rfl | simp | omega | (simp; omega)) (hp : CcP st re xs ws T0) (ht : t = true ↔ comB st re xs ws T0) (hb : len_xs ≤ 2000000 ∧ len_ws ≤ 2000000 := by omega) : FnV 55 [.agg [ic st, ic re, .sl id_xs off_xs len_xs], .c (.sl id_ws off_ws len_ws), iv T0] s (.tup [.c (.bool t), .c (.bool true)]) := by
  have k := c_implCanCome (s := s) (st := st) (re := re) (T0 := T0) (id_xs := id_xs) (off_xs := off_xs) (xs := xs) (id_ws := id_ws) (off_ws := off_ws) (ws := ws) (hl_xs := hl_xs) (hl_ws := hl_ws)
  have e : tt (CcP st re xs ws T0 ∧ comB st re xs ws T0) = t := by
    cases t with
    | true => exact tt_t ⟨hp, ht.1 rfl⟩
    | false => exact tt_f fun g => by have := ht.2 g.2; cases this
  rw [boolV, e, tt_t hp] at k; exact k
theorem c_wordsV {s : St} [Wf s] {st re n0 T0 : Int} {id_xs off_xs len_xs : Nat} {xs : List Int} [h_xs : ArgE ic s id_xs off_xs xs] (hl_xs : xs.length = len_xs := by first | rfl | simp | omega | (simp; omega)) (hp : CmP st re xs n0 T0) (hb : len_xs ≤ 2000000 := by omega) : FnV 56 [.agg [ic st, ic re, .sl id_xs off_xs len_xs], iv n0, iv T0] s (.tup [.c (ic (comN st re xs n0 T0)), .c (.bool true)]) := by
  have k := c_implWordsThatCome (s := s) (st := st) (re := re) (n0 := n0) (T0 := T0) (id_xs := id_xs) (off_xs := off_xs) (xs := xs) (hl_xs := hl_xs)
  rw [numV, sel_t hp, tt_t hp] at k; exact k
theorem c_wordsS {s : St} [Wf s] {st re n0 T0 : Int} {id_xs off_xs len_xs : Nat} {xs : List Int} [h_xs : ArgE ic s id_xs off_xs xs] (hl_xs : xs.length = len_xs := by first | rfl | simp | omega | (simp; omega)) (hp : CmP st re xs n0 T0) (hb : len_xs ≤ 2000000 := by omega) : FnV 57 [.agg [ic st, ic re, .sl id_xs off_xs len_xs], iv n0, iv T0] s (.tup [.c (ic (comN st re xs n0 T0)), .c (.bool true)]) := by
  have k := c_specWordsThatCome (s := s) (st := st) (re := re) (n0 := n0) (T0 := T0) (id_xs := id_xs) (off_xs := off_xs) (xs := xs) (hl_xs := hl_xs)
  rw [numV, sel_t hp, tt_t hp] at k; exact k
theorem c_backV {s : St} [Wf s] {st re : Int} {id_xs off_xs len_xs : Nat} {xs : List Int} [h_xs : ArgE ic s id_xs off_xs xs] (hl_xs : xs.length = len_xs := by first | rfl | simp | omega | (simp; omega)) {id_ws off_ws len_ws : Nat} {ws : List Int} [h_ws : ArgE ic s id_ws off_ws ws] (hl_ws : ws.length = len_ws := by first | rfl | simp | omega | (simp; omega)) (hp : WbP st re xs ws) (hb : len_xs ≤ 2000000 ∧ len_ws ≤ 2000000 := by omega) : FnV 58 [.agg [ic st, ic re, .sl id_xs off_xs len_xs], .c (.sl id_ws off_ws len_ws)] s (.tup [.c (ic (wbkR st re xs ws)), .c (.bool true)]) := by
  have k := c_specWordsBack (s := s) (st := st) (re := re) (id_xs := id_xs) (off_xs := off_xs) (xs := xs) (id_ws := id_ws) (off_ws := off_ws) (ws := ws) (hl_xs := hl_xs) (hl_ws := hl_ws)
  rw [numV, sel_t hp, tt_t hp] at k; exact k
theorem A_shl1 {B : List Nat} {b : St} {L : Objs} {l : List AStep} {hist : List Objs} {fr : Frm} {kk : KK} {d : Nat} {chk : List Nat} {g : Option (Nat × Bool)} {y : Opd} {n : Nat} {q : IntKind} (hy : ev fr y = some (.c (.int q (n : Int)))) (hg : gon fr g = some true) (hn : n ≤ 12)
    (h : At B b L l hist ((d, iv ((2 ^ n : Nat) : Int)) :: fr) kk) : At B b L (⟨some d, .bin .shl (.k (iv 1)) y, g, chk⟩ :: l) hist fr kk := by
  refine A_p ?_ hg h
  have hx : ev fr (.k (iv 1)) = some (iv 1) := rfl
  simp only [evP, hx, hy, Option.bind_some, binV, intBin]
  rw [if_neg (by omega)]
  obtain rfl | rfl | rfl | rfl | rfl | rfl | rfl | rfl | rfl | rfl | rfl | rfl | rfl : n = 0 ∨ n = 1 ∨ n = 2 ∨ n = 3 ∨ n = 4 ∨ n = 5 ∨ n = 6 ∨ n = 7 ∨ n = 8 ∨ n = 9 ∨ n = 10 ∨ n = 11 ∨ n = 12 := by omega
  all_goals rfl
/-- 'append' of the beginning of a list to a list without numbers. -/
theorem A_appNP {B : List Nat} {b : St} {L : Objs} {l : List AStep} {hist : List Objs} {fr : Frm} {kk : KK} {d : Nat} {chk : List Nat} {g : Option (Nat × Bool)} {t by_ p id off m : Nat} {x y : Opd} {ys : List Int} (hx : ev fr x = some (.c (.sl p 0 0))) (hp : p ≤ 1) (hy : ev fr y = some (.c (.sl id off m))) (hg : gon fr g = some true) [hn : LookE ic B b L id off ys] (hm : 0 < m ∧ m ≤ ys.length) (hb : m * by_ ≤ 140737488355328 ∧ m ≤ 4611686018427387904)
    (h : ∀ p', At B b ((p', .rw t 1 ((ys.take m).map ic)) :: L) l (hist ++ [L]) ((d, .c (.sl p' 0 m)) :: fr) kk) : At B b L (⟨some d, .append t 1 by_ x y, g, chk⟩ :: l) hist fr kk := by
  haveI : LookE ic B b L id off (ys.take m) := ⟨fun s H => by
    have := (hn.h s H).part (a := 0) (n := m) (by omega) hm.1
    rwa [Nat.add_zero, List.drop_zero] at this⟩
  exact A_appN hx hp hy hg (by simp; omega) hb h
theorem c_FnComing {s : St} [Wf s] {i0 o0 n0 i1 o1 n1 : Nat} {x0 x1 : List Int} (h0 : ArgE ub s i0 o0 x0) (l0 : x0.length = n0) (b0 : ∀ n ∈ x0, (Lit.int .u8 n).wf = true) (u0 : n0 ≤ 9223372036854775807) (h1 : ArgE ub s i1 o1 x1) (l1 : x1.length = n1) (b1 : ∀ n ∈ x1, (Lit.int .u8 n).wf = true) (u1 : n1 ≤ 9223372036854775807) :
    FnV 10 [.c (.sl i0 o0 n0), .c (.sl i1 o1 n1)] s (bv true) := by
  have c0 := wfU8 b0
  have c1 := wfU8 b1
  refine F_start code10 ?_
  by_cases hlong : 1048576 < n0 ∨ 1048576 < n1
  · repeat' (first
 | refine A_go rfl ?_ | refine A_ifT rfl rfl ?_ | refine A_ifF rfl rfl ?_
 | refine A_offP rfl rfl ?_ | refine A_offH rfl rfl ?_ | refine A_off0 rfl rfl ?_
 | refine A_add rfl rfl rfl (by omega) ?_
 | ((first | refine A_lt rfl rfl rfl ?_ ?_ | refine A_gt rfl rfl rfl ?_ ?_ | refine A_eq rfl rfl rfl ?_ ?_ | refine A_ne rfl rfl rfl ?_ ?_ | refine A_beq rfl rfl rfl ?_ ?_) <;> intro hc <;> try first | contradiction | (exfalso; omega) | exact absurd rfl hc)
 | (refine A_callB rfl rfl (fun s H => c_b10Long) ?_ ?_ <;> intro hc <;> try first | contradiction | (exfalso; omega) | exact absurd rfl hc | exact absurd (And.intro rfl rfl) hc | exact absurd (And.intro rfl (And.intro rfl rfl)) hc | exact absurd (Eq.trans (by assumption) (Eq.symm (by assumption))) hc)
 | refine A_p (by rfl) rfl ?_
 | refine A_ldW rfl (by simp) rfl ?_
 | refine A_stW rfl rfl (by simp) rfl ?_
 | ((first | refine A_alloc rfl ?_ | refine A_bld1 rfl rfl ?_ | refine A_bld2 rfl rfl rfl ?_ | refine A_bld4 rfl rfl rfl rfl rfl ?_) <;> intro pz hpz)
 | refine A_bld0 rfl ?_
 | (refine A_app rfl rfl rfl (by first | omega | (simp; done) | (simp; omega)) (by first | omega | (simp; done) | (simp; omega)) (by omega) ?_; intro pz) | (refine A_appN (enc := ic) rfl (by decide) rfl rfl (by first | omega | (simp; done) | (simp; omega)) (by omega) ?_; intro pz)
 | refine A_ret1 rfl (by exact (RP.t rfl RP.nil)) ?_)
    exact R_v rfl
  repeat' (first
 | refine A_go rfl ?_ | refine A_ifT rfl rfl ?_ | refine A_ifF rfl rfl ?_
 | refine A_offP rfl rfl ?_ | refine A_offH rfl rfl ?_ | refine A_off0 rfl rfl ?_
 | refine A_add rfl rfl rfl (by omega) ?_
 | ((first | refine A_lt rfl rfl rfl ?_ ?_ | refine A_gt rfl rfl rfl ?_ ?_ | refine A_eq rfl rfl rfl ?_ ?_ | refine A_ne rfl rfl rfl ?_ ?_ | refine A_beq rfl rfl rfl ?_ ?_) <;> intro hc <;> try first | contradiction | (exfalso; omega) | exact absurd rfl hc)
 | (refine A_callB rfl rfl (fun s H => c_b10Long) ?_ ?_ <;> intro hc <;> try first | contradiction | (exfalso; omega) | exact absurd rfl hc | exact absurd (And.intro rfl rfl) hc | exact absurd (And.intro rfl (And.intro rfl rfl)) hc | exact absurd (Eq.trans (by assumption) (Eq.symm (by assumption))) hc)
 | (refine A_callM rfl rfl (fun s H => c_B10Rule (hl := l0) (hr := c0)) ?_; rintro _ _ ⟨pz, xs, rfl, hvr, hxl, rfl⟩) | (refine A_callM0 rfl rfl (fun s H => c_B10Rule (hl := l0) (hr := c0)) ?_; rintro _ _ ⟨pz, xs, rfl, hvr, hxl, rfl⟩)
 | (refine A_callM rfl rfl (fun s H => c_b10At (hl := l1) (hr := c1)) ?_; rintro _ _ ⟨⟨x, rfl, hx⟩, rfl⟩) | (refine A_callM0 rfl rfl (fun s H => c_b10At (hl := l1) (hr := c1)) ?_; rintro _ _ ⟨⟨x, rfl, hx⟩, rfl⟩)
 | refine A_p (by rfl) rfl ?_
 | refine A_ldW rfl (by simp) rfl ?_
 | refine A_stW rfl rfl (by simp) rfl ?_
 | ((first | refine A_alloc rfl ?_ | refine A_bld1 rfl rfl ?_ | refine A_bld2 rfl rfl rfl ?_ | refine A_bld4 rfl rfl rfl rfl rfl ?_) <;> intro pz hpz)
 | refine A_bld0 rfl ?_
 | (refine A_app rfl rfl rfl (by first | omega | (simp; done) | (simp; omega)) (by first | omega | (simp; done) | (simp; omega)) (by omega) ?_; intro pz) | (refine A_appN (enc := ic) rfl (by decide) rfl rfl (by first | omega | (simp; done) | (simp; omega)) (by omega) ?_; intro pz)
 | refine A_ret1 rfl (by exact (RP.t rfl RP.nil)) ?_)
  rename_i xt hxt
  obtain ⟨T, rfl⟩ : ∃ T : Nat, xt = T := ⟨xt.toNat, by omega⟩
  obtain ⟨n, hn⟩ : ∃ n : Nat, 1 + x = n := ⟨(1 + x).toNat, by omega⟩
  rw [hn]
  have hT : T < 4 := by omega
  have hn6 : 1 ≤ n ∧ n ≤ 6 := by omega
  clear hx hn hxt
  have hE : (4 : Nat) = 2 ^ (3 - 1) := rfl
  have hl2 : xs.length = 4 * 2 := hxl
  have hd : DG 2 xs := fun x hx => by have := hvr.2.2.2 x hx; omega
  repeat' (first
 | refine A_go rfl ?_ | refine A_ifT rfl rfl ?_ | refine A_ifF rfl rfl ?_
 | refine A_offP rfl rfl ?_ | refine A_offH rfl rfl ?_ | refine A_off0 rfl rfl ?_
 | refine A_add rfl rfl rfl (by omega) ?_
 | ((first | refine A_lt rfl rfl rfl ?_ ?_ | refine A_gt rfl rfl rfl ?_ ?_ | refine A_eq rfl rfl rfl ?_ ?_ | refine A_ne rfl rfl rfl ?_ ?_ | refine A_beq rfl rfl rfl ?_ ?_) <;> intro hc <;> try first | contradiction | (exfalso; omega) | exact absurd rfl hc)
 | (refine A_callM rfl rfl (fun s H => c_B10Ring (n := 12) (hl := l1) (hr := c1)) ?_; rintro _ _ ⟨pz, ys, rfl, hrg, hyl, rfl⟩) | (refine A_callM0 rfl rfl (fun s H => c_B10Ring (n := 12) (hl := l1) (hr := c1)) ?_; rintro _ _ ⟨pz, ys, rfl, hrg, hyl, rfl⟩)
 | refine A_p (by rfl) rfl ?_
 | refine A_ldW rfl (by simp) rfl ?_
 | refine A_stW rfl rfl (by simp) rfl ?_
 | ((first | refine A_alloc rfl ?_ | refine A_bld1 rfl rfl ?_ | refine A_bld2 rfl rfl rfl ?_ | refine A_bld4 rfl rfl rfl rfl rfl ?_) <;> intro pz hpz)
 | refine A_bld0 rfl ?_
 | (refine A_app rfl rfl rfl (by first | omega | (simp; done) | (simp; omega)) (by first | omega | (simp; done) | (simp; omega)) (by omega) ?_; intro pz) | (refine A_appN (enc := ic) rfl (by decide) rfl rfl (by first | omega | (simp; done) | (simp; omega)) (by omega) ?_; intro pz)
 | refine A_ret1 rfl (by exact (RP.t rfl RP.nil)) ?_)
  have hrun : RnP 2 1 xs ys T := ⟨⟨hvr, hrg⟩, by omega, by omega⟩
  have hrr : RG 2 (runR 2 1 xs ys T) := runR_rg hvr hrg T
  have hrl : (runR 2 1 xs ys T).length = 12 := by rw [runR_len]; exact hyl
  have hws : DG 2 ((runR 2 1 xs ys T).take n) := fun x hx => by have := hrr.2 x (List.mem_of_mem_take hx); omega
  have hwl : ((runR 2 1 xs ys T).take n).length = n := by simp; omega
  have hm1 : CmP 2 1 xs n T := ⟨hvr, by omega, by omega, by simp [most]; omega⟩
  have hm2 : CmP 2 1 xs n ((T : Int) + 1) := ⟨hvr, by omega, by omega, by simp [most]; omega⟩
  have hcan0 : (cimg 2 3 xs n T).1.getD (nm 2 ((runR 2 1 xs ys T).take n)) false = true := by
    have h := ring_comes (S := 2) (w := 3) (E := 4) (n := n) (T := T) (re := 1) hvr hrg rfl hE hl2 hd
    rw [hood_take (by rw [runR_len]; omega)] at h; exact h
  have hcan : comB 2 1 xs ((runR 2 1 xs ys T).take n) T := by
    have e := comB_eq (S := 2) (w := 3) (T := T) (re := 1) (xs := xs) (ws := (runR 2 1 xs ys T).take n) rfl
    rw [hwl] at e
    exact e.symm ▸ hcan0
  have hcp : CcP 2 1 xs ((runR 2 1 xs ys T).take n) T := ⟨⟨hvr, by omega, fun x hx => by have := hws x hx; omega⟩, by rw [hwl]; exact hm1⟩
  have ec : comN 2 1 xs n T = (cimg 2 3 xs n T).2 := comN_eq (S := 2) (w := 3) (n := n) (T := T) (re := 1) rfl
  have ec1 : comN 2 1 xs n ((T : Int) + 1) = (cimg 2 3 xs n (T + 1)).2 := comN_eq (S := 2) (w := 3) (n := n) (T := T + 1) (re := 1) rfl
  have f1 : 1 ≤ comN 2 1 xs n T := by rw [ec]; exact cms_pos (by omega) hE (by omega) hl2 hd hws hwl hcan0
  have f2 : comN 2 1 xs n T ≤ ((2 ^ n : Nat) : Int) := by rw [ec]; exact cms_most (by omega) hE (by omega) hl2 hd
  have f3 : comN 2 1 xs n ((T : Int) + 1) ≤ comN 2 1 xs n T := by rw [ec, ec1]; exact cms_later (by omega) hE (by omega) hl2 hd
  have f4 : T ≠ 0 ∨ comN 2 1 xs n T = ((2 ^ n : Nat) : Int) := by
    by_cases h0 : T = 0
    · subst h0; exact .inr (by rw [ec]; exact cms_none (by omega) hE (by omega) hl2 hd)
    · exact .inl h0
  repeat' (first
 | refine A_go rfl ?_ | refine A_ifT rfl rfl ?_ | refine A_ifF rfl rfl ?_
 | refine A_offP rfl rfl ?_ | refine A_offH rfl rfl ?_ | refine A_off0 rfl rfl ?_
 | refine A_add rfl rfl rfl (by omega) ?_
 | ((first | refine A_lt rfl rfl rfl ?_ ?_ | refine A_gt rfl rfl rfl ?_ ?_ | refine A_eq rfl rfl rfl ?_ ?_ | refine A_ne rfl rfl rfl ?_ ?_ | refine A_beq rfl rfl rfl ?_ ?_) <;> intro hc <;> try first | contradiction | (exfalso; omega) | exact absurd rfl hc)
 | (refine A_callM rfl rfl (fun s H => c_sRunY (h := hrun)) ?_; rintro _ _ ⟨pz, rfl, rfl⟩) | (refine A_callM0 rfl rfl (fun s H => c_sRunY (h := hrun)) ?_; rintro _ _ ⟨pz, rfl, rfl⟩)
 | refine A_slTo rfl rfl rfl (by omega) ?_
 | simp only [Int.toNat_natCast]
 | (refine A_appNP rfl (by decide) rfl rfl (by omega) (by omega) ?_ <;> intro pz)
 | refine A_callV rfl rfl (fun s H => c_canV (t := true) (ws := (runR 2 1 xs ys T).take n) (hl_ws := hwl) (hp := hcp) (ht := ⟨fun _ => hcan, fun _ => rfl⟩)) ?_
 | refine A_callV rfl rfl (fun s H => c_wordsV (hp := hm1)) ?_
 | refine A_callV rfl rfl (fun s H => c_wordsV (hp := hm2)) ?_
 | refine A_callV rfl rfl (fun s H => c_wordsS (hp := hm2)) ?_
 | refine A_shl1 rfl rfl (by omega) ?_
 | refine A_p (by rfl) rfl ?_
 | refine A_ldW rfl (by simp) rfl ?_
 | refine A_stW rfl rfl (by simp) rfl ?_
 | ((first | refine A_alloc rfl ?_ | refine A_bld1 rfl rfl ?_ | refine A_bld2 rfl rfl rfl ?_ | refine A_bld4 rfl rfl rfl rfl rfl ?_) <;> intro pz hpz)
 | refine A_bld0 rfl ?_
 | (refine A_app rfl rfl rfl (by first | omega | (simp; done) | (simp; omega)) (by first | omega | (simp; done) | (simp; omega)) (by omega) ?_; intro pz) | (refine A_appN (enc := ic) rfl (by decide) rfl rfl (by first | omega | (simp; done) | (simp; omega)) (by omega) ?_; intro pz)
 | refine A_ret1 rfl (by exact (RP.t rfl RP.nil)) ?_)
  all_goals
    repeat' (first
 | refine A_go rfl ?_ | refine A_ifT rfl rfl ?_ | refine A_ifF rfl rfl ?_
 | refine A_offP rfl rfl ?_ | refine A_offH rfl rfl ?_ | refine A_off0 rfl rfl ?_
 | refine A_add rfl rfl rfl (by omega) ?_
 | ((first | refine A_lt rfl rfl rfl ?_ ?_ | refine A_gt rfl rfl rfl ?_ ?_ | refine A_eq rfl rfl rfl ?_ ?_ | refine A_ne rfl rfl rfl ?_ ?_ | refine A_beq rfl rfl rfl ?_ ?_) <;> intro hc <;> try first | contradiction | (exfalso; omega) | exact absurd rfl hc)
 | (refine A_callM rfl rfl (fun s H => c_B10Ring (n := n) (hl := l0) (hr := c0)) ?_; rintro _ _ ⟨pz, ys, rfl, hrg, hyl, rfl⟩) | (refine A_callM0 rfl rfl (fun s H => c_B10Ring (n := n) (hl := l0) (hr := c0)) ?_; rintro _ _ ⟨pz, ys, rfl, hrg, hyl, rfl⟩)
 | refine A_p (by rfl) rfl ?_
 | refine A_ldW rfl (by simp) rfl ?_
 | refine A_stW rfl rfl (by simp) rfl ?_
 | ((first | refine A_alloc rfl ?_ | refine A_bld1 rfl rfl ?_ | refine A_bld2 rfl rfl rfl ?_ | refine A_bld4 rfl rfl rfl rfl rfl ?_) <;> intro pz hpz)
 | refine A_bld0 rfl ?_
 | (refine A_app rfl rfl rfl (by first | omega | (simp; done) | (simp; omega)) (by first | omega | (simp; done) | (simp; omega)) (by omega) ?_; intro pz) | (refine A_appN (enc := ic) rfl (by decide) rfl rfl (by first | omega | (simp; done) | (simp; omega)) (by omega) ?_; intro pz)
 | refine A_ret1 rfl (by exact (RP.t rfl RP.nil)) ?_)
    have hws2 : DG 2 ys := fun x hx => by have := hrg.2 x hx; omega
    have hwp : WbP 2 1 xs ys := ⟨hvr, by omega, fun x hx => by have := hws2 x hx; omega⟩
    have hcp2 : CcP 2 1 xs ys 1 := ⟨hwp, by rw [hyl]; exact ⟨hvr, by omega, by omega, by simp [most]; omega⟩⟩
    have hob : comB 2 1 xs ys 1 ↔ 0 < wbkR 2 1 xs ys := by
      have e := comB_eq (S := 2) (w := 3) (T := 1) (re := 1) (xs := xs) (ws := ys) rfl
      exact (iff_of_eq e).trans (once_back (by omega) hE (by omega) hl2 hd hws2)
    by_cases h : 0 < wbkR 2 1 xs ys
    · have ht : true = true ↔ comB 2 1 xs ys 1 := ⟨fun _ => hob.2 h, fun _ => rfl⟩
      repeat' (first
 | refine A_go rfl ?_ | refine A_ifT rfl rfl ?_ | refine A_ifF rfl rfl ?_
 | refine A_offP rfl rfl ?_ | refine A_offH rfl rfl ?_ | refine A_off0 rfl rfl ?_
 | refine A_add rfl rfl rfl (by omega) ?_
 | ((first | refine A_lt rfl rfl rfl ?_ ?_ | refine A_gt rfl rfl rfl ?_ ?_ | refine A_eq rfl rfl rfl ?_ ?_ | refine A_ne rfl rfl rfl ?_ ?_ | refine A_beq rfl rfl rfl ?_ ?_) <;> intro hc <;> try first | contradiction | (exfalso; omega) | exact absurd rfl hc)
 | refine A_callV rfl rfl (fun s H => c_canV (t := true) (ws := ys) (hp := hcp2) (ht := ht)) ?_
 | refine A_callV rfl rfl (fun s H => c_backV (ws := ys) (hp := hwp)) ?_
 | refine A_p (by rfl) rfl ?_
 | refine A_ldW rfl (by simp) rfl ?_
 | refine A_stW rfl rfl (by simp) rfl ?_
 | ((first | refine A_alloc rfl ?_ | refine A_bld1 rfl rfl ?_ | refine A_bld2 rfl rfl rfl ?_ | refine A_bld4 rfl rfl rfl rfl rfl ?_) <;> intro pz hpz)
 | refine A_bld0 rfl ?_
 | (refine A_app rfl rfl rfl (by first | omega | (simp; done) | (simp; omega)) (by first | omega | (simp; done) | (simp; omega)) (by omega) ?_; intro pz) | (refine A_appN (enc := ic) rfl (by decide) rfl rfl (by first | omega | (simp; done) | (simp; omega)) (by omega) ?_; intro pz)
 | refine A_ret1 rfl (by exact (RP.t rfl RP.nil)) ?_)
      exact R_v rfl
    · have ht : false = true ↔ comB 2 1 xs ys 1 := ⟨fun e => (by cases e), fun g => absurd (hob.1 g) h⟩
      repeat' (first
 | refine A_go rfl ?_ | refine A_ifT rfl rfl ?_ | refine A_ifF rfl rfl ?_
 | refine A_offP rfl rfl ?_ | refine A_offH rfl rfl ?_ | refine A_off0 rfl rfl ?_
 | refine A_add rfl rfl rfl (by omega) ?_
 | ((first | refine A_lt rfl rfl rfl ?_ ?_ | refine A_gt rfl rfl rfl ?_ ?_ | refine A_eq rfl rfl rfl ?_ ?_ | refine A_ne rfl rfl rfl ?_ ?_ | refine A_beq rfl rfl rfl ?_ ?_) <;> intro hc <;> try first | contradiction | (exfalso; omega) | exact absurd rfl hc)
 | refine A_callV rfl rfl (fun s H => c_canV (t := false) (ws := ys) (hp := hcp2) (ht := ht)) ?_
 | refine A_callV rfl rfl (fun s H => c_backV (ws := ys) (hp := hwp)) ?_
 | refine A_p (by rfl) rfl ?_
 | refine A_ldW rfl (by simp) rfl ?_
 | refine A_stW rfl rfl (by simp) rfl ?_
 | ((first | refine A_alloc rfl ?_ | refine A_bld1 rfl rfl ?_ | refine A_bld2 rfl rfl rfl ?_ | refine A_bld4 rfl rfl rfl rfl rfl ?_) <;> intro pz hpz)
 | refine A_bld0 rfl ?_
 | (refine A_app rfl rfl rfl (by first | omega | (simp; done) | (simp; omega)) (by first | omega | (simp; done) | (simp; omega)) (by omega) ?_; intro pz) | (refine A_appN (enc := ic) rfl (by decide) rfl rfl (by first | omega | (simp; done) | (simp; omega)) (by omega) ?_; intro pz)
 | refine A_ret1 rfl (by exact (RP.t rfl RP.nil)) ?_)
      exact R_v rfl

end Go.Proofs.Ytafdjnhlhepibaa
