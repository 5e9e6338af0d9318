/- The function that goes back: all rings that lead to one, in order. -/
import Derived.Test.YtlmbgaoeplffkaaXback
import Derived.Test.YtlmbgaoeplffkaaXmat
import Derived.Test.YtlmbgaoeplffkaaFB
namespace Go.Proofs.Ytlmbgaoeplffkaa
open Go Go.RowKit
set_option linter.unusedVariables false
set_option linter.unusedSimpArgs false
set_option maxRecDepth 100000
set_option maxHeartbeats 8000000
-- (impl.Rule).back
def L35 : AFun := ⟨111, [],
 (.seq (.ops false [⟨(some 3), .box 27 (.t 0), none, []⟩,
   ⟨(some 4), .box 25 (.t 1), none, []⟩,
   ⟨(some 5), .box 62 (.t 2), none, []⟩])
 (.seq (.ops false [⟨(some 16), .load true 3 (.t 3), none, []⟩,
   ⟨(some 17), .call (.f 44) [(.t 16)], none, []⟩,
   ⟨(some 6), .mv (.t 17), none, []⟩])
 (.seq (.ops false [⟨(some 18), .mv (.t 6), none, []⟩,
   ⟨(some 19), .mv (.k (iv 0)), none, []⟩])
 (.block 0 (.loop [3, 4, 5, 6, 18, 19] (.seq (.ops false [⟨(some 20), .bin .lss (.t 19) (.t 18), none, []⟩])
   (.seq (.cond (.t 20) .skip
     (.exit 0))
   (.seq (.block 1 (.seq (.ops false [⟨(some 21), .mv (.t 19), none, []⟩,
       ⟨(some 7), .mv (.t 21), none, []⟩])
     (.seq (.ops false [⟨(some 22), .load false 1 (.t 4), none, []⟩,
       ⟨(some 23), .len false (.t 22), none, []⟩,
       ⟨(some 24), .bin .add (.t 23) (.k (iv 1)), none, []⟩,
       ⟨(some 25), .makeS 75 1 24 [.sl 0 0 0] (.t 24) (.t 24), none, []⟩,
       ⟨(some 8), .alloc 89 [.sl 0 0 0], none, []⟩,
       ⟨none, .store 1 (.t 8) (.t 25), none, []⟩])
     (.seq (.ops true [⟨(some 26), .load false 1 (.t 8), none, []⟩,
       ⟨(some 27), .load false 1 (.t 4), none, []⟩,
       ⟨(some 28), .len false (.t 27), none, []⟩,
       ⟨(some 29), .mv (.t 6), none, []⟩,
       ⟨(some 30), .makeS 4 1 1 [.bool false] (.t 29) (.t 29), none, []⟩,
       ⟨(some 31), .idxA 1 (.t 26) (.t 28), none, []⟩,
       ⟨none, .store 1 (.t 31) (.t 30), none, []⟩])
     (.seq (.ops false [⟨(some 32), .load false 1 (.t 8), none, []⟩,
       ⟨(some 33), .load false 1 (.t 4), none, []⟩,
       ⟨(some 34), .len false (.t 33), none, []⟩,
       ⟨(some 35), .idxA 1 (.t 32) (.t 34), none, []⟩,
       ⟨(some 36), .load false 1 (.t 35), none, []⟩,
       ⟨(some 37), .mv (.t 7), none, []⟩,
       ⟨(some 38), .idxA 1 (.t 36) (.t 37), none, []⟩,
       ⟨none, .store 1 (.t 38) (.k (bv true)), none, []⟩])
     (.seq (.seq (.ops false [⟨(some 39), .load false 1 (.t 4), none, []⟩,
        ⟨(some 40), .len false (.t 39), none, []⟩,
        ⟨(some 41), .bin .sub (.t 40) (.k (iv 1)), none, []⟩,
        ⟨(some 9), .mv (.t 41), none, []⟩])
      (.block 2 (.loop [3, 4, 5, 6, 7, 8, 9, 18, 19] (.seq (.seq (.ops false [⟨(some 42), .mv (.t 9), none, []⟩,
           ⟨(some 43), .bin .geq (.t 42) (.k (iv 0)), none, []⟩])
         (.cond (.t 43) .skip
          (.exit 2)))
        (.seq (.block 3 (.seq (.ops true [⟨(some 46), .load false 1 (.t 8), none, []⟩,
            ⟨(some 47), .mv (.t 9), none, []⟩,
            ⟨(some 48), .mv (.t 6), none, []⟩,
            ⟨(some 49), .makeS 4 1 1 [.bool false] (.t 48) (.t 48), none, []⟩,
            ⟨(some 50), .idxA 1 (.t 46) (.t 47), none, []⟩,
            ⟨none, .store 1 (.t 50) (.t 49), none, []⟩])
          (.seq (.ops false [⟨(some 51), .mv (.t 6), none, []⟩,
            ⟨(some 52), .mv (.k (iv 0)), none, []⟩])
          (.block 4 (.loop [3, 4, 5, 6, 7, 8, 9, 18, 19, 51, 52] (.seq (.ops false [⟨(some 53), .bin .lss (.t 52) (.t 51), none, []⟩])
            (.seq (.cond (.t 53) .skip
              (.exit 4))
            (.seq (.block 5 (.seq (.ops false [⟨(some 54), .mv (.t 52), none, []⟩,
                ⟨(some 10), .mv (.t 54), none, []⟩])
              (.seq (.ops false [⟨(some 55), .fieldA 0 (.t 3), none, []⟩,
                ⟨(some 56), .load false 1 (.t 55), none, []⟩,
                ⟨(some 57), .mv (.k (iv 0)), none, []⟩])
              (.block 6 (.loop [3, 4, 5, 6, 7, 8, 9, 10, 18, 19, 51, 52, 56, 57] (.seq (.ops false [⟨(some 58), .bin .lss (.t 57) (.t 56), none, []⟩])
                (.seq (.cond (.t 58) .skip
                  (.exit 6))
                (.seq (.block 7 (.seq (.ops false [⟨(some 59), .mv (.t 57), none, []⟩,
                    ⟨(some 11), .mv (.t 59), none, []⟩])
                  (.seq (.ops false [⟨(some 61), .load true 3 (.t 3), none, []⟩,
                    ⟨(some 62), .mv (.t 10), none, []⟩,
                    ⟨(some 63), .mv (.t 11), none, []⟩,
                    ⟨(some 64), .call (.f 45) [(.t 61), (.t 62), (.t 63)], none, []⟩,
                    ⟨(some 60), .mv (.t 64), none, []⟩,
                    ⟨(some 65), .ext (.t 60) 0, none, []⟩,
                    ⟨(some 66), .ext (.t 60) 1, none, []⟩,
                    ⟨(some 12), .mv (.t 65), none, []⟩,
                    ⟨(some 13), .mv (.t 66), none, []⟩])
                  (.seq (.ops false [⟨(some 67), .mv (.t 13), none, []⟩,
                    ⟨(some 68), .load true 3 (.t 3), none, []⟩,
                    ⟨(some 69), .load false 1 (.t 4), none, []⟩,
                    ⟨(some 70), .mv (.t 9), none, []⟩,
                    ⟨(some 71), .call (.f 62) [(.t 68), (.t 69), (.t 70)], none, []⟩,
                    ⟨(some 72), .bin .eql (.t 67) (.t 71), none, []⟩,
                    ⟨(some 73), .mv (.t 72), none, []⟩,
                    ⟨(some 74), .load false 1 (.t 8), (some (73, true)), []⟩,
                    ⟨(some 75), .mv (.t 9), (some (73, true)), []⟩,
                    ⟨(some 76), .bin .add (.t 75) (.k (iv 1)), (some (73, true)), []⟩,
                    ⟨(some 77), .idxA 1 (.t 74) (.t 76), (some (73, true)), []⟩,
                    ⟨(some 78), .load false 1 (.t 77), (some (73, true)), []⟩,
                    ⟨(some 79), .mv (.t 12), (some (73, true)), []⟩,
                    ⟨(some 80), .idxA 1 (.t 78) (.t 79), (some (73, true)), []⟩,
                    ⟨(some 81), .load false 1 (.t 80), (some (73, true)), []⟩,
                    ⟨(some 82), .pick (.t 73) (.t 81) (.k (bv false)), none, []⟩])
                  (.cond (.t 82) (.ops false [⟨(some 83), .load false 1 (.t 8), none, []⟩,
                    ⟨(some 84), .mv (.t 9), none, []⟩,
                    ⟨(some 85), .idxA 1 (.t 83) (.t 84), none, []⟩,
                    ⟨(some 86), .load false 1 (.t 85), none, []⟩,
                    ⟨(some 87), .mv (.t 10), none, []⟩,
                    ⟨(some 88), .idxA 1 (.t 86) (.t 87), none, []⟩,
                    ⟨none, .store 1 (.t 88) (.k (bv true)), none, []⟩])
                   .skip)))))
                (.ops false [⟨(some 89), .bin .add (.t 57) (.k (iv 1)), none, []⟩,
                 ⟨(some 57), .mv (.t 89), none, []⟩])))))))))
            (.ops false [⟨(some 90), .bin .add (.t 52) (.k (iv 1)), none, []⟩,
             ⟨(some 52), .mv (.t 90), none, []⟩])))))))))
        (.ops false [⟨(some 44), .mv (.t 9), none, []⟩,
         ⟨(some 45), .bin .sub (.t 44) (.k (iv 1)), none, []⟩,
         ⟨(some 9), .mv (.t 45), none, []⟩]))))))
     (.seq (.seq (.ops false [⟨(some 91), .load false 1 (.t 8), none, []⟩,
        ⟨(some 92), .idxA 1 (.t 91) (.k (iv 0)), none, []⟩,
        ⟨(some 93), .load false 1 (.t 92), none, []⟩,
        ⟨(some 94), .mv (.t 7), none, []⟩,
        ⟨(some 95), .idxA 1 (.t 93) (.t 94), none, []⟩,
        ⟨(some 96), .load false 1 (.t 95), none, []⟩,
        ⟨(some 97), .un .not (.t 96), none, []⟩])
      (.cond (.t 97) (.exit 1)
       .skip))
     (.seq (.ops true [⟨(some 101), .load true 3 (.t 3), none, []⟩,
       ⟨(some 102), .call (.f 61) [(.t 101)], none, []⟩,
       ⟨(some 98), .mv (.t 7), none, []⟩,
       ⟨(some 99), .fieldA 0 (.t 3), none, []⟩,
       ⟨(some 100), .load false 1 (.t 99), none, [0]⟩,
       ⟨(some 103), .bin .sub (.t 102) (.k (iv 1)), none, []⟩,
       ⟨(some 104), .call (.f 63) [(.t 98), (.t 100), (.t 103)], none, []⟩,
       ⟨(some 14), .alloc 25 [.sl 0 0 0], none, []⟩,
       ⟨none, .store 1 (.t 14) (.t 104), none, []⟩])
     (.seq (.ops false [⟨(some 15), .alloc 91 [.nilF], none, []⟩])
     (.seq (.ops false [⟨(some 105), .mkFn 64 [(.t 4), (.t 5), (.t 14), (.t 3), (.t 8), (.t 15)], none, []⟩,
       ⟨none, .store 1 (.t 15) (.t 105), none, []⟩])
     (.seq (.ops false [⟨(some 106), .load false 1 (.t 15), none, []⟩,
       ⟨(some 107), .mv (.t 7), none, []⟩,
       ⟨(some 108), .call (.t 106) [(.k (iv 0)), (.t 107)], none, []⟩,
       ⟨(some 109), .un .not (.t 108), none, []⟩])
     (.cond (.t 109) .ret
      .skip))))))))))))
   (.ops false [⟨(some 110), .bin .add (.t 19) (.k (iv 1)), none, []⟩,
    ⟨(some 19), .mv (.t 110), none, []⟩])))))))))⟩
theorem code35 : acode Try.prog hints 35 = some L35 := by kernel_rfl


/-- The rows of truths that were laid. -/
abbrev bobs (rs : List (Nat × List Bool)) : Objs := rs.map fun z => (z.1, .rw 4 1 (z.2.map bc))
/-- Which truths these are: for each rest of the labels. -/
def canRows (S E : Nat) (xs : List Int) (a : Nat) : List Int → List (List Bool)
  | [] => [canL S E xs a []]
  | l :: ls => canL S E xs a (l :: ls) :: canRows S E xs a ls
theorem canRows_len {S E a : Nat} {xs : List Int} : ∀ ls, (canRows S E xs a ls).length = ls.length + 1
  | [] => rfl
  | l :: ls => by rw [canRows, List.length_cons, canRows_len ls, List.length_cons]
theorem canRows_get {S E a : Nat} {xs : List Int} : ∀ (ls : List Int) (k : Nat), k ≤ ls.length → (canRows S E xs a ls).getD k [] = canL S E xs a (ls.drop k)
  | [], k, h => by
    obtain rfl : k = 0 := by simpa using h
    rfl
  | l :: ls, 0, _ => rfl
  | l :: ls, k + 1, h => by
    rw [canRows, List.getD_cons_succ, canRows_get ls k (by simpa using h), List.drop_succ_cons]
theorem canRows_head {S E a : Nat} {xs : List Int} : ∀ ls, ∃ r, canRows S E xs a ls = canL S E xs a ls :: r
  | [] => ⟨_, rfl⟩
  | l :: ls => ⟨_, rfl⟩
abbrev nilS : AC := .sl 0 0 0
abbrev canC (E j : Nat) (ids : List Nat) : List AC := List.replicate j nilS ++ ids.map (cE E)
theorem canC_set {E j p : Nat} {ids : List Nat} : (canC E (j + 1) ids).set j (.sl p 0 E) = canC E j (p :: ids) := by
  rw [canC, List.replicate_succ', List.append_assoc, List.set_append_right _ _ (by simp)]
  simp
theorem canC_get {E j p : Nat} {ids : List Nat} : (canC E j (p :: ids))[0 + j]? = some (.sl p 0 E) := by
  rw [canC, List.getElem?_append_right (by simp)]
  simp
theorem canC_get1 {E j p q : Nat} {ids : List Nat} : (canC E j (p :: q :: ids))[0 + (j + 1)]? = some (.sl q 0 E) := by
  rw [canC, List.getElem?_append_right (by simp)]
  simp
theorem canC_len {E j : Nat} {ids : List Nat} : (canC E j ids).length = j + ids.length := by simp [canC]
theorem canC_nil {E n p : Nat} : (List.replicate (n + 1) nilS).set n (.sl p 0 E) = canC E n [p] := by
  have := canC_set (E := E) (j := n) (p := p) (ids := [])
  rw [canC] at this
  simpa using this
instance (priority := low) subSuf {M N : Objs} : Sub N (M ++ N) := ⟨fun B b s H => H.right, fun j q o h => .inr ⟨M.length + j, o, by rw [List.getElem?_append_right (by omega)]; simpa using h⟩⟩
theorem getD_mapF {α β : Type} {f : α → β} {l : List α} {k : Nat} {d : α} : (l.map f).getD k (f d) = f (l.getD k d) := by
  rw [List.getD_eq_getElem?_getD, List.getElem?_map, List.getD_eq_getElem?_getD]; cases l[k]? <;> rfl
theorem c_back {s : St} [Wf s] {S w E fdo : Nat} {re : Int} {caps : List (Nat × Nat)} {K0 : Objs} (g : Bool) (G : Nat) (Enc : List (List Int) → Objs → Prop) {id_xs off_xs len_xs : Nat} {xs : List Int} [h_xs : ArgE ic s id_xs off_xs xs] (hl_xs : xs.length = len_xs := by first | rfl | simp | omega | (simp; omega)) {id_to off_to len_to : Nat} {to : List Int} [h_to : ArgE ic s id_to off_to to] (hl_to : to.length = len_to := by first | rfl | simp | omega | (simp; omega)) (hO : Own (K0.map Prod.fst) s s K0) [ni1 : NotIn id_xs (K0.map Prod.fst)] [ni2 : NotIn id_to (K0.map Prod.fst)]
    (hdo : ∀ (acc : List (List Int)) (y : List Int) (id : Nat) (s1 : St) (K : Objs), acc.length < G → Own (K.map Prod.fst) s1 s1 K → Enc acc K → ArgE ic s1 id 0 y → y.length = len_to → NotIn id (K.map Prod.fst) → Fn (K.map Prod.fst) fdo ([.c (.sl id 0 len_to)] ++ caps.map fun p => AV.c (.ptr p.1 p.2)) s1 fun r K' => r = bv g ∧ Enc (acc ++ [y]) K')
    (h0 : Enc [] K0) (hG : (putA S E w xs (labI re to) len_to E).length ≤ G) (hE : E = S ^ (w - 1)) (hl : xs.length = E * S) (hS : 2 ≤ S ∧ S ≤ 3 := by omega) (hw : 2 * re + 1 = w ∧ 1 ≤ w ∧ w ≤ 5 := by omega) (hEb : 1 ≤ E ∧ E ≤ 81 := by omega) (hn : 1 ≤ len_to ∧ len_to ≤ 16 := by omega) :
    Fn (K0.map Prod.fst) 35 [.agg [ic S, ic re, .sl id_xs off_xs len_xs], .c (.sl id_to off_to len_to), .c (.fn fdo caps)] s fun _ N => Enc (tk g (putA S E w xs (labI re to) len_to E)) N := by
  have hre : 0 ≤ re ∧ re ≤ 2 := by omega
  have hll : (labI re to).length = len_to := by rw [labI_len]; exact hl_to
  obtain ⟨lab, hlab⟩ : ∃ lab, labI re to = lab := ⟨_, rfl⟩
  rw [hlab] at hll
  refine F_startB code35 hO ?_
  repeat' (first
 | refine A_go rfl ?_ | refine A_ifT rfl rfl ?_ | refine A_ifF rfl rfl ?_
 | refine A_offP rfl rfl ?_ | refine A_offH rfl rfl ?_ | refine A_off0 rfl rfl ?_
 | refine A_add rfl rfl rfl (by omega) ?_ | refine A_sub rfl rfl rfl (by omega) ?_
 | ((first | refine A_lt rfl rfl rfl ?_ ?_ | refine A_ge rfl rfl rfl ?_ ?_ | refine A_eq rfl rfl rfl ?_ ?_) <;> intro hc <;> try first | contradiction | (exfalso; omega) | exact absurd rfl hc)
 | refine A_idxN1 rfl rfl rfl (by omega) ?_ | refine A_idx1 rfl rfl rfl (by omega) ?_
 | refine A_callV rfl rfl (fun s H => c_ends (hE := hE)) ?_
 | refine A_fld rfl rfl ?_ | refine A_p (by rfl) rfl ?_
 | refine A_ldI rfl (by first | omega | (simp; done) | (simp; omega)) rfl ?_ | refine A_ldB rfl (by first | omega | (simp; done) | (simp; omega)) rfl ?_ | refine A_ld rfl (by rfl) rfl ?_
 | refine A_ldW rfl (by simp) rfl ?_
 | refine A_st rfl rfl rfl ?_ | refine A_stE rfl rfl (by first | omega | (simp; done) | (simp; omega)) rfl ?_
 | ((first | refine A_alloc rfl ?_ | refine A_box rfl rfl ?_ | refine A_boxC rfl rfl ?_ | refine A_makeN rfl rfl rfl (by omega) ?_ | refine A_make rfl rfl rfl (by omega) ?_) <;> intro pz hpz)
 | refine A_chk1 rfl rfl rfl ?_ | refine A_chk2 rfl rfl rfl rfl ?_ | refine A_chk3 rfl rfl rfl rfl rfl ?_ | refine A_chk4 rfl rfl rfl rfl rfl rfl ?_ | refine A_chkI rfl (by assumption) rfl (by simp) ?_
 | refine A_ret0 rfl ?_)
  obtain ⟨pd, hEq⟩ : ∃ p, p = pz := ⟨_, rfl⟩; subst hEq
  obtain ⟨pr, hEq⟩ : ∃ p, p = pz := ⟨_, rfl⟩; subst hEq
  obtain ⟨q, hEq⟩ : ∃ p, p = pz := ⟨_, rfl⟩; subst hEq
  refine A_loopX rfl (fun m fr L => ∃ (a : Nat) (K : Objs), m = E - a ∧ fr = [(3, .c (.ptr q 0)), (4, .c (.ptr pr 0)), (5, .c (.ptr pd 0)), (6, iv E), (18, iv E), (19, iv a)] ∧ L = (q, .rw 27 3 [ic S, ic re, .sl id_xs off_xs len_xs]) :: (pr, .rw 25 1 [.sl id_to off_to len_to]) :: (pd, .rw 62 1 [.fn fdo caps]) :: K ∧ a ≤ E ∧ (g = true ∨ putA S E w xs lab len_to a = []) ∧ Enc (putA S E w xs lab len_to a) K) (n := E) ⟨(q, .rw 27 3 [ic S, ic re, .sl id_xs off_xs len_xs]) :: (pr, .rw 25 1 [.sl id_to off_to len_to]) :: (pd, .rw 62 1 [.fn fdo caps]) :: K0, ⟨0, K0, rfl, rfl, rfl, by omega, .inr rfl, h0⟩, inferInstance⟩ ?_
  rintro m fr L ⟨a, K, rfl, rfl, rfl, ha, hg, hE0⟩
  by_cases ha' : a < E
  case neg =>
    obtain rfl : E = a := by omega
    repeat' (first
 | refine A_go rfl ?_ | refine A_ifT rfl rfl ?_ | refine A_ifF rfl rfl ?_
 | refine A_offP rfl rfl ?_ | refine A_offH rfl rfl ?_ | refine A_off0 rfl rfl ?_
 | refine A_add rfl rfl rfl (by omega) ?_ | refine A_sub rfl rfl rfl (by omega) ?_
 | ((first | refine A_lt rfl rfl rfl ?_ ?_ | refine A_ge rfl rfl rfl ?_ ?_ | refine A_eq rfl rfl rfl ?_ ?_) <;> intro hc <;> try first | contradiction | (exfalso; omega) | exact absurd rfl hc)
 | refine A_idxN1 rfl rfl rfl (by omega) ?_ | refine A_idx1 rfl rfl rfl (by omega) ?_
 | refine A_fld rfl rfl ?_ | refine A_p (by rfl) rfl ?_
 | refine A_ldI rfl (by first | omega | (simp; done) | (simp; omega)) rfl ?_ | refine A_ldB rfl (by first | omega | (simp; done) | (simp; omega)) rfl ?_ | refine A_ld rfl (by rfl) rfl ?_
 | refine A_ldW rfl (by simp) rfl ?_
 | refine A_st rfl rfl rfl ?_ | refine A_stE rfl rfl (by first | omega | (simp; done) | (simp; omega)) rfl ?_
 | ((first | refine A_alloc rfl ?_ | refine A_box rfl rfl ?_ | refine A_boxC rfl rfl ?_ | refine A_makeN rfl rfl rfl (by omega) ?_ | refine A_make rfl rfl rfl (by omega) ?_) <;> intro pz hpz)
 | refine A_chk1 rfl rfl rfl ?_ | refine A_chk2 rfl rfl rfl rfl ?_ | refine A_chk3 rfl rfl rfl rfl rfl ?_ | refine A_chk4 rfl rfl rfl rfl rfl rfl ?_ | refine A_chkI rfl (by assumption) rfl (by simp) ?_
 | refine A_ret0 rfl ?_)
    exact ⟨K, by rw [hlab, tk_ok hg]; exact hE0, inferInstance⟩
  have en : ((len_to : Int) + 1).toNat = len_to + 1 := by omega
  repeat' (first
 | refine A_go rfl ?_ | refine A_ifT rfl rfl ?_ | refine A_ifF rfl rfl ?_
 | refine A_offP rfl rfl ?_ | refine A_offH rfl rfl ?_ | refine A_off0 rfl rfl ?_
 | refine A_add rfl rfl rfl (by omega) ?_ | refine A_sub rfl rfl rfl (by omega) ?_
 | ((first | refine A_lt rfl rfl rfl ?_ ?_ | refine A_ge rfl rfl rfl ?_ ?_ | refine A_eq rfl rfl rfl ?_ ?_) <;> intro hc <;> try first | contradiction | (exfalso; omega) | exact absurd rfl hc)
 | refine A_idxN1 rfl rfl rfl (by omega) ?_ | refine A_idx1 rfl rfl rfl (by omega) ?_
 | (refine A_makeC (z := nilS) rfl rfl rfl (by omega) ?_ <;> intro pz hpz)
 | simp only [en]
 | refine A_fld rfl rfl ?_ | refine A_p (by rfl) rfl ?_
 | refine A_ldI rfl (by first | omega | (simp; done) | (simp; omega)) rfl ?_ | refine A_ldB rfl (by first | omega | (simp; done) | (simp; omega)) rfl ?_ | refine A_ld rfl (by rfl) rfl ?_
 | refine A_ldW rfl (by simp) rfl ?_
 | refine A_st rfl rfl rfl ?_ | refine A_stE rfl rfl (by first | omega | (simp; done) | (simp; omega)) rfl ?_
 | ((first | refine A_alloc rfl ?_ | refine A_box rfl rfl ?_ | refine A_boxC rfl rfl ?_ | refine A_makeN rfl rfl rfl (by omega) ?_ | refine A_make rfl rfl rfl (by omega) ?_) <;> intro pz hpz)
 | refine A_chk1 rfl rfl rfl ?_ | refine A_chk2 rfl rfl rfl rfl ?_ | refine A_chk3 rfl rfl rfl rfl rfl ?_ | refine A_chk4 rfl rfl rfl rfl rfl rfl ?_ | refine A_chkI rfl (by assumption) rfl (by simp) ?_
 | refine A_ret0 rfl ?_)
  obtain ⟨pn, hEq⟩ : ∃ p, p = pz := ⟨_, rfl⟩; subst hEq
  obtain ⟨pc, hEq⟩ : ∃ p, p = pz := ⟨_, rfl⟩; subst hEq
  obtain ⟨pcan, hEq⟩ : ∃ p, p = pz := ⟨_, rfl⟩; subst hEq
  refine A_stC rfl rfl (by simp) rfl ?_
  simp only [canC_nil]
  repeat' (first
 | refine A_go rfl ?_ | refine A_ifT rfl rfl ?_ | refine A_ifF rfl rfl ?_
 | refine A_offP rfl rfl ?_ | refine A_offH rfl rfl ?_ | refine A_off0 rfl rfl ?_
 | refine A_add rfl rfl rfl (by omega) ?_ | refine A_sub rfl rfl rfl (by omega) ?_
 | ((first | refine A_lt rfl rfl rfl ?_ ?_ | refine A_ge rfl rfl rfl ?_ ?_ | refine A_eq rfl rfl rfl ?_ ?_) <;> intro hc <;> try first | contradiction | (exfalso; omega) | exact absurd rfl hc)
 | refine A_idxN1 rfl rfl rfl (by omega) ?_ | refine A_idx1 rfl rfl rfl (by omega) ?_
 | refine A_ld (v := .sl pn 0 E) rfl canC_get rfl ?_
 | refine A_fld rfl rfl ?_ | refine A_p (by rfl) rfl ?_
 | refine A_ldI rfl (by first | omega | (simp; done) | (simp; omega)) rfl ?_ | refine A_ldB rfl (by first | omega | (simp; done) | (simp; omega)) rfl ?_ | refine A_ld rfl (by rfl) rfl ?_
 | refine A_ldW rfl (by simp) rfl ?_
 | refine A_st rfl rfl rfl ?_ | refine A_stE rfl rfl (by first | omega | (simp; done) | (simp; omega)) rfl ?_
 | ((first | refine A_alloc rfl ?_ | refine A_box rfl rfl ?_ | refine A_boxC rfl rfl ?_ | refine A_makeN rfl rfl rfl (by omega) ?_ | refine A_make rfl rfl rfl (by omega) ?_) <;> intro pz hpz)
 | refine A_chk1 rfl rfl rfl ?_ | refine A_chk2 rfl rfl rfl rfl ?_ | refine A_chk3 rfl rfl rfl rfl rfl ?_ | refine A_chk4 rfl rfl rfl rfl rfl rfl ?_ | refine A_chkI rfl (by assumption) rfl (by simp) ?_
 | refine A_ret0 rfl ?_)
  refine A_loopX rfl (fun m fr L => ∃ (j : Nat) (rs : List (Nat × List Bool)) (ids : List Nat), m = j ∧ fr = [(3, .c (.ptr q 0)), (4, .c (.ptr pr 0)), (5, .c (.ptr pd 0)), (6, iv E), (7, iv a), (8, .c (.ptr pc 0)), (9, iv ((j : Int) - 1)), (18, iv E), (19, iv a)] ∧ L = (pc, .rw 89 1 [.sl pcan 0 (len_to + 1)]) :: (pcan, .rw 75 1 (canC E j ids)) :: (q, .rw 27 3 [ic S, ic re, .sl id_xs off_xs len_xs]) :: (pr, .rw 25 1 [.sl id_to off_to len_to]) :: (pd, .rw 62 1 [.fn fdo caps]) :: (bobs rs ++ K) ∧ j ≤ len_to ∧ rs.map Prod.fst = ids ∧ rs.map Prod.snd = canRows S E xs a (lab.drop j)) (n := len_to)
    ⟨(pc, .rw 89 1 [.sl pcan 0 (len_to + 1)]) :: (pcan, .rw 75 1 (canC E len_to [pn])) :: (q, .rw 27 3 [ic S, ic re, .sl id_xs off_xs len_xs]) :: (pr, .rw 25 1 [.sl id_to off_to len_to]) :: (pd, .rw 62 1 [.fn fdo caps]) :: (pn, .rw 4 1 (((List.replicate E false).set a true).map bc)) :: K, ⟨len_to, [(pn, (List.replicate E false).set a true)], [pn], rfl, rfl, rfl, Nat.le_refl _, rfl, by rw [List.drop_of_length_le (by omega)]; rfl⟩, inferInstance⟩ ?_
  rintro j fr L ⟨_, rs, ids, rfl, rfl, rfl, hj, hids, hrs⟩
  obtain ⟨r0, hr0⟩ := canRows_head (S := S) (E := E) (xs := xs) (a := a) (lab.drop j)
  have hrs0 := hrs
  rw [hr0] at hrs
  obtain ⟨⟨p0, b0⟩, rs', rfl⟩ : ∃ z r, rs = z :: r := by
    cases rs with
    | nil => cases hrs
    | cons z r => exact ⟨z, r, rfl⟩
  obtain ⟨hb0, hrs'⟩ := List.cons.inj hrs
  simp only at hb0
  have hb0l : b0.length = E := by rw [hb0, canL_len]
  simp only [List.map_cons] at hids
  subst hids
  simp only [List.map_cons, List.cons_append]
  have hsc : putA S E w xs lab len_to (a + 1) = putA S E w xs lab len_to a ++ putL S E xs a len_to lab a (dg S a (w - 1)) := putA_succ
  cases j with
  | zero =>
    rw [List.drop_zero] at hb0 hrs0
    cases hba : b0.getD a false with
    | false =>
      have hno := can_no (S := S) (n := len_to) hEb.1 lab a (dg S a (w - 1)) ha' (by rw [← hb0]; exact hba)
      rw [hno, List.append_nil] at hsc
      repeat' (first
 | refine A_go rfl ?_ | refine A_ifT rfl rfl ?_ | refine A_ifF rfl rfl ?_
 | refine A_offP rfl rfl ?_ | refine A_offH rfl rfl ?_ | refine A_off0 rfl rfl ?_
 | refine A_add rfl rfl rfl (by omega) ?_ | refine A_sub rfl rfl rfl (by omega) ?_
 | ((first | refine A_lt rfl rfl rfl ?_ ?_ | refine A_ge rfl rfl rfl ?_ ?_ | refine A_eq rfl rfl rfl ?_ ?_) <;> intro hc <;> try first | contradiction | (exfalso; omega) | exact absurd rfl hc)
 | refine A_idxN1 rfl rfl rfl (by omega) ?_ | refine A_idx1 rfl rfl rfl (by omega) ?_
 | refine A_ld (v := .sl p0 0 E) rfl (canC_get (j := 0)) rfl ?_
 | simp only [hba]
 | refine A_fld rfl rfl ?_ | refine A_p (by rfl) rfl ?_
 | refine A_ldI rfl (by first | omega | (simp; done) | (simp; omega)) rfl ?_ | refine A_ldB rfl (by first | omega | (simp; done) | (simp; omega)) rfl ?_ | refine A_ld rfl (by rfl) rfl ?_
 | refine A_ldW rfl (by simp) rfl ?_
 | refine A_st rfl rfl rfl ?_ | refine A_stE rfl rfl (by first | omega | (simp; done) | (simp; omega)) rfl ?_
 | ((first | refine A_alloc rfl ?_ | refine A_box rfl rfl ?_ | refine A_boxC rfl rfl ?_ | refine A_makeN rfl rfl rfl (by omega) ?_ | refine A_make rfl rfl rfl (by omega) ?_) <;> intro pz hpz)
 | refine A_chk1 rfl rfl rfl ?_ | refine A_chk2 rfl rfl rfl rfl ?_ | refine A_chk3 rfl rfl rfl rfl rfl ?_ | refine A_chk4 rfl rfl rfl rfl rfl rfl ?_ | refine A_chkI rfl (by assumption) rfl (by simp) ?_
 | refine A_ret0 rfl ?_)
      refine A_roundX rfl ⟨E - (a + 1), (q, .rw 27 3 [ic S, ic re, .sl id_xs off_xs len_xs]) :: (pr, .rw 25 1 [.sl id_to off_to len_to]) :: (pd, .rw 62 1 [.fn fdo caps]) :: K, by omega, ⟨a + 1, K, rfl, rfl, rfl, by omega, by rw [hsc]; exact hg, by rw [hsc]; exact hE0⟩, inferInstance⟩
    | true =>
      have ew : (w : Int) - 1 = ((w - 1 : Nat) : Int) := by omega
      have hcan : (canL S E xs a lab).getD a false = true := by rw [← hb0]; exact hba
      have hGd := putA_len (S := S) (E := E) (w := w) (n := len_to) (xs := xs) (lab := lab) (show a + 1 ≤ E by omega)
      rw [hlab] at hG
      rw [hsc, List.length_append] at hGd
      have hlen : ((p0, b0) :: rs').length = len_to + 1 := by
        have := congrArg List.length hrs0
        rw [List.length_map, canRows_len, hll] at this; exact this
      have hrow : ∀ k, k ≤ len_to → ∃ z, z ∈ (p0, b0) :: rs' ∧ z.1 = (p0 :: rs'.map Prod.fst).getD k 0 ∧ z.2 = canL S E xs a (lab.drop k) := fun k hk => by
        refine ⟨((p0, b0) :: rs').getD k (0, []), getD_mem (by omega), ?_, ?_⟩
        · exact (getD_mapF (f := Prod.fst) (l := (p0, b0) :: rs') (d := (0, []))).symm
        · have h := (getD_mapF (f := Prod.snd) (l := (p0, b0) :: rs') (k := k) (d := (0, []))).symm
          rw [hrs0, canRows_get lab k (by omega)] at h; exact h
      repeat' (first
 | refine A_go rfl ?_ | refine A_ifT rfl rfl ?_ | refine A_ifF rfl rfl ?_
 | refine A_offP rfl rfl ?_ | refine A_offH rfl rfl ?_ | refine A_off0 rfl rfl ?_
 | refine A_add rfl rfl rfl (by omega) ?_ | refine A_sub rfl rfl rfl (by omega) ?_
 | ((first | refine A_lt rfl rfl rfl ?_ ?_ | refine A_ge rfl rfl rfl ?_ ?_ | refine A_eq rfl rfl rfl ?_ ?_) <;> intro hc <;> try first | contradiction | (exfalso; omega) | exact absurd rfl hc)
 | refine A_idxN1 rfl rfl rfl (by omega) ?_ | refine A_idx1 rfl rfl rfl (by omega) ?_
 | refine A_ld (v := .sl p0 0 E) rfl (canC_get (j := 0)) rfl ?_
 | simp only [hba, ew]
 | refine A_callV rfl rfl (fun s H => c_cellsW hw.1) ?_
 | (refine A_callM rfl rfl (fun s H => c_digitsOf (n := a) (S := S) (w := w - 1)) ?_; rintro _ _ ⟨pz, rfl, rfl⟩) | (refine A_callM0 rfl rfl (fun s H => c_digitsOf (n := a) (S := S) (w := w - 1)) ?_; rintro _ _ ⟨pz, rfl, rfl⟩)
 | refine A_fld rfl rfl ?_ | refine A_p (by rfl) rfl ?_
 | refine A_ldI rfl (by first | omega | (simp; done) | (simp; omega)) rfl ?_ | refine A_ldB rfl (by first | omega | (simp; done) | (simp; omega)) rfl ?_ | refine A_ld rfl (by rfl) rfl ?_
 | refine A_ldW rfl (by simp) rfl ?_
 | refine A_st rfl rfl rfl ?_ | refine A_stE rfl rfl (by first | omega | (simp; done) | (simp; omega)) rfl ?_
 | ((first | refine A_alloc rfl ?_ | refine A_box rfl rfl ?_ | refine A_boxC rfl rfl ?_ | refine A_makeN rfl rfl rfl (by omega) ?_ | refine A_make rfl rfl rfl (by omega) ?_) <;> intro pz hpz)
 | refine A_chk1 rfl rfl rfl ?_ | refine A_chk2 rfl rfl rfl rfl ?_ | refine A_chk3 rfl rfl rfl rfl rfl ?_ | refine A_chk4 rfl rfl rfl rfl rfl rfl ?_ | refine A_chkI rfl (by assumption) rfl (by simp) ?_
 | refine A_ret0 rfl ?_)
      obtain ⟨pp, hEq⟩ : ∃ p, p = pz := ⟨_, rfl⟩; subst hEq
      obtain ⟨pb, hEq⟩ : ∃ p, p = pz := ⟨_, rfl⟩; subst hEq
      obtain ⟨pdg, hEq⟩ : ∃ p, p = pz := ⟨_, rfl⟩; subst hEq
      refine A_subL (L' := (pb, .rw 25 1 [.sl pdg 0 (w - 1)]) :: (pdg, ints (dg S a (w - 1))) :: (((pp, .rw 91 1 [.fn 64 [(pr, 0), (pd, 0), (pb, 0), (q, 0), (pc, 0), (pp, 0)]]) :: (pc, .rw 89 1 [.sl pcan 0 (len_to + 1)]) :: (pcan, .rw 75 1 (canC E 0 (p0 :: rs'.map Prod.fst))) :: (q, .rw 27 3 [ic S, ic re, .sl id_xs off_xs len_xs]) :: (pr, .rw 25 1 [.sl id_to off_to len_to]) :: (pd, .rw 62 1 [.fn fdo caps]) :: (p0, .rw 4 1 (b0.map bc)) :: bobs rs') ++ K)) (hs := (inferInstance : Sub ((pb, .rw 25 1 [.sl pdg 0 (w - 1)]) :: (pdg, ints (dg S a (w - 1))) :: (pp, .rw 91 1 [.fn 64 [(pr, 0), (pd, 0), (pb, 0), (q, 0), (pc, 0), (pp, 0)]]) :: (pc, .rw 89 1 [.sl pcan 0 (len_to + 1)]) :: (pcan, .rw 75 1 (canC E 0 (p0 :: rs'.map Prod.fst))) :: (q, .rw 27 3 [ic S, ic re, .sl id_xs off_xs len_xs]) :: (pr, .rw 25 1 [.sl id_to off_to len_to]) :: (pd, .rw 62 1 [.fn fdo caps]) :: (p0, .rw 4 1 (b0.map bc)) :: (bobs rs' ++ K)) _)) ?_
      refine A_subL (L' := (((pp, .rw 91 1 [.fn 64 [(pr, 0), (pd, 0), (pb, 0), (q, 0), (pc, 0), (pp, 0)]]) :: (pc, .rw 89 1 [.sl pcan 0 (len_to + 1)]) :: (pcan, .rw 75 1 (canC E 0 (p0 :: rs'.map Prod.fst))) :: (q, .rw 27 3 [ic S, ic re, .sl id_xs off_xs len_xs]) :: (pr, .rw 25 1 [.sl id_to off_to len_to]) :: (pd, .rw 62 1 [.fn fdo caps]) :: (p0, .rw 4 1 (b0.map bc)) :: bobs rs')) ++ PutN pb pdg (w - 1) (dg S a (w - 1)) K) (hs := .ofPerm (List.perm_append_comm_assoc [(pb, .rw 25 1 [.sl pdg 0 (w - 1)]), (pdg, ints (dg S a (w - 1)))] (((pp, .rw 91 1 [.fn 64 [(pr, 0), (pd, 0), (pb, 0), (q, 0), (pc, 0), (pp, 0)]]) :: (pc, .rw 89 1 [.sl pcan 0 (len_to + 1)]) :: (pcan, .rw 75 1 (canC E 0 (p0 :: rs'.map Prod.fst))) :: (q, .rw 27 3 [ic S, ic re, .sl id_xs off_xs len_xs]) :: (pr, .rw 25 1 [.sl id_to off_to len_to]) :: (pd, .rw 62 1 [.fn fdo caps]) :: (p0, .rw 4 1 (b0.map bc)) :: bobs rs')) K)) ?_
      refine A_callI (M := ((pp, .rw 91 1 [.fn 64 [(pr, 0), (pd, 0), (pb, 0), (q, 0), (pc, 0), (pp, 0)]]) :: (pc, .rw 89 1 [.sl pcan 0 (len_to + 1)]) :: (pcan, .rw 75 1 (canC E 0 (p0 :: rs'.map Prod.fst))) :: (q, .rw 27 3 [ic S, ic re, .sl id_xs off_xs len_xs]) :: (pr, .rw 25 1 [.sl id_to off_to len_to]) :: (pd, .rw 62 1 [.fn fdo caps]) :: (p0, .rw 4 1 (b0.map bc)) :: bobs rs')) (N := PutN pb pdg (w - 1) (dg S a (w - 1)) K) (P := fun R N' => ∃ p' cs' K', R = bv (g || (putL S E xs a len_to lab a (dg S a (w - 1))).isEmpty) ∧ N' = PutN pb p' (w - 1) cs' K' ∧ w - 1 ≤ cs'.length ∧ cs'.take (w - 1) = dg S a (w - 1) ∧ Enc (putA S E w xs lab len_to a ++ tk g (putL S E xs a len_to lab a (dg S a (w - 1)))) K') rfl rfl rfl (fun s' H K2 => ?_) ?_
      · haveI : Wf s' := ⟨K2.wf⟩
        have hmem : ∀ k, k ≤ len_to → ((p0 :: rs'.map Prod.fst).getD k 0, AObj.rw 4 1 ((canL S E xs a (lab.drop k)).map bc)) ∈ ((pp, .rw 91 1 [.fn 64 [(pr, 0), (pd, 0), (pb, 0), (q, 0), (pc, 0), (pp, 0)]]) :: (pc, .rw 89 1 [.sl pcan 0 (len_to + 1)]) :: (pcan, .rw 75 1 (canC E 0 (p0 :: rs'.map Prod.fst))) :: (q, .rw 27 3 [ic S, ic re, .sl id_xs off_xs len_xs]) :: (pr, .rw 25 1 [.sl id_to off_to len_to]) :: (pd, .rw 62 1 [.fn fdo caps]) :: (p0, .rw 4 1 (b0.map bc)) :: bobs rs') := fun k hk => by
          obtain ⟨z, h1, h2, h3⟩ := hrow k hk
          rw [← h2, ← h3]
          refine .tail _ (.tail _ (.tail _ (.tail _ (.tail _ (.tail _ ?_)))))
          have hm : (z.1, AObj.rw 4 1 (z.2.map bc)) ∈ bobs ((p0, b0) :: rs') := List.mem_map.2 ⟨z, h1, rfl⟩
          exact hm
        have env : PutEnv s' ((PutN pb pdg (w - 1) (dg S a (w - 1)) K).map Prod.fst) pr pd pb q pc pp pcan id_to off_to len_to id_xs off_xs len_xs fdo S E a re caps to xs (labI re to) (p0 :: rs'.map Prod.fst) := by
          rw [hlab]
          exact ⟨inferInstance, inferInstance, inferInstance, inferInstance, inferInstance, inferInstance, inferInstance, argOwn (H := H) (t := 75) (h := ⟨List.mem_iff_getElem?.1 (List.mem_append_left _ (by repeat (first | exact List.mem_cons_self | apply List.mem_cons_of_mem)))⟩), fun k hk => argOwn (H := H) (t := 4) (h := ⟨List.mem_iff_getElem?.1 (List.mem_append_left _ (hmem k hk))⟩),
            notInApp H ⟨_, by repeat (first | exact List.mem_cons_self | apply List.mem_cons_of_mem)⟩, notInApp H ⟨_, by repeat (first | exact List.mem_cons_self | apply List.mem_cons_of_mem)⟩, notInApp H ⟨_, by repeat (first | exact List.mem_cons_self | apply List.mem_cons_of_mem)⟩, notInApp H ⟨_, by repeat (first | exact List.mem_cons_self | apply List.mem_cons_of_mem)⟩, notInApp H ⟨_, by repeat (first | exact List.mem_cons_self | apply List.mem_cons_of_mem)⟩, notInLent H h_to.lt ni2.h, notInLent H h_xs.lt ni1.h, notInApp H ⟨_, by repeat (first | exact List.mem_cons_self | apply List.mem_cons_of_mem)⟩, fun k hk => notInApp H ⟨_, hmem k hk⟩, by simpa using hlen⟩
        have h := c_put g G Enc hdo hE hl hl_xs hl_to hS hw hEb hn hre lab (at_ := 0) (len := w - 1) (u := a) (pre := dg S a (w - 1)) (acc := putA S E w xs lab len_to a) K2 env (by omega) (by rw [List.drop_zero]; exact hlab) (by omega) ha' (by simp) (by rw [List.take_of_length_le (by simp)]) hE0 hcan (by omega)
        exact h
      rintro r N ⟨p3, cs3, K3, rfl, rfl, h1, h2, h3⟩
      simp only [List.cons_append]
      cases hgo : (g || (putL S E xs a len_to lab a (dg S a (w - 1))).isEmpty) with
      | true =>
        have hg2 : g = true ∨ putL S E xs a len_to lab a (dg S a (w - 1)) = [] := by
          rcases Bool.or_eq_true_iff.1 hgo with h | h
          · exact .inl h
          · exact .inr (List.isEmpty_iff.1 h)
        rw [tk_ok hg2, ← hsc] at h3
        repeat' (first
 | refine A_go rfl ?_ | refine A_ifT rfl rfl ?_ | refine A_ifF rfl rfl ?_
 | refine A_offP rfl rfl ?_ | refine A_offH rfl rfl ?_ | refine A_off0 rfl rfl ?_
 | refine A_add rfl rfl rfl (by omega) ?_ | refine A_sub rfl rfl rfl (by omega) ?_
 | ((first | refine A_lt rfl rfl rfl ?_ ?_ | refine A_ge rfl rfl rfl ?_ ?_ | refine A_eq rfl rfl rfl ?_ ?_) <;> intro hc <;> try first | contradiction | (exfalso; omega) | exact absurd rfl hc)
 | refine A_idxN1 rfl rfl rfl (by omega) ?_ | refine A_idx1 rfl rfl rfl (by omega) ?_
 | refine A_fld rfl rfl ?_ | refine A_p (by rfl) rfl ?_
 | refine A_ldI rfl (by first | omega | (simp; done) | (simp; omega)) rfl ?_ | refine A_ldB rfl (by first | omega | (simp; done) | (simp; omega)) rfl ?_ | refine A_ld rfl (by rfl) rfl ?_
 | refine A_ldW rfl (by simp) rfl ?_
 | refine A_st rfl rfl rfl ?_ | refine A_stE rfl rfl (by first | omega | (simp; done) | (simp; omega)) rfl ?_
 | ((first | refine A_alloc rfl ?_ | refine A_box rfl rfl ?_ | refine A_boxC rfl rfl ?_ | refine A_makeN rfl rfl rfl (by omega) ?_ | refine A_make rfl rfl rfl (by omega) ?_) <;> intro pz hpz)
 | refine A_chk1 rfl rfl rfl ?_ | refine A_chk2 rfl rfl rfl rfl ?_ | refine A_chk3 rfl rfl rfl rfl rfl ?_ | refine A_chk4 rfl rfl rfl rfl rfl rfl ?_ | refine A_chkI rfl (by assumption) rfl (by simp) ?_
 | refine A_ret0 rfl ?_)
        refine A_roundX rfl ⟨E - (a + 1), (q, .rw 27 3 [ic S, ic re, .sl id_xs off_xs len_xs]) :: (pr, .rw 25 1 [.sl id_to off_to len_to]) :: (pd, .rw 62 1 [.fn fdo caps]) :: K3, by omega, ⟨a + 1, K3, rfl, rfl, rfl, by omega, ?_, h3⟩, inferInstance⟩
        rw [hsc]
        rcases hg with h | h
        · exact .inl h
        · exact hg2.imp id fun k => by rw [h, k]; rfl
      | false =>
        obtain ⟨hgf, hne⟩ := Bool.or_eq_false_iff.1 hgo
        have hp0 := hg.resolve_left (by rw [hgf]; simp)
        have hne2 : putL S E xs a len_to lab a (dg S a (w - 1)) ≠ [] := fun h => by rw [h] at hne; cases hne
        obtain ⟨r, hr⟩ := range_cut (m := a + 1) (n := E) (by omega)
        rw [List.range_succ] at hr
        have hD : putA S E w xs lab len_to E = ((List.range a ++ [a]) ++ r).flatMap fun a => putL S E xs a len_to lab a (dg S a (w - 1)) := by rw [putA, hr]
        have h1' : ([a].flatMap fun a => putL S E xs a len_to lab a (dg S a (w - 1))) = putL S E xs a len_to lab a (dg S a (w - 1)) := by simp
        obtain ⟨k1, k2⟩ := tk_cut (r := r) (b := [a]) hp0 (by rw [h1']; exact hne2)
        rw [← hD] at k1 k2
        rw [h1'] at k1
        rw [hp0, List.nil_append, hgf] at h3
        repeat' (first
 | refine A_go rfl ?_ | refine A_ifT rfl rfl ?_ | refine A_ifF rfl rfl ?_
 | refine A_offP rfl rfl ?_ | refine A_offH rfl rfl ?_ | refine A_off0 rfl rfl ?_
 | refine A_add rfl rfl rfl (by omega) ?_ | refine A_sub rfl rfl rfl (by omega) ?_
 | ((first | refine A_lt rfl rfl rfl ?_ ?_ | refine A_ge rfl rfl rfl ?_ ?_ | refine A_eq rfl rfl rfl ?_ ?_) <;> intro hc <;> try first | contradiction | (exfalso; omega) | exact absurd rfl hc)
 | refine A_idxN1 rfl rfl rfl (by omega) ?_ | refine A_idx1 rfl rfl rfl (by omega) ?_
 | refine A_fld rfl rfl ?_ | refine A_p (by rfl) rfl ?_
 | refine A_ldI rfl (by first | omega | (simp; done) | (simp; omega)) rfl ?_ | refine A_ldB rfl (by first | omega | (simp; done) | (simp; omega)) rfl ?_ | refine A_ld rfl (by rfl) rfl ?_
 | refine A_ldW rfl (by simp) rfl ?_
 | refine A_st rfl rfl rfl ?_ | refine A_stE rfl rfl (by first | omega | (simp; done) | (simp; omega)) rfl ?_
 | ((first | refine A_alloc rfl ?_ | refine A_box rfl rfl ?_ | refine A_boxC rfl rfl ?_ | refine A_makeN rfl rfl rfl (by omega) ?_ | refine A_make rfl rfl rfl (by omega) ?_) <;> intro pz hpz)
 | refine A_chk1 rfl rfl rfl ?_ | refine A_chk2 rfl rfl rfl rfl ?_ | refine A_chk3 rfl rfl rfl rfl rfl ?_ | refine A_chk4 rfl rfl rfl rfl rfl rfl ?_ | refine A_chkI rfl (by assumption) rfl (by simp) ?_
 | refine A_ret0 rfl ?_)
        refine ⟨K3, ?_, inferInstance⟩
        rw [hlab, hgf]
        show Enc ((putA S E w xs lab len_to E).take 1) K3
        rw [k1]; exact h3
  | succ j =>
    have hj1 : (((j + 1 : Nat) : Int) - 1) = (j : Int) := by omega
    have hj2 : (j : Int) + 1 = ((j + 1 : Nat) : Int) := by omega
    obtain ⟨l, hl1⟩ : ∃ l, lab.getD j 0 = l := ⟨_, rfl⟩
    have hl2 : (labI re to).getD j 0 = l := by rw [hlab]; exact hl1
    have hdr : lab.drop j = l :: lab.drop (j + 1) := by
      rw [List.drop_eq_getElem_cons (by omega), ← hl1, List.getD_eq_getElem?_getD, List.getElem?_eq_getElem (by omega)]; rfl
    rw [hj1]
    repeat' (first
 | refine A_go rfl ?_ | refine A_ifT rfl rfl ?_ | refine A_ifF rfl rfl ?_
 | refine A_offP rfl rfl ?_ | refine A_offH rfl rfl ?_ | refine A_off0 rfl rfl ?_
 | refine A_add rfl rfl rfl (by omega) ?_ | refine A_sub rfl rfl rfl (by omega) ?_
 | ((first | refine A_lt rfl rfl rfl ?_ ?_ | refine A_ge rfl rfl rfl ?_ ?_ | refine A_eq rfl rfl rfl ?_ ?_) <;> intro hc <;> try first | contradiction | (exfalso; omega) | exact absurd rfl hc)
 | refine A_idxN1 rfl rfl rfl (by omega) ?_ | refine A_idx1 rfl rfl rfl (by omega) ?_
 | refine A_fld rfl rfl ?_ | refine A_p (by rfl) rfl ?_
 | refine A_ldI rfl (by first | omega | (simp; done) | (simp; omega)) rfl ?_ | refine A_ldB rfl (by first | omega | (simp; done) | (simp; omega)) rfl ?_ | refine A_ld rfl (by rfl) rfl ?_
 | refine A_ldW rfl (by simp) rfl ?_
 | refine A_st rfl rfl rfl ?_ | refine A_stE rfl rfl (by first | omega | (simp; done) | (simp; omega)) rfl ?_
 | ((first | refine A_alloc rfl ?_ | refine A_box rfl rfl ?_ | refine A_boxC rfl rfl ?_ | refine A_makeN rfl rfl rfl (by omega) ?_ | refine A_make rfl rfl rfl (by omega) ?_) <;> intro pz hpz)
 | refine A_chk1 rfl rfl rfl ?_ | refine A_chk2 rfl rfl rfl rfl ?_ | refine A_chk3 rfl rfl rfl rfl rfl ?_ | refine A_chk4 rfl rfl rfl rfl rfl rfl ?_ | refine A_chkI rfl (by assumption) rfl (by simp) ?_
 | refine A_ret0 rfl ?_)
    obtain ⟨pn2, hEq⟩ : ∃ p, p = pz := ⟨_, rfl⟩; subst hEq
    refine A_stC rfl rfl (by rw [canC_len]; omega) rfl ?_
    simp only [Int.toNat_natCast, canC_set]
    repeat' (first
 | refine A_go rfl ?_ | refine A_ifT rfl rfl ?_ | refine A_ifF rfl rfl ?_
 | refine A_offP rfl rfl ?_ | refine A_offH rfl rfl ?_ | refine A_off0 rfl rfl ?_
 | refine A_add rfl rfl rfl (by omega) ?_ | refine A_sub rfl rfl rfl (by omega) ?_
 | ((first | refine A_lt rfl rfl rfl ?_ ?_ | refine A_ge rfl rfl rfl ?_ ?_ | refine A_eq rfl rfl rfl ?_ ?_) <;> intro hc <;> try first | contradiction | (exfalso; omega) | exact absurd rfl hc)
 | refine A_idxN1 rfl rfl rfl (by omega) ?_ | refine A_idx1 rfl rfl rfl (by omega) ?_
 | refine A_fld rfl rfl ?_ | refine A_p (by rfl) rfl ?_
 | refine A_ldI rfl (by first | omega | (simp; done) | (simp; omega)) rfl ?_ | refine A_ldB rfl (by first | omega | (simp; done) | (simp; omega)) rfl ?_ | refine A_ld rfl (by rfl) rfl ?_
 | refine A_ldW rfl (by simp) rfl ?_
 | refine A_st rfl rfl rfl ?_ | refine A_stE rfl rfl (by first | omega | (simp; done) | (simp; omega)) rfl ?_
 | ((first | refine A_alloc rfl ?_ | refine A_box rfl rfl ?_ | refine A_boxC rfl rfl ?_ | refine A_makeN rfl rfl rfl (by omega) ?_ | refine A_make rfl rfl rfl (by omega) ?_) <;> intro pz hpz)
 | refine A_chk1 rfl rfl rfl ?_ | refine A_chk2 rfl rfl rfl rfl ?_ | refine A_chk3 rfl rfl rfl rfl rfl ?_ | refine A_chk4 rfl rfl rfl rfl rfl rfl ?_ | refine A_chkI rfl (by assumption) rfl (by simp) ?_
 | refine A_ret0 rfl ?_)
    refine A_loopX rfl (fun m fr L => ∃ (b : Nat), m = E - b ∧ fr = [(3, .c (.ptr q 0)), (4, .c (.ptr pr 0)), (5, .c (.ptr pd 0)), (6, iv E), (7, iv a), (8, .c (.ptr pc 0)), (9, iv j), (18, iv E), (19, iv a), (51, iv E), (52, iv b)] ∧ L = (pn2, .rw 4 1 ((canS S E xs l b0 (b * S)).map bc)) :: (pc, .rw 89 1 [.sl pcan 0 (len_to + 1)]) :: (pcan, .rw 75 1 (canC E j (pn2 :: p0 :: rs'.map Prod.fst))) :: (q, .rw 27 3 [ic S, ic re, .sl id_xs off_xs len_xs]) :: (pr, .rw 25 1 [.sl id_to off_to len_to]) :: (pd, .rw 62 1 [.fn fdo caps]) :: (p0, .rw 4 1 (b0.map bc)) :: (bobs rs' ++ K) ∧ b ≤ E) (n := E) ⟨(pn2, .rw 4 1 ((List.replicate E false).map bc)) :: (pc, .rw 89 1 [.sl pcan 0 (len_to + 1)]) :: (pcan, .rw 75 1 (canC E j (pn2 :: p0 :: rs'.map Prod.fst))) :: (q, .rw 27 3 [ic S, ic re, .sl id_xs off_xs len_xs]) :: (pr, .rw 25 1 [.sl id_to off_to len_to]) :: (pd, .rw 62 1 [.fn fdo caps]) :: (p0, .rw 4 1 (b0.map bc)) :: (bobs rs' ++ K), ⟨0, rfl, rfl, by rw [Nat.zero_mul]; rfl, by omega⟩, inferInstance⟩ ?_
    rintro m fr L ⟨b, rfl, rfl, rfl, hb⟩
    by_cases hb' : b < E
    case neg =>
      obtain rfl : E = b := by omega
      repeat' (first
 | refine A_go rfl ?_ | refine A_ifT rfl rfl ?_ | refine A_ifF rfl rfl ?_
 | refine A_offP rfl rfl ?_ | refine A_offH rfl rfl ?_ | refine A_off0 rfl rfl ?_
 | refine A_add rfl rfl rfl (by omega) ?_ | refine A_sub rfl rfl rfl (by omega) ?_
 | ((first | refine A_lt rfl rfl rfl ?_ ?_ | refine A_ge rfl rfl rfl ?_ ?_ | refine A_eq rfl rfl rfl ?_ ?_) <;> intro hc <;> try first | contradiction | (exfalso; omega) | exact absurd rfl hc)
 | refine A_idxN1 rfl rfl rfl (by omega) ?_ | refine A_idx1 rfl rfl rfl (by omega) ?_
 | refine A_fld rfl rfl ?_ | refine A_p (by rfl) rfl ?_
 | refine A_ldI rfl (by first | omega | (simp; done) | (simp; omega)) rfl ?_ | refine A_ldB rfl (by first | omega | (simp; done) | (simp; omega)) rfl ?_ | refine A_ld rfl (by rfl) rfl ?_
 | refine A_ldW rfl (by simp) rfl ?_
 | refine A_st rfl rfl rfl ?_ | refine A_stE rfl rfl (by first | omega | (simp; done) | (simp; omega)) rfl ?_
 | ((first | refine A_alloc rfl ?_ | refine A_box rfl rfl ?_ | refine A_boxC rfl rfl ?_ | refine A_makeN rfl rfl rfl (by omega) ?_ | refine A_make rfl rfl rfl (by omega) ?_) <;> intro pz hpz)
 | refine A_chk1 rfl rfl rfl ?_ | refine A_chk2 rfl rfl rfl rfl ?_ | refine A_chk3 rfl rfl rfl rfl rfl ?_ | refine A_chk4 rfl rfl rfl rfl rfl rfl ?_ | refine A_chkI rfl (by assumption) rfl (by simp) ?_
 | refine A_ret0 rfl ?_)
      refine A_roundX rfl ⟨j, (pc, .rw 89 1 [.sl pcan 0 (len_to + 1)]) :: (pcan, .rw 75 1 (canC E j (pn2 :: p0 :: rs'.map Prod.fst))) :: (q, .rw 27 3 [ic S, ic re, .sl id_xs off_xs len_xs]) :: (pr, .rw 25 1 [.sl id_to off_to len_to]) :: (pd, .rw 62 1 [.fn fdo caps]) :: (pn2, .rw 4 1 ((canS S E xs l b0 (E * S)).map bc)) :: (p0, .rw 4 1 (b0.map bc)) :: (bobs rs' ++ K), by omega, ⟨j, (pn2, canS S E xs l b0 (E * S)) :: (p0, b0) :: rs', pn2 :: p0 :: rs'.map Prod.fst, rfl, rfl, rfl, by omega, rfl, ?_⟩, inferInstance⟩
      rw [hdr, canRows, ← hrs0, List.map_cons, List.map_cons, canL, ← hb0]
    repeat' (first
 | refine A_go rfl ?_ | refine A_ifT rfl rfl ?_ | refine A_ifF rfl rfl ?_
 | refine A_offP rfl rfl ?_ | refine A_offH rfl rfl ?_ | refine A_off0 rfl rfl ?_
 | refine A_add rfl rfl rfl (by omega) ?_ | refine A_sub rfl rfl rfl (by omega) ?_
 | ((first | refine A_lt rfl rfl rfl ?_ ?_ | refine A_ge rfl rfl rfl ?_ ?_ | refine A_eq rfl rfl rfl ?_ ?_) <;> intro hc <;> try first | contradiction | (exfalso; omega) | exact absurd rfl hc)
 | refine A_idxN1 rfl rfl rfl (by omega) ?_ | refine A_idx1 rfl rfl rfl (by omega) ?_
 | refine A_fld rfl rfl ?_ | refine A_p (by rfl) rfl ?_
 | refine A_ldI rfl (by first | omega | (simp; done) | (simp; omega)) rfl ?_ | refine A_ldB rfl (by first | omega | (simp; done) | (simp; omega)) rfl ?_ | refine A_ld rfl (by rfl) rfl ?_
 | refine A_ldW rfl (by simp) rfl ?_
 | refine A_st rfl rfl rfl ?_ | refine A_stE rfl rfl (by first | omega | (simp; done) | (simp; omega)) rfl ?_
 | ((first | refine A_alloc rfl ?_ | refine A_box rfl rfl ?_ | refine A_boxC rfl rfl ?_ | refine A_makeN rfl rfl rfl (by omega) ?_ | refine A_make rfl rfl rfl (by omega) ?_) <;> intro pz hpz)
 | refine A_chk1 rfl rfl rfl ?_ | refine A_chk2 rfl rfl rfl rfl ?_ | refine A_chk3 rfl rfl rfl rfl rfl ?_ | refine A_chk4 rfl rfl rfl rfl rfl rfl ?_ | refine A_chkI rfl (by assumption) rfl (by simp) ?_
 | refine A_ret0 rfl ?_)
    refine A_loopX rfl (fun m fr L => ∃ (d : Nat), m = S - d ∧ fr = [(3, .c (.ptr q 0)), (4, .c (.ptr pr 0)), (5, .c (.ptr pd 0)), (6, iv E), (7, iv a), (8, .c (.ptr pc 0)), (9, iv j), (10, iv b), (18, iv E), (19, iv a), (51, iv E), (52, iv b), (56, iv S), (57, iv d)] ∧ L = (pn2, .rw 4 1 ((canS S E xs l b0 (b * S + d)).map bc)) :: (pc, .rw 89 1 [.sl pcan 0 (len_to + 1)]) :: (pcan, .rw 75 1 (canC E j (pn2 :: p0 :: rs'.map Prod.fst))) :: (q, .rw 27 3 [ic S, ic re, .sl id_xs off_xs len_xs]) :: (pr, .rw 25 1 [.sl id_to off_to len_to]) :: (pd, .rw 62 1 [.fn fdo caps]) :: (p0, .rw 4 1 (b0.map bc)) :: (bobs rs' ++ K) ∧ d ≤ S) (n := S) ⟨(pn2, .rw 4 1 ((canS S E xs l b0 (b * S)).map bc)) :: (pc, .rw 89 1 [.sl pcan 0 (len_to + 1)]) :: (pcan, .rw 75 1 (canC E j (pn2 :: p0 :: rs'.map Prod.fst))) :: (q, .rw 27 3 [ic S, ic re, .sl id_xs off_xs len_xs]) :: (pr, .rw 25 1 [.sl id_to off_to len_to]) :: (pd, .rw 62 1 [.fn fdo caps]) :: (p0, .rw 4 1 (b0.map bc)) :: (bobs rs' ++ K), ⟨0, rfl, rfl, rfl, by omega⟩, inferInstance⟩ ?_
    rintro m fr L ⟨d, rfl, rfl, rfl, hd⟩
    by_cases hd' : d < S
    case neg =>
      obtain rfl : S = d := by omega
      have e1 : b * S + S = (b + 1) * S := by rw [Nat.add_mul]; omega
      rw [e1]
      repeat' (first
 | refine A_go rfl ?_ | refine A_ifT rfl rfl ?_ | refine A_ifF rfl rfl ?_
 | refine A_offP rfl rfl ?_ | refine A_offH rfl rfl ?_ | refine A_off0 rfl rfl ?_
 | refine A_add rfl rfl rfl (by omega) ?_ | refine A_sub rfl rfl rfl (by omega) ?_
 | ((first | refine A_lt rfl rfl rfl ?_ ?_ | refine A_ge rfl rfl rfl ?_ ?_ | refine A_eq rfl rfl rfl ?_ ?_) <;> intro hc <;> try first | contradiction | (exfalso; omega) | exact absurd rfl hc)
 | refine A_idxN1 rfl rfl rfl (by omega) ?_ | refine A_idx1 rfl rfl rfl (by omega) ?_
 | refine A_fld rfl rfl ?_ | refine A_p (by rfl) rfl ?_
 | refine A_ldI rfl (by first | omega | (simp; done) | (simp; omega)) rfl ?_ | refine A_ldB rfl (by first | omega | (simp; done) | (simp; omega)) rfl ?_ | refine A_ld rfl (by rfl) rfl ?_
 | refine A_ldW rfl (by simp) rfl ?_
 | refine A_st rfl rfl rfl ?_ | refine A_stE rfl rfl (by first | omega | (simp; done) | (simp; omega)) rfl ?_
 | ((first | refine A_alloc rfl ?_ | refine A_box rfl rfl ?_ | refine A_boxC rfl rfl ?_ | refine A_makeN rfl rfl rfl (by omega) ?_ | refine A_make rfl rfl rfl (by omega) ?_) <;> intro pz hpz)
 | refine A_chk1 rfl rfl rfl ?_ | refine A_chk2 rfl rfl rfl rfl ?_ | refine A_chk3 rfl rfl rfl rfl rfl ?_ | refine A_chk4 rfl rfl rfl rfl rfl rfl ?_ | refine A_chkI rfl (by assumption) rfl (by simp) ?_
 | refine A_ret0 rfl ?_)
      refine A_roundX rfl ⟨E - (b + 1), (pn2, .rw 4 1 ((canS S E xs l b0 ((b + 1) * S)).map bc)) :: (pc, .rw 89 1 [.sl pcan 0 (len_to + 1)]) :: (pcan, .rw 75 1 (canC E j (pn2 :: p0 :: rs'.map Prod.fst))) :: (q, .rw 27 3 [ic S, ic re, .sl id_xs off_xs len_xs]) :: (pr, .rw 25 1 [.sl id_to off_to len_to]) :: (pd, .rw 62 1 [.fn fdo caps]) :: (p0, .rw 4 1 (b0.map bc)) :: (bobs rs' ++ K), by omega, ⟨b + 1, rfl, rfl, rfl, by omega⟩, inferInstance⟩
    obtain ⟨c, hce⟩ : ∃ c, (b * S + d) % E = c := ⟨_, rfl⟩
    have hcE : c < E := by rw [← hce]; exact mod_in hEb.1
    have hst := canS_step (S := S) (E := E) (a := b) (xs := xs) (l := l) (nx := b0) hd'
    rw [hce] at hst
    have hsl := canS_len (S := S) (E := E) (xs := xs) (l := l) (nx := b0) (b * S + d)
    by_cases hlb : xs.getD (b * S + d) 0 = l
    case neg =>
      rw [if_neg fun h => hlb h.1] at hst
      repeat' (first
 | refine A_go rfl ?_ | refine A_ifT rfl rfl ?_ | refine A_ifF rfl rfl ?_
 | refine A_offP rfl rfl ?_ | refine A_offH rfl rfl ?_ | refine A_off0 rfl rfl ?_
 | refine A_add rfl rfl rfl (by omega) ?_ | refine A_sub rfl rfl rfl (by omega) ?_
 | ((first | refine A_lt rfl rfl rfl ?_ ?_ | refine A_ge rfl rfl rfl ?_ ?_ | refine A_eq rfl rfl rfl ?_ ?_) <;> intro hc <;> try first | contradiction | (exfalso; omega) | exact absurd rfl hc)
 | refine A_idxN1 rfl rfl rfl (by omega) ?_ | refine A_idx1 rfl rfl rfl (by omega) ?_
 | simp only [hlab, hl1, hce, hj2, Int.toNat_natCast]
 | refine A_callV rfl rfl (fun s H => c_way (a := b) (d := d) (hE := hE) (hl := hl)) ?_
 | refine A_callV rfl rfl (fun s H => c_label (ys := to) (at_ := j)) ?_
 | refine A_fld rfl rfl ?_ | refine A_p (by rfl) rfl ?_
 | refine A_ldI rfl (by first | omega | (simp; done) | (simp; omega)) rfl ?_ | refine A_ldB rfl (by first | omega | (simp; done) | (simp; omega)) rfl ?_ | refine A_ld rfl (by rfl) rfl ?_
 | refine A_ldW rfl (by simp) rfl ?_
 | refine A_st rfl rfl rfl ?_ | refine A_stE rfl rfl (by first | omega | (simp; done) | (simp; omega)) rfl ?_
 | ((first | refine A_alloc rfl ?_ | refine A_box rfl rfl ?_ | refine A_boxC rfl rfl ?_ | refine A_makeN rfl rfl rfl (by omega) ?_ | refine A_make rfl rfl rfl (by omega) ?_) <;> intro pz hpz)
 | refine A_chk1 rfl rfl rfl ?_ | refine A_chk2 rfl rfl rfl rfl ?_ | refine A_chk3 rfl rfl rfl rfl rfl ?_ | refine A_chk4 rfl rfl rfl rfl rfl rfl ?_ | refine A_chkI rfl (by assumption) rfl (by simp) ?_
 | refine A_ret0 rfl ?_)
      refine A_roundX rfl ⟨S - (d + 1), (pn2, .rw 4 1 ((canS S E xs l b0 (b * S + d)).map bc)) :: (pc, .rw 89 1 [.sl pcan 0 (len_to + 1)]) :: (pcan, .rw 75 1 (canC E j (pn2 :: p0 :: rs'.map Prod.fst))) :: (q, .rw 27 3 [ic S, ic re, .sl id_xs off_xs len_xs]) :: (pr, .rw 25 1 [.sl id_to off_to len_to]) :: (pd, .rw 62 1 [.fn fdo caps]) :: (p0, .rw 4 1 (b0.map bc)) :: (bobs rs' ++ K), by omega, ⟨d + 1, rfl, rfl, by rw [hst], by omega⟩, inferInstance⟩
    cases hcn : b0.getD c false with
    | false =>
      rw [if_neg fun h => by rw [hcn] at h; cases h.2] at hst
      repeat' (first
 | refine A_go rfl ?_ | refine A_ifT rfl rfl ?_ | refine A_ifF rfl rfl ?_
 | refine A_offP rfl rfl ?_ | refine A_offH rfl rfl ?_ | refine A_off0 rfl rfl ?_
 | refine A_add rfl rfl rfl (by omega) ?_ | refine A_sub rfl rfl rfl (by omega) ?_
 | ((first | refine A_lt rfl rfl rfl ?_ ?_ | refine A_ge rfl rfl rfl ?_ ?_ | refine A_eq rfl rfl rfl ?_ ?_) <;> intro hc <;> try first | contradiction | (exfalso; omega) | exact absurd rfl hc)
 | refine A_idxN1 rfl rfl rfl (by omega) ?_ | refine A_idx1 rfl rfl rfl (by omega) ?_
 | simp only [hlab, hl1, hce, hj2, hcn, Int.toNat_natCast]
 | refine A_callV rfl rfl (fun s H => c_way (a := b) (d := d) (hE := hE) (hl := hl)) ?_
 | refine A_callV rfl rfl (fun s H => c_label (ys := to) (at_ := j)) ?_
 | refine A_ld (v := .sl p0 0 E) rfl canC_get1 rfl ?_
 | refine A_fld rfl rfl ?_ | refine A_p (by rfl) rfl ?_
 | refine A_ldI rfl (by first | omega | (simp; done) | (simp; omega)) rfl ?_ | refine A_ldB rfl (by first | omega | (simp; done) | (simp; omega)) rfl ?_ | refine A_ld rfl (by rfl) rfl ?_
 | refine A_ldW rfl (by simp) rfl ?_
 | refine A_st rfl rfl rfl ?_ | refine A_stE rfl rfl (by first | omega | (simp; done) | (simp; omega)) rfl ?_
 | ((first | refine A_alloc rfl ?_ | refine A_box rfl rfl ?_ | refine A_boxC rfl rfl ?_ | refine A_makeN rfl rfl rfl (by omega) ?_ | refine A_make rfl rfl rfl (by omega) ?_) <;> intro pz hpz)
 | refine A_chk1 rfl rfl rfl ?_ | refine A_chk2 rfl rfl rfl rfl ?_ | refine A_chk3 rfl rfl rfl rfl rfl ?_ | refine A_chk4 rfl rfl rfl rfl rfl rfl ?_ | refine A_chkI rfl (by assumption) rfl (by simp) ?_
 | refine A_ret0 rfl ?_)
      refine A_roundX rfl ⟨S - (d + 1), (pn2, .rw 4 1 ((canS S E xs l b0 (b * S + d)).map bc)) :: (pc, .rw 89 1 [.sl pcan 0 (len_to + 1)]) :: (pcan, .rw 75 1 (canC E j (pn2 :: p0 :: rs'.map Prod.fst))) :: (q, .rw 27 3 [ic S, ic re, .sl id_xs off_xs len_xs]) :: (pr, .rw 25 1 [.sl id_to off_to len_to]) :: (pd, .rw 62 1 [.fn fdo caps]) :: (p0, .rw 4 1 (b0.map bc)) :: (bobs rs' ++ K), by omega, ⟨d + 1, rfl, rfl, by rw [hst], by omega⟩, inferInstance⟩
    | true =>
      rw [if_pos ⟨hlb, hcn⟩] at hst
      repeat' (first
 | refine A_go rfl ?_ | refine A_ifT rfl rfl ?_ | refine A_ifF rfl rfl ?_
 | refine A_offP rfl rfl ?_ | refine A_offH rfl rfl ?_ | refine A_off0 rfl rfl ?_
 | refine A_add rfl rfl rfl (by omega) ?_ | refine A_sub rfl rfl rfl (by omega) ?_
 | ((first | refine A_lt rfl rfl rfl ?_ ?_ | refine A_ge rfl rfl rfl ?_ ?_ | refine A_eq rfl rfl rfl ?_ ?_) <;> intro hc <;> try first | contradiction | (exfalso; omega) | exact absurd rfl hc)
 | refine A_idxN1 rfl rfl rfl (by omega) ?_ | refine A_idx1 rfl rfl rfl (by omega) ?_
 | simp only [hlab, hl1, hce, hj2, hcn, Int.toNat_natCast]
 | refine A_callV rfl rfl (fun s H => c_way (a := b) (d := d) (hE := hE) (hl := hl)) ?_
 | refine A_callV rfl rfl (fun s H => c_label (ys := to) (at_ := j)) ?_
 | refine A_ld (v := .sl p0 0 E) rfl canC_get1 rfl ?_
 | refine A_ld (v := .sl pn2 0 E) rfl canC_get rfl ?_
 | refine A_fld rfl rfl ?_ | refine A_p (by rfl) rfl ?_
 | refine A_ldI rfl (by first | omega | (simp; done) | (simp; omega)) rfl ?_ | refine A_ldB rfl (by first | omega | (simp; done) | (simp; omega)) rfl ?_ | refine A_ld rfl (by rfl) rfl ?_
 | refine A_ldW rfl (by simp) rfl ?_
 | refine A_st rfl rfl rfl ?_ | refine A_stE rfl rfl (by first | omega | (simp; done) | (simp; omega)) rfl ?_
 | ((first | refine A_alloc rfl ?_ | refine A_box rfl rfl ?_ | refine A_boxC rfl rfl ?_ | refine A_makeN rfl rfl rfl (by omega) ?_ | refine A_make rfl rfl rfl (by omega) ?_) <;> intro pz hpz)
 | refine A_chk1 rfl rfl rfl ?_ | refine A_chk2 rfl rfl rfl rfl ?_ | refine A_chk3 rfl rfl rfl rfl rfl ?_ | refine A_chk4 rfl rfl rfl rfl rfl rfl ?_ | refine A_chkI rfl (by assumption) rfl (by simp) ?_
 | refine A_ret0 rfl ?_)
      refine A_roundX rfl ⟨S - (d + 1), (pn2, .rw 4 1 (((canS S E xs l b0 (b * S + d)).set b true).map bc)) :: (pc, .rw 89 1 [.sl pcan 0 (len_to + 1)]) :: (pcan, .rw 75 1 (canC E j (pn2 :: p0 :: rs'.map Prod.fst))) :: (q, .rw 27 3 [ic S, ic re, .sl id_xs off_xs len_xs]) :: (pr, .rw 25 1 [.sl id_to off_to len_to]) :: (pd, .rw 62 1 [.fn fdo caps]) :: (p0, .rw 4 1 (b0.map bc)) :: (bobs rs' ++ K), by omega, ⟨d + 1, rfl, rfl, by rw [hst], by omega⟩, inferInstance⟩

end Go.Proofs.Ytlmbgaoeplffkaa
