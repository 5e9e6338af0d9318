/- How many rings lead to a ring. -/
import Derived.Test.YtlmbgaoeplffkaaXpaths
import Derived.Test.YtlmbgaoeplffkaaFB
namespace Go.Proofs.Ytlmbgaoeplffkaa
open Go Go.RowKit
set_option linter.unusedVariables false
set_option linter.unusedSimpArgs false
set_option maxRecDepth 100000
set_option maxHeartbeats 8000000
-- (impl.Rule).label
def L62 : AFun := ⟨17, [.t 6],
 (.seq (.ops false [⟨(some 3), .box 27 (.t 0), none, []⟩,
   ⟨(some 6), .mv (.k (iv 0)), none, []⟩])
 (.seq (.ops false [⟨(some 7), .mv (.t 1), none, []⟩,
   ⟨(some 8), .mv (.t 2), none, []⟩,
   ⟨(some 9), .fieldA 1 (.t 3), none, []⟩,
   ⟨(some 10), .load false 1 (.t 9), none, []⟩,
   ⟨(some 11), .bin .add (.t 8) (.t 10), none, []⟩,
   ⟨(some 12), .mv (.t 1), none, []⟩,
   ⟨(some 13), .len false (.t 12), none, []⟩,
   ⟨(some 14), .bin .rem (.t 11) (.t 13), none, []⟩,
   ⟨(some 15), .idxA 1 (.t 7) (.t 14), none, []⟩,
   ⟨(some 16), .load false 1 (.t 15), none, []⟩,
   ⟨(some 6), .mv (.t 16), none, []⟩])
 .ret))⟩
theorem code62 : acode Try.prog hints 62 = some L62 := by kernel_rfl

-- (impl.Rule).countBack
def L34 : AFun := ⟨80, [.t 4],
 (.seq (.ops false [⟨(some 2), .box 27 (.t 0), none, []⟩,
   ⟨(some 4), .mv (.k (iv 0)), none, []⟩])
 (.seq (.ops false [⟨(some 16), .load true 3 (.t 2), none, []⟩,
   ⟨(some 17), .call (.f 44) [(.t 16)], none, []⟩,
   ⟨(some 5), .mv (.t 17), none, []⟩])
 (.seq (.ops false [⟨(some 6), .mv (.k (iv 0)), none, []⟩])
 (.seq (.seq (.ops false [⟨(some 18), .mv (.t 5), none, []⟩,
    ⟨(some 19), .mv (.k (iv 0)), none, []⟩])
  (.block 0 (.loop [1, 2, 5, 6, 18, 19] (.seq (.ops false [⟨(some 20), .bin .lss (.t 19) (.t 18), none, []⟩])
    (.seq (.cond (.t 20) .skip
      (.exit 0))
    (.seq (.block 1 (.seq (.ops false [⟨(some 21), .mv (.t 19), none, []⟩,
        ⟨(some 7), .mv (.t 21), none, []⟩])
      (.seq (.ops false [⟨(some 22), .mv (.t 5), none, []⟩,
        ⟨(some 23), .makeS 2 1 8 [.int .i64 0] (.t 22) (.t 22), none, []⟩,
        ⟨(some 8), .mv (.t 23), none, []⟩])
      (.seq (.ops false [⟨(some 24), .mv (.t 8), none, []⟩,
        ⟨(some 25), .mv (.t 7), none, []⟩,
        ⟨(some 26), .idxA 1 (.t 24) (.t 25), none, []⟩,
        ⟨none, .store 1 (.t 26) (.k (iv 1)), none, []⟩])
      (.seq (.seq (.ops false [⟨(some 27), .mv (.t 1), none, []⟩,
         ⟨(some 28), .len false (.t 27), none, []⟩,
         ⟨(some 29), .mv (.k (iv 0)), none, []⟩])
       (.block 2 (.loop [1, 2, 5, 6, 7, 8, 18, 19, 28, 29] (.seq (.ops false [⟨(some 30), .bin .lss (.t 29) (.t 28), none, []⟩])
         (.seq (.cond (.t 30) .skip
           (.exit 2))
         (.seq (.block 3 (.seq (.ops false [⟨(some 31), .mv (.t 29), none, []⟩,
             ⟨(some 9), .mv (.t 31), none, []⟩])
           (.seq (.ops false [⟨(some 32), .mv (.t 5), none, []⟩,
             ⟨(some 33), .makeS 2 1 8 [.int .i64 0] (.t 32) (.t 32), none, []⟩,
             ⟨(some 10), .mv (.t 33), none, []⟩])
           (.seq (.seq (.ops false [⟨(some 34), .mv (.t 8), none, []⟩,
              ⟨(some 35), .len false (.t 34), none, []⟩,
              ⟨(some 36), .mv (.k (iv 0)), none, []⟩])
            (.block 4 (.loop [1, 2, 5, 6, 7, 9, 10, 18, 19, 28, 29, 34, 35, 36] (.seq (.ops false [⟨(some 37), .bin .lss (.t 36) (.t 35), none, []⟩])
              (.seq (.cond (.t 37) .skip
                (.exit 4))
              (.seq (.block 5 (.seq (.ops false [⟨(some 38), .mv (.t 36), none, []⟩,
                  ⟨(some 39), .idxA 1 (.t 34) (.t 36), none, []⟩,
                  ⟨(some 40), .load false 1 (.t 39), none, []⟩,
                  ⟨(some 11), .mv (.t 38), none, []⟩,
                  ⟨(some 12), .mv (.t 40), none, []⟩])
                (.seq (.seq (.ops false [⟨(some 41), .mv (.t 12), none, []⟩,
                   ⟨(some 42), .bin .eql (.t 41) (.k (iv 0)), none, []⟩])
                 (.cond (.t 42) (.exit 5)
                  .skip))
                (.seq (.ops false [⟨(some 43), .fieldA 0 (.t 2), none, []⟩,
                  ⟨(some 44), .load false 1 (.t 43), none, []⟩,
                  ⟨(some 45), .mv (.k (iv 0)), none, []⟩])
                (.block 6 (.loop [1, 2, 5, 6, 7, 9, 10, 11, 12, 18, 19, 28, 29, 34, 35, 36, 44, 45] (.seq (.ops false [⟨(some 46), .bin .lss (.t 45) (.t 44), none, []⟩])
                  (.seq (.cond (.t 46) .skip
                    (.exit 6))
                  (.seq (.block 7 (.seq (.ops false [⟨(some 47), .mv (.t 45), none, []⟩,
                      ⟨(some 13), .mv (.t 47), none, []⟩])
                    (.seq (.ops false [⟨(some 49), .load true 3 (.t 2), none, []⟩,
                      ⟨(some 50), .mv (.t 11), none, []⟩,
                      ⟨(some 51), .mv (.t 13), none, []⟩,
                      ⟨(some 52), .call (.f 45) [(.t 49), (.t 50), (.t 51)], none, []⟩,
                      ⟨(some 48), .mv (.t 52), none, []⟩,
                      ⟨(some 53), .ext (.t 48) 0, none, []⟩,
                      ⟨(some 54), .ext (.t 48) 1, none, []⟩,
                      ⟨(some 14), .mv (.t 53), none, []⟩,
                      ⟨(some 15), .mv (.t 54), none, []⟩])
                    (.seq (.ops false [⟨(some 55), .mv (.t 15), none, []⟩,
                      ⟨(some 56), .load true 3 (.t 2), none, []⟩,
                      ⟨(some 57), .mv (.t 1), none, []⟩,
                      ⟨(some 58), .mv (.t 9), none, []⟩,
                      ⟨(some 59), .call (.f 62) [(.t 56), (.t 57), (.t 58)], none, []⟩,
                      ⟨(some 60), .bin .eql (.t 55) (.t 59), none, []⟩])
                    (.cond (.t 60) (.ops false [⟨(some 61), .mv (.t 10), none, []⟩,
                      ⟨(some 62), .mv (.t 14), none, []⟩,
                      ⟨(some 63), .idxA 1 (.t 61) (.t 62), none, []⟩,
                      ⟨(some 64), .load false 1 (.t 63), none, []⟩,
                      ⟨(some 65), .mv (.t 12), none, []⟩,
                      ⟨(some 66), .bin .add (.t 64) (.t 65), none, []⟩,
                      ⟨(some 67), .idxA 1 (.t 61) (.t 62), none, []⟩,
                      ⟨none, .store 1 (.t 67) (.t 66), none, []⟩])
                     .skip)))))
                  (.ops false [⟨(some 68), .bin .add (.t 45) (.k (iv 1)), none, []⟩,
                   ⟨(some 45), .mv (.t 68), none, []⟩]))))))))))
              (.ops false [⟨(some 69), .bin .add (.t 36) (.k (iv 1)), none, []⟩,
               ⟨(some 36), .mv (.t 69), none, []⟩])))))))
           (.ops false [⟨(some 70), .mv (.t 10), none, []⟩,
            ⟨(some 8), .mv (.t 70), none, []⟩])))))
         (.ops false [⟨(some 71), .bin .add (.t 29) (.k (iv 1)), none, []⟩,
          ⟨(some 29), .mv (.t 71), none, []⟩])))))))
      (.ops false [⟨(some 72), .mv (.t 6), none, []⟩,
       ⟨(some 73), .mv (.t 8), none, []⟩,
       ⟨(some 74), .mv (.t 7), none, []⟩,
       ⟨(some 75), .idxA 1 (.t 73) (.t 74), none, []⟩,
       ⟨(some 76), .load false 1 (.t 75), none, []⟩,
       ⟨(some 77), .bin .add (.t 72) (.t 76), none, []⟩,
       ⟨(some 6), .mv (.t 77), none, []⟩]))))))
    (.ops false [⟨(some 78), .bin .add (.t 19) (.k (iv 1)), none, []⟩,
     ⟨(some 19), .mv (.t 78), none, []⟩])))))))
 (.seq (.ops false [⟨(some 79), .mv (.t 6), none, []⟩,
   ⟨(some 4), .mv (.t 79), none, []⟩])
 .ret)))))⟩
theorem code34 : acode Try.prog hints 34 = some L34 := by kernel_rfl

-- impl.backRing
def L33 : AFun := ⟨16, [.t 4],
 (.seq (.ops false [⟨(some 2), .box 27 (.t 0), none, []⟩,
   ⟨(some 4), .mv (.k (bv false)), none, []⟩])
 (.seq (.ops false [⟨(some 5), .load true 3 (.t 2), none, []⟩,
   ⟨(some 6), .mv (.t 1), none, []⟩,
   ⟨(some 7), .buildS 25 1 1 [.sl 0 0 0] [(0, 1, (.t 6))], none, []⟩,
   ⟨(some 8), .call (.f 60) [(.t 5), (.t 7)], none, []⟩,
   ⟨(some 9), .mv (.t 8), none, []⟩,
   ⟨(some 10), .mv (.t 1), (some (9, true)), []⟩,
   ⟨(some 11), .len false (.t 10), (some (9, true)), []⟩,
   ⟨(some 12), .load true 3 (.t 2), (some (9, true)), []⟩,
   ⟨(some 13), .call (.f 61) [(.t 12)], (some (9, true)), []⟩,
   ⟨(some 14), .call (.f 43) [(.t 11), (.t 13), (.k (iv 16))], (some (9, true)), []⟩,
   ⟨(some 15), .pick (.t 9) (.t 14) (.k (bv false)), none, []⟩,
   ⟨(some 4), .mv (.t 15), none, []⟩])
 .ret))⟩
theorem code33 : acode Try.prog hints 33 = some L33 := by kernel_rfl

-- (impl.Rule).mostCells
def L50 : AFun := ⟨12, [.t 6],
 (.seq (.ops false [⟨(some 3), .box 27 (.t 0), none, []⟩,
   ⟨(some 6), .mv (.k (iv 0)), none, []⟩])
 (.seq (.seq (.ops false [⟨(some 7), .fieldA 0 (.t 3), none, []⟩,
    ⟨(some 8), .load false 1 (.t 7), none, []⟩,
    ⟨(some 9), .bin .eql (.t 8) (.k (iv 2)), none, []⟩])
  (.cond (.t 9) (.seq (.ops false [⟨(some 10), .mv (.t 1), none, []⟩,
     ⟨(some 6), .mv (.t 10), none, []⟩])
   .ret)
   .skip))
 (.seq (.ops false [⟨(some 11), .mv (.t 2), none, []⟩,
   ⟨(some 6), .mv (.t 11), none, []⟩])
 .ret)))⟩
theorem code50 : acode Try.prog hints 50 = some L50 := by kernel_rfl

-- impl.CountBack
def L10 : AFun := ⟨13, [.t 4, .t 5],
 (.seq (.ops false [⟨(some 2), .box 27 (.t 0), none, []⟩,
   ⟨(some 4), .mv (.k (iv 0)), none, []⟩,
   ⟨(some 5), .mv (.k (bv false)), none, []⟩])
 (.seq (.seq (.ops false [⟨(some 6), .load true 3 (.t 2), none, []⟩,
    ⟨(some 7), .mv (.t 1), none, []⟩,
    ⟨(some 8), .call (.f 33) [(.t 6), (.t 7)], none, []⟩,
    ⟨(some 9), .un .not (.t 8), none, []⟩])
  (.cond (.t 9) (.seq (.ops false [⟨(some 4), .mv (.k (iv 0)), none, []⟩,
     ⟨(some 5), .mv (.k (bv false)), none, []⟩])
   .ret)
   .skip))
 (.seq (.ops false [⟨(some 10), .load true 3 (.t 2), none, []⟩,
   ⟨(some 11), .mv (.t 1), none, []⟩,
   ⟨(some 12), .call (.f 34) [(.t 10), (.t 11)], none, []⟩,
   ⟨(some 4), .mv (.t 12), none, []⟩,
   ⟨(some 5), .mv (.k (bv true)), none, []⟩])
 .ret)))⟩
theorem code10 : acode Try.prog hints 10 = some L10 := by kernel_rfl


theorem c_label {s : St} [Wf s] {S : Nat} {re : Int} {v : AC} {at_ : Nat} {id_ys off_ys len_ys : Nat} {ys : List Int} [h_ys : ArgE ic s id_ys off_ys ys] (hl_ys : ys.length = len_ys := by first | rfl | simp | omega | (simp; omega)) (hre : 0 ≤ re ∧ re ≤ 2 := by omega) (hat : at_ < len_ys := by omega) (hb : len_ys ≤ 64 := by omega) :
    FnV 62 [.agg [ic S, ic re, v], .c (.sl id_ys off_ys len_ys), iv at_] s (iv ((labI re ys).getD at_ 0)) := by
  have e := emod_in (a := (at_ : Int) + re) (b := len_ys) (by omega)
  refine F_start code62 ?_
  repeat' (first
 | refine A_go rfl ?_ | refine A_ifT rfl rfl ?_ | refine A_ifF rfl rfl ?_
 | refine A_add rfl rfl rfl (by omega) ?_ | refine A_rem rfl rfl rfl (by omega) ?_ | refine A_remT rfl rfl rfl (by omega) ?_
 | refine A_idxN1 rfl rfl rfl (by omega) ?_ | refine A_idx1 rfl rfl rfl (by omega) ?_
 | refine A_fld rfl rfl ?_ | refine A_p (by rfl) rfl ?_
 | refine A_ldI rfl (by first | omega | (simp; done) | (simp; omega)) rfl ?_ | refine A_ldB rfl (by first | omega | (simp; done) | (simp; omega)) rfl ?_ | refine A_ld rfl (by rfl) rfl ?_
 | ((first | refine A_box rfl rfl ?_ | refine A_boxC rfl rfl ?_) <;> intro pz hpz)
 | refine A_ret1 rfl (by exact (RP.t rfl RP.nil)) ?_)
  exact R_v (by rw [labI_get (by omega), hl_ys])
theorem c_countBack {s : St} [Wf s] {S w E : Nat} {re : Int} {id_xs off_xs len_xs : Nat} {xs : List Int} [h_xs : ArgE ic s id_xs off_xs xs] (hl_xs : xs.length = len_xs := by first | rfl | simp | omega | (simp; omega)) {id_ys off_ys len_ys : Nat} {ys : List Int} [h_ys : ArgE ic s id_ys off_ys ys] (hl_ys : ys.length = len_ys := by first | rfl | simp | omega | (simp; omega)) (hE : E = S ^ (w - 1)) (hl : xs.length = E * S) (hS : 2 ≤ S ∧ S ≤ 3 := by omega) (hw : 2 * re + 1 = w ∧ 1 ≤ w ∧ w ≤ 5 := by omega) (hEb : 1 ≤ E ∧ E ≤ 81 := by omega) (hb : 1 ≤ len_ys ∧ len_ys ≤ 16 := by omega) :
    FnV 34 [.agg [ic S, ic re, .sl id_xs off_xs len_xs], .c (.sl id_ys off_ys len_ys)] s (iv (cbk S E xs (labI re ys))) := by
  have hes := es_le hS hEb
  refine F_start code34 ?_
  repeat' (first
 | refine A_go rfl ?_ | refine A_ifT rfl rfl ?_ | refine A_ifF rfl rfl ?_
 | refine A_add rfl rfl rfl (by omega) ?_
 | ((first | refine A_lt rfl rfl rfl ?_ ?_ | refine A_eq rfl rfl rfl ?_ ?_) <;> intro hc <;> try first | contradiction | (exfalso; omega) | exact absurd rfl hc)
 | refine A_idxN1 rfl rfl rfl (by omega) ?_ | refine A_idx1 rfl rfl rfl (by omega) ?_
 | refine A_callV rfl rfl (fun s H => c_ends (hE := hE)) ?_
 | refine A_fld rfl rfl ?_ | refine A_p (by rfl) rfl ?_
 | refine A_ldI rfl (by first | omega | (simp; done) | (simp; omega)) rfl ?_ | refine A_ldB rfl (by first | omega | (simp; done) | (simp; omega)) rfl ?_ | refine A_ld rfl (by rfl) rfl ?_
 | refine A_ldW rfl (by simp) rfl ?_
 | refine A_st rfl rfl rfl ?_ | refine A_stE rfl rfl (by first | omega | (simp; done) | (simp; omega)) rfl ?_
 | ((first | refine A_box rfl rfl ?_ | refine A_boxC rfl rfl ?_ | refine A_makeN rfl rfl rfl (by omega) ?_ | refine A_make rfl rfl rfl (by omega) ?_) <;> intro pz hpz)
 | refine A_ret1 rfl (by exact (RP.t rfl RP.nil)) ?_)
  obtain ⟨q, hEq⟩ : ∃ p, p = pz := ⟨_, rfl⟩; subst hEq
  have bnd : ∀ a, a < E → 0 ≤ (vecs S E xs (labI re ys) (oh E a) len_ys).getD a 0 ∧ (vecs S E xs (labI re ys) (oh E a) len_ys).getD a 0 ≤ 43046721 := fun a ha => vecs_at (J := 16) hEb.1 (oh_nn ha) hS (T := 1) (oh_tot ha) (by decide) hb.2 (by omega) ha
  refine A_loop rfl [q] (fun m fr L => ∃ (a : Nat) (t : Int), m = E - a ∧ fr = [(1, .c (.sl id_ys off_ys len_ys)), (2, .c (.ptr q 0)), (5, iv E), (6, iv t), (18, iv E), (19, iv a)] ∧ L = [(q, .rw 27 3 [ic S, ic re, .sl id_xs off_xs len_xs])] ∧ a ≤ E ∧ t = sg (fun a => (vecs S E xs (labI re ys) (oh E a) len_ys).getD a 0) a ∧ 0 ≤ t ∧ t ≤ a * 43046721) E ⟨0, 0, rfl, rfl, rfl, by omega, rfl, by omega, by omega⟩ ?_
  rintro m fr L ⟨a, t, rfl, rfl, rfl, ha, ht, ht0, ht1⟩
  repeat' (first
 | refine A_go rfl ?_ | refine A_ifT rfl rfl ?_ | refine A_ifF rfl rfl ?_
 | refine A_add rfl rfl rfl (by omega) ?_
 | ((first | refine A_lt rfl rfl rfl ?_ ?_ | refine A_eq rfl rfl rfl ?_ ?_) <;> intro hc <;> try first | contradiction | (exfalso; omega) | exact absurd rfl hc)
 | refine A_idxN1 rfl rfl rfl (by omega) ?_ | refine A_idx1 rfl rfl rfl (by omega) ?_
 | refine A_fld rfl rfl ?_ | refine A_p (by rfl) rfl ?_
 | refine A_ldI rfl (by first | omega | (simp; done) | (simp; omega)) rfl ?_ | refine A_ldB rfl (by first | omega | (simp; done) | (simp; omega)) rfl ?_ | refine A_ld rfl (by rfl) rfl ?_
 | refine A_ldW rfl (by simp) rfl ?_
 | refine A_st rfl rfl rfl ?_ | refine A_stE rfl rfl (by first | omega | (simp; done) | (simp; omega)) rfl ?_
 | ((first | refine A_box rfl rfl ?_ | refine A_boxC rfl rfl ?_ | refine A_makeN rfl rfl rfl (by omega) ?_ | refine A_make rfl rfl rfl (by omega) ?_) <;> intro pz hpz)
 | refine A_ret1 rfl (by exact (RP.t rfl RP.nil)) ?_)
  rotate_left
  · obtain rfl : E = a := by omega
    exact R_v (by rw [ht, cbk, labI_len, hl_ys])
  have ha' : a < E := by omega
  refine A_loop rfl [q, pz] (fun m fr L => ∃ (j p : Nat), m = len_ys - j ∧ fr = [(1, .c (.sl id_ys off_ys len_ys)), (2, .c (.ptr q 0)), (5, iv E), (6, iv t), (7, iv a), (8, .c (.sl p 0 E)), (18, iv E), (19, iv a), (28, iv len_ys), (29, iv j)] ∧ L = [(q, .rw 27 3 [ic S, ic re, .sl id_xs off_xs len_xs]), (p, ints (vecs S E xs (labI re ys) (oh E a) j))] ∧ j ≤ len_ys) len_ys ⟨0, pz, rfl, rfl, rfl, by omega⟩ ?_
  rintro m fr L ⟨j, p, rfl, rfl, rfl, hj⟩
  have hvl := vecs_len (S := S) (xs := xs) (l := labI re ys) (oh_len (E := E) (a := a)) j
  by_cases hj' : j < len_ys
  · repeat' (first
 | refine A_go rfl ?_ | refine A_ifT rfl rfl ?_ | refine A_ifF rfl rfl ?_
 | refine A_add rfl rfl rfl (by omega) ?_
 | ((first | refine A_lt rfl rfl rfl ?_ ?_ | refine A_eq rfl rfl rfl ?_ ?_) <;> intro hc <;> try first | contradiction | (exfalso; omega) | exact absurd rfl hc)
 | refine A_idxN1 rfl rfl rfl (by omega) ?_ | refine A_idx1 rfl rfl rfl (by omega) ?_
 | refine A_fld rfl rfl ?_ | refine A_p (by rfl) rfl ?_
 | refine A_ldI rfl (by first | omega | (simp; done) | (simp; omega)) rfl ?_ | refine A_ldB rfl (by first | omega | (simp; done) | (simp; omega)) rfl ?_ | refine A_ld rfl (by rfl) rfl ?_
 | refine A_ldW rfl (by simp) rfl ?_
 | refine A_st rfl rfl rfl ?_ | refine A_stE rfl rfl (by first | omega | (simp; done) | (simp; omega)) rfl ?_
 | ((first | refine A_box rfl rfl ?_ | refine A_boxC rfl rfl ?_ | refine A_makeN rfl rfl rfl (by omega) ?_ | refine A_make rfl rfl rfl (by omega) ?_) <;> intro pz hpz)
 | refine A_ret1 rfl (by exact (RP.t rfl RP.nil)) ?_)
    refine A_loop rfl [q, p, pz] (fun m fr L => ∃ (b : Nat), m = E - b ∧ fr = [(1, .c (.sl id_ys off_ys len_ys)), (2, .c (.ptr q 0)), (5, iv E), (6, iv t), (7, iv a), (9, iv j), (10, .c (.sl pz 0 E)), (18, iv E), (19, iv a), (28, iv len_ys), (29, iv j), (34, .c (.sl p 0 E)), (35, iv E), (36, iv b)] ∧ L = [(q, .rw 27 3 [ic S, ic re, .sl id_xs off_xs len_xs]), (p, ints (vecs S E xs (labI re ys) (oh E a) j)), (pz, ints (nxt S E xs ((labI re ys).getD j 0) (vecs S E xs (labI re ys) (oh E a) j) (b * S)))] ∧ b ≤ E) E ⟨0, rfl, rfl, by rw [Nat.zero_mul]; rfl, by omega⟩ ?_
    rintro m fr L ⟨b, rfl, rfl, rfl, hb'⟩
    have e1 : b * S + S = (b + 1) * S := by rw [Nat.add_mul]; omega
    repeat' (first
 | refine A_go rfl ?_ | refine A_ifT rfl rfl ?_ | refine A_ifF rfl rfl ?_
 | refine A_add rfl rfl rfl (by omega) ?_
 | ((first | refine A_lt rfl rfl rfl ?_ ?_ | refine A_eq rfl rfl rfl ?_ ?_) <;> intro hc <;> try first | contradiction | (exfalso; omega) | exact absurd rfl hc)
 | refine A_idxN1 rfl rfl rfl (by omega) ?_ | refine A_idx1 rfl rfl rfl (by omega) ?_
 | refine A_fld rfl rfl ?_ | refine A_p (by rfl) rfl ?_
 | refine A_ldI rfl (by first | omega | (simp; done) | (simp; omega)) rfl ?_ | refine A_ldB rfl (by first | omega | (simp; done) | (simp; omega)) rfl ?_ | refine A_ld rfl (by rfl) rfl ?_
 | refine A_ldW rfl (by simp) rfl ?_
 | refine A_st rfl rfl rfl ?_ | refine A_stE rfl rfl (by first | omega | (simp; done) | (simp; omega)) rfl ?_
 | ((first | refine A_box rfl rfl ?_ | refine A_boxC rfl rfl ?_ | refine A_makeN rfl rfl rfl (by omega) ?_ | refine A_make rfl rfl rfl (by omega) ?_) <;> intro pz hpz)
 | refine A_ret1 rfl (by exact (RP.t rfl RP.nil)) ?_)
    · refine A_round rfl [q, p, pz] (E - (b + 1)) (by omega) ?_
      exact ⟨b + 1, rfl, rfl, by rw [← e1, nxt_skip hc S (Nat.le_refl _)], by omega⟩
    · refine A_loop rfl [q, p, pz] (fun m fr L => ∃ (d : Nat), m = S - d ∧ fr = [(1, .c (.sl id_ys off_ys len_ys)), (2, .c (.ptr q 0)), (5, iv E), (6, iv t), (7, iv a), (9, iv j), (10, .c (.sl pz 0 E)), (11, iv b), (12, iv ((vecs S E xs (labI re ys) (oh E a) j).getD b 0)), (18, iv E), (19, iv a), (28, iv len_ys), (29, iv j), (34, .c (.sl p 0 E)), (35, iv E), (36, iv b), (44, iv S), (45, iv d)] ∧ L = [(q, .rw 27 3 [ic S, ic re, .sl id_xs off_xs len_xs]), (p, ints (vecs S E xs (labI re ys) (oh E a) j)), (pz, ints (nxt S E xs ((labI re ys).getD j 0) (vecs S E xs (labI re ys) (oh E a) j) (b * S + d)))] ∧ d ≤ S) S ⟨0, rfl, rfl, rfl, by omega⟩ ?_
      rintro m fr L ⟨d, rfl, rfl, rfl, hd⟩
      by_cases hd' : d < S
      · have hb2 : b < E := by omega
        have h1 := lt_mul hb2 hd'
        have h2 := mod_in (m := b * S + d) hEb.1
        have h3 := vecs_at (J := 16) (j := j) (xs := xs) (l := labI re ys) hEb.1 (oh_nn ha') hS (T := 1) (oh_tot ha') (by decide) (by omega) (by omega) hb2
        have h4 := vecs_mid (J := 16) (j := j) (c := (b * S + d) % E) (m := b * S + d) (xs := xs) (l := labI re ys) (lab := (labI re ys).getD j 0) hEb.1 (oh_nn ha') hS (T := 1) (oh_tot ha') (by decide) (by omega) (by omega) (by omega)
        have h5 := nxt_step (E := E) (a := b) (xs := xs) (lab := (labI re ys).getD j 0) (cs := vecs S E xs (labI re ys) (oh E a) j) hd'
        have h6 := nxt_len (S := S) (E := E) (xs := xs) (lab := (labI re ys).getD j 0) (cs := vecs S E xs (labI re ys) (oh E a) j) (b * S + d)
        repeat' (first
 | refine A_go rfl ?_ | refine A_ifT rfl rfl ?_ | refine A_ifF rfl rfl ?_
 | refine A_add rfl rfl rfl (by omega) ?_
 | ((first | refine A_lt rfl rfl rfl ?_ ?_ | refine A_eq rfl rfl rfl ?_ ?_) <;> intro hc <;> try first | contradiction | (exfalso; omega) | exact absurd rfl hc)
 | refine A_idxN1 rfl rfl rfl (by omega) ?_ | refine A_idx1 rfl rfl rfl (by omega) ?_
 | refine A_callV rfl rfl (fun s H => c_way (hE := hE) (hl := hl)) ?_
 | refine A_callV rfl rfl (fun s H => c_label (ys := ys)) ?_
 | refine A_fld rfl rfl ?_ | refine A_p (by rfl) rfl ?_
 | refine A_ldI rfl (by first | omega | (simp; done) | (simp; omega)) rfl ?_ | refine A_ldB rfl (by first | omega | (simp; done) | (simp; omega)) rfl ?_ | refine A_ld rfl (by rfl) rfl ?_
 | refine A_ldW rfl (by simp) rfl ?_
 | refine A_st rfl rfl rfl ?_ | refine A_stE rfl rfl (by first | omega | (simp; done) | (simp; omega)) rfl ?_
 | ((first | refine A_box rfl rfl ?_ | refine A_boxC rfl rfl ?_ | refine A_makeN rfl rfl rfl (by omega) ?_ | refine A_make rfl rfl rfl (by omega) ?_) <;> intro pz hpz)
 | refine A_ret1 rfl (by exact (RP.t rfl RP.nil)) ?_)
        · refine A_round rfl [q, p, pz] (S - (d + 1)) (by omega) ?_
          exact ⟨d + 1, rfl, rfl, by rw [h5, if_pos hc], by omega⟩
        · refine A_round rfl [q, p, pz] (S - (d + 1)) (by omega) ?_
          exact ⟨d + 1, rfl, rfl, by rw [h5, if_neg hc], by omega⟩
      · obtain rfl : S = d := by omega
        repeat' (first
 | refine A_go rfl ?_ | refine A_ifT rfl rfl ?_ | refine A_ifF rfl rfl ?_
 | refine A_add rfl rfl rfl (by omega) ?_
 | ((first | refine A_lt rfl rfl rfl ?_ ?_ | refine A_eq rfl rfl rfl ?_ ?_) <;> intro hc <;> try first | contradiction | (exfalso; omega) | exact absurd rfl hc)
 | refine A_idxN1 rfl rfl rfl (by omega) ?_ | refine A_idx1 rfl rfl rfl (by omega) ?_
 | refine A_fld rfl rfl ?_ | refine A_p (by rfl) rfl ?_
 | refine A_ldI rfl (by first | omega | (simp; done) | (simp; omega)) rfl ?_ | refine A_ldB rfl (by first | omega | (simp; done) | (simp; omega)) rfl ?_ | refine A_ld rfl (by rfl) rfl ?_
 | refine A_ldW rfl (by simp) rfl ?_
 | refine A_st rfl rfl rfl ?_ | refine A_stE rfl rfl (by first | omega | (simp; done) | (simp; omega)) rfl ?_
 | ((first | refine A_box rfl rfl ?_ | refine A_boxC rfl rfl ?_ | refine A_makeN rfl rfl rfl (by omega) ?_ | refine A_make rfl rfl rfl (by omega) ?_) <;> intro pz hpz)
 | refine A_ret1 rfl (by exact (RP.t rfl RP.nil)) ?_)
        refine A_round rfl [q, p, pz] (E - (b + 1)) (by omega) ?_
        exact ⟨b + 1, rfl, rfl, by rw [← e1], by omega⟩
    · obtain rfl : E = b := by omega
      refine A_round rfl [q, pz] (len_ys - (j + 1)) (by omega) ?_
      exact ⟨j + 1, pz, rfl, rfl, rfl, by omega⟩
  · obtain rfl : len_ys = j := by omega
    have h7 := bnd a ha'
    repeat' (first
 | refine A_go rfl ?_ | refine A_ifT rfl rfl ?_ | refine A_ifF rfl rfl ?_
 | refine A_add rfl rfl rfl (by omega) ?_
 | ((first | refine A_lt rfl rfl rfl ?_ ?_ | refine A_eq rfl rfl rfl ?_ ?_) <;> intro hc <;> try first | contradiction | (exfalso; omega) | exact absurd rfl hc)
 | refine A_idxN1 rfl rfl rfl (by omega) ?_ | refine A_idx1 rfl rfl rfl (by omega) ?_
 | refine A_fld rfl rfl ?_ | refine A_p (by rfl) rfl ?_
 | refine A_ldI rfl (by first | omega | (simp; done) | (simp; omega)) rfl ?_ | refine A_ldB rfl (by first | omega | (simp; done) | (simp; omega)) rfl ?_ | refine A_ld rfl (by rfl) rfl ?_
 | refine A_ldW rfl (by simp) rfl ?_
 | refine A_st rfl rfl rfl ?_ | refine A_stE rfl rfl (by first | omega | (simp; done) | (simp; omega)) rfl ?_
 | ((first | refine A_box rfl rfl ?_ | refine A_boxC rfl rfl ?_ | refine A_makeN rfl rfl rfl (by omega) ?_ | refine A_make rfl rfl rfl (by omega) ?_) <;> intro pz hpz)
 | refine A_ret1 rfl (by exact (RP.t rfl RP.nil)) ?_)
    refine A_round rfl [q] (E - (a + 1)) (by omega) ?_
    exact ⟨a + 1, _, rfl, rfl, rfl, by omega, by rw [ht]; rfl, by omega, by push_cast; omega⟩
/-- A ring to which one may go back. -/
def BackP (st re : Int) (xs ys : List Int) : Prop := (VR st re xs ∧ RG st ys) ∧ 2 * re + 1 ≤ ys.length ∧ ys.length ≤ 16
theorem c_backRing {s : St} [Wf s] {st re : Int} {id_xs off_xs len_xs : Nat} {xs : List Int} [h_xs : ArgE ic s id_xs off_xs xs] (hl_xs : xs.length = len_xs := by first | rfl | simp | omega | (simp; omega)) {id_ys off_ys len_ys : Nat} {ys : List Int} [h_ys : ArgE ic s id_ys off_ys ys] (hl_ys : ys.length = len_ys := by first | rfl | simp | omega | (simp; omega)) (hb : len_xs ≤ 2000000 ∧ len_ys ≤ 2000000 := by omega) : FnB 33 [.agg [ic st, ic re, .sl id_xs off_xs len_xs], .c (.sl id_ys off_ys len_ys)] s (BackP st re xs ys) := by
  refine F_start code33 ?_
  by_cases hv : VR st re xs ∧ RG st ys
  case neg =>
    repeat' (first
 | refine A_go rfl ?_ | refine A_ifT rfl rfl ?_ | refine A_ifF rfl rfl ?_
 | refine A_offP rfl rfl ?_ | refine A_offH rfl rfl ?_ | refine A_off0 rfl rfl ?_
 | (refine A_bld1 (enc := rc) (a := ⟨_, _, _, ys⟩) rfl rfl ?_ <;> intro pz hpz)
 | (refine A_callB rfl rfl (fun s H => c_ringed1 (ys := ys)) ?_ ?_ <;> intro hc <;> try first | contradiction | (exfalso; omega) | exact absurd rfl hc | exact absurd (And.intro rfl rfl) hc | exact absurd (And.intro rfl (And.intro rfl rfl)) hc | exact absurd (Eq.trans (by assumption) (Eq.symm (by assumption))) hc)
 | refine A_p (by rfl) rfl ?_
 | refine A_ldW rfl (by simp) rfl ?_
 | ((first | refine A_box rfl rfl ?_ | refine A_boxC rfl rfl ?_ | refine A_bld1 rfl rfl ?_ | refine A_bld2 rfl rfl rfl ?_ | refine A_bld4 rfl rfl rfl rfl rfl ?_) <;> intro pz hpz)
 | refine A_bld0 rfl ?_
 | refine A_ret1 rfl (by exact (RP.t rfl RP.nil)) ?_)
    exact R_f fun h => hv h.1
  have hv1 := hv.1.2.1
  repeat' (first
 | refine A_go rfl ?_ | refine A_ifT rfl rfl ?_ | refine A_ifF rfl rfl ?_
 | refine A_offP rfl rfl ?_ | refine A_offH rfl rfl ?_ | refine A_off0 rfl rfl ?_
 | (refine A_bld1 (enc := rc) (a := ⟨_, _, _, ys⟩) rfl rfl ?_ <;> intro pz hpz)
 | (refine A_callB rfl rfl (fun s H => c_ringed1 (ys := ys)) ?_ ?_ <;> intro hc <;> try first | contradiction | (exfalso; omega) | exact absurd rfl hc | exact absurd (And.intro rfl rfl) hc | exact absurd (And.intro rfl (And.intro rfl rfl)) hc | exact absurd (Eq.trans (by assumption) (Eq.symm (by assumption))) hc)
 | refine A_callV rfl rfl (fun s H => c_cells) ?_
 | (refine A_callB rfl rfl (fun s H => c_within) ?_ ?_ <;> intro hc <;> try first | contradiction | (exfalso; omega) | exact absurd rfl hc | exact absurd (And.intro rfl rfl) hc | exact absurd (And.intro rfl (And.intro rfl rfl)) hc | exact absurd (Eq.trans (by assumption) (Eq.symm (by assumption))) hc)
 | refine A_p (by rfl) rfl ?_
 | refine A_ldW rfl (by simp) rfl ?_
 | ((first | refine A_box rfl rfl ?_ | refine A_boxC rfl rfl ?_ | refine A_bld1 rfl rfl ?_ | refine A_bld2 rfl rfl rfl ?_ | refine A_bld4 rfl rfl rfl rfl rfl ?_) <;> intro pz hpz)
 | refine A_bld0 rfl ?_
 | refine A_ret1 rfl (by exact (RP.t rfl RP.nil)) ?_)
  · exact R_t ⟨hv, by omega, by omega⟩
  · exact R_f fun h => hc ⟨by have := h.2.1; omega, by have := h.2.2; omega⟩
def cbkR (st re : Int) (xs ys : List Int) : Int := cbk st.toNat (st.toNat ^ (2 * re).toNat) xs ys
theorem c_implCountBack {s : St} [Wf s] {st re : Int} {id_xs off_xs len_xs : Nat} {xs : List Int} [h_xs : ArgE ic s id_xs off_xs xs] (hl_xs : xs.length = len_xs := by first | rfl | simp | omega | (simp; omega)) {id_ys off_ys len_ys : Nat} {ys : List Int} [h_ys : ArgE ic s id_ys off_ys ys] (hl_ys : ys.length = len_ys := by first | rfl | simp | omega | (simp; omega)) (hb : len_xs ≤ 2000000 ∧ len_ys ≤ 2000000 := by omega) : FnV 10 [.agg [ic st, ic re, .sl id_xs off_xs len_xs], .c (.sl id_ys off_ys len_ys)] s (numV (BackP st re xs ys) (cbkR st re xs ys)) := by
  refine F_start code10 ?_
  by_cases hv : BackP st re xs ys
  case neg =>
    repeat' (first
 | refine A_go rfl ?_ | refine A_ifT rfl rfl ?_ | refine A_ifF rfl rfl ?_
 | (refine A_callB rfl rfl (fun s H => c_backRing (ys := ys)) ?_ ?_ <;> intro hc <;> try first | contradiction | (exfalso; omega) | exact absurd rfl hc | exact absurd (And.intro rfl rfl) hc | exact absurd (And.intro rfl (And.intro rfl rfl)) hc | exact absurd (Eq.trans (by assumption) (Eq.symm (by assumption))) hc)
 | refine A_p (by rfl) rfl ?_
 | refine A_ldW rfl (by simp) rfl ?_
 | ((first | refine A_box rfl rfl ?_ | refine A_boxC rfl rfl ?_) <;> intro pz hpz)
 | refine A_ret rfl (by exact (RP.t rfl (RP.t rfl RP.nil))) ?_)
    exact R_numN hv
  obtain ⟨S, w, E, rfl, hS, hw, hw1, hE, hl, hEb, hdg⟩ := hv.1.1.nat
  have hv2 := hv.2
  have hv3 := hv.1.2.1
  have e : cbkR S re xs ys = cbk S E xs (labI re ys) := by
    obtain ⟨k, hk⟩ : ∃ k : Nat, re = k := ⟨re.toNat, by omega⟩
    rw [cbkR, Int.toNat_natCast, show (2 * re).toNat = w - 1 by omega, ← hE, hk, cbk_lab hEb.1 (by omega) (by omega) (by omega)]
  repeat' (first
 | refine A_go rfl ?_ | refine A_ifT rfl rfl ?_ | refine A_ifF rfl rfl ?_
 | (refine A_callB rfl rfl (fun s H => c_backRing (ys := ys)) ?_ ?_ <;> intro hc <;> try first | contradiction | (exfalso; omega) | exact absurd rfl hc | exact absurd (And.intro rfl rfl) hc | exact absurd (And.intro rfl (And.intro rfl rfl)) hc | exact absurd (Eq.trans (by assumption) (Eq.symm (by assumption))) hc)
 | refine A_callV rfl rfl (fun s H => c_countBack (ys := ys) (hE := hE) (hl := hl)) ?_
 | refine A_p (by rfl) rfl ?_
 | refine A_ldW rfl (by simp) rfl ?_
 | ((first | refine A_box rfl rfl ?_ | refine A_boxC rfl rfl ?_) <;> intro pz hpz)
 | refine A_ret rfl (by exact (RP.t rfl (RP.t rfl RP.nil))) ?_)
  exact R_num hv e.symm
end Go.Proofs.Ytlmbgaoeplffkaa
