/- How many words lead to a word. -/
import Derived.Test.YtafdjnhlhepibaaXkeepsCount
import Derived.Test.YtafdjnhlhepibaaXpaths
import Derived.Test.YtafdjnhlhepibaaXrepeatI
import Derived.Test.YtafdjnhlhepibaaFB
namespace Go.Proofs.Ytafdjnhlhepibaa
open Go Go.RowKit
set_option linter.unusedVariables false
set_option linter.unusedSimpArgs false
set_option maxRecDepth 100000
set_option maxHeartbeats 8000000
-- spec.WordsBack
def L58 : AFun := ⟨87, [.t 4, .t 5],
 (.seq (.ops false [⟨(some 2), .box 30 (.t 0), none, []⟩,
   ⟨(some 4), .mv (.k (iv 0)), none, []⟩,
   ⟨(some 5), .mv (.k (bv false)), none, []⟩])
 (.seq (.seq (.ops false [⟨(some 17), .mv (.t 1), none, []⟩,
    ⟨(some 18), .call (.f 108) [(.t 2), (.t 17)], none, []⟩,
    ⟨(some 19), .un .not (.t 18), none, []⟩])
  (.cond (.t 19) (.seq (.ops false [⟨(some 4), .mv (.k (iv 0)), none, []⟩,
     ⟨(some 5), .mv (.k (bv false)), none, []⟩])
   .ret)
   .skip))
 (.seq (.ops false [⟨(some 20), .call (.f 109) [(.t 2)], none, []⟩,
   ⟨(some 6), .mv (.t 20), none, []⟩])
 (.seq (.ops false [⟨(some 21), .mv (.t 6), none, []⟩,
   ⟨(some 22), .makeS 2 1 8 [.int .i64 0] (.t 21) (.t 21), none, []⟩,
   ⟨(some 7), .mv (.t 22), none, []⟩])
 (.seq (.seq (.ops false [⟨(some 23), .mv (.t 7), none, []⟩,
    ⟨(some 24), .len false (.t 23), none, []⟩,
    ⟨(some 25), .mv (.k (iv 0)), none, []⟩])
  (.block 0 (.loop [1, 2, 6, 7, 24, 25] (.seq (.ops false [⟨(some 26), .bin .lss (.t 25) (.t 24), none, []⟩])
    (.seq (.cond (.t 26) .skip
      (.exit 0))
    (.seq (.block 1 (.seq (.ops false [⟨(some 27), .mv (.t 25), none, []⟩,
        ⟨(some 8), .mv (.t 27), none, []⟩])
      (.ops false [⟨(some 28), .mv (.t 7), none, []⟩,
       ⟨(some 29), .mv (.t 8), none, []⟩,
       ⟨(some 30), .idxA 1 (.t 28) (.t 29), none, []⟩,
       ⟨none, .store 1 (.t 30) (.k (iv 1)), none, []⟩])))
    (.ops false [⟨(some 31), .bin .add (.t 25) (.k (iv 1)), none, []⟩,
     ⟨(some 25), .mv (.t 31), none, []⟩])))))))
 (.seq (.seq (.ops false [⟨(some 32), .mv (.t 1), none, []⟩,
    ⟨(some 33), .len false (.t 32), none, []⟩,
    ⟨(some 34), .mv (.k (iv 0)), none, []⟩])
  (.block 2 (.loop [1, 2, 6, 7, 33, 34] (.seq (.ops false [⟨(some 35), .bin .lss (.t 34) (.t 33), none, []⟩])
    (.seq (.cond (.t 35) .skip
      (.exit 2))
    (.seq (.block 3 (.seq (.ops false [⟨(some 36), .mv (.t 34), none, []⟩,
        ⟨(some 9), .mv (.t 36), none, []⟩])
      (.seq (.ops false [⟨(some 37), .mv (.t 6), none, []⟩,
        ⟨(some 38), .makeS 2 1 8 [.int .i64 0] (.t 37) (.t 37), none, []⟩,
        ⟨(some 10), .mv (.t 38), none, []⟩])
      (.seq (.seq (.ops false [⟨(some 11), .mv (.k (iv 0)), none, []⟩])
       (.block 4 (.loop [1, 2, 6, 7, 9, 10, 11, 33, 34] (.seq (.seq (.ops false [⟨(some 39), .mv (.t 11), none, []⟩,
            ⟨(some 40), .mv (.t 6), none, []⟩,
            ⟨(some 41), .bin .lss (.t 39) (.t 40), none, []⟩])
          (.cond (.t 41) .skip
           (.exit 4)))
         (.seq (.block 5 (.seq (.ops false [⟨(some 12), .mv (.k (iv 0)), none, []⟩])
           (.block 6 (.loop [1, 2, 6, 7, 9, 10, 11, 12, 33, 34] (.seq (.seq (.ops false [⟨(some 44), .mv (.t 12), none, []⟩,
                ⟨(some 45), .fieldA 0 (.t 2), none, []⟩,
                ⟨(some 46), .load false 1 (.t 45), none, []⟩,
                ⟨(some 47), .bin .lss (.t 44) (.t 46), none, []⟩])
              (.cond (.t 47) .skip
               (.exit 6)))
             (.seq (.block 7 (.seq (.ops false [⟨(some 51), .mv (.t 11), none, []⟩,
                 ⟨(some 52), .mv (.t 12), none, []⟩,
                 ⟨(some 53), .call (.f 110) [(.t 2), (.t 51), (.t 52)], none, []⟩,
                 ⟨(some 50), .mv (.t 53), none, []⟩,
                 ⟨(some 54), .ext (.t 50) 0, none, []⟩,
                 ⟨(some 55), .ext (.t 50) 1, none, []⟩,
                 ⟨(some 13), .mv (.t 54), none, []⟩,
                 ⟨(some 14), .mv (.t 55), none, []⟩])
               (.seq (.ops false [⟨(some 56), .mv (.t 14), none, []⟩,
                 ⟨(some 57), .mv (.t 1), none, []⟩,
                 ⟨(some 58), .mv (.t 9), none, []⟩,
                 ⟨(some 59), .idxA 1 (.t 57) (.t 58), none, []⟩,
                 ⟨(some 60), .load false 1 (.t 59), none, []⟩,
                 ⟨(some 61), .bin .eql (.t 56) (.t 60), none, []⟩])
               (.cond (.t 61) (.ops true [⟨(some 62), .mv (.t 10), none, []⟩,
                 ⟨(some 63), .mv (.t 13), none, []⟩,
                 ⟨(some 64), .idxA 1 (.t 62) (.t 63), none, []⟩,
                 ⟨(some 65), .load false 1 (.t 64), none, []⟩,
                 ⟨(some 66), .mv (.t 7), none, []⟩,
                 ⟨(some 67), .mv (.t 11), none, []⟩,
                 ⟨(some 68), .idxA 1 (.t 66) (.t 67), none, []⟩,
                 ⟨(some 69), .load false 1 (.t 68), none, []⟩,
                 ⟨(some 70), .bin .add (.t 65) (.t 69), none, []⟩,
                 ⟨(some 71), .idxA 1 (.t 62) (.t 63), none, []⟩,
                 ⟨none, .store 1 (.t 71) (.t 70), none, []⟩])
                .skip))))
             (.ops false [⟨(some 48), .mv (.t 12), none, []⟩,
              ⟨(some 49), .bin .add (.t 48) (.k (iv 1)), none, []⟩,
              ⟨(some 12), .mv (.t 49), none, []⟩])))))))
         (.ops false [⟨(some 42), .mv (.t 11), none, []⟩,
          ⟨(some 43), .bin .add (.t 42) (.k (iv 1)), none, []⟩,
          ⟨(some 11), .mv (.t 43), none, []⟩]))))))
      (.ops false [⟨(some 72), .mv (.t 10), none, []⟩,
       ⟨(some 7), .mv (.t 72), none, []⟩])))))
    (.ops false [⟨(some 73), .bin .add (.t 34) (.k (iv 1)), none, []⟩,
     ⟨(some 34), .mv (.t 73), none, []⟩])))))))
 (.seq (.ops false [⟨(some 15), .mv (.k (iv 0)), none, []⟩])
 (.seq (.seq (.ops false [⟨(some 74), .mv (.t 7), none, []⟩,
    ⟨(some 75), .len false (.t 74), none, []⟩,
    ⟨(some 76), .mv (.k (iv 0)), none, []⟩])
  (.block 8 (.loop [7, 15, 75, 76] (.seq (.ops false [⟨(some 77), .bin .lss (.t 76) (.t 75), none, []⟩])
    (.seq (.cond (.t 77) .skip
      (.exit 8))
    (.seq (.block 9 (.seq (.ops false [⟨(some 78), .mv (.t 76), none, []⟩,
        ⟨(some 16), .mv (.t 78), none, []⟩])
      (.ops false [⟨(some 79), .mv (.t 15), none, []⟩,
       ⟨(some 80), .mv (.t 7), none, []⟩,
       ⟨(some 81), .mv (.t 16), none, []⟩,
       ⟨(some 82), .idxA 1 (.t 80) (.t 81), none, []⟩,
       ⟨(some 83), .load false 1 (.t 82), none, []⟩,
       ⟨(some 84), .bin .add (.t 79) (.t 83), none, []⟩,
       ⟨(some 15), .mv (.t 84), none, []⟩])))
    (.ops false [⟨(some 85), .bin .add (.t 76) (.k (iv 1)), none, []⟩,
     ⟨(some 76), .mv (.t 85), none, []⟩])))))))
 (.seq (.ops false [⟨(some 86), .mv (.t 15), none, []⟩,
   ⟨(some 4), .mv (.t 86), none, []⟩,
   ⟨(some 5), .mv (.k (bv true)), none, []⟩])
 .ret)))))))))⟩
theorem code58 : acode Try.prog hints 58 = some L58 := by kernel_rfl


def ones (E : Nat) : List Int := List.replicate E 1
@[simp] theorem ones_len {E : Nat} : (ones E).length = E := by simp [ones]
theorem ones_nn {E : Nat} : NN (ones E) := nn_getD fun x hx => by obtain ⟨_, rfl⟩ := List.mem_replicate.1 hx; omega
theorem ones_tot {E : Nat} : tot (ones E) E = E := by
  have h : ∀ n, n ≤ E → sg (fun c => (ones E).getD c 0) n = n := fun n => by
    induction n with
    | zero => intro _; rfl
    | succ n ih => intro hn; rw [sg, ih (by omega), ones, List.getD_eq_getElem?_getD, List.getElem?_replicate, if_pos (by omega)]; push_cast; rfl
  exact h E (Nat.le_refl E)
theorem smN_sg {ys : List Int} : ∀ m, smN ys m = sg (fun c => ys.getD c 0) m
  | 0 => rfl
  | m + 1 => by rw [smN, sg, smN_sg m]
/-- How many words lead to a word. -/
def wbk (S E : Nat) (xs ws : List Int) : Int := smN (vecs S E xs ws (ones E) ws.length) E
abbrev WbP (st re : Int) (xs ws : List Int) : Prop := VR st re xs ∧ (1 ≤ ws.length ∧ ws.length ≤ 12) ∧ ∀ x ∈ ws, 0 ≤ x ∧ x ≤ st - 1
def wbkR (st re : Int) (xs ws : List Int) : Int := wbk st.toNat (st.toNat ^ (2 * re).toNat) xs ws
theorem five {S w E : Nat} (hS : 2 ≤ S ∧ S ≤ 3) {re : Int} (hre : 0 ≤ re ∧ re ≤ 2) (hw : 2 * re + 1 = w) (hE : E = S ^ (w - 1)) : E = 1 ∨ E = 4 ∨ E = 9 ∨ E = 16 ∨ E = 81 := by
  have h1 : S = 2 ∨ S = 3 := by omega
  have h2 : w = 1 ∨ w = 3 ∨ w = 5 := by omega
  rcases h1 with rfl | rfl <;> rcases h2 with rfl | rfl | rfl <;> subst hE <;> decide
theorem c_specWordsBack {s : St} [Wf s] {st re : Int} {id_xs off_xs len_xs : Nat} {xs : List Int} [h_xs : ArgE ic s id_xs off_xs xs] (hl_xs : xs.length = len_xs := by first | rfl | simp | omega | (simp; omega)) {id_ws off_ws len_ws : Nat} {ws : List Int} [h_ws : ArgE ic s id_ws off_ws ws] (hl_ws : ws.length = len_ws := by first | rfl | simp | omega | (simp; omega)) (hb : len_xs ≤ 2000000 ∧ len_ws ≤ 2000000 := by omega) : FnV 58 [.agg [ic st, ic re, .sl id_xs off_xs len_xs], .c (.sl id_ws off_ws len_ws)] s (numV (WbP st re xs ws) (wbkR st re xs ws)) := by
  refine F_start code58 ?_
  by_cases hp : WbP st re xs ws
  case neg =>
    repeat' (first
 | refine A_go rfl ?_ | refine A_ifT rfl rfl ?_ | refine A_ifF rfl rfl ?_
 | refine A_add rfl rfl rfl (by omega) ?_
 | ((first | refine A_lt rfl rfl rfl ?_ ?_ | refine A_eq rfl rfl rfl ?_ ?_) <;> intro hc <;> try first | contradiction | (exfalso; omega) | exact absurd rfl hc)
 | refine A_idxN1 rfl rfl rfl (by omega) ?_ | refine A_idx1 rfl rfl rfl (by omega) ?_
 | (refine A_callB rfl rfl (fun s H => c_l03Word (ws := ws)) ?_ ?_ <;> intro hc <;> try first | contradiction | (exfalso; omega) | exact absurd rfl hc | exact absurd (And.intro rfl rfl) hc | exact absurd (And.intro rfl (And.intro rfl rfl)) hc | exact absurd (Eq.trans (by assumption) (Eq.symm (by assumption))) hc)
 | refine A_fld rfl rfl ?_ | refine A_p (by rfl) rfl ?_
 | refine A_ldI rfl (by first | omega | (simp; done) | (simp; omega)) rfl ?_ | refine A_ldB rfl (by first | omega | (simp; done) | (simp; omega)) rfl ?_ | refine A_ld rfl (by rfl) rfl ?_
 | refine A_st rfl rfl rfl ?_ | refine A_stE rfl rfl (by first | omega | (simp; done) | (simp; omega)) rfl ?_
 | ((first | refine A_box rfl rfl ?_ | refine A_boxC rfl rfl ?_ | refine A_makeN rfl rfl rfl (by omega) ?_ | refine A_make rfl rfl rfl (by omega) ?_) <;> intro pz hpz)
 | refine A_ret rfl (by exact (RP.t rfl (RP.t rfl RP.nil))) ?_)
    exact R_numN hp
  have hwl := hp.2.1
  have hre := hp.1.2.1
  obtain ⟨S, w, E, rfl, hS, hw, hw1, hE, hl, hEb, hdg⟩ := hp.1.nat
  have hes := es_le hS hEb
  have hval : wbkR S re xs ws = wbk S E xs ws := by rw [wbkR, Int.toNat_natCast, show (2 * re).toNat = w - 1 by omega, ← hE]
  have hT : tot (ones E) E ≤ 81 := by rw [ones_tot]; omega
  repeat' (first
 | refine A_go rfl ?_ | refine A_ifT rfl rfl ?_ | refine A_ifF rfl rfl ?_
 | refine A_add rfl rfl rfl (by omega) ?_
 | ((first | refine A_lt rfl rfl rfl ?_ ?_ | refine A_eq rfl rfl rfl ?_ ?_) <;> intro hc <;> try first | contradiction | (exfalso; omega) | exact absurd rfl hc)
 | refine A_idxN1 rfl rfl rfl (by omega) ?_ | refine A_idx1 rfl rfl rfl (by omega) ?_
 | (refine A_callB rfl rfl (fun s H => c_l03Word (ws := ws)) ?_ ?_ <;> intro hc <;> try first | contradiction | (exfalso; omega) | exact absurd rfl hc | exact absurd (And.intro rfl rfl) hc | exact absurd (And.intro rfl (And.intro rfl rfl)) hc | exact absurd (Eq.trans (by assumption) (Eq.symm (by assumption))) hc)
 | refine A_callV rfl rfl (fun s H => c_l03Ends (hE := hE)) ?_
 | refine A_fld rfl rfl ?_ | refine A_p (by rfl) rfl ?_
 | refine A_ldI rfl (by first | omega | (simp; done) | (simp; omega)) rfl ?_ | refine A_ldB rfl (by first | omega | (simp; done) | (simp; omega)) rfl ?_ | refine A_ld rfl (by rfl) rfl ?_
 | refine A_st rfl rfl rfl ?_ | refine A_stE rfl rfl (by first | omega | (simp; done) | (simp; omega)) rfl ?_
 | ((first | refine A_box rfl rfl ?_ | refine A_boxC rfl rfl ?_ | refine A_makeN rfl rfl rfl (by omega) ?_ | refine A_make rfl rfl rfl (by omega) ?_) <;> intro pz hpz)
 | refine A_ret rfl (by exact (RP.t rfl (RP.t rfl RP.nil))) ?_)
  rename_i q _ 
  obtain ⟨p0, hEq⟩ : ∃ p, p = pz := ⟨_, rfl⟩; subst hEq
  refine A_loop rfl [q, p0] (fun m fr L => ∃ (i : Nat) (ys : List Int), m = E - i ∧ fr = [(1, .c (.sl id_ws off_ws len_ws)), (2, .c (.ptr q 0)), (6, iv E), (7, .c (.sl p0 0 E)), (24, iv E), (25, iv i)] ∧ L = [(q, .rw 30 3 [ic S, ic re, .sl id_xs off_xs len_xs]), (p0, ints ys)] ∧ i ≤ E ∧ ys.length = E ∧ ys.take i = (ones E).take i) E ⟨0, _, rfl, rfl, rfl, by omega, by simp, by simp⟩ ?_
  rintro m fr L ⟨i, ys, rfl, rfl, rfl, hi, hy, ht⟩
  by_cases hi' : i < E
  · repeat' (first
 | refine A_go rfl ?_ | refine A_ifT rfl rfl ?_ | refine A_ifF rfl rfl ?_
 | refine A_add rfl rfl rfl (by omega) ?_
 | ((first | refine A_lt rfl rfl rfl ?_ ?_ | refine A_eq rfl rfl rfl ?_ ?_) <;> intro hc <;> try first | contradiction | (exfalso; omega) | exact absurd rfl hc)
 | refine A_idxN1 rfl rfl rfl (by omega) ?_ | refine A_idx1 rfl rfl rfl (by omega) ?_
 | refine A_fld rfl rfl ?_ | refine A_p (by rfl) rfl ?_
 | refine A_ldI rfl (by first | omega | (simp; done) | (simp; omega)) rfl ?_ | refine A_ldB rfl (by first | omega | (simp; done) | (simp; omega)) rfl ?_ | refine A_ld rfl (by rfl) rfl ?_
 | refine A_st rfl rfl rfl ?_ | refine A_stE rfl rfl (by first | omega | (simp; done) | (simp; omega)) rfl ?_
 | ((first | refine A_box rfl rfl ?_ | refine A_boxC rfl rfl ?_ | refine A_makeN rfl rfl rfl (by omega) ?_ | refine A_make rfl rfl rfl (by omega) ?_) <;> intro pz hpz)
 | refine A_ret rfl (by exact (RP.t rfl (RP.t rfl RP.nil))) ?_)
    refine A_round rfl [q, p0] (E - (i + 1)) (by omega) ?_
    refine ⟨i + 1, _, rfl, rfl, rfl, by omega, by simp [hy], ?_⟩
    have h1 : (ones E).getD i 0 = 1 := by rw [ones, List.getD_eq_getElem?_getD, List.getElem?_replicate, if_pos hi']; rfl
    have := take_set (xs := ones E) (d := 0) ht (by omega) (by simp; omega)
    rw [h1] at this; exact this
  obtain rfl : E = i := by omega
  obtain rfl := take_end ht (by omega) (by simp)
  repeat' (first
 | refine A_go rfl ?_ | refine A_ifT rfl rfl ?_ | refine A_ifF rfl rfl ?_
 | refine A_add rfl rfl rfl (by omega) ?_
 | ((first | refine A_lt rfl rfl rfl ?_ ?_ | refine A_eq rfl rfl rfl ?_ ?_) <;> intro hc <;> try first | contradiction | (exfalso; omega) | exact absurd rfl hc)
 | refine A_idxN1 rfl rfl rfl (by omega) ?_ | refine A_idx1 rfl rfl rfl (by omega) ?_
 | refine A_fld rfl rfl ?_ | refine A_p (by rfl) rfl ?_
 | refine A_ldI rfl (by first | omega | (simp; done) | (simp; omega)) rfl ?_ | refine A_ldB rfl (by first | omega | (simp; done) | (simp; omega)) rfl ?_ | refine A_ld rfl (by rfl) rfl ?_
 | refine A_st rfl rfl rfl ?_ | refine A_stE rfl rfl (by first | omega | (simp; done) | (simp; omega)) rfl ?_
 | ((first | refine A_box rfl rfl ?_ | refine A_boxC rfl rfl ?_ | refine A_makeN rfl rfl rfl (by omega) ?_ | refine A_make rfl rfl rfl (by omega) ?_) <;> intro pz hpz)
 | refine A_ret rfl (by exact (RP.t rfl (RP.t rfl RP.nil))) ?_)
  refine A_loop rfl [q, p0] (fun m fr L => ∃ (j p : Nat), m = len_ws - j ∧ fr = [(1, .c (.sl id_ws off_ws len_ws)), (2, .c (.ptr q 0)), (6, iv E), (7, .c (.sl p 0 E)), (33, iv len_ws), (34, iv j)] ∧ L = [(q, .rw 30 3 [ic S, ic re, .sl id_xs off_xs len_xs]), (p, ints (vecs S E xs ws (ones E) j))] ∧ j ≤ len_ws) len_ws ⟨0, p0, rfl, rfl, rfl, by omega⟩ ?_
  rintro m fr L ⟨j, p, rfl, rfl, rfl, hj⟩
  have hvl := vecs_len (S := S) (xs := xs) (l := ws) (ones_len (E := E)) j
  by_cases hj' : j < len_ws
  case neg =>
    obtain rfl : len_ws = j := by omega
    have hsm : ∀ m, m ≤ E → 0 ≤ smN (vecs S E xs ws (ones E) len_ws) m ∧ smN (vecs S E xs ws (ones E) len_ws) m ≤ 1000000000000 := fun m hm => by
      have h1 : sg (fun c => (vecs S E xs ws (ones E) len_ws).getD c 0) E ≤ 43046721 := vecs_small (J := 12) (j := len_ws) (xs := xs) (l := ws) hEb.1 (ones_nn (E := E)) hS (T := 81) hT (by decide) (by omega) (by omega)
      have h2 := sg_mono (f := fun c => (vecs S E xs ws (ones E) len_ws).getD c 0) (n := E) (m := m) (fun i _ => vecs_nn hEb.1 ones_nn len_ws i) (by omega)
      have h3 := sg_nn (f := fun c => (vecs S E xs ws (ones E) len_ws).getD c 0) (n := m) (fun i _ => vecs_nn hEb.1 ones_nn len_ws i)
      rw [smN_sg]; omega
    repeat' (first
 | refine A_go rfl ?_ | refine A_ifT rfl rfl ?_ | refine A_ifF rfl rfl ?_
 | refine A_add rfl rfl rfl (by omega) ?_
 | ((first | refine A_lt rfl rfl rfl ?_ ?_ | refine A_eq rfl rfl rfl ?_ ?_) <;> intro hc <;> try first | contradiction | (exfalso; omega) | exact absurd rfl hc)
 | refine A_idxN1 rfl rfl rfl (by omega) ?_ | refine A_idx1 rfl rfl rfl (by omega) ?_
 | refine A_fld rfl rfl ?_ | refine A_p (by rfl) rfl ?_
 | refine A_ldI rfl (by first | omega | (simp; done) | (simp; omega)) rfl ?_ | refine A_ldB rfl (by first | omega | (simp; done) | (simp; omega)) rfl ?_ | refine A_ld rfl (by rfl) rfl ?_
 | refine A_st rfl rfl rfl ?_ | refine A_stE rfl rfl (by first | omega | (simp; done) | (simp; omega)) rfl ?_
 | ((first | refine A_box rfl rfl ?_ | refine A_boxC rfl rfl ?_ | refine A_makeN rfl rfl rfl (by omega) ?_ | refine A_make rfl rfl rfl (by omega) ?_) <;> intro pz hpz)
 | refine A_ret rfl (by exact (RP.t rfl (RP.t rfl RP.nil))) ?_)
    refine A_loop rfl [p] (fun m fr L => ∃ (i : Nat) (t : Int), m = E - i ∧ fr = [(7, .c (.sl p 0 E)), (15, iv t), (75, iv E), (76, iv i)] ∧ L = [(p, ints (vecs S E xs ws (ones E) len_ws))] ∧ i ≤ E ∧ t = smN (vecs S E xs ws (ones E) len_ws) i) E ⟨0, 0, rfl, rfl, rfl, by omega, rfl⟩ ?_
    rintro m fr L ⟨i, t, rfl, rfl, rfl, hi, ht⟩
    by_cases hi' : i < E
    · have h1 := hsm (i + 1) (by omega)
      rw [smN, ← ht] at h1
      repeat' (first
 | refine A_go rfl ?_ | refine A_ifT rfl rfl ?_ | refine A_ifF rfl rfl ?_
 | refine A_add rfl rfl rfl (by omega) ?_
 | ((first | refine A_lt rfl rfl rfl ?_ ?_ | refine A_eq rfl rfl rfl ?_ ?_) <;> intro hc <;> try first | contradiction | (exfalso; omega) | exact absurd rfl hc)
 | refine A_idxN1 rfl rfl rfl (by omega) ?_ | refine A_idx1 rfl rfl rfl (by omega) ?_
 | refine A_fld rfl rfl ?_ | refine A_p (by rfl) rfl ?_
 | refine A_ldI rfl (by first | omega | (simp; done) | (simp; omega)) rfl ?_ | refine A_ldB rfl (by first | omega | (simp; done) | (simp; omega)) rfl ?_ | refine A_ld rfl (by rfl) rfl ?_
 | refine A_st rfl rfl rfl ?_ | refine A_stE rfl rfl (by first | omega | (simp; done) | (simp; omega)) rfl ?_
 | ((first | refine A_box rfl rfl ?_ | refine A_boxC rfl rfl ?_ | refine A_makeN rfl rfl rfl (by omega) ?_ | refine A_make rfl rfl rfl (by omega) ?_) <;> intro pz hpz)
 | refine A_ret rfl (by exact (RP.t rfl (RP.t rfl RP.nil))) ?_)
      refine A_round rfl [p] (E - (i + 1)) (by omega) ?_
      exact ⟨i + 1, _, rfl, rfl, rfl, by omega, by rw [ht]; rfl⟩
    · obtain rfl : E = i := by omega
      repeat' (first
 | refine A_go rfl ?_ | refine A_ifT rfl rfl ?_ | refine A_ifF rfl rfl ?_
 | refine A_add rfl rfl rfl (by omega) ?_
 | ((first | refine A_lt rfl rfl rfl ?_ ?_ | refine A_eq rfl rfl rfl ?_ ?_) <;> intro hc <;> try first | contradiction | (exfalso; omega) | exact absurd rfl hc)
 | refine A_idxN1 rfl rfl rfl (by omega) ?_ | refine A_idx1 rfl rfl rfl (by omega) ?_
 | refine A_fld rfl rfl ?_ | refine A_p (by rfl) rfl ?_
 | refine A_ldI rfl (by first | omega | (simp; done) | (simp; omega)) rfl ?_ | refine A_ldB rfl (by first | omega | (simp; done) | (simp; omega)) rfl ?_ | refine A_ld rfl (by rfl) rfl ?_
 | refine A_st rfl rfl rfl ?_ | refine A_stE rfl rfl (by first | omega | (simp; done) | (simp; omega)) rfl ?_
 | ((first | refine A_box rfl rfl ?_ | refine A_boxC rfl rfl ?_ | refine A_makeN rfl rfl rfl (by omega) ?_ | refine A_make rfl rfl rfl (by omega) ?_) <;> intro pz hpz)
 | refine A_ret rfl (by exact (RP.t rfl (RP.t rfl RP.nil))) ?_)
      exact R_num hp (by rw [hval, wbk, hl_ws, ht])
  repeat' (first
 | refine A_go rfl ?_ | refine A_ifT rfl rfl ?_ | refine A_ifF rfl rfl ?_
 | refine A_add rfl rfl rfl (by omega) ?_
 | ((first | refine A_lt rfl rfl rfl ?_ ?_ | refine A_eq rfl rfl rfl ?_ ?_) <;> intro hc <;> try first | contradiction | (exfalso; omega) | exact absurd rfl hc)
 | refine A_idxN1 rfl rfl rfl (by omega) ?_ | refine A_idx1 rfl rfl rfl (by omega) ?_
 | refine A_fld rfl rfl ?_ | refine A_p (by rfl) rfl ?_
 | refine A_ldI rfl (by first | omega | (simp; done) | (simp; omega)) rfl ?_ | refine A_ldB rfl (by first | omega | (simp; done) | (simp; omega)) rfl ?_ | refine A_ld rfl (by rfl) rfl ?_
 | refine A_st rfl rfl rfl ?_ | refine A_stE rfl rfl (by first | omega | (simp; done) | (simp; omega)) rfl ?_
 | ((first | refine A_box rfl rfl ?_ | refine A_boxC rfl rfl ?_ | refine A_makeN rfl rfl rfl (by omega) ?_ | refine A_make rfl rfl rfl (by omega) ?_) <;> intro pz hpz)
 | refine A_ret rfl (by exact (RP.t rfl (RP.t rfl RP.nil))) ?_)
  refine A_loop rfl [q, p, pz] (fun m fr L => ∃ (b : Nat), m = E - b ∧ fr = [(1, .c (.sl id_ws off_ws len_ws)), (2, .c (.ptr q 0)), (6, iv E), (7, .c (.sl p 0 E)), (9, iv j), (10, .c (.sl pz 0 E)), (11, iv b), (33, iv len_ws), (34, iv j)] ∧ L = [(q, .rw 30 3 [ic S, ic re, .sl id_xs off_xs len_xs]), (p, ints (vecs S E xs ws (ones E) j)), (pz, ints (nxt S E xs (ws.getD j 0) (vecs S E xs ws (ones E) j) (b * S)))] ∧ b ≤ E) E ⟨0, rfl, rfl, by rw [Nat.zero_mul]; rfl, by omega⟩ ?_
  rintro m fr L ⟨b, rfl, rfl, rfl, hb'⟩
  have e1 : b * S + S = (b + 1) * S := by rw [Nat.add_mul]; omega
  by_cases hb2 : b < E
  case neg =>
    obtain rfl : E = b := by omega
    repeat' (first
 | refine A_go rfl ?_ | refine A_ifT rfl rfl ?_ | refine A_ifF rfl rfl ?_
 | refine A_add rfl rfl rfl (by omega) ?_
 | ((first | refine A_lt rfl rfl rfl ?_ ?_ | refine A_eq rfl rfl rfl ?_ ?_) <;> intro hc <;> try first | contradiction | (exfalso; omega) | exact absurd rfl hc)
 | refine A_idxN1 rfl rfl rfl (by omega) ?_ | refine A_idx1 rfl rfl rfl (by omega) ?_
 | refine A_fld rfl rfl ?_ | refine A_p (by rfl) rfl ?_
 | refine A_ldI rfl (by first | omega | (simp; done) | (simp; omega)) rfl ?_ | refine A_ldB rfl (by first | omega | (simp; done) | (simp; omega)) rfl ?_ | refine A_ld rfl (by rfl) rfl ?_
 | refine A_st rfl rfl rfl ?_ | refine A_stE rfl rfl (by first | omega | (simp; done) | (simp; omega)) rfl ?_
 | ((first | refine A_box rfl rfl ?_ | refine A_boxC rfl rfl ?_ | refine A_makeN rfl rfl rfl (by omega) ?_ | refine A_make rfl rfl rfl (by omega) ?_) <;> intro pz hpz)
 | refine A_ret rfl (by exact (RP.t rfl (RP.t rfl RP.nil))) ?_)
    refine A_round rfl [q, pz] (len_ws - (j + 1)) (by omega) ?_
    exact ⟨j + 1, pz, rfl, rfl, rfl, by omega⟩
  repeat' (first
 | refine A_go rfl ?_ | refine A_ifT rfl rfl ?_ | refine A_ifF rfl rfl ?_
 | refine A_add rfl rfl rfl (by omega) ?_
 | ((first | refine A_lt rfl rfl rfl ?_ ?_ | refine A_eq rfl rfl rfl ?_ ?_) <;> intro hc <;> try first | contradiction | (exfalso; omega) | exact absurd rfl hc)
 | refine A_idxN1 rfl rfl rfl (by omega) ?_ | refine A_idx1 rfl rfl rfl (by omega) ?_
 | refine A_fld rfl rfl ?_ | refine A_p (by rfl) rfl ?_
 | refine A_ldI rfl (by first | omega | (simp; done) | (simp; omega)) rfl ?_ | refine A_ldB rfl (by first | omega | (simp; done) | (simp; omega)) rfl ?_ | refine A_ld rfl (by rfl) rfl ?_
 | refine A_st rfl rfl rfl ?_ | refine A_stE rfl rfl (by first | omega | (simp; done) | (simp; omega)) rfl ?_
 | ((first | refine A_box rfl rfl ?_ | refine A_boxC rfl rfl ?_ | refine A_makeN rfl rfl rfl (by omega) ?_ | refine A_make rfl rfl rfl (by omega) ?_) <;> intro pz hpz)
 | refine A_ret rfl (by exact (RP.t rfl (RP.t rfl RP.nil))) ?_)
  refine A_loop rfl [q, p, pz] (fun m fr L => ∃ (d : Nat), m = S - d ∧ fr = [(1, .c (.sl id_ws off_ws len_ws)), (2, .c (.ptr q 0)), (6, iv E), (7, .c (.sl p 0 E)), (9, iv j), (10, .c (.sl pz 0 E)), (11, iv b), (12, iv d), (33, iv len_ws), (34, iv j)] ∧ L = [(q, .rw 30 3 [ic S, ic re, .sl id_xs off_xs len_xs]), (p, ints (vecs S E xs ws (ones E) j)), (pz, ints (nxt S E xs (ws.getD j 0) (vecs S E xs ws (ones E) j) (b * S + d)))] ∧ d ≤ S) S ⟨0, rfl, rfl, rfl, by omega⟩ ?_
  rintro m fr L ⟨d, rfl, rfl, rfl, hd⟩
  by_cases hd' : d < S
  · have h1 := lt_mul hb2 hd'
    have h2 := mod_in (m := b * S + d) hEb.1
    have h3 := vecs_at (J := 12) (j := j) (xs := xs) (l := ws) hEb.1 (ones_nn (E := E)) hS (T := 81) hT (by decide) (by omega) (by omega) hb2
    have h4 := vecs_mid (J := 12) (j := j) (c := (b * S + d) % E) (m := b * S + d) (xs := xs) (l := ws) (lab := ws.getD j 0) hEb.1 (ones_nn (E := E)) hS (T := 81) hT (by decide) (by omega) (by omega) (by omega)
    have h5 := nxt_step (E := E) (a := b) (xs := xs) (lab := ws.getD j 0) (cs := vecs S E xs ws (ones E) j) hd'
    have h6 := nxt_len (S := S) (E := E) (xs := xs) (lab := ws.getD j 0) (cs := vecs S E xs ws (ones E) j) (b * S + d)
    repeat' (first
 | refine A_go rfl ?_ | refine A_ifT rfl rfl ?_ | refine A_ifF rfl rfl ?_
 | refine A_add rfl rfl rfl (by omega) ?_
 | ((first | refine A_lt rfl rfl rfl ?_ ?_ | refine A_eq rfl rfl rfl ?_ ?_) <;> intro hc <;> try first | contradiction | (exfalso; omega) | exact absurd rfl hc)
 | refine A_idxN1 rfl rfl rfl (by omega) ?_ | refine A_idx1 rfl rfl rfl (by omega) ?_
 | refine A_callV rfl rfl (fun s H => c_l03Pairs (hE := hE) (hl := hl)) ?_
 | refine A_fld rfl rfl ?_ | refine A_p (by rfl) rfl ?_
 | refine A_ldI rfl (by first | omega | (simp; done) | (simp; omega)) rfl ?_ | refine A_ldB rfl (by first | omega | (simp; done) | (simp; omega)) rfl ?_ | refine A_ld rfl (by rfl) rfl ?_
 | refine A_st rfl rfl rfl ?_ | refine A_stE rfl rfl (by first | omega | (simp; done) | (simp; omega)) rfl ?_
 | ((first | refine A_box rfl rfl ?_ | refine A_boxC rfl rfl ?_ | refine A_makeN rfl rfl rfl (by omega) ?_ | refine A_make rfl rfl rfl (by omega) ?_) <;> intro pz hpz)
 | refine A_ret rfl (by exact (RP.t rfl (RP.t rfl RP.nil))) ?_)
    · refine A_round rfl [q, p, pz] (S - (d + 1)) (by omega) ?_
      exact ⟨d + 1, rfl, rfl, by rw [h5, if_pos hc], by omega⟩
    · refine A_round rfl [q, p, pz] (S - (d + 1)) (by omega) ?_
      exact ⟨d + 1, rfl, rfl, by rw [h5, if_neg hc], by omega⟩
  · obtain rfl : S = d := by omega
    repeat' (first
 | refine A_go rfl ?_ | refine A_ifT rfl rfl ?_ | refine A_ifF rfl rfl ?_
 | refine A_add rfl rfl rfl (by omega) ?_
 | ((first | refine A_lt rfl rfl rfl ?_ ?_ | refine A_eq rfl rfl rfl ?_ ?_) <;> intro hc <;> try first | contradiction | (exfalso; omega) | exact absurd rfl hc)
 | refine A_idxN1 rfl rfl rfl (by omega) ?_ | refine A_idx1 rfl rfl rfl (by omega) ?_
 | refine A_fld rfl rfl ?_ | refine A_p (by rfl) rfl ?_
 | refine A_ldI rfl (by first | omega | (simp; done) | (simp; omega)) rfl ?_ | refine A_ldB rfl (by first | omega | (simp; done) | (simp; omega)) rfl ?_ | refine A_ld rfl (by rfl) rfl ?_
 | refine A_st rfl rfl rfl ?_ | refine A_stE rfl rfl (by first | omega | (simp; done) | (simp; omega)) rfl ?_
 | ((first | refine A_box rfl rfl ?_ | refine A_boxC rfl rfl ?_ | refine A_makeN rfl rfl rfl (by omega) ?_ | refine A_make rfl rfl rfl (by omega) ?_) <;> intro pz hpz)
 | refine A_ret rfl (by exact (RP.t rfl (RP.t rfl RP.nil))) ?_)
    refine A_round rfl [q, p, pz] (E - (b + 1)) (by omega) ?_
    exact ⟨b + 1, rfl, rfl, by rw [← e1], by omega⟩

end Go.Proofs.Ytafdjnhlhepibaa
