/- Rings filled cell by cell: the reference. -/
import Derived.Test.YtafdjnhlhepibaaXfillP
import Derived.Test.YtafdjnhlhepibaaXmat
import Derived.Test.YtafdjnhlhepibaaXpairs
import Derived.Test.YtafdjnhlhepibaaFB
namespace Go.Proofs.Ytafdjnhlhepibaa
open Go Go.RowKit
set_option linter.unusedVariables false
set_option linter.unusedSimpArgs false
set_option maxRecDepth 100000
set_option maxHeartbeats 8000000
-- spec.l03Hood
def L128 : AFun := ⟨43, [.t 6],
 (.seq (.ops false [⟨(some 6), .mv (.k (iv 0)), none, []⟩])
 (.seq (.ops false [⟨(some 10), .mv (.t 1), none, []⟩,
   ⟨(some 11), .len false (.t 10), none, []⟩,
   ⟨(some 7), .mv (.t 11), none, []⟩])
 (.seq (.ops false [⟨(some 8), .mv (.k (iv 0)), none, []⟩])
 (.seq (.seq (.ops false [⟨(some 12), .mv (.t 0), none, []⟩,
    ⟨(some 13), .nilChk (.t 12), none, []⟩,
    ⟨(some 14), .fieldA 1 (.t 13), none, []⟩,
    ⟨(some 15), .load false 1 (.t 14), none, []⟩,
    ⟨(some 16), .un .neg (.t 15), none, []⟩,
    ⟨(some 9), .mv (.t 16), none, []⟩])
  (.block 0 (.loop [0, 1, 2, 7, 8, 9] (.seq (.seq (.ops false [⟨(some 17), .mv (.t 9), none, []⟩,
       ⟨(some 18), .mv (.t 0), none, []⟩,
       ⟨(some 19), .nilChk (.t 18), none, []⟩,
       ⟨(some 20), .fieldA 1 (.t 19), none, []⟩,
       ⟨(some 21), .load false 1 (.t 20), none, []⟩,
       ⟨(some 22), .bin .leq (.t 17) (.t 21), none, []⟩])
     (.cond (.t 22) .skip
      (.exit 0)))
    (.seq (.block 1 (.ops true [⟨(some 25), .mv (.t 8), none, []⟩,
       ⟨(some 26), .mv (.t 0), none, []⟩,
       ⟨(some 27), .nilChk (.t 26), none, []⟩,
       ⟨(some 28), .fieldA 0 (.t 27), none, []⟩,
       ⟨(some 29), .load false 1 (.t 28), none, []⟩,
       ⟨(some 30), .bin .mul (.t 25) (.t 29), none, []⟩,
       ⟨(some 31), .mv (.t 1), none, []⟩,
       ⟨(some 32), .mv (.t 2), none, []⟩,
       ⟨(some 33), .mv (.t 9), none, []⟩,
       ⟨(some 34), .bin .add (.t 32) (.t 33), none, []⟩,
       ⟨(some 35), .mv (.t 7), none, []⟩,
       ⟨(some 36), .bin .add (.t 34) (.t 35), none, []⟩,
       ⟨(some 37), .mv (.t 7), none, []⟩,
       ⟨(some 38), .bin .rem (.t 36) (.t 37), none, []⟩,
       ⟨(some 39), .idxA 1 (.t 31) (.t 38), none, []⟩,
       ⟨(some 40), .load false 1 (.t 39), none, []⟩,
       ⟨(some 41), .bin .add (.t 30) (.t 40), none, []⟩,
       ⟨(some 8), .mv (.t 41), none, []⟩]))
    (.ops false [⟨(some 23), .mv (.t 9), none, []⟩,
     ⟨(some 24), .bin .add (.t 23) (.k (iv 1)), none, []⟩,
     ⟨(some 9), .mv (.t 24), none, []⟩]))))))
 (.seq (.ops false [⟨(some 42), .mv (.t 8), none, []⟩,
   ⟨(some 6), .mv (.t 42), none, []⟩])
 .ret)))))⟩
theorem code128 : acode Try.prog hints 128 = some L128 := by kernel_rfl

-- spec.l03Fill
def L86 : AFun := ⟨121, [.t 12],
 (.seq (.ops false [⟨(some 12), .mv (.k (.c (.sl 0 0 0))), none, []⟩])
 (.seq (.seq (.ops false [⟨(some 19), .mv (.t 4), none, []⟩,
    ⟨(some 20), .len false (.t 19), none, []⟩,
    ⟨(some 21), .mv (.t 5), none, []⟩,
    ⟨(some 22), .bin .geq (.t 20) (.t 21), none, []⟩])
  (.cond (.t 22) (.seq (.ops false [⟨(some 23), .mv (.t 4), none, []⟩,
     ⟨(some 12), .mv (.t 23), none, []⟩])
   .ret)
   .skip))
 (.seq (.ops false [⟨(some 24), .mv (.t 2), none, []⟩,
   ⟨(some 25), .len false (.t 24), none, []⟩,
   ⟨(some 13), .mv (.t 25), none, []⟩])
 (.seq (.ops false [⟨(some 26), .mv (.t 0), none, []⟩,
   ⟨(some 27), .call (.f 67) [(.t 26)], none, []⟩,
   ⟨(some 14), .mv (.t 27), none, []⟩])
 (.seq (.seq (.ops false [⟨(some 28), .mv (.t 3), none, []⟩,
    ⟨(some 29), .mv (.t 13), none, []⟩,
    ⟨(some 30), .bin .eql (.t 28) (.t 29), none, []⟩])
  (.cond (.t 30) (.seq (.seq (.ops false [⟨(some 31), .mv (.t 2), none, []⟩,
      ⟨(some 32), .len false (.t 31), none, []⟩,
      ⟨(some 33), .mv (.k (iv 0)), none, []⟩])
    (.block 0 (.loop [0, 1, 2, 4, 32, 33] (.seq (.ops false [⟨(some 34), .bin .lss (.t 33) (.t 32), none, []⟩])
      (.seq (.cond (.t 34) .skip
        (.exit 0))
      (.seq (.block 1 (.seq (.ops false [⟨(some 35), .mv (.t 33), none, []⟩,
          ⟨(some 15), .mv (.t 35), none, []⟩])
        (.seq (.ops true [⟨(some 40), .mv (.t 0), none, []⟩,
          ⟨(some 41), .mv (.t 2), none, []⟩,
          ⟨(some 42), .mv (.t 15), none, []⟩,
          ⟨(some 43), .call (.f 128) [(.t 40), (.t 41), (.t 42)], none, []⟩,
          ⟨(some 36), .mv (.t 0), none, []⟩,
          ⟨(some 37), .nilChk (.t 36), none, []⟩,
          ⟨(some 38), .fieldA 2 (.t 37), none, []⟩,
          ⟨(some 39), .load false 1 (.t 38), none, [0]⟩,
          ⟨(some 44), .idxA 1 (.t 39) (.t 43), none, []⟩,
          ⟨(some 45), .load false 1 (.t 44), none, []⟩,
          ⟨(some 46), .mv (.t 1), none, []⟩,
          ⟨(some 47), .mv (.t 15), none, []⟩,
          ⟨(some 48), .idxA 1 (.t 46) (.t 47), none, []⟩,
          ⟨(some 49), .load false 1 (.t 48), none, [0]⟩,
          ⟨(some 50), .bin .neq (.t 45) (.t 49), none, []⟩])
        (.cond (.t 50) (.seq (.ops false [⟨(some 51), .mv (.t 4), none, []⟩,
           ⟨(some 12), .mv (.t 51), none, []⟩])
         .ret)
         .skip))))
      (.ops false [⟨(some 52), .bin .add (.t 33) (.k (iv 1)), none, []⟩,
       ⟨(some 33), .mv (.t 52), none, []⟩])))))))
   (.seq (.ops false [⟨(some 53), .mv (.t 4), none, []⟩,
     ⟨(some 54), .buildS 2 1 0 [.int .i64 0] [], none, []⟩,
     ⟨(some 55), .mv (.t 2), none, []⟩,
     ⟨(some 56), .append 2 1 8 (.t 54) (.t 55), none, []⟩,
     ⟨(some 57), .buildS 22 1 1 [.sl 0 0 0] [(0, 1, (.t 56))], none, []⟩,
     ⟨(some 58), .append 22 1 24 (.t 53) (.t 57), none, []⟩,
     ⟨(some 12), .mv (.t 58), none, []⟩])
   .ret))
   .skip))
 (.seq (.seq (.ops false [⟨(some 16), .mv (.k (iv 0)), none, []⟩])
  (.block 2 (.loop [0, 1, 2, 3, 4, 5, 14, 16] (.seq (.seq (.ops false [⟨(some 59), .mv (.t 16), none, []⟩,
       ⟨(some 60), .mv (.t 0), none, []⟩,
       ⟨(some 61), .nilChk (.t 60), none, []⟩,
       ⟨(some 62), .fieldA 0 (.t 61), none, []⟩,
       ⟨(some 63), .load false 1 (.t 62), none, []⟩,
       ⟨(some 64), .bin .lss (.t 59) (.t 63), none, []⟩])
     (.cond (.t 64) .skip
      (.exit 2)))
    (.seq (.block 3 (.seq (.ops false [⟨(some 67), .mv (.t 2), none, []⟩,
        ⟨(some 68), .mv (.t 3), none, []⟩,
        ⟨(some 69), .mv (.t 16), none, []⟩,
        ⟨(some 70), .idxA 1 (.t 67) (.t 68), none, []⟩,
        ⟨none, .store 1 (.t 70) (.t 69), none, []⟩])
      (.seq (.seq (.ops false [⟨(some 71), .mv (.t 3), none, []⟩,
         ⟨(some 72), .mv (.t 14), none, []⟩,
         ⟨(some 73), .bin .sub (.t 72) (.k (iv 1)), none, []⟩,
         ⟨(some 74), .bin .geq (.t 71) (.t 73), none, []⟩])
       (.cond (.t 74) (.seq (.ops false [⟨(some 17), .mv (.k (iv 0)), none, []⟩])
        (.seq (.seq (.ops false [⟨(some 75), .mv (.t 3), none, []⟩,
           ⟨(some 76), .mv (.t 14), none, []⟩,
           ⟨(some 77), .bin .sub (.t 75) (.t 76), none, []⟩,
           ⟨(some 78), .bin .add (.t 77) (.k (iv 1)), none, []⟩,
           ⟨(some 18), .mv (.t 78), none, []⟩])
         (.block 4 (.loop [0, 1, 2, 3, 4, 5, 14, 16, 17, 18] (.seq (.seq (.ops false [⟨(some 79), .mv (.t 18), none, []⟩,
              ⟨(some 80), .mv (.t 3), none, []⟩,
              ⟨(some 81), .bin .leq (.t 79) (.t 80), none, []⟩])
            (.cond (.t 81) .skip
             (.exit 4)))
           (.seq (.block 5 (.ops true [⟨(some 84), .mv (.t 17), none, []⟩,
              ⟨(some 85), .mv (.t 0), none, []⟩,
              ⟨(some 86), .nilChk (.t 85), none, []⟩,
              ⟨(some 87), .fieldA 0 (.t 86), none, []⟩,
              ⟨(some 88), .load false 1 (.t 87), none, []⟩,
              ⟨(some 89), .bin .mul (.t 84) (.t 88), none, []⟩,
              ⟨(some 90), .mv (.t 2), none, []⟩,
              ⟨(some 91), .mv (.t 18), none, []⟩,
              ⟨(some 92), .idxA 1 (.t 90) (.t 91), none, []⟩,
              ⟨(some 93), .load false 1 (.t 92), none, []⟩,
              ⟨(some 94), .bin .add (.t 89) (.t 93), none, []⟩,
              ⟨(some 17), .mv (.t 94), none, []⟩]))
           (.ops false [⟨(some 82), .mv (.t 18), none, []⟩,
            ⟨(some 83), .bin .add (.t 82) (.k (iv 1)), none, []⟩,
            ⟨(some 18), .mv (.t 83), none, []⟩]))))))
        (.seq (.ops true [⟨(some 95), .mv (.t 0), none, []⟩,
          ⟨(some 96), .nilChk (.t 95), none, []⟩,
          ⟨(some 97), .fieldA 2 (.t 96), none, []⟩,
          ⟨(some 98), .load false 1 (.t 97), none, []⟩,
          ⟨(some 99), .mv (.t 17), none, []⟩,
          ⟨(some 100), .idxA 1 (.t 98) (.t 99), none, []⟩,
          ⟨(some 101), .load false 1 (.t 100), none, []⟩,
          ⟨(some 102), .mv (.t 1), none, []⟩,
          ⟨(some 103), .mv (.t 3), none, []⟩,
          ⟨(some 104), .mv (.t 0), none, []⟩,
          ⟨(some 105), .nilChk (.t 104), none, []⟩,
          ⟨(some 106), .fieldA 1 (.t 105), none, []⟩,
          ⟨(some 107), .load false 1 (.t 106), none, []⟩,
          ⟨(some 108), .bin .sub (.t 103) (.t 107), none, []⟩,
          ⟨(some 109), .idxA 1 (.t 102) (.t 108), none, []⟩,
          ⟨(some 110), .load false 1 (.t 109), none, []⟩,
          ⟨(some 111), .bin .neq (.t 101) (.t 110), none, []⟩])
        (.cond (.t 111) (.exit 3)
         .skip))))
        .skip))
      (.ops false [⟨(some 112), .mv (.t 0), none, []⟩,
       ⟨(some 113), .mv (.t 1), none, []⟩,
       ⟨(some 114), .mv (.t 2), none, []⟩,
       ⟨(some 115), .mv (.t 3), none, []⟩,
       ⟨(some 116), .bin .add (.t 115) (.k (iv 1)), none, []⟩,
       ⟨(some 117), .mv (.t 4), none, []⟩,
       ⟨(some 118), .mv (.t 5), none, []⟩,
       ⟨(some 119), .call (.f 86) [(.t 112), (.t 113), (.t 114), (.t 116), (.t 117), (.t 118)], none, []⟩,
       ⟨(some 4), .mv (.t 119), none, []⟩]))))
    (.ops false [⟨(some 65), .mv (.t 16), none, []⟩,
     ⟨(some 66), .bin .add (.t 65) (.k (iv 1)), none, []⟩,
     ⟨(some 16), .mv (.t 66), none, []⟩]))))))
 (.seq (.ops false [⟨(some 120), .mv (.t 4), none, []⟩,
   ⟨(some 12), .mv (.t 120), none, []⟩])
 .ret)))))))⟩
theorem code86 : acode Try.prog hints 86 = some L86 := by kernel_rfl


theorem A_negI {B : List Nat} {b : St} {L : Objs} {l : List AStep} {hist : List Objs} {fr : Frm} {kk : KK} {d : Nat} {chk : List Nat} {g : Option (Nat × Bool)} {x : Opd} {a : Int} (hx : ev fr x = some (iv a)) (hg : gon fr g = some true) (ha : -1000000000000 ≤ a ∧ a ≤ 1000000000000)
    (h : At B b L l hist ((d, iv (0 - a)) :: fr) kk) : At B b L (⟨some d, .un .neg x, g, chk⟩ :: l) hist fr kk := by
  refine A_p (v := iv (IntKind.wrap .i64 (0 - a))) (by simp only [evP, hx, Option.bind_some]; rfl) hg ?_
  rw [wrap_in (by unfold in64; omega)]; exact h
theorem c_l03Hood {s : St} [Wf s] {q : Nat} {st re : Int} {at_ : Nat} {id_xs off_xs len_xs : Nat} {xs : List Int} [hq : Ref s q [ic st, ic re, .sl id_xs off_xs len_xs]] [h_xs : ArgE ic s id_xs off_xs xs] {id_ys off_ys len_ys : Nat} {ys : List Int} [h_ys : ArgE ic s id_ys off_ys ys] (hl_ys : ys.length = len_ys := by first | rfl | simp | omega | (simp; omega)) (hl_xs : xs.length = len_xs := by first | rfl | simp | omega) (hv : VR st re xs) (hr : RG st ys) (hi : at_ < len_ys := by omega) (hwn : 2 * re + 1 ≤ len_ys := by omega) :
    FnV 128 [.c (.ptr q 0), .c (.sl id_ys off_ys len_ys), iv at_] s (iv (hoodN st ys ((at_ : Int) - re) (2 * re + 1).toNat)) := by
  obtain ⟨W, hW⟩ : ∃ n : Nat, 2 * re + 1 = n := ⟨(2 * re + 1).toNat, by have := hv.2.1; omega⟩
  have g1 := hv.1
  have g2 := hv.2.1
  have g3 := hr.1
  refine F_start code128 ?_
  repeat' (first
 | refine A_go rfl ?_ | refine A_ifT rfl rfl ?_ | refine A_ifF rfl rfl ?_
 | refine A_add rfl rfl rfl (by omega) ?_ | refine A_mul rfl rfl rfl (by omega) ?_ | refine A_rem rfl rfl rfl (by omega) ?_ | refine A_remT rfl rfl rfl (by omega) ?_
 | ((first | refine A_le rfl rfl rfl ?_ ?_) <;> intro hc <;> try first | contradiction | (exfalso; omega) | exact absurd rfl hc)
 | refine A_idxN1 rfl rfl rfl (by omega) ?_ | refine A_idx1 rfl rfl rfl (by omega) ?_
 | refine A_negI rfl rfl (by omega) ?_
 | refine A_fld rfl rfl ?_ | refine A_p (by rfl) rfl ?_
 | refine A_ldI rfl (by first | omega | (simp; done) | (simp; omega)) rfl ?_ | refine A_ldB rfl (by first | omega | (simp; done) | (simp; omega)) rfl ?_ | refine A_ld rfl (by rfl) rfl ?_
 | refine A_ret1 rfl (by exact (RP.t rfl RP.nil)) ?_)
  refine A_loop rfl [] (fun m fr L => ∃ (n : Nat) (k x : Int), m = W - n ∧ fr = [(0, .c (.ptr q 0)), (1, .c (.sl id_ys off_ys len_ys)), (2, iv at_), (7, iv len_ys), (8, iv x), (9, iv k)] ∧ L = [] ∧ n ≤ W ∧ k = n - re ∧ x = hoodN st ys ((at_ : Int) - re) n) W ⟨0, _, _, rfl, rfl, rfl, by omega, by omega, rfl⟩ ?_
  rintro m fr L ⟨n, k, x, rfl, rfl, rfl, hn, hk, hx⟩
  have a1 := hood_small (a := (at_ : Int) - re) g1 hr (m := n) (by omega)
  rw [← hx] at a1
  by_cases hin : n < W
  · have a2 := hr.cell ((at_ : Int) + k)
    have b3 : ((at_ : Int) + k + len_ys) % (len_ys : Int) = ((at_ : Int) + k) % (len_ys : Int) := by first | rw [Int.add_emod_right] | rw [Int.add_emod_self]
    have a3 := emod_in (a := (at_ : Int) + k) (b := len_ys) (by omega)
    have a4 := Int.mul_nonneg a1.1 (show 0 ≤ st by omega)
    have a5 := Int.mul_le_mul a1.2 g1.2 (by omega) (by omega)
    rw [hl_ys, ← b3] at a2
    rw [← b3] at a3
    repeat' (first
 | refine A_go rfl ?_ | refine A_ifT rfl rfl ?_ | refine A_ifF rfl rfl ?_
 | refine A_add rfl rfl rfl (by omega) ?_ | refine A_mul rfl rfl rfl (by omega) ?_ | refine A_rem rfl rfl rfl (by omega) ?_ | refine A_remT rfl rfl rfl (by omega) ?_
 | ((first | refine A_le rfl rfl rfl ?_ ?_) <;> intro hc <;> try first | contradiction | (exfalso; omega) | exact absurd rfl hc)
 | refine A_idxN1 rfl rfl rfl (by omega) ?_ | refine A_idx1 rfl rfl rfl (by omega) ?_
 | refine A_fld rfl rfl ?_ | refine A_p (by rfl) rfl ?_
 | refine A_ldI rfl (by first | omega | (simp; done) | (simp; omega)) rfl ?_ | refine A_ldB rfl (by first | omega | (simp; done) | (simp; omega)) rfl ?_ | refine A_ld rfl (by rfl) rfl ?_
 | refine A_ret1 rfl (by exact (RP.t rfl RP.nil)) ?_)
    refine A_round rfl [] (W - (n + 1)) (by omega) ?_
    exact ⟨n + 1, _, _, rfl, rfl, rfl, by omega, by omega, by rw [b3, hx, hoodN, hl_ys, show (at_ : Int) + k = (at_ : Int) - re + n by omega]⟩
  · obtain rfl : W = n := by omega
    repeat' (first
 | refine A_go rfl ?_ | refine A_ifT rfl rfl ?_ | refine A_ifF rfl rfl ?_
 | refine A_add rfl rfl rfl (by omega) ?_ | refine A_mul rfl rfl rfl (by omega) ?_ | refine A_rem rfl rfl rfl (by omega) ?_ | refine A_remT rfl rfl rfl (by omega) ?_
 | ((first | refine A_le rfl rfl rfl ?_ ?_) <;> intro hc <;> try first | contradiction | (exfalso; omega) | exact absurd rfl hc)
 | refine A_idxN1 rfl rfl rfl (by omega) ?_ | refine A_idx1 rfl rfl rfl (by omega) ?_
 | refine A_fld rfl rfl ?_ | refine A_p (by rfl) rfl ?_
 | refine A_ldI rfl (by first | omega | (simp; done) | (simp; omega)) rfl ?_ | refine A_ldB rfl (by first | omega | (simp; done) | (simp; omega)) rfl ?_ | refine A_ld rfl (by rfl) rfl ?_
 | refine A_ret1 rfl (by exact (RP.t rfl RP.nil)) ?_)
    exact R_v (by rw [hx, show (2 * re + 1).toNat = W by omega])
theorem orow_nil {p : Nat} {L N : Objs} (h : Sub N L) (hp : p ≤ 1) : Sub ((p, orow []) :: N) L := h.virt hp
/-- A ring is filled from a place on. -/
theorem c_fill {S w E : Nat} {re : Int} {xs to : List Int} {q id_xs off_xs len_xs id_to off_to n M : Nat} (hv : VR S re xs) (hto : RG S to) (hE : E = S ^ (w - 1)) (hl : xs.length = E * S) (hd : DG S xs) (hS : 2 ≤ S ∧ S ≤ 3) (hw : 2 * re + 1 = w ∧ 1 ≤ w ∧ w ≤ 5) (hEb : 1 ≤ E ∧ E ≤ 81) (hlx : xs.length = len_xs) (hlt : to.length = n) (hn : w ≤ n ∧ n ≤ 16) (hM : M ≤ 1000) :
    ∀ (m : Nat) {s : St} [Wf s] {at_ pg pf : Nat} {ys pre : List Int} {zs : List Row} [hq : Ref s q [ic S, ic re, .sl id_xs off_xs len_xs]] [h_xs : ArgE ic s id_xs off_xs xs] [h_to : ArgE ic s id_to off_to to] [b1 : Bor s pg (ints ys)] [b2 : Bor s pf (orow zs)] [ap : Apart s pg pf] [n1 : NotIn q [pg, pf]] [n2 : NotIn id_xs [pg, pf]] [n3 : NotIn id_to [pg, pf]] (hat : at_ + m = n) (hyl : ys.length = n) (hyd : DG S ys) (hpre : ys.take at_ = pre) (hzl : zs.length ≤ 1000),
    Fn [pg, pf] 86 [.c (.ptr q 0), .c (.sl id_to off_to n), .c (.sl pg 0 n), iv at_, .c (.sl pf 0 zs.length), iv M] s fun R N => ∃ p' ys' new, R = .c (.sl p' 0 (zs ++ new).length) ∧ N = (pg, ints ys') :: (p', orow (zs ++ new)) :: mobs new ∧ RowsOk new ∧ new.map Row.xs = (lstL S re xs to m pre).take (M - zs.length) ∧ ys'.length = n ∧ DG S ys' ∧ ys'.take at_ = pre
  | 0, s, _, at_, pg, pf, ys, pre, zs, hq, h_xs, h_to, b1, b2, ap, n1, n2, n3, hat, hyl, hyd, hpre, hzl => by
    have hat2 : at_ = n := hat
    subst hat2
    have hpy : pre = ys := by rw [← hpre]; exact List.take_of_length_le (by omega)
    subst hpy
    have hyr : RG S pre := ⟨by omega, hyd⟩
    refine F_start2 code86 ?_
    by_cases hfull : M ≤ zs.length
    · repeat' (first
 | refine A_go rfl ?_ | refine A_ifT rfl rfl ?_ | refine A_ifF rfl rfl ?_
 | refine A_add rfl rfl rfl (by omega) ?_ | refine A_sub rfl rfl rfl (by omega) ?_ | refine A_mul rfl rfl rfl (by omega) ?_
 | ((first | refine A_lt rfl rfl rfl ?_ ?_ | refine A_le rfl rfl rfl ?_ ?_ | refine A_ge rfl rfl rfl ?_ ?_ | refine A_eq rfl rfl rfl ?_ ?_ | refine A_ne rfl rfl rfl ?_ ?_) <;> intro hc <;> try first | contradiction | (exfalso; omega) | exact absurd rfl hc)
 | refine A_idxN1 rfl rfl rfl (by omega) ?_ | refine A_idx1 rfl rfl rfl (by omega) ?_
 | refine A_fld rfl rfl ?_ | refine A_p (by rfl) rfl ?_
 | refine A_ldI rfl (by first | omega | (simp; done) | (simp; omega)) rfl ?_ | refine A_ldB rfl (by first | omega | (simp; done) | (simp; omega)) rfl ?_ | refine A_ld rfl (by rfl) rfl ?_
 | refine A_st rfl rfl rfl ?_ | refine A_stE rfl rfl (by first | omega | (simp; done) | (simp; omega)) rfl ?_
 | ((first | refine A_bld1 rfl rfl ?_ | refine A_bld2 rfl rfl rfl ?_ | refine A_bld4 rfl rfl rfl rfl rfl ?_) <;> intro pz hpz)
 | refine A_bld0 rfl ?_
 | (refine A_app rfl rfl rfl (by first | omega | (simp; done) | (simp; omega)) (by first | omega | (simp; done) | (simp; omega)) (by omega) ?_; intro pz) | (refine A_appN (enc := ic) rfl (by decide) rfl rfl (by first | omega | (simp; done) | (simp; omega)) (by omega) ?_; intro pz)
 | refine A_chk1 rfl rfl rfl ?_ | refine A_chk2 rfl rfl rfl rfl ?_ | refine A_chk3 rfl rfl rfl rfl rfl ?_ | refine A_chk4 rfl rfl rfl rfl rfl rfl ?_ | refine A_chkI rfl (by assumption) rfl (by simp) ?_
 | refine A_ret1 rfl (by exact (RP.t rfl RP.nil)) ?_)
      refine ⟨[(pg, ints pre), (pf, orow zs)], ⟨pf, pre, [], by rw [List.append_nil], by rw [List.append_nil]; rfl, (fun z hz => (by cases hz)), ?_, hyl, hyd, hpre⟩, inferInstance⟩
      rw [show M - zs.length = 0 by omega]; rfl
    repeat' (first
 | refine A_go rfl ?_ | refine A_ifT rfl rfl ?_ | refine A_ifF rfl rfl ?_
 | refine A_add rfl rfl rfl (by omega) ?_ | refine A_sub rfl rfl rfl (by omega) ?_ | refine A_mul rfl rfl rfl (by omega) ?_
 | ((first | refine A_lt rfl rfl rfl ?_ ?_ | refine A_le rfl rfl rfl ?_ ?_ | refine A_ge rfl rfl rfl ?_ ?_ | refine A_eq rfl rfl rfl ?_ ?_ | refine A_ne rfl rfl rfl ?_ ?_) <;> intro hc <;> try first | contradiction | (exfalso; omega) | exact absurd rfl hc)
 | refine A_idxN1 rfl rfl rfl (by omega) ?_ | refine A_idx1 rfl rfl rfl (by omega) ?_
 | refine A_callV rfl rfl (fun s H => c_l03Wide (w := w)) ?_
 | refine A_fld rfl rfl ?_ | refine A_p (by rfl) rfl ?_
 | refine A_ldI rfl (by first | omega | (simp; done) | (simp; omega)) rfl ?_ | refine A_ldB rfl (by first | omega | (simp; done) | (simp; omega)) rfl ?_ | refine A_ld rfl (by rfl) rfl ?_
 | refine A_st rfl rfl rfl ?_ | refine A_stE rfl rfl (by first | omega | (simp; done) | (simp; omega)) rfl ?_
 | ((first | refine A_bld1 rfl rfl ?_ | refine A_bld2 rfl rfl rfl ?_ | refine A_bld4 rfl rfl rfl rfl rfl ?_) <;> intro pz hpz)
 | refine A_bld0 rfl ?_
 | (refine A_app rfl rfl rfl (by first | omega | (simp; done) | (simp; omega)) (by first | omega | (simp; done) | (simp; omega)) (by omega) ?_; intro pz) | (refine A_appN (enc := ic) rfl (by decide) rfl rfl (by first | omega | (simp; done) | (simp; omega)) (by omega) ?_; intro pz)
 | refine A_chk1 rfl rfl rfl ?_ | refine A_chk2 rfl rfl rfl rfl ?_ | refine A_chk3 rfl rfl rfl rfl rfl ?_ | refine A_chk4 rfl rfl rfl rfl rfl rfl ?_ | refine A_chkI rfl (by assumption) rfl (by simp) ?_
 | refine A_ret1 rfl (by exact (RP.t rfl RP.nil)) ?_)
    refine A_loop rfl [pg, pf] (fun m' fr L => ∃ i : Nat, m' = at_ - i ∧ fr = [(0, .c (.ptr q 0)), (1, .c (.sl id_to off_to at_)), (2, .c (.sl pg 0 at_)), (4, .c (.sl pf 0 zs.length)), (32, iv at_), (33, iv i)] ∧ L = [(pg, ints pre), (pf, orow zs)] ∧ i ≤ at_ ∧ ∀ j, j < i → (stepR S re xs pre).getD j 0 = to.getD j 0) at_ ⟨0, rfl, rfl, rfl, by omega, fun j h => by omega⟩ ?_
    rintro m' fr L ⟨i, rfl, rfl, rfl, hi, hst⟩
    by_cases hi' : i < at_
    case neg =>
      obtain rfl : at_ = i := by omega
      have heq : stepR S re xs pre = to := ext_getD 0 (by rw [stepR_len]; omega) fun j hj => hst j (by rw [stepR_len] at hj; omega)
      repeat' (first
 | refine A_go rfl ?_ | refine A_ifT rfl rfl ?_ | refine A_ifF rfl rfl ?_
 | refine A_add rfl rfl rfl (by omega) ?_ | refine A_sub rfl rfl rfl (by omega) ?_ | refine A_mul rfl rfl rfl (by omega) ?_
 | ((first | refine A_lt rfl rfl rfl ?_ ?_ | refine A_le rfl rfl rfl ?_ ?_ | refine A_ge rfl rfl rfl ?_ ?_ | refine A_eq rfl rfl rfl ?_ ?_ | refine A_ne rfl rfl rfl ?_ ?_) <;> intro hc <;> try first | contradiction | (exfalso; omega) | exact absurd rfl hc)
 | refine A_idxN1 rfl rfl rfl (by omega) ?_ | refine A_idx1 rfl rfl rfl (by omega) ?_
 | (refine A_bld1 (enc := rc) (a := ⟨_, 0, _, pre⟩) rfl rfl ?_ <;> intro pz hpz)
 | (refine A_app (enc := rc) rfl rfl rfl rfl rfl (by omega) ?_ <;> intro pz)
 | refine A_fld rfl rfl ?_ | refine A_p (by rfl) rfl ?_
 | refine A_ldI rfl (by first | omega | (simp; done) | (simp; omega)) rfl ?_ | refine A_ldB rfl (by first | omega | (simp; done) | (simp; omega)) rfl ?_ | refine A_ld rfl (by rfl) rfl ?_
 | refine A_st rfl rfl rfl ?_ | refine A_stE rfl rfl (by first | omega | (simp; done) | (simp; omega)) rfl ?_
 | ((first | refine A_bld1 rfl rfl ?_ | refine A_bld2 rfl rfl rfl ?_ | refine A_bld4 rfl rfl rfl rfl rfl ?_) <;> intro pz hpz)
 | refine A_bld0 rfl ?_
 | (refine A_app rfl rfl rfl (by first | omega | (simp; done) | (simp; omega)) (by first | omega | (simp; done) | (simp; omega)) (by omega) ?_; intro pz) | (refine A_appN (enc := ic) rfl (by decide) rfl rfl (by first | omega | (simp; done) | (simp; omega)) (by omega) ?_; intro pz)
 | refine A_chk1 rfl rfl rfl ?_ | refine A_chk2 rfl rfl rfl rfl ?_ | refine A_chk3 rfl rfl rfl rfl rfl ?_ | refine A_chk4 rfl rfl rfl rfl rfl rfl ?_ | refine A_chkI rfl (by assumption) rfl (by simp) ?_
 | refine A_ret1 rfl (by exact (RP.t rfl RP.nil)) ?_)
      rename_i p1 p3
      refine ⟨[(pg, ints pre), (pz, orow (zs ++ [⟨p1, 0, at_, pre⟩])), (p1, ints pre)], ⟨pz, pre, [⟨p1, 0, at_, pre⟩], by rw [List.length_append]; rfl, rfl, .one hyl.symm, ?_, hyl, hyd, hpre⟩, inferInstance⟩
      rw [lst_zero, if_pos heq, List.take_of_length_le (by simp; omega)]; rfl
    have ht := told_in hv hyr (i : Int)
    have hs2 := hood_small (a := (i : Int) - re) hv.1 hyr (m := (2 * re + 1).toNat) (by omega)
    have e1 : (stepR S re xs pre).getD i 0 = xs.getD (hoodN S pre ((i : Int) - re) (2 * re + 1).toNat).toNat 0 := by rw [stepR_get (by omega), told]
    by_cases hne : xs.getD (hoodN S pre ((i : Int) - re) (2 * re + 1).toNat).toNat 0 = to.getD i 0
    · repeat' (first
 | refine A_go rfl ?_ | refine A_ifT rfl rfl ?_ | refine A_ifF rfl rfl ?_
 | refine A_add rfl rfl rfl (by omega) ?_ | refine A_sub rfl rfl rfl (by omega) ?_ | refine A_mul rfl rfl rfl (by omega) ?_
 | ((first | refine A_lt rfl rfl rfl ?_ ?_ | refine A_le rfl rfl rfl ?_ ?_ | refine A_ge rfl rfl rfl ?_ ?_ | refine A_eq rfl rfl rfl ?_ ?_ | refine A_ne rfl rfl rfl ?_ ?_) <;> intro hc <;> try first | contradiction | (exfalso; omega) | exact absurd rfl hc)
 | refine A_idxN1 rfl rfl rfl (by omega) ?_ | refine A_idx1 rfl rfl rfl (by omega) ?_
 | refine A_callV rfl rfl (fun s H => c_l03Hood (at_ := i) (ys := pre) (hv := hv) (hr := hyr)) ?_
 | refine A_fld rfl rfl ?_ | refine A_p (by rfl) rfl ?_
 | refine A_ldI rfl (by first | omega | (simp; done) | (simp; omega)) rfl ?_ | refine A_ldB rfl (by first | omega | (simp; done) | (simp; omega)) rfl ?_ | refine A_ld rfl (by rfl) rfl ?_
 | refine A_st rfl rfl rfl ?_ | refine A_stE rfl rfl (by first | omega | (simp; done) | (simp; omega)) rfl ?_
 | ((first | refine A_bld1 rfl rfl ?_ | refine A_bld2 rfl rfl rfl ?_ | refine A_bld4 rfl rfl rfl rfl rfl ?_) <;> intro pz hpz)
 | refine A_bld0 rfl ?_
 | (refine A_app rfl rfl rfl (by first | omega | (simp; done) | (simp; omega)) (by first | omega | (simp; done) | (simp; omega)) (by omega) ?_; intro pz) | (refine A_appN (enc := ic) rfl (by decide) rfl rfl (by first | omega | (simp; done) | (simp; omega)) (by omega) ?_; intro pz)
 | refine A_chk1 rfl rfl rfl ?_ | refine A_chk2 rfl rfl rfl rfl ?_ | refine A_chk3 rfl rfl rfl rfl rfl ?_ | refine A_chk4 rfl rfl rfl rfl rfl rfl ?_ | refine A_chkI rfl (by assumption) rfl (by simp) ?_
 | refine A_ret1 rfl (by exact (RP.t rfl RP.nil)) ?_)
      refine A_round rfl [pg, pf] (at_ - (i + 1)) (by omega) ?_
      refine ⟨i + 1, rfl, rfl, rfl, by omega, fun j hj => ?_⟩
      by_cases e : j = i
      · subst e; rw [e1, hne]
      · exact hst j (by omega)
    · repeat' (first
 | refine A_go rfl ?_ | refine A_ifT rfl rfl ?_ | refine A_ifF rfl rfl ?_
 | refine A_add rfl rfl rfl (by omega) ?_ | refine A_sub rfl rfl rfl (by omega) ?_ | refine A_mul rfl rfl rfl (by omega) ?_
 | ((first | refine A_lt rfl rfl rfl ?_ ?_ | refine A_le rfl rfl rfl ?_ ?_ | refine A_ge rfl rfl rfl ?_ ?_ | refine A_eq rfl rfl rfl ?_ ?_ | refine A_ne rfl rfl rfl ?_ ?_) <;> intro hc <;> try first | contradiction | (exfalso; omega) | exact absurd rfl hc)
 | refine A_idxN1 rfl rfl rfl (by omega) ?_ | refine A_idx1 rfl rfl rfl (by omega) ?_
 | refine A_callV rfl rfl (fun s H => c_l03Hood (at_ := i) (ys := pre) (hv := hv) (hr := hyr)) ?_
 | refine A_fld rfl rfl ?_ | refine A_p (by rfl) rfl ?_
 | refine A_ldI rfl (by first | omega | (simp; done) | (simp; omega)) rfl ?_ | refine A_ldB rfl (by first | omega | (simp; done) | (simp; omega)) rfl ?_ | refine A_ld rfl (by rfl) rfl ?_
 | refine A_st rfl rfl rfl ?_ | refine A_stE rfl rfl (by first | omega | (simp; done) | (simp; omega)) rfl ?_
 | ((first | refine A_bld1 rfl rfl ?_ | refine A_bld2 rfl rfl rfl ?_ | refine A_bld4 rfl rfl rfl rfl rfl ?_) <;> intro pz hpz)
 | refine A_bld0 rfl ?_
 | (refine A_app rfl rfl rfl (by first | omega | (simp; done) | (simp; omega)) (by first | omega | (simp; done) | (simp; omega)) (by omega) ?_; intro pz) | (refine A_appN (enc := ic) rfl (by decide) rfl rfl (by first | omega | (simp; done) | (simp; omega)) (by omega) ?_; intro pz)
 | refine A_chk1 rfl rfl rfl ?_ | refine A_chk2 rfl rfl rfl rfl ?_ | refine A_chk3 rfl rfl rfl rfl rfl ?_ | refine A_chk4 rfl rfl rfl rfl rfl rfl ?_ | refine A_chkI rfl (by assumption) rfl (by simp) ?_
 | refine A_ret1 rfl (by exact (RP.t rfl RP.nil)) ?_)
      refine ⟨[(pg, ints pre), (pf, orow zs)], ⟨pf, pre, [], by rw [List.append_nil], by rw [List.append_nil]; rfl, (fun z hz => (by cases hz)), ?_, hyl, hyd, hpre⟩, inferInstance⟩
      rw [lst_zero, if_neg fun h => hne (by rw [← e1, h])]; simp
  | m + 1, s, _, at_, pg, pf, ys, pre, zs, hq, h_xs, h_to, b1, b2, ap, n1, n2, n3, hat, hyl, hyd, hpre, hzl => by
    refine F_start2 code86 ?_
    by_cases hfull : M ≤ zs.length
    · repeat' (first
 | refine A_go rfl ?_ | refine A_ifT rfl rfl ?_ | refine A_ifF rfl rfl ?_
 | refine A_add rfl rfl rfl (by omega) ?_ | refine A_sub rfl rfl rfl (by omega) ?_ | refine A_mul rfl rfl rfl (by omega) ?_
 | ((first | refine A_lt rfl rfl rfl ?_ ?_ | refine A_le rfl rfl rfl ?_ ?_ | refine A_ge rfl rfl rfl ?_ ?_ | refine A_eq rfl rfl rfl ?_ ?_ | refine A_ne rfl rfl rfl ?_ ?_) <;> intro hc <;> try first | contradiction | (exfalso; omega) | exact absurd rfl hc)
 | refine A_idxN1 rfl rfl rfl (by omega) ?_ | refine A_idx1 rfl rfl rfl (by omega) ?_
 | refine A_fld rfl rfl ?_ | refine A_p (by rfl) rfl ?_
 | refine A_ldI rfl (by first | omega | (simp; done) | (simp; omega)) rfl ?_ | refine A_ldB rfl (by first | omega | (simp; done) | (simp; omega)) rfl ?_ | refine A_ld rfl (by rfl) rfl ?_
 | refine A_st rfl rfl rfl ?_ | refine A_stE rfl rfl (by first | omega | (simp; done) | (simp; omega)) rfl ?_
 | ((first | refine A_bld1 rfl rfl ?_ | refine A_bld2 rfl rfl rfl ?_ | refine A_bld4 rfl rfl rfl rfl rfl ?_) <;> intro pz hpz)
 | refine A_bld0 rfl ?_
 | (refine A_app rfl rfl rfl (by first | omega | (simp; done) | (simp; omega)) (by first | omega | (simp; done) | (simp; omega)) (by omega) ?_; intro pz) | (refine A_appN (enc := ic) rfl (by decide) rfl rfl (by first | omega | (simp; done) | (simp; omega)) (by omega) ?_; intro pz)
 | refine A_chk1 rfl rfl rfl ?_ | refine A_chk2 rfl rfl rfl rfl ?_ | refine A_chk3 rfl rfl rfl rfl rfl ?_ | refine A_chk4 rfl rfl rfl rfl rfl rfl ?_ | refine A_chkI rfl (by assumption) rfl (by simp) ?_
 | refine A_ret1 rfl (by exact (RP.t rfl RP.nil)) ?_)
      refine ⟨[(pg, ints ys), (pf, orow zs)], ⟨pf, ys, [], by rw [List.append_nil], by rw [List.append_nil]; rfl, (fun z hz => (by cases hz)), ?_, hyl, hyd, hpre⟩, inferInstance⟩
      rw [show M - zs.length = 0 by omega]; rfl
    have hlt2 : at_ < n := by omega
    have hprl : pre.length = at_ := by rw [← hpre]; simp; omega
    have eat : (at_ : Int) + 1 = ((at_ + 1 : Nat) : Int) := by omega
    have hEw : S ^ w = E * S := by rw [hE, ← Nat.pow_succ, Nat.succ_eq_add_one, show w - 1 + 1 = w by omega]
    have hes := es_le hS hEb
    repeat' (first
 | refine A_go rfl ?_ | refine A_ifT rfl rfl ?_ | refine A_ifF rfl rfl ?_
 | refine A_add rfl rfl rfl (by omega) ?_ | refine A_sub rfl rfl rfl (by omega) ?_ | refine A_mul rfl rfl rfl (by omega) ?_
 | ((first | refine A_lt rfl rfl rfl ?_ ?_ | refine A_le rfl rfl rfl ?_ ?_ | refine A_ge rfl rfl rfl ?_ ?_ | refine A_eq rfl rfl rfl ?_ ?_ | refine A_ne rfl rfl rfl ?_ ?_) <;> intro hc <;> try first | contradiction | (exfalso; omega) | exact absurd rfl hc)
 | refine A_idxN1 rfl rfl rfl (by omega) ?_ | refine A_idx1 rfl rfl rfl (by omega) ?_
 | refine A_callV rfl rfl (fun s H => c_l03Wide (w := w)) ?_
 | refine A_fld rfl rfl ?_ | refine A_p (by rfl) rfl ?_
 | refine A_ldI rfl (by first | omega | (simp; done) | (simp; omega)) rfl ?_ | refine A_ldB rfl (by first | omega | (simp; done) | (simp; omega)) rfl ?_ | refine A_ld rfl (by rfl) rfl ?_
 | refine A_st rfl rfl rfl ?_ | refine A_stE rfl rfl (by first | omega | (simp; done) | (simp; omega)) rfl ?_
 | ((first | refine A_bld1 rfl rfl ?_ | refine A_bld2 rfl rfl rfl ?_ | refine A_bld4 rfl rfl rfl rfl rfl ?_) <;> intro pz hpz)
 | refine A_bld0 rfl ?_
 | (refine A_app rfl rfl rfl (by first | omega | (simp; done) | (simp; omega)) (by first | omega | (simp; done) | (simp; omega)) (by omega) ?_; intro pz) | (refine A_appN (enc := ic) rfl (by decide) rfl rfl (by first | omega | (simp; done) | (simp; omega)) (by omega) ?_; intro pz)
 | refine A_chk1 rfl rfl rfl ?_ | refine A_chk2 rfl rfl rfl rfl ?_ | refine A_chk3 rfl rfl rfl rfl rfl ?_ | refine A_chk4 rfl rfl rfl rfl rfl rfl ?_ | refine A_chkI rfl (by assumption) rfl (by simp) ?_
 | refine A_ret1 rfl (by exact (RP.t rfl RP.nil)) ?_)
    refine A_loopX rfl (fun m' fr L => ∃ (x p1 : Nat) (ys1 : List Int) (new : List Row), m' = S - x ∧ fr = [(0, .c (.ptr q 0)), (1, .c (.sl id_to off_to n)), (2, .c (.sl pg 0 n)), (3, iv at_), (4, .c (.sl p1 0 (zs ++ new).length)), (5, iv M), (14, iv w), (16, iv x)] ∧ L = (pg, ints ys1) :: (p1, orow (zs ++ new)) :: mobs new ∧ x ≤ S ∧ RowsOk new ∧ new.map Row.xs = (lstD S re xs to m pre x).take (M - zs.length) ∧ ys1.length = n ∧ DG S ys1 ∧ ys1.take at_ = pre) (n := S) ⟨[(pg, ints ys), (pf, orow zs)], ⟨0, pf, ys, [], rfl, by simp only [List.append_nil]; rfl, by simp only [List.append_nil]; rfl, by omega, (fun z hz => (by cases hz)), by simp [lstD], hyl, hyd, hpre⟩, inferInstance⟩ ?_
    rintro m' fr L ⟨x, p1, ys1, new, rfl, rfl, rfl, hx, hok, hnew, hyl1, hyd1, hpre1⟩
    by_cases hx' : x < S
    case neg =>
      obtain rfl : S = x := by omega
      repeat' (first
 | refine A_go rfl ?_ | refine A_ifT rfl rfl ?_ | refine A_ifF rfl rfl ?_
 | refine A_add rfl rfl rfl (by omega) ?_ | refine A_sub rfl rfl rfl (by omega) ?_ | refine A_mul rfl rfl rfl (by omega) ?_
 | ((first | refine A_lt rfl rfl rfl ?_ ?_ | refine A_le rfl rfl rfl ?_ ?_ | refine A_ge rfl rfl rfl ?_ ?_ | refine A_eq rfl rfl rfl ?_ ?_ | refine A_ne rfl rfl rfl ?_ ?_) <;> intro hc <;> try first | contradiction | (exfalso; omega) | exact absurd rfl hc)
 | refine A_idxN1 rfl rfl rfl (by omega) ?_ | refine A_idx1 rfl rfl rfl (by omega) ?_
 | refine A_fld rfl rfl ?_ | refine A_p (by rfl) rfl ?_
 | refine A_ldI rfl (by first | omega | (simp; done) | (simp; omega)) rfl ?_ | refine A_ldB rfl (by first | omega | (simp; done) | (simp; omega)) rfl ?_ | refine A_ld rfl (by rfl) rfl ?_
 | refine A_st rfl rfl rfl ?_ | refine A_stE rfl rfl (by first | omega | (simp; done) | (simp; omega)) rfl ?_
 | ((first | refine A_bld1 rfl rfl ?_ | refine A_bld2 rfl rfl rfl ?_ | refine A_bld4 rfl rfl rfl rfl rfl ?_) <;> intro pz hpz)
 | refine A_bld0 rfl ?_
 | (refine A_app rfl rfl rfl (by first | omega | (simp; done) | (simp; omega)) (by first | omega | (simp; done) | (simp; omega)) (by omega) ?_; intro pz) | (refine A_appN (enc := ic) rfl (by decide) rfl rfl (by first | omega | (simp; done) | (simp; omega)) (by omega) ?_; intro pz)
 | refine A_chk1 rfl rfl rfl ?_ | refine A_chk2 rfl rfl rfl rfl ?_ | refine A_chk3 rfl rfl rfl rfl rfl ?_ | refine A_chk4 rfl rfl rfl rfl rfl rfl ?_ | refine A_chkI rfl (by assumption) rfl (by simp) ?_
 | refine A_ret1 rfl (by exact (RP.t rfl RP.nil)) ?_)
      exact ⟨_, ⟨p1, ys1, new, rfl, rfl, hok, by rw [lst_succ, Int.toNat_natCast]; exact hnew, hyl1, hyd1, hpre1⟩, inferInstance⟩
    have hyl2 : (ys1.set at_ (x : Int)).length = n := by rw [List.length_set]; exact hyl1
    have hyd2 : DG S (ys1.set at_ (x : Int)) := fun z hz => by
      rcases List.mem_or_eq_of_mem_set hz with g | rfl
      · exact hyd1 z g
      · omega
    have hpre2 : (ys1.set at_ (x : Int)).take at_ = pre := by
      rw [List.take_set, List.set_eq_of_length_le (by simp; omega)]; exact hpre1
    have hpre3 : (ys1.set at_ (x : Int)).take (at_ + 1) = pre ++ [((x : Nat) : Int)] := by
      rw [List.take_add_one, hpre2, getD_some 0 (by omega), getD_set (by omega), if_pos rfl]; rfl
    have hnl : new.length = min (M - zs.length) (lstD S re xs to m pre x).length := by
      have := congrArg List.length hnew
      rwa [List.length_map, List.length_take] at this
    have hzl2 : (zs ++ new).length ≤ 1000 := by rw [List.length_append]; omega
    by_cases hw1 : w ≤ at_ + 1
    case neg =>
      repeat' (first
 | refine A_go rfl ?_ | refine A_ifT rfl rfl ?_ | refine A_ifF rfl rfl ?_
 | refine A_add rfl rfl rfl (by omega) ?_ | refine A_sub rfl rfl rfl (by omega) ?_ | refine A_mul rfl rfl rfl (by omega) ?_
 | ((first | refine A_lt rfl rfl rfl ?_ ?_ | refine A_le rfl rfl rfl ?_ ?_ | refine A_ge rfl rfl rfl ?_ ?_ | refine A_eq rfl rfl rfl ?_ ?_ | refine A_ne rfl rfl rfl ?_ ?_) <;> intro hc <;> try first | contradiction | (exfalso; omega) | exact absurd rfl hc)
 | refine A_idxN1 rfl rfl rfl (by omega) ?_ | refine A_idx1 rfl rfl rfl (by omega) ?_
 | simp only [eat]
 | refine A_fld rfl rfl ?_ | refine A_p (by rfl) rfl ?_
 | refine A_ldI rfl (by first | omega | (simp; done) | (simp; omega)) rfl ?_ | refine A_ldB rfl (by first | omega | (simp; done) | (simp; omega)) rfl ?_ | refine A_ld rfl (by rfl) rfl ?_
 | refine A_st rfl rfl rfl ?_ | refine A_stE rfl rfl (by first | omega | (simp; done) | (simp; omega)) rfl ?_
 | ((first | refine A_bld1 rfl rfl ?_ | refine A_bld2 rfl rfl rfl ?_ | refine A_bld4 rfl rfl rfl rfl rfl ?_) <;> intro pz hpz)
 | refine A_bld0 rfl ?_
 | (refine A_app rfl rfl rfl (by first | omega | (simp; done) | (simp; omega)) (by first | omega | (simp; done) | (simp; omega)) (by omega) ?_; intro pz) | (refine A_appN (enc := ic) rfl (by decide) rfl rfl (by first | omega | (simp; done) | (simp; omega)) (by omega) ?_; intro pz)
 | refine A_chk1 rfl rfl rfl ?_ | refine A_chk2 rfl rfl rfl rfl ?_ | refine A_chk3 rfl rfl rfl rfl rfl ?_ | refine A_chk4 rfl rfl rfl rfl rfl rfl ?_ | refine A_chkI rfl (by assumption) rfl (by simp) ?_
 | refine A_ret1 rfl (by exact (RP.t rfl RP.nil)) ?_)
      refine A_callM (C := [pg, p1]) (P := fun R N => ∃ p' ys' new2, R = .c (.sl p' 0 ((zs ++ new) ++ new2).length) ∧ N = (pg, ints ys') :: (p', orow ((zs ++ new) ++ new2)) :: mobs new2 ∧ RowsOk new2 ∧ new2.map Row.xs = (lstL S re xs to m (pre ++ [((x : Nat) : Int)])).take (M - (zs ++ new).length) ∧ ys'.length = n ∧ DG S ys' ∧ ys'.take (at_ + 1) = pre ++ [((x : Nat) : Int)]) rfl rfl (fun s' H => ?_) ?_
      · have H2 : Own [pg, pf] s s' ([] ++ [(pg, ints (ys1.set at_ (x : Int))), (p1, orow (zs ++ new))]) := ((inferInstance : Sub [(pg, ints (ys1.set at_ (x : Int))), (p1, orow (zs ++ new))] _).own _ _ _ H)
        haveI : NotIn q [pg, p1] := notInLent H2 hq.lt n1.h
        haveI : NotIn id_xs [pg, p1] := notInLent H2 h_xs.lt n2.h
        haveI : NotIn id_to [pg, p1] := notInLent H2 h_to.lt n3.h
        exact c_fill hv hto hE hl hd hS hw hEb hlx hlt hn hM m (at_ := at_ + 1) (by omega) hyl2 hyd2 hpre3 hzl2
      rintro r N ⟨p2, ys3, new2, rfl, rfl, k1, k2, k3, k4, k5⟩
      repeat' (first
 | refine A_go rfl ?_ | refine A_ifT rfl rfl ?_ | refine A_ifF rfl rfl ?_
 | refine A_add rfl rfl rfl (by omega) ?_ | refine A_sub rfl rfl rfl (by omega) ?_ | refine A_mul rfl rfl rfl (by omega) ?_
 | ((first | refine A_lt rfl rfl rfl ?_ ?_ | refine A_le rfl rfl rfl ?_ ?_ | refine A_ge rfl rfl rfl ?_ ?_ | refine A_eq rfl rfl rfl ?_ ?_ | refine A_ne rfl rfl rfl ?_ ?_) <;> intro hc <;> try first | contradiction | (exfalso; omega) | exact absurd rfl hc)
 | refine A_idxN1 rfl rfl rfl (by omega) ?_ | refine A_idx1 rfl rfl rfl (by omega) ?_
 | refine A_fld rfl rfl ?_ | refine A_p (by rfl) rfl ?_
 | refine A_ldI rfl (by first | omega | (simp; done) | (simp; omega)) rfl ?_ | refine A_ldB rfl (by first | omega | (simp; done) | (simp; omega)) rfl ?_ | refine A_ld rfl (by rfl) rfl ?_
 | refine A_st rfl rfl rfl ?_ | refine A_stE rfl rfl (by first | omega | (simp; done) | (simp; omega)) rfl ?_
 | ((first | refine A_bld1 rfl rfl ?_ | refine A_bld2 rfl rfl rfl ?_ | refine A_bld4 rfl rfl rfl rfl rfl ?_) <;> intro pz hpz)
 | refine A_bld0 rfl ?_
 | (refine A_app rfl rfl rfl (by first | omega | (simp; done) | (simp; omega)) (by first | omega | (simp; done) | (simp; omega)) (by omega) ?_; intro pz) | (refine A_appN (enc := ic) rfl (by decide) rfl rfl (by first | omega | (simp; done) | (simp; omega)) (by omega) ?_; intro pz)
 | refine A_chk1 rfl rfl rfl ?_ | refine A_chk2 rfl rfl rfl rfl ?_ | refine A_chk3 rfl rfl rfl rfl rfl ?_ | refine A_chk4 rfl rfl rfl rfl rfl rfl ?_ | refine A_chkI rfl (by assumption) rfl (by simp) ?_
 | refine A_ret1 rfl (by exact (RP.t rfl RP.nil)) ?_)
      refine A_roundX rfl ⟨S - (x + 1), (pg, ints ys3) :: (p2, orow (zs ++ (new ++ new2))) :: mobs (new ++ new2), by omega, ⟨x + 1, p2, ys3, new ++ new2, rfl, by simp only [List.append_assoc]; rfl, rfl, by omega, hok.append k1, ?_, k3, k4, ?_⟩, ?_⟩
      · rw [List.map_append, hnew, k2, lstD_succ, List.take_append]
        congr 2
        rw [List.length_append]; omega
      · have h := congrArg (List.take at_) k5
        rw [List.take_take, Nat.min_eq_left (by omega), List.take_append_of_le_length (by omega)] at h
        rw [h]
        exact List.take_of_length_le (by omega)
      · rw [mobs_app, ← List.append_assoc]
        exact .ofPerm (.cons _ (.cons _ List.perm_append_comm))
    obtain ⟨c, hc0⟩ : ∃ c, ((ys1.set at_ (x : Int)).drop (at_ + 1 - w)).take w = c := ⟨_, rfl⟩
    have hcl : c.length = w := by rw [← hc0]; simp; omega
    have hcd : DG S c := by rw [← hc0]; exact (hyd2.drop _).take _
    have hcg : ∀ j, j < w → c.getD j 0 = (ys1.set at_ (x : Int)).getD (at_ + 1 - w + j) 0 := fun j hj => by
      rw [← hc0, getD_take hj, List.getD_eq_getElem?_getD, List.getElem?_drop, ← List.getD_eq_getElem?_getD]
    have hcn : nm S c < E * S := by rw [← hEw, ← hcl]; exact nm_lt (by omega) hcd _ (Nat.le_refl _)
    repeat' (first
 | refine A_go rfl ?_ | refine A_ifT rfl rfl ?_ | refine A_ifF rfl rfl ?_
 | refine A_add rfl rfl rfl (by omega) ?_ | refine A_sub rfl rfl rfl (by omega) ?_ | refine A_mul rfl rfl rfl (by omega) ?_
 | ((first | refine A_lt rfl rfl rfl ?_ ?_ | refine A_le rfl rfl rfl ?_ ?_ | refine A_ge rfl rfl rfl ?_ ?_ | refine A_eq rfl rfl rfl ?_ ?_ | refine A_ne rfl rfl rfl ?_ ?_) <;> intro hc <;> try first | contradiction | (exfalso; omega) | exact absurd rfl hc)
 | refine A_idxN1 rfl rfl rfl (by omega) ?_ | refine A_idx1 rfl rfl rfl (by omega) ?_
 | refine A_fld rfl rfl ?_ | refine A_p (by rfl) rfl ?_
 | refine A_ldI rfl (by first | omega | (simp; done) | (simp; omega)) rfl ?_ | refine A_ldB rfl (by first | omega | (simp; done) | (simp; omega)) rfl ?_ | refine A_ld rfl (by rfl) rfl ?_
 | refine A_st rfl rfl rfl ?_ | refine A_stE rfl rfl (by first | omega | (simp; done) | (simp; omega)) rfl ?_
 | ((first | refine A_bld1 rfl rfl ?_ | refine A_bld2 rfl rfl rfl ?_ | refine A_bld4 rfl rfl rfl rfl rfl ?_) <;> intro pz hpz)
 | refine A_bld0 rfl ?_
 | (refine A_app rfl rfl rfl (by first | omega | (simp; done) | (simp; omega)) (by first | omega | (simp; done) | (simp; omega)) (by omega) ?_; intro pz) | (refine A_appN (enc := ic) rfl (by decide) rfl rfl (by first | omega | (simp; done) | (simp; omega)) (by omega) ?_; intro pz)
 | refine A_chk1 rfl rfl rfl ?_ | refine A_chk2 rfl rfl rfl rfl ?_ | refine A_chk3 rfl rfl rfl rfl rfl ?_ | refine A_chk4 rfl rfl rfl rfl rfl rfl ?_ | refine A_chkI rfl (by assumption) rfl (by simp) ?_
 | refine A_ret1 rfl (by exact (RP.t rfl RP.nil)) ?_)
    refine A_loopX rfl (fun m' fr L => ∃ (j : Nat) (k : Int), m' = w - j ∧ fr = [(0, .c (.ptr q 0)), (1, .c (.sl id_to off_to n)), (2, .c (.sl pg 0 n)), (3, iv at_), (4, .c (.sl p1 0 (zs ++ new).length)), (5, iv M), (14, iv w), (16, iv x), (17, iv ((nmN S c j : Nat) : Int)), (18, iv k)] ∧ L = (pg, ints (ys1.set at_ (x : Int))) :: (p1, orow (zs ++ new)) :: mobs new ∧ j ≤ w ∧ k = (at_ : Int) - w + 1 + j) (n := w) ⟨(pg, ints (ys1.set at_ (x : Int))) :: (p1, orow (zs ++ new)) :: mobs new, ⟨0, _, rfl, rfl, rfl, by omega, by omega⟩, inferInstance⟩ ?_
    rintro m' fr L ⟨j, k, rfl, rfl, rfl, hj, hk⟩
    by_cases hj' : j < w
    · have h1 := nm_step hcd (m := j) (by omega)
      have h2 := nm_lt (by omega) hcd j (by omega)
      have h3 := nm_lt (by omega) hcd (j + 1) (by omega)
      have h4 := pow_le (b := S) (n := j) (by omega) (by omega)
      have h5 := pow_le (b := S) (n := j + 1) (by omega) (by omega)
      have h6 := hcd _ (getD_mem (d := 0) (by omega : j < c.length))
      have hkn : k.toNat = at_ + 1 - w + j := by omega
      rw [hcg j hj', ← hkn] at h1 h6
      have h7 : 0 ≤ ((nmN S c j : Nat) : Int) * S := Int.mul_nonneg (by omega) (by omega)
      repeat' (first
 | refine A_go rfl ?_ | refine A_ifT rfl rfl ?_ | refine A_ifF rfl rfl ?_
 | refine A_add rfl rfl rfl (by omega) ?_ | refine A_sub rfl rfl rfl (by omega) ?_ | refine A_mul rfl rfl rfl (by omega) ?_
 | ((first | refine A_lt rfl rfl rfl ?_ ?_ | refine A_le rfl rfl rfl ?_ ?_ | refine A_ge rfl rfl rfl ?_ ?_ | refine A_eq rfl rfl rfl ?_ ?_ | refine A_ne rfl rfl rfl ?_ ?_) <;> intro hc <;> try first | contradiction | (exfalso; omega) | exact absurd rfl hc)
 | refine A_idxN1 rfl rfl rfl (by omega) ?_ | refine A_idx1 rfl rfl rfl (by omega) ?_
 | simp only [h1]
 | refine A_fld rfl rfl ?_ | refine A_p (by rfl) rfl ?_
 | refine A_ldI rfl (by first | omega | (simp; done) | (simp; omega)) rfl ?_ | refine A_ldB rfl (by first | omega | (simp; done) | (simp; omega)) rfl ?_ | refine A_ld rfl (by rfl) rfl ?_
 | refine A_st rfl rfl rfl ?_ | refine A_stE rfl rfl (by first | omega | (simp; done) | (simp; omega)) rfl ?_
 | ((first | refine A_bld1 rfl rfl ?_ | refine A_bld2 rfl rfl rfl ?_ | refine A_bld4 rfl rfl rfl rfl rfl ?_) <;> intro pz hpz)
 | refine A_bld0 rfl ?_
 | (refine A_app rfl rfl rfl (by first | omega | (simp; done) | (simp; omega)) (by first | omega | (simp; done) | (simp; omega)) (by omega) ?_; intro pz) | (refine A_appN (enc := ic) rfl (by decide) rfl rfl (by first | omega | (simp; done) | (simp; omega)) (by omega) ?_; intro pz)
 | refine A_chk1 rfl rfl rfl ?_ | refine A_chk2 rfl rfl rfl rfl ?_ | refine A_chk3 rfl rfl rfl rfl rfl ?_ | refine A_chk4 rfl rfl rfl rfl rfl rfl ?_ | refine A_chkI rfl (by assumption) rfl (by simp) ?_
 | refine A_ret1 rfl (by exact (RP.t rfl RP.nil)) ?_)
      refine A_roundX rfl ⟨w - (j + 1), (pg, ints (ys1.set at_ (x : Int))) :: (p1, orow (zs ++ new)) :: mobs new, by omega, ⟨j + 1, _, rfl, rfl, rfl, by omega, by omega⟩, inferInstance⟩
    obtain rfl : w = j := by omega
    have hnm : nmN S c w = nm S c := by rw [nm, hcl]
    have hre := hv.2.1
    by_cases hne : xs.getD (nm S c) 0 = to.getD ((at_ : Int) - re).toNat 0
    case neg =>
      have hno := lst_none (m := m) hv hto hw.1 (p := pre ++ [((x : Nat) : Int)]) (at_ := at_) (by simp; omega) (by rw [← hpre3]; exact hyd2.take _) (by omega) (by omega) (by
        rw [← hpre3, List.drop_take, List.take_take, Nat.min_eq_left (by omega), hc0]; exact hne)
      repeat' (first
 | refine A_go rfl ?_ | refine A_ifT rfl rfl ?_ | refine A_ifF rfl rfl ?_
 | refine A_add rfl rfl rfl (by omega) ?_ | refine A_sub rfl rfl rfl (by omega) ?_ | refine A_mul rfl rfl rfl (by omega) ?_
 | ((first | refine A_lt rfl rfl rfl ?_ ?_ | refine A_le rfl rfl rfl ?_ ?_ | refine A_ge rfl rfl rfl ?_ ?_ | refine A_eq rfl rfl rfl ?_ ?_ | refine A_ne rfl rfl rfl ?_ ?_) <;> intro hc <;> try first | contradiction | (exfalso; omega) | exact absurd rfl hc)
 | refine A_idxN1 rfl rfl rfl (by omega) ?_ | refine A_idx1 rfl rfl rfl (by omega) ?_
 | simp only [hnm, Int.toNat_natCast]
 | refine A_fld rfl rfl ?_ | refine A_p (by rfl) rfl ?_
 | refine A_ldI rfl (by first | omega | (simp; done) | (simp; omega)) rfl ?_ | refine A_ldB rfl (by first | omega | (simp; done) | (simp; omega)) rfl ?_ | refine A_ld rfl (by rfl) rfl ?_
 | refine A_st rfl rfl rfl ?_ | refine A_stE rfl rfl (by first | omega | (simp; done) | (simp; omega)) rfl ?_
 | ((first | refine A_bld1 rfl rfl ?_ | refine A_bld2 rfl rfl rfl ?_ | refine A_bld4 rfl rfl rfl rfl rfl ?_) <;> intro pz hpz)
 | refine A_bld0 rfl ?_
 | (refine A_app rfl rfl rfl (by first | omega | (simp; done) | (simp; omega)) (by first | omega | (simp; done) | (simp; omega)) (by omega) ?_; intro pz) | (refine A_appN (enc := ic) rfl (by decide) rfl rfl (by first | omega | (simp; done) | (simp; omega)) (by omega) ?_; intro pz)
 | refine A_chk1 rfl rfl rfl ?_ | refine A_chk2 rfl rfl rfl rfl ?_ | refine A_chk3 rfl rfl rfl rfl rfl ?_ | refine A_chk4 rfl rfl rfl rfl rfl rfl ?_ | refine A_chkI rfl (by assumption) rfl (by simp) ?_
 | refine A_ret1 rfl (by exact (RP.t rfl RP.nil)) ?_)
      refine A_roundX rfl ⟨S - (x + 1), (pg, ints (ys1.set at_ (x : Int))) :: (p1, orow (zs ++ new)) :: mobs new, by omega, ⟨x + 1, p1, _, new, rfl, rfl, rfl, by omega, hok, by rw [lstD_succ, hno, List.append_nil]; exact hnew, hyl2, hyd2, hpre2⟩, inferInstance⟩
    · repeat' (first
 | refine A_go rfl ?_ | refine A_ifT rfl rfl ?_ | refine A_ifF rfl rfl ?_
 | refine A_add rfl rfl rfl (by omega) ?_ | refine A_sub rfl rfl rfl (by omega) ?_ | refine A_mul rfl rfl rfl (by omega) ?_
 | ((first | refine A_lt rfl rfl rfl ?_ ?_ | refine A_le rfl rfl rfl ?_ ?_ | refine A_ge rfl rfl rfl ?_ ?_ | refine A_eq rfl rfl rfl ?_ ?_ | refine A_ne rfl rfl rfl ?_ ?_) <;> intro hc <;> try first | contradiction | (exfalso; omega) | exact absurd rfl hc)
 | refine A_idxN1 rfl rfl rfl (by omega) ?_ | refine A_idx1 rfl rfl rfl (by omega) ?_
 | simp only [hnm, Int.toNat_natCast, eat]
 | refine A_fld rfl rfl ?_ | refine A_p (by rfl) rfl ?_
 | refine A_ldI rfl (by first | omega | (simp; done) | (simp; omega)) rfl ?_ | refine A_ldB rfl (by first | omega | (simp; done) | (simp; omega)) rfl ?_ | refine A_ld rfl (by rfl) rfl ?_
 | refine A_st rfl rfl rfl ?_ | refine A_stE rfl rfl (by first | omega | (simp; done) | (simp; omega)) rfl ?_
 | ((first | refine A_bld1 rfl rfl ?_ | refine A_bld2 rfl rfl rfl ?_ | refine A_bld4 rfl rfl rfl rfl rfl ?_) <;> intro pz hpz)
 | refine A_bld0 rfl ?_
 | (refine A_app rfl rfl rfl (by first | omega | (simp; done) | (simp; omega)) (by first | omega | (simp; done) | (simp; omega)) (by omega) ?_; intro pz) | (refine A_appN (enc := ic) rfl (by decide) rfl rfl (by first | omega | (simp; done) | (simp; omega)) (by omega) ?_; intro pz)
 | refine A_chk1 rfl rfl rfl ?_ | refine A_chk2 rfl rfl rfl rfl ?_ | refine A_chk3 rfl rfl rfl rfl rfl ?_ | refine A_chk4 rfl rfl rfl rfl rfl rfl ?_ | refine A_chkI rfl (by assumption) rfl (by simp) ?_
 | refine A_ret1 rfl (by exact (RP.t rfl RP.nil)) ?_)
      refine A_callM (C := [pg, p1]) (P := fun R N => ∃ p' ys' new2, R = .c (.sl p' 0 ((zs ++ new) ++ new2).length) ∧ N = (pg, ints ys') :: (p', orow ((zs ++ new) ++ new2)) :: mobs new2 ∧ RowsOk new2 ∧ new2.map Row.xs = (lstL S re xs to m (pre ++ [((x : Nat) : Int)])).take (M - (zs ++ new).length) ∧ ys'.length = n ∧ DG S ys' ∧ ys'.take (at_ + 1) = pre ++ [((x : Nat) : Int)]) rfl rfl (fun s' H => ?_) ?_
      · have H2 : Own [pg, pf] s s' ([] ++ [(pg, ints (ys1.set at_ (x : Int))), (p1, orow (zs ++ new))]) := ((inferInstance : Sub [(pg, ints (ys1.set at_ (x : Int))), (p1, orow (zs ++ new))] _).own _ _ _ H)
        haveI : NotIn q [pg, p1] := notInLent H2 hq.lt n1.h
        haveI : NotIn id_xs [pg, p1] := notInLent H2 h_xs.lt n2.h
        haveI : NotIn id_to [pg, p1] := notInLent H2 h_to.lt n3.h
        exact c_fill hv hto hE hl hd hS hw hEb hlx hlt hn hM m (at_ := at_ + 1) (by omega) hyl2 hyd2 hpre3 hzl2
      rintro r N ⟨p2, ys3, new2, rfl, rfl, k1, k2, k3, k4, k5⟩
      repeat' (first
 | refine A_go rfl ?_ | refine A_ifT rfl rfl ?_ | refine A_ifF rfl rfl ?_
 | refine A_add rfl rfl rfl (by omega) ?_ | refine A_sub rfl rfl rfl (by omega) ?_ | refine A_mul rfl rfl rfl (by omega) ?_
 | ((first | refine A_lt rfl rfl rfl ?_ ?_ | refine A_le rfl rfl rfl ?_ ?_ | refine A_ge rfl rfl rfl ?_ ?_ | refine A_eq rfl rfl rfl ?_ ?_ | refine A_ne rfl rfl rfl ?_ ?_) <;> intro hc <;> try first | contradiction | (exfalso; omega) | exact absurd rfl hc)
 | refine A_idxN1 rfl rfl rfl (by omega) ?_ | refine A_idx1 rfl rfl rfl (by omega) ?_
 | refine A_fld rfl rfl ?_ | refine A_p (by rfl) rfl ?_
 | refine A_ldI rfl (by first | omega | (simp; done) | (simp; omega)) rfl ?_ | refine A_ldB rfl (by first | omega | (simp; done) | (simp; omega)) rfl ?_ | refine A_ld rfl (by rfl) rfl ?_
 | refine A_st rfl rfl rfl ?_ | refine A_stE rfl rfl (by first | omega | (simp; done) | (simp; omega)) rfl ?_
 | ((first | refine A_bld1 rfl rfl ?_ | refine A_bld2 rfl rfl rfl ?_ | refine A_bld4 rfl rfl rfl rfl rfl ?_) <;> intro pz hpz)
 | refine A_bld0 rfl ?_
 | (refine A_app rfl rfl rfl (by first | omega | (simp; done) | (simp; omega)) (by first | omega | (simp; done) | (simp; omega)) (by omega) ?_; intro pz) | (refine A_appN (enc := ic) rfl (by decide) rfl rfl (by first | omega | (simp; done) | (simp; omega)) (by omega) ?_; intro pz)
 | refine A_chk1 rfl rfl rfl ?_ | refine A_chk2 rfl rfl rfl rfl ?_ | refine A_chk3 rfl rfl rfl rfl rfl ?_ | refine A_chk4 rfl rfl rfl rfl rfl rfl ?_ | refine A_chkI rfl (by assumption) rfl (by simp) ?_
 | refine A_ret1 rfl (by exact (RP.t rfl RP.nil)) ?_)
      refine A_roundX rfl ⟨S - (x + 1), (pg, ints ys3) :: (p2, orow (zs ++ (new ++ new2))) :: mobs (new ++ new2), by omega, ⟨x + 1, p2, ys3, new ++ new2, rfl, by simp only [List.append_assoc]; rfl, rfl, by omega, hok.append k1, ?_, k3, k4, ?_⟩, ?_⟩
      · rw [List.map_append, hnew, k2, lstD_succ, List.take_append]
        congr 2
        rw [List.length_append]; omega
      · have h := congrArg (List.take at_) k5
        rw [List.take_take, Nat.min_eq_left (by omega), List.take_append_of_le_length (by omega)] at h
        rw [h]
        exact List.take_of_length_le (by omega)
      · rw [mobs_app, ← List.append_assoc]
        exact .ofPerm (.cons _ (.cons _ List.perm_append_comm))

end Go.Proofs.Ytafdjnhlhepibaa
