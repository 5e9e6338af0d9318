/- Sets of ends: where they lead, and whether they are empty. -/
import Derived.Test.YtlmbgaoeplffkaaXorpL
import Derived.Test.YtlmbgaoeplffkaaXrepeatI
import Derived.Test.YtlmbgaoeplffkaaXmat
import Derived.Test.YtlmbgaoeplffkaaFB
namespace Go.Proofs.Ytlmbgaoeplffkaa
open Go Go.RowKit
set_option linter.unusedVariables false
set_option linter.unusedSimpArgs false
set_option maxRecDepth 100000
set_option maxHeartbeats 8000000
-- slices.Repeat[[]bool,bool]
def L51 : AFun := ⟨48, [.t 4],
 (.seq (.ops false [⟨(some 4), .mv (.k (.c (.sl 0 0 0))), none, []⟩])
 (.seq (.seq (.ops false [⟨(some 9), .mv (.t 1), none, []⟩,
    ⟨(some 10), .bin .lss (.t 9) (.k (iv 0)), none, []⟩])
  (.cond (.t 10) (.ops false [⟨(some 11), .bad, none, []⟩,
    ⟨none, .bad, none, []⟩])
   .skip))
 (.seq (.ops false [⟨(some 13), .mv (.t 0), none, []⟩,
   ⟨(some 14), .len false (.t 13), none, []⟩,
   ⟨(some 15), .conv .u64 (.t 14), none, []⟩,
   ⟨(some 16), .mv (.t 1), none, []⟩,
   ⟨(some 17), .conv .u64 (.t 16), none, []⟩,
   ⟨(some 18), .call (.f 76) [(.t 15), (.t 17)], none, []⟩,
   ⟨(some 12), .mv (.t 18), none, []⟩,
   ⟨(some 19), .ext (.t 12) 0, none, []⟩,
   ⟨(some 20), .ext (.t 12) 1, none, []⟩,
   ⟨(some 5), .mv (.t 19), none, []⟩,
   ⟨(some 6), .mv (.t 20), none, []⟩])
 (.seq (.seq (.ops false [⟨(some 21), .mv (.t 5), none, []⟩,
    ⟨(some 22), .bin .gtr (.t 21) (.k (.c (.int .u64 0))), none, []⟩,
    ⟨(some 23), .mv (.t 22), none, []⟩,
    ⟨(some 24), .mv (.t 6), (some (23, false)), []⟩,
    ⟨(some 25), .bin .gtr (.t 24) (.k (.c (.int .u64 9223372036854775807))), (some (23, false)), []⟩,
    ⟨(some 26), .pick (.t 23) (.k (bv true)) (.t 25), none, []⟩])
  (.cond (.t 26) (.ops false [⟨(some 27), .bad, none, []⟩,
    ⟨none, .bad, none, []⟩])
   .skip))
 (.seq (.ops false [⟨(some 28), .mv (.t 6), none, []⟩,
   ⟨(some 29), .conv .i64 (.t 28), none, []⟩,
   ⟨(some 30), .makeS 4 1 1 [.bool false] (.t 29) (.t 29), none, []⟩,
   ⟨(some 7), .mv (.t 30), none, []⟩])
 (.seq (.ops false [⟨(some 31), .mv (.t 7), none, []⟩,
   ⟨(some 32), .mv (.t 0), none, []⟩,
   ⟨(some 33), .copy 1 (.t 31) (.t 32), none, []⟩,
   ⟨(some 8), .mv (.t 33), none, []⟩])
 (.seq (.block 0 (.loop [7, 8] (.seq (.seq (.ops false [⟨(some 34), .mv (.t 8), none, []⟩,
       ⟨(some 35), .mv (.t 7), none, []⟩,
       ⟨(some 36), .len false (.t 35), none, []⟩,
       ⟨(some 37), .bin .lss (.t 34) (.t 36), none, []⟩])
     (.cond (.t 37) .skip
      (.exit 0)))
    (.block 1 (.ops true [⟨(some 39), .mv (.t 7), none, []⟩,
      ⟨(some 40), .mv (.t 8), none, []⟩,
      ⟨(some 41), .slice 1 (.t 39) (some (.t 40)) none, none, []⟩,
      ⟨(some 42), .mv (.t 7), none, []⟩,
      ⟨(some 43), .mv (.t 8), none, []⟩,
      ⟨(some 44), .slice 1 (.t 42) none (some (.t 43)), none, []⟩,
      ⟨(some 45), .copy 1 (.t 41) (.t 44), none, []⟩,
      ⟨(some 38), .mv (.t 8), none, []⟩,
      ⟨(some 46), .bin .add (.t 38) (.t 45), none, []⟩,
      ⟨(some 8), .mv (.t 46), none, []⟩])))))
 (.seq (.ops false [⟨(some 47), .mv (.t 7), none, []⟩,
   ⟨(some 4), .mv (.t 47), none, []⟩])
 .ret))))))))⟩
theorem code51 : acode Try.prog hints 51 = some L51 := by kernel_rfl

-- slices.Index[[]bool,bool]
def L77 : AFun := ⟨19, [.t 4],
 (.seq (.ops false [⟨(some 4), .mv (.k (iv 0)), none, []⟩])
 (.seq (.seq (.ops false [⟨(some 6), .mv (.t 0), none, []⟩,
    ⟨(some 7), .len false (.t 6), none, []⟩,
    ⟨(some 8), .mv (.k (iv 0)), none, []⟩])
  (.block 0 (.loop [0, 1, 7, 8] (.seq (.ops false [⟨(some 9), .bin .lss (.t 8) (.t 7), none, []⟩])
    (.seq (.cond (.t 9) .skip
      (.exit 0))
    (.seq (.block 1 (.seq (.ops false [⟨(some 10), .mv (.t 8), none, []⟩,
        ⟨(some 5), .mv (.t 10), none, []⟩])
      (.seq (.ops false [⟨(some 11), .mv (.t 1), none, []⟩,
        ⟨(some 12), .mv (.t 0), none, []⟩,
        ⟨(some 13), .mv (.t 5), none, []⟩,
        ⟨(some 14), .idxA 1 (.t 12) (.t 13), none, []⟩,
        ⟨(some 15), .load false 1 (.t 14), none, []⟩,
        ⟨(some 16), .beq false (.t 11) (.t 15), none, []⟩])
      (.cond (.t 16) (.seq (.ops false [⟨(some 17), .mv (.t 5), none, []⟩,
         ⟨(some 4), .mv (.t 17), none, []⟩])
       .ret)
       .skip))))
    (.ops false [⟨(some 18), .bin .add (.t 8) (.k (iv 1)), none, []⟩,
     ⟨(some 8), .mv (.t 18), none, []⟩])))))))
 (.seq (.ops false [⟨(some 4), .mv (.k (iv (-1))), none, []⟩])
 .ret)))⟩
theorem code77 : acode Try.prog hints 77 = some L77 := by kernel_rfl

-- slices.Contains[[]bool,bool]
def L52 : AFun := ⟨9, [.t 4],
 (.seq (.ops false [⟨(some 4), .mv (.k (bv false)), none, []⟩])
 (.seq (.ops false [⟨(some 5), .mv (.t 0), none, []⟩,
   ⟨(some 6), .mv (.t 1), none, []⟩,
   ⟨(some 7), .call (.f 77) [(.t 5), (.t 6)], none, []⟩,
   ⟨(some 8), .bin .geq (.t 7) (.k (iv 0)), none, []⟩,
   ⟨(some 4), .mv (.t 8), none, []⟩])
 .ret))⟩
theorem code52 : acode Try.prog hints 52 = some L52 := by kernel_rfl

-- spec.l03Reach
def L73 : AFun := ⟨49, [.t 6],
 (.seq (.ops false [⟨(some 6), .mv (.k (.c (.sl 0 0 0))), none, []⟩])
 (.seq (.ops false [⟨(some 12), .mv (.t 1), none, []⟩,
   ⟨(some 13), .len false (.t 12), none, []⟩,
   ⟨(some 14), .makeS 4 1 1 [.bool false] (.t 13) (.t 13), none, []⟩,
   ⟨(some 7), .mv (.t 14), none, []⟩])
 (.seq (.seq (.ops false [⟨(some 15), .mv (.t 1), none, []⟩,
    ⟨(some 16), .len false (.t 15), none, []⟩,
    ⟨(some 17), .mv (.k (iv 0)), none, []⟩])
  (.block 0 (.loop [0, 1, 2, 7, 16, 17] (.seq (.ops false [⟨(some 18), .bin .lss (.t 17) (.t 16), none, []⟩])
    (.seq (.cond (.t 18) .skip
      (.exit 0))
    (.seq (.block 1 (.seq (.ops false [⟨(some 19), .mv (.t 17), none, []⟩,
        ⟨(some 8), .mv (.t 19), none, []⟩])
      (.seq (.ops false [⟨(some 9), .mv (.k (iv 0)), none, []⟩])
      (.block 2 (.loop [0, 1, 2, 7, 8, 9, 16, 17] (.seq (.seq (.ops false [⟨(some 20), .mv (.t 9), none, []⟩,
           ⟨(some 21), .mv (.t 0), none, []⟩,
           ⟨(some 22), .nilChk (.t 21), none, []⟩,
           ⟨(some 23), .fieldA 0 (.t 22), none, []⟩,
           ⟨(some 24), .load false 1 (.t 23), none, []⟩,
           ⟨(some 25), .bin .lss (.t 20) (.t 24), none, []⟩,
           ⟨(some 26), .mv (.t 25), none, []⟩,
           ⟨(some 27), .mv (.t 1), (some (26, true)), []⟩,
           ⟨(some 28), .mv (.t 8), (some (26, true)), []⟩,
           ⟨(some 29), .idxA 1 (.t 27) (.t 28), (some (26, true)), []⟩,
           ⟨(some 30), .load false 1 (.t 29), (some (26, true)), []⟩,
           ⟨(some 31), .pick (.t 26) (.t 30) (.k (bv false)), none, []⟩])
         (.cond (.t 31) .skip
          (.exit 2)))
        (.seq (.block 3 (.seq (.ops false [⟨(some 35), .mv (.t 0), none, []⟩,
            ⟨(some 36), .mv (.t 8), none, []⟩,
            ⟨(some 37), .mv (.t 9), none, []⟩,
            ⟨(some 38), .call (.f 90) [(.t 35), (.t 36), (.t 37)], none, []⟩,
            ⟨(some 34), .mv (.t 38), none, []⟩,
            ⟨(some 39), .ext (.t 34) 0, none, []⟩,
            ⟨(some 40), .ext (.t 34) 1, none, []⟩,
            ⟨(some 10), .mv (.t 39), none, []⟩,
            ⟨(some 11), .mv (.t 40), none, []⟩])
          (.seq (.ops false [⟨(some 41), .mv (.t 11), none, []⟩,
            ⟨(some 42), .mv (.t 2), none, []⟩,
            ⟨(some 43), .bin .eql (.t 41) (.t 42), none, []⟩])
          (.cond (.t 43) (.ops false [⟨(some 44), .mv (.t 7), none, []⟩,
            ⟨(some 45), .mv (.t 10), none, []⟩,
            ⟨(some 46), .idxA 1 (.t 44) (.t 45), none, []⟩,
            ⟨none, .store 1 (.t 46) (.k (bv true)), none, []⟩])
           .skip))))
        (.ops false [⟨(some 32), .mv (.t 9), none, []⟩,
         ⟨(some 33), .bin .add (.t 32) (.k (iv 1)), none, []⟩,
         ⟨(some 9), .mv (.t 33), none, []⟩]))))))))
    (.ops false [⟨(some 47), .bin .add (.t 17) (.k (iv 1)), none, []⟩,
     ⟨(some 17), .mv (.t 47), none, []⟩])))))))
 (.seq (.ops false [⟨(some 48), .mv (.t 7), none, []⟩,
   ⟨(some 6), .mv (.t 48), none, []⟩])
 .ret))))⟩
theorem code73 : acode Try.prog hints 73 = some L73 := by kernel_rfl

-- spec.l03None
def L74 : AFun := ⟨14, [.t 2],
 (.seq (.ops false [⟨(some 2), .mv (.k (bv false)), none, []⟩])
 (.seq (.seq (.ops false [⟨(some 4), .mv (.t 0), none, []⟩,
    ⟨(some 5), .len false (.t 4), none, []⟩,
    ⟨(some 6), .mv (.k (iv 0)), none, []⟩])
  (.block 0 (.loop [0, 5, 6] (.seq (.ops false [⟨(some 7), .bin .lss (.t 6) (.t 5), none, []⟩])
    (.seq (.cond (.t 7) .skip
      (.exit 0))
    (.seq (.block 1 (.seq (.ops false [⟨(some 8), .mv (.t 6), none, []⟩,
        ⟨(some 3), .mv (.t 8), none, []⟩])
      (.seq (.ops false [⟨(some 9), .mv (.t 0), none, []⟩,
        ⟨(some 10), .mv (.t 3), none, []⟩,
        ⟨(some 11), .idxA 1 (.t 9) (.t 10), none, []⟩,
        ⟨(some 12), .load false 1 (.t 11), none, []⟩])
      (.cond (.t 12) (.seq (.ops false [⟨(some 2), .mv (.k (bv false)), none, []⟩])
       .ret)
       .skip))))
    (.ops false [⟨(some 13), .bin .add (.t 6) (.k (iv 1)), none, []⟩,
     ⟨(some 6), .mv (.t 13), none, []⟩])))))))
 (.seq (.ops false [⟨(some 2), .mv (.k (bv true)), none, []⟩])
 .ret)))⟩
theorem code74 : acode Try.prog hints 74 = some L74 := by kernel_rfl

-- spec.l03Full
def L72 : AFun := ⟨18, [.t 2],
 (.seq (.ops false [⟨(some 2), .mv (.k (.c (.sl 0 0 0))), none, []⟩])
 (.seq (.ops false [⟨(some 5), .mv (.t 0), none, []⟩,
   ⟨(some 6), .call (.f 89) [(.t 5)], none, []⟩,
   ⟨(some 7), .makeS 4 1 1 [.bool false] (.t 6) (.t 6), none, []⟩,
   ⟨(some 3), .mv (.t 7), none, []⟩])
 (.seq (.seq (.ops false [⟨(some 8), .mv (.t 3), none, []⟩,
    ⟨(some 9), .len false (.t 8), none, []⟩,
    ⟨(some 10), .mv (.k (iv 0)), none, []⟩])
  (.block 0 (.loop [3, 9, 10] (.seq (.ops false [⟨(some 11), .bin .lss (.t 10) (.t 9), none, []⟩])
    (.seq (.cond (.t 11) .skip
      (.exit 0))
    (.seq (.block 1 (.seq (.ops false [⟨(some 12), .mv (.t 10), none, []⟩,
        ⟨(some 4), .mv (.t 12), none, []⟩])
      (.ops false [⟨(some 13), .mv (.t 3), none, []⟩,
       ⟨(some 14), .mv (.t 4), none, []⟩,
       ⟨(some 15), .idxA 1 (.t 13) (.t 14), none, []⟩,
       ⟨none, .store 1 (.t 15) (.k (bv true)), none, []⟩])))
    (.ops false [⟨(some 16), .bin .add (.t 10) (.k (iv 1)), none, []⟩,
     ⟨(some 10), .mv (.t 16), none, []⟩])))))))
 (.seq (.ops false [⟨(some 17), .mv (.t 3), none, []⟩,
   ⟨(some 2), .mv (.t 17), none, []⟩])
 .ret))))⟩
theorem code72 : acode Try.prog hints 72 = some L72 := by kernel_rfl

-- spec.l03Same
def L75 : AFun := ⟨21, [.t 4],
 (.seq (.ops false [⟨(some 4), .mv (.k (bv false)), none, []⟩])
 (.seq (.seq (.ops false [⟨(some 6), .mv (.t 0), none, []⟩,
    ⟨(some 7), .len false (.t 6), none, []⟩,
    ⟨(some 8), .mv (.k (iv 0)), none, []⟩])
  (.block 0 (.loop [0, 1, 7, 8] (.seq (.ops false [⟨(some 9), .bin .lss (.t 8) (.t 7), none, []⟩])
    (.seq (.cond (.t 9) .skip
      (.exit 0))
    (.seq (.block 1 (.seq (.ops false [⟨(some 10), .mv (.t 8), none, []⟩,
        ⟨(some 5), .mv (.t 10), none, []⟩])
      (.seq (.ops true [⟨(some 11), .mv (.t 0), none, []⟩,
        ⟨(some 12), .mv (.t 5), none, []⟩,
        ⟨(some 13), .idxA 1 (.t 11) (.t 12), none, []⟩,
        ⟨(some 14), .load false 1 (.t 13), none, []⟩,
        ⟨(some 15), .mv (.t 1), none, []⟩,
        ⟨(some 16), .mv (.t 5), none, []⟩,
        ⟨(some 17), .idxA 1 (.t 15) (.t 16), none, []⟩,
        ⟨(some 18), .load false 1 (.t 17), none, []⟩,
        ⟨(some 19), .beq true (.t 14) (.t 18), none, []⟩])
      (.cond (.t 19) (.seq (.ops false [⟨(some 4), .mv (.k (bv false)), none, []⟩])
       .ret)
       .skip))))
    (.ops false [⟨(some 20), .bin .add (.t 8) (.k (iv 1)), none, []⟩,
     ⟨(some 8), .mv (.t 20), none, []⟩])))))))
 (.seq (.ops false [⟨(some 4), .mv (.k (bv true)), none, []⟩])
 .ret)))⟩
theorem code75 : acode Try.prog hints 75 = some L75 := by kernel_rfl


abbrev bools (e : List Bool) : AObj := .rw 4 1 (e.map bc)
theorem c_repeatB {s : St} [Wf s] {id E : Nat} [hx : ArgE bc s id 0 [true]] (hE : E = 1 ∨ E = 4 ∨ E = 9 ∨ E = 16 ∨ E = 81) : Fn [] 51 [.c (.sl id 0 1), iv E] s fun r N => ∃ p, r = .c (.sl p 0 E) ∧ N = [(p, bools (List.replicate E true))] := by
  refine F_start code51 ?_
  repeat' (first
 | refine A_go rfl ?_ | refine A_ifT rfl rfl ?_ | refine A_ifF rfl rfl ?_
 | refine A_offP rfl rfl ?_ | refine A_offH rfl rfl ?_ | refine A_off0 rfl rfl ?_
 | refine A_add rfl rfl rfl (by omega) ?_
 | ((first | refine A_lt rfl rfl rfl ?_ ?_ | refine A_gt rfl rfl rfl ?_ ?_) <;> intro hc <;> try first | contradiction | (exfalso; omega) | exact absurd rfl hc)
 | refine A_convU rfl rfl (by omega) ?_
 | refine A_convI rfl rfl (by omega) ?_
 | refine A_callV rfl rfl (fun s H => c_bitsMul (by omega)) ?_
 | (refine A_makeN (enc := bc) (a := false) rfl rfl rfl (by omega) ?_ <;> intro pz hpz)
 | refine A_copyE (enc := bc) (news := [true]) 1 rfl rfl rfl (fun s H => inferInstance) (by simp <;> omega) ?_
 | refine A_p (by rfl) rfl ?_
 | ((first | refine A_makeN rfl rfl rfl (by omega) ?_ | refine A_make rfl rfl rfl (by omega) ?_) <;> intro pz hpz)
 | refine A_ret1 rfl (by exact (RP.t rfl RP.nil)) ?_)
  refine A_loop rfl [pz] (fun m fr L => ∃ (n : Nat), m = E - n ∧ fr = [(7, .c (.sl pz 0 E)), (8, iv n)] ∧ L = [(pz, bools (List.replicate n true ++ List.replicate (E - n) false))] ∧ 1 ≤ n ∧ n ≤ E) (E - 1) ⟨1, rfl, rfl, by simp [List.drop_replicate], by omega, by omega⟩ ?_
  rintro m fr L ⟨n, rfl, rfl, rfl, h1, h2⟩
  by_cases hn : n < E
  · have hfl : (List.replicate n true ++ List.replicate (E - n) false).length = E := by simp; omega
    obtain ⟨c, hc⟩ : ∃ c, min n (E - n) = c := ⟨_, rfl⟩
    have hpre : ((List.replicate n true ++ List.replicate (E - n) false).drop 0).take c = List.replicate c true := by
      rw [List.drop_zero, List.take_append_of_le_length (by simp; omega), List.take_replicate, Nat.min_eq_left (by omega)]
    repeat' (first
 | refine A_go rfl ?_ | refine A_ifT rfl rfl ?_ | refine A_ifF rfl rfl ?_
 | refine A_offP rfl rfl ?_ | refine A_offH rfl rfl ?_ | refine A_off0 rfl rfl ?_
 | refine A_add rfl rfl rfl (by omega) ?_
 | ((first | refine A_lt rfl rfl rfl ?_ ?_ | refine A_gt rfl rfl rfl ?_ ?_) <;> intro hc <;> try first | contradiction | (exfalso; omega) | exact absurd rfl hc)
 | refine A_slFrom rfl rfl rfl (by omega) ?_
 | refine A_slTo rfl rfl rfl (by omega) ?_
 | refine A_p (by rfl) rfl ?_
 | ((first | refine A_makeN rfl rfl rfl (by omega) ?_ | refine A_make rfl rfl rfl (by omega) ?_) <;> intro pz hpz)
 | refine A_ret1 rfl (by exact (RP.t rfl RP.nil)) ?_)
    refine A_copyE (enc := bc) (news := List.replicate c true) c rfl rfl rfl (fun s H => ?_) ⟨by simp; omega, by simp, by simp; omega, by omega⟩ ?_
    · have h := (inferInstance : ArgE bc s pz 0 (List.replicate n true ++ List.replicate (E - n) false)).part (a := 0) (n := c) (by omega) (by omega)
      rw [hpre] at h; exact h
    repeat' (first
 | refine A_go rfl ?_ | refine A_ifT rfl rfl ?_ | refine A_ifF rfl rfl ?_
 | refine A_offP rfl rfl ?_ | refine A_offH rfl rfl ?_ | refine A_off0 rfl rfl ?_
 | refine A_add rfl rfl rfl (by omega) ?_
 | ((first | refine A_lt rfl rfl rfl ?_ ?_ | refine A_gt rfl rfl rfl ?_ ?_) <;> intro hc <;> try first | contradiction | (exfalso; omega) | exact absurd rfl hc)
 | refine A_p (by rfl) rfl ?_
 | ((first | refine A_makeN rfl rfl rfl (by omega) ?_ | refine A_make rfl rfl rfl (by omega) ?_) <;> intro pz hpz)
 | refine A_ret1 rfl (by exact (RP.t rfl RP.nil)) ?_)
    refine A_round rfl [pz] (E - (n + c)) (by omega) ?_
    refine ⟨n + c, rfl, rfl, ?_, by omega, by omega⟩
    have e0 : 0 + (n : Int).toNat * 1 = n := by omega
    rw [e0]
    congr 3
    rw [List.take_left' (by simp), List.replicate_append_replicate]
    congr 1
    rw [← List.drop_drop, List.drop_left' (by simp), List.drop_replicate, show E - n - c = E - (n + c) by omega]
  · obtain rfl : E = n := by omega
    repeat' (first
 | refine A_go rfl ?_ | refine A_ifT rfl rfl ?_ | refine A_ifF rfl rfl ?_
 | refine A_offP rfl rfl ?_ | refine A_offH rfl rfl ?_ | refine A_off0 rfl rfl ?_
 | refine A_add rfl rfl rfl (by omega) ?_
 | ((first | refine A_lt rfl rfl rfl ?_ ?_ | refine A_gt rfl rfl rfl ?_ ?_) <;> intro hc <;> try first | contradiction | (exfalso; omega) | exact absurd rfl hc)
 | refine A_p (by rfl) rfl ?_
 | ((first | refine A_makeN rfl rfl rfl (by omega) ?_ | refine A_make rfl rfl rfl (by omega) ?_) <;> intro pz hpz)
 | refine A_ret1 rfl (by exact (RP.t rfl RP.nil)) ?_)
    rw [Nat.sub_self, List.replicate_zero, List.append_nil]
    exact R_s ⟨pz, rfl, rfl⟩
theorem noEnd_take {e : List Bool} {i : Nat} (h : ∀ x ∈ e.take i, x = false) (hi : i < e.length) (hx : e.getD i false = false) : ∀ x ∈ e.take (i + 1), x = false := fun x hm => by
  rw [List.take_add_one, getD_some false hi] at hm
  rcases List.mem_append.1 hm with g | g
  · exact h x g
  · simp at g; rw [g]; rw [List.getD_eq_getElem?_getD] at hx; exact hx
theorem c_indexB {s : St} [Wf s] {id off len : Nat} {e : List Bool} [h : ArgE bc s id off e] (hl : e.length = len) (hb : len ≤ 2000000) :
    Fn [] 77 [.c (.sl id off len), bv true] s fun r N => (∃ i : Int, r = iv i ∧ (0 ≤ i ↔ ¬ NoEnd e)) ∧ N = [] := by
  refine F_start code77 ?_
  repeat' (first
 | refine A_go rfl ?_ | refine A_ifT rfl rfl ?_ | refine A_ifF rfl rfl ?_
 | refine A_add rfl rfl rfl (by omega) ?_
 | ((first | refine A_lt rfl rfl rfl ?_ ?_ | refine A_beq rfl rfl rfl ?_ ?_) <;> intro hc <;> try first | contradiction | (exfalso; omega) | exact absurd rfl hc)
 | refine A_idxN1 rfl rfl rfl (by omega) ?_ | refine A_idx1 rfl rfl rfl (by omega) ?_
 | refine A_p (by rfl) rfl ?_
 | refine A_ldI rfl (by first | omega | (simp; done) | (simp; omega)) rfl ?_ | refine A_ldB rfl (by first | omega | (simp; done) | (simp; omega)) rfl ?_ | refine A_ld rfl (by rfl) rfl ?_
 | refine A_ret1 rfl (by exact (RP.t rfl RP.nil)) ?_)
  refine A_loop rfl [] (fun m fr L => ∃ i : Nat, m = len - i ∧ fr = [(0, .c (.sl id off len)), (1, bv true), (7, iv len), (8, iv i)] ∧ L = [] ∧ i ≤ len ∧ ∀ x ∈ e.take i, x = false) len ⟨0, rfl, rfl, rfl, by omega, by simp⟩ ?_
  rintro m fr L ⟨i, rfl, rfl, rfl, hi, ht⟩
  by_cases hi' : i < len
  · repeat' (first
 | refine A_go rfl ?_ | refine A_ifT rfl rfl ?_ | refine A_ifF rfl rfl ?_
 | refine A_add rfl rfl rfl (by omega) ?_
 | ((first | refine A_lt rfl rfl rfl ?_ ?_ | refine A_beq rfl rfl rfl ?_ ?_) <;> intro hc <;> try first | contradiction | (exfalso; omega) | exact absurd rfl hc)
 | refine A_idxN1 rfl rfl rfl (by omega) ?_ | refine A_idx1 rfl rfl rfl (by omega) ?_
 | refine A_p (by rfl) rfl ?_
 | refine A_ldI rfl (by first | omega | (simp; done) | (simp; omega)) rfl ?_ | refine A_ldB rfl (by first | omega | (simp; done) | (simp; omega)) rfl ?_ | refine A_ld rfl (by rfl) rfl ?_
 | refine A_ret1 rfl (by exact (RP.t rfl RP.nil)) ?_)
    · exact R_n [] ⟨⟨i, rfl, ⟨fun _ hn => by have := hn _ (getD_mem (d := false) (show i < e.length by omega)); rw [← hc] at this; exact absurd this (by decide), fun _ => by omega⟩⟩, rfl⟩
    · refine A_round rfl [] (len - (i + 1)) (by omega) ?_
      exact ⟨i + 1, rfl, rfl, rfl, by omega, noEnd_take ht (by omega) (by cases hx : e.getD i false with | true => exact absurd hx.symm hc | false => rfl)⟩
  · obtain rfl : len = i := by omega
    rw [List.take_of_length_le (by omega)] at ht
    repeat' (first
 | refine A_go rfl ?_ | refine A_ifT rfl rfl ?_ | refine A_ifF rfl rfl ?_
 | refine A_add rfl rfl rfl (by omega) ?_
 | ((first | refine A_lt rfl rfl rfl ?_ ?_ | refine A_beq rfl rfl rfl ?_ ?_) <;> intro hc <;> try first | contradiction | (exfalso; omega) | exact absurd rfl hc)
 | refine A_idxN1 rfl rfl rfl (by omega) ?_ | refine A_idx1 rfl rfl rfl (by omega) ?_
 | refine A_p (by rfl) rfl ?_
 | refine A_ldI rfl (by first | omega | (simp; done) | (simp; omega)) rfl ?_ | refine A_ldB rfl (by first | omega | (simp; done) | (simp; omega)) rfl ?_ | refine A_ld rfl (by rfl) rfl ?_
 | refine A_ret1 rfl (by exact (RP.t rfl RP.nil)) ?_)
    exact R_n [] ⟨⟨-1, rfl, ⟨fun h => by omega, fun h => absurd ht h⟩⟩, rfl⟩
theorem c_containsB {s : St} [Wf s] {id off len : Nat} {e : List Bool} [h : ArgE bc s id off e] (hl : e.length = len := by first | rfl | simp | omega | (simp; omega)) (hb : len ≤ 2000000 := by omega) :
    FnB 52 [.c (.sl id off len), bv true] s (¬ NoEnd e) := by
  refine F_start code52 ?_
  repeat' (first
 | refine A_go rfl ?_ | refine A_ifT rfl rfl ?_ | refine A_ifF rfl rfl ?_
 | ((first | refine A_ge rfl rfl rfl ?_ ?_) <;> intro hc <;> try first | contradiction | (exfalso; omega) | exact absurd rfl hc)
 | (refine A_callM rfl rfl (fun s H => c_indexB hl hb) ?_; rintro _ _ ⟨⟨ix, rfl, hix⟩, rfl⟩) | (refine A_callM0 rfl rfl (fun s H => c_indexB hl hb) ?_; rintro _ _ ⟨⟨ix, rfl, hix⟩, rfl⟩)
 | refine A_p (by rfl) rfl ?_
 | refine A_ret1 rfl (by exact (RP.t rfl RP.nil)) ?_)
  · exact R_t (hix.1 hc)
  · exact R_f fun h => by have := hix.2 h; omega
theorem c_none {s : St} [Wf s] {id off len : Nat} {e : List Bool} [h : ArgE bc s id off e] (hl : e.length = len := by first | rfl | simp | omega | (simp; omega)) (hb : len ≤ 2000000 := by omega) :
    FnB 74 [.c (.sl id off len)] s (NoEnd e) := by
  refine F_start code74 ?_
  repeat' (first
 | refine A_go rfl ?_ | refine A_ifT rfl rfl ?_ | refine A_ifF rfl rfl ?_
 | refine A_add rfl rfl rfl (by omega) ?_
 | ((first | refine A_lt rfl rfl rfl ?_ ?_) <;> intro hc <;> try first | contradiction | (exfalso; omega) | exact absurd rfl hc)
 | refine A_idxN1 rfl rfl rfl (by omega) ?_ | refine A_idx1 rfl rfl rfl (by omega) ?_
 | refine A_p (by rfl) rfl ?_
 | refine A_ldI rfl (by first | omega | (simp; done) | (simp; omega)) rfl ?_ | refine A_ldB rfl (by first | omega | (simp; done) | (simp; omega)) rfl ?_ | refine A_ld rfl (by rfl) rfl ?_
 | refine A_ret1 rfl (by exact (RP.t rfl RP.nil)) ?_)
  refine A_loop rfl [] (fun m fr L => ∃ i : Nat, m = len - i ∧ fr = [(0, .c (.sl id off len)), (5, iv len), (6, iv i)] ∧ L = [] ∧ i ≤ len ∧ ∀ x ∈ e.take i, x = false) len ⟨0, rfl, rfl, rfl, by omega, by simp⟩ ?_
  rintro m fr L ⟨i, rfl, rfl, rfl, hi, ht⟩
  by_cases hi' : i < len
  · cases hx : e.getD i false with
    | true =>
      repeat' (first
 | refine A_go rfl ?_ | refine A_ifT rfl rfl ?_ | refine A_ifF rfl rfl ?_
 | refine A_add rfl rfl rfl (by omega) ?_
 | ((first | refine A_lt rfl rfl rfl ?_ ?_) <;> intro hc <;> try first | contradiction | (exfalso; omega) | exact absurd rfl hc)
 | refine A_idxN1 rfl rfl rfl (by omega) ?_ | refine A_idx1 rfl rfl rfl (by omega) ?_
 | rw [hx]
 | refine A_p (by rfl) rfl ?_
 | refine A_ldI rfl (by first | omega | (simp; done) | (simp; omega)) rfl ?_ | refine A_ldB rfl (by first | omega | (simp; done) | (simp; omega)) rfl ?_ | refine A_ld rfl (by rfl) rfl ?_
 | refine A_ret1 rfl (by exact (RP.t rfl RP.nil)) ?_)
      exact R_f fun hn => by have := hn _ (getD_mem (d := false) (show i < e.length by omega)); rw [hx] at this; exact absurd this (by decide)
    | false =>
      repeat' (first
 | refine A_go rfl ?_ | refine A_ifT rfl rfl ?_ | refine A_ifF rfl rfl ?_
 | refine A_add rfl rfl rfl (by omega) ?_
 | ((first | refine A_lt rfl rfl rfl ?_ ?_) <;> intro hc <;> try first | contradiction | (exfalso; omega) | exact absurd rfl hc)
 | refine A_idxN1 rfl rfl rfl (by omega) ?_ | refine A_idx1 rfl rfl rfl (by omega) ?_
 | rw [hx]
 | refine A_p (by rfl) rfl ?_
 | refine A_ldI rfl (by first | omega | (simp; done) | (simp; omega)) rfl ?_ | refine A_ldB rfl (by first | omega | (simp; done) | (simp; omega)) rfl ?_ | refine A_ld rfl (by rfl) rfl ?_
 | refine A_ret1 rfl (by exact (RP.t rfl RP.nil)) ?_)
      refine A_round rfl [] (len - (i + 1)) (by omega) ?_
      exact ⟨i + 1, rfl, rfl, rfl, by omega, noEnd_take ht (by omega) hx⟩
  · obtain rfl : len = i := by omega
    rw [List.take_of_length_le (by omega)] at ht
    repeat' (first
 | refine A_go rfl ?_ | refine A_ifT rfl rfl ?_ | refine A_ifF rfl rfl ?_
 | refine A_add rfl rfl rfl (by omega) ?_
 | ((first | refine A_lt rfl rfl rfl ?_ ?_) <;> intro hc <;> try first | contradiction | (exfalso; omega) | exact absurd rfl hc)
 | refine A_idxN1 rfl rfl rfl (by omega) ?_ | refine A_idx1 rfl rfl rfl (by omega) ?_
 | refine A_p (by rfl) rfl ?_
 | refine A_ldI rfl (by first | omega | (simp; done) | (simp; omega)) rfl ?_ | refine A_ldB rfl (by first | omega | (simp; done) | (simp; omega)) rfl ?_ | refine A_ld rfl (by rfl) rfl ?_
 | refine A_ret1 rfl (by exact (RP.t rfl RP.nil)) ?_)
    exact R_t ht
theorem c_sameB {s : St} [Wf s] {id off len id2 off2 : Nat} {e f : List Bool} [h : ArgE bc s id off e] [h' : ArgE bc s id2 off2 f] (hl : e.length = len) (hl2 : f.length = len) (hb : len ≤ 2000000) :
    FnB 75 [.c (.sl id off len), .c (.sl id2 off2 len)] s (e = f) := by
  refine F_start code75 ?_
  repeat' (first
 | refine A_go rfl ?_ | refine A_ifT rfl rfl ?_ | refine A_ifF rfl rfl ?_
 | refine A_add rfl rfl rfl (by omega) ?_
 | ((first | refine A_lt rfl rfl rfl ?_ ?_ | refine A_beq rfl rfl rfl ?_ ?_) <;> intro hc <;> try first | contradiction | (exfalso; omega) | exact absurd rfl hc)
 | refine A_idxN1 rfl rfl rfl (by omega) ?_ | refine A_idx1 rfl rfl rfl (by omega) ?_
 | refine A_p (by rfl) rfl ?_
 | refine A_ldI rfl (by first | omega | (simp; done) | (simp; omega)) rfl ?_ | refine A_ldB rfl (by first | omega | (simp; done) | (simp; omega)) rfl ?_ | refine A_ld rfl (by rfl) rfl ?_
 | refine A_ret1 rfl (by exact (RP.t rfl RP.nil)) ?_)
  refine A_loop rfl [] (fun m fr L => ∃ i : Nat, m = len - i ∧ fr = [(0, .c (.sl id off len)), (1, .c (.sl id2 off2 len)), (7, iv len), (8, iv i)] ∧ L = [] ∧ i ≤ len ∧ e.take i = f.take i) len ⟨0, rfl, rfl, rfl, by omega, by simp⟩ ?_
  rintro m fr L ⟨i, rfl, rfl, rfl, hi, ht⟩
  by_cases hi' : i < len
  · repeat' (first
 | refine A_go rfl ?_ | refine A_ifT rfl rfl ?_ | refine A_ifF rfl rfl ?_
 | refine A_add rfl rfl rfl (by omega) ?_
 | ((first | refine A_lt rfl rfl rfl ?_ ?_ | refine A_beq rfl rfl rfl ?_ ?_) <;> intro hc <;> try first | contradiction | (exfalso; omega) | exact absurd rfl hc)
 | refine A_idxN1 rfl rfl rfl (by omega) ?_ | refine A_idx1 rfl rfl rfl (by omega) ?_
 | refine A_p (by rfl) rfl ?_
 | refine A_ldI rfl (by first | omega | (simp; done) | (simp; omega)) rfl ?_ | refine A_ldB rfl (by first | omega | (simp; done) | (simp; omega)) rfl ?_ | refine A_ld rfl (by rfl) rfl ?_
 | refine A_ret1 rfl (by exact (RP.t rfl RP.nil)) ?_)
    · refine A_round rfl [] (len - (i + 1)) (by omega) ?_
      refine ⟨i + 1, rfl, rfl, rfl, by omega, ?_⟩
      rw [List.take_add_one, List.take_add_one, ht, getD_some false (by omega), getD_some false (by omega), hc]
    · exact R_f fun g => by rw [g] at hc; exact absurd rfl hc
  · obtain rfl : len = i := by omega
    repeat' (first
 | refine A_go rfl ?_ | refine A_ifT rfl rfl ?_ | refine A_ifF rfl rfl ?_
 | refine A_add rfl rfl rfl (by omega) ?_
 | ((first | refine A_lt rfl rfl rfl ?_ ?_ | refine A_beq rfl rfl rfl ?_ ?_) <;> intro hc <;> try first | contradiction | (exfalso; omega) | exact absurd rfl hc)
 | refine A_idxN1 rfl rfl rfl (by omega) ?_ | refine A_idx1 rfl rfl rfl (by omega) ?_
 | refine A_p (by rfl) rfl ?_
 | refine A_ldI rfl (by first | omega | (simp; done) | (simp; omega)) rfl ?_ | refine A_ldB rfl (by first | omega | (simp; done) | (simp; omega)) rfl ?_ | refine A_ld rfl (by rfl) rfl ?_
 | refine A_ret1 rfl (by exact (RP.t rfl RP.nil)) ?_)
    rw [List.take_of_length_le (by omega), List.take_of_length_le (by omega)] at ht
    exact R_t ht
theorem c_full {s : St} [Wf s] {q : Nat} {S w E : Nat} {re : Int} {v : AC} [hq : Ref s q [ic S, ic re, v]] (hE : E = S ^ (w - 1)) (hS : 2 ≤ S ∧ S ≤ 3 := by omega) (hw : 2 * re + 1 = w ∧ 1 ≤ w ∧ w ≤ 5 := by omega) (hEb : 1 ≤ E ∧ E ≤ 81 := by omega) :
    Fn [] 72 [.c (.ptr q 0)] s fun V N => ∃ p, V = .c (.sl p 0 E) ∧ N = [(p, bools (List.replicate E true))] := by
  refine F_start code72 ?_
  repeat' (first
 | refine A_go rfl ?_ | refine A_ifT rfl rfl ?_ | refine A_ifF rfl rfl ?_
 | refine A_add rfl rfl rfl (by omega) ?_
 | ((first | refine A_lt rfl rfl rfl ?_ ?_) <;> intro hc <;> try first | contradiction | (exfalso; omega) | exact absurd rfl hc)
 | refine A_idxN1 rfl rfl rfl (by omega) ?_ | refine A_idx1 rfl rfl rfl (by omega) ?_
 | refine A_callV rfl rfl (fun s H => c_l03Ends (hE := hE)) ?_
 | (refine A_makeN (enc := bc) (a := false) rfl rfl rfl (by omega) ?_ <;> intro pz hpz)
 | refine A_p (by rfl) rfl ?_
 | refine A_st rfl rfl rfl ?_ | refine A_stE rfl rfl (by first | omega | (simp; done) | (simp; omega)) rfl ?_
 | ((first | refine A_makeN rfl rfl rfl (by omega) ?_ | refine A_make rfl rfl rfl (by omega) ?_) <;> intro pz hpz)
 | refine A_ret1 rfl (by exact (RP.t rfl RP.nil)) ?_)
  refine A_loop rfl [pz] (fun m fr L => ∃ i : Nat, m = E - i ∧ fr = [(3, .c (.sl pz 0 E)), (9, iv E), (10, iv i)] ∧ L = [(pz, bools (List.replicate i true ++ List.replicate (E - i) false))] ∧ i ≤ E) E ⟨0, rfl, rfl, rfl, by omega⟩ ?_
  rintro m fr L ⟨i, rfl, rfl, rfl, hi⟩
  by_cases hi' : i < E
  · have hl : (List.replicate i true ++ List.replicate (E - i) false).length = E := by simp; omega
    have hset : (List.replicate i true ++ List.replicate (E - i) false).set i true = List.replicate (i + 1) true ++ List.replicate (E - (i + 1)) false := by
      rw [set_app_len (by simp), show E - i = (E - (i + 1)) + 1 by omega, List.replicate_succ (n := E - (i + 1)), List.set_cons_zero, List.replicate_succ' (n := i), List.append_assoc]; rfl
    repeat' (first
 | refine A_go rfl ?_ | refine A_ifT rfl rfl ?_ | refine A_ifF rfl rfl ?_
 | refine A_add rfl rfl rfl (by omega) ?_
 | ((first | refine A_lt rfl rfl rfl ?_ ?_) <;> intro hc <;> try first | contradiction | (exfalso; omega) | exact absurd rfl hc)
 | refine A_idxN1 rfl rfl rfl (by omega) ?_ | refine A_idx1 rfl rfl rfl (by omega) ?_
 | refine A_stE (enc := bc) (a := true) rfl rfl (by omega) rfl ?_
 | refine A_p (by rfl) rfl ?_
 | refine A_st rfl rfl rfl ?_ | refine A_stE rfl rfl (by first | omega | (simp; done) | (simp; omega)) rfl ?_
 | ((first | refine A_makeN rfl rfl rfl (by omega) ?_ | refine A_make rfl rfl rfl (by omega) ?_) <;> intro pz hpz)
 | refine A_ret1 rfl (by exact (RP.t rfl RP.nil)) ?_)
    refine A_round rfl [pz] (E - (i + 1)) (by omega) ?_
    exact ⟨i + 1, rfl, rfl, by rw [← hset], by omega⟩
  · obtain rfl : E = i := by omega
    repeat' (first
 | refine A_go rfl ?_ | refine A_ifT rfl rfl ?_ | refine A_ifF rfl rfl ?_
 | refine A_add rfl rfl rfl (by omega) ?_
 | ((first | refine A_lt rfl rfl rfl ?_ ?_) <;> intro hc <;> try first | contradiction | (exfalso; omega) | exact absurd rfl hc)
 | refine A_idxN1 rfl rfl rfl (by omega) ?_ | refine A_idx1 rfl rfl rfl (by omega) ?_
 | refine A_p (by rfl) rfl ?_
 | refine A_st rfl rfl rfl ?_ | refine A_stE rfl rfl (by first | omega | (simp; done) | (simp; omega)) rfl ?_
 | ((first | refine A_makeN rfl rfl rfl (by omega) ?_ | refine A_make rfl rfl rfl (by omega) ?_) <;> intro pz hpz)
 | refine A_ret1 rfl (by exact (RP.t rfl RP.nil)) ?_)
    rw [Nat.sub_self, List.replicate_zero, List.append_nil]
    exact R_s ⟨pz, rfl, rfl⟩
theorem c_reach {s : St} [Wf s] {q : Nat} {S w E ide offe : Nat} {re to : Int} {e : List Bool} {id_xs off_xs len_xs : Nat} {xs : List Int} [h_xs : ArgE ic s id_xs off_xs xs] (hl_xs : xs.length = len_xs := by first | rfl | simp | omega | (simp; omega)) [hq : Ref s q [ic S, ic re, .sl id_xs off_xs len_xs]] [he : ArgE bc s ide offe e] (hel : e.length = E) (hE : E = S ^ (w - 1)) (hl : xs.length = E * S) (hS : 2 ≤ S ∧ S ≤ 3 := by omega) (hw : 2 * re + 1 = w ∧ 1 ≤ w ∧ w ≤ 5 := by omega) (hEb : 1 ≤ E ∧ E ≤ 81 := by omega) :
    Fn [] 73 [.c (.ptr q 0), .c (.sl ide offe E), iv to] s fun V N => ∃ p, V = .c (.sl p 0 E) ∧ N = [(p, bools (rch S E xs e to))] := by
  refine F_start code73 ?_
  repeat' (first
 | refine A_go rfl ?_ | refine A_ifT rfl rfl ?_ | refine A_ifF rfl rfl ?_
 | refine A_offP rfl rfl ?_ | refine A_offH rfl rfl ?_ | refine A_off0 rfl rfl ?_
 | refine A_add rfl rfl rfl (by omega) ?_
 | ((first | refine A_lt rfl rfl rfl ?_ ?_ | refine A_eq rfl rfl rfl ?_ ?_) <;> intro hc <;> try first | contradiction | (exfalso; omega) | exact absurd rfl hc)
 | refine A_idxN1 rfl rfl rfl (by omega) ?_ | refine A_idx1 rfl rfl rfl (by omega) ?_
 | (refine A_makeN (enc := bc) (a := false) rfl rfl rfl (by omega) ?_ <;> intro pz hpz)
 | refine A_fld rfl rfl ?_ | refine A_p (by rfl) rfl ?_
 | refine A_ldI rfl (by first | omega | (simp; done) | (simp; omega)) rfl ?_ | refine A_ldB rfl (by first | omega | (simp; done) | (simp; omega)) rfl ?_ | refine A_ld rfl (by rfl) rfl ?_
 | refine A_st rfl rfl rfl ?_ | refine A_stE rfl rfl (by first | omega | (simp; done) | (simp; omega)) rfl ?_
 | ((first | refine A_makeN rfl rfl rfl (by omega) ?_ | refine A_make rfl rfl rfl (by omega) ?_) <;> intro pz hpz)
 | refine A_ret1 rfl (by exact (RP.t rfl RP.nil)) ?_)
  refine A_loop rfl [pz] (fun m fr L => ∃ a : Nat, m = E - a ∧ fr = [(0, .c (.ptr q 0)), (1, .c (.sl ide offe E)), (2, iv to), (7, .c (.sl pz 0 E)), (16, iv E), (17, iv a)] ∧ L = [(pz, bools (rchN S E xs e to (a * S)))] ∧ a ≤ E) E ⟨0, rfl, rfl, by rw [Nat.zero_mul]; rfl, by omega⟩ ?_
  rintro m fr L ⟨a, rfl, rfl, rfl, ha⟩
  by_cases ha' : a < E
  case neg =>
    obtain rfl : E = a := by omega
    repeat' (first
 | refine A_go rfl ?_ | refine A_ifT rfl rfl ?_ | refine A_ifF rfl rfl ?_
 | refine A_offP rfl rfl ?_ | refine A_offH rfl rfl ?_ | refine A_off0 rfl rfl ?_
 | refine A_add rfl rfl rfl (by omega) ?_
 | ((first | refine A_lt rfl rfl rfl ?_ ?_ | refine A_eq rfl rfl rfl ?_ ?_) <;> intro hc <;> try first | contradiction | (exfalso; omega) | exact absurd rfl hc)
 | refine A_idxN1 rfl rfl rfl (by omega) ?_ | refine A_idx1 rfl rfl rfl (by omega) ?_
 | refine A_fld rfl rfl ?_ | refine A_p (by rfl) rfl ?_
 | refine A_ldI rfl (by first | omega | (simp; done) | (simp; omega)) rfl ?_ | refine A_ldB rfl (by first | omega | (simp; done) | (simp; omega)) rfl ?_ | refine A_ld rfl (by rfl) rfl ?_
 | refine A_st rfl rfl rfl ?_ | refine A_stE rfl rfl (by first | omega | (simp; done) | (simp; omega)) rfl ?_
 | ((first | refine A_makeN rfl rfl rfl (by omega) ?_ | refine A_make rfl rfl rfl (by omega) ?_) <;> intro pz hpz)
 | refine A_ret1 rfl (by exact (RP.t rfl RP.nil)) ?_)
    exact R_s (N := [(pz, bools (rchN S E xs e to (E * S)))]) ⟨pz, rfl, rfl⟩
  repeat' (first
 | refine A_go rfl ?_ | refine A_ifT rfl rfl ?_ | refine A_ifF rfl rfl ?_
 | refine A_offP rfl rfl ?_ | refine A_offH rfl rfl ?_ | refine A_off0 rfl rfl ?_
 | refine A_add rfl rfl rfl (by omega) ?_
 | ((first | refine A_lt rfl rfl rfl ?_ ?_ | refine A_eq rfl rfl rfl ?_ ?_) <;> intro hc <;> try first | contradiction | (exfalso; omega) | exact absurd rfl hc)
 | refine A_idxN1 rfl rfl rfl (by omega) ?_ | refine A_idx1 rfl rfl rfl (by omega) ?_
 | refine A_fld rfl rfl ?_ | refine A_p (by rfl) rfl ?_
 | refine A_ldI rfl (by first | omega | (simp; done) | (simp; omega)) rfl ?_ | refine A_ldB rfl (by first | omega | (simp; done) | (simp; omega)) rfl ?_ | refine A_ld rfl (by rfl) rfl ?_
 | refine A_st rfl rfl rfl ?_ | refine A_stE rfl rfl (by first | omega | (simp; done) | (simp; omega)) rfl ?_
 | ((first | refine A_makeN rfl rfl rfl (by omega) ?_ | refine A_make rfl rfl rfl (by omega) ?_) <;> intro pz hpz)
 | refine A_ret1 rfl (by exact (RP.t rfl RP.nil)) ?_)
  refine A_loop rfl [pz] (fun m fr L => ∃ d : Nat, m = S - d ∧ fr = [(0, .c (.ptr q 0)), (1, .c (.sl ide offe E)), (2, iv to), (7, .c (.sl pz 0 E)), (8, iv a), (9, iv d), (16, iv E), (17, iv a)] ∧ L = [(pz, bools (rchN S E xs e to (a * S + d)))] ∧ d ≤ S) S ⟨0, rfl, rfl, rfl, by omega⟩ ?_
  rintro m fr L ⟨d, rfl, rfl, rfl, hd⟩
  have hrl := rchN_len (S := S) (E := E) (xs := xs) (e := e) (to := to) (a * S + d)
  by_cases hd' : d < S
  case neg =>
    obtain rfl : S = d := by omega
    repeat' (first
 | refine A_go rfl ?_ | refine A_ifT rfl rfl ?_ | refine A_ifF rfl rfl ?_
 | refine A_offP rfl rfl ?_ | refine A_offH rfl rfl ?_ | refine A_off0 rfl rfl ?_
 | refine A_add rfl rfl rfl (by omega) ?_
 | ((first | refine A_lt rfl rfl rfl ?_ ?_ | refine A_eq rfl rfl rfl ?_ ?_) <;> intro hc <;> try first | contradiction | (exfalso; omega) | exact absurd rfl hc)
 | refine A_idxN1 rfl rfl rfl (by omega) ?_ | refine A_idx1 rfl rfl rfl (by omega) ?_
 | refine A_fld rfl rfl ?_ | refine A_p (by rfl) rfl ?_
 | refine A_ldI rfl (by first | omega | (simp; done) | (simp; omega)) rfl ?_ | refine A_ldB rfl (by first | omega | (simp; done) | (simp; omega)) rfl ?_ | refine A_ld rfl (by rfl) rfl ?_
 | refine A_st rfl rfl rfl ?_ | refine A_stE rfl rfl (by first | omega | (simp; done) | (simp; omega)) rfl ?_
 | ((first | refine A_makeN rfl rfl rfl (by omega) ?_ | refine A_make rfl rfl rfl (by omega) ?_) <;> intro pz hpz)
 | refine A_ret1 rfl (by exact (RP.t rfl RP.nil)) ?_)
    refine A_round rfl [pz] (E - (a + 1)) (by omega) ?_
    exact ⟨a + 1, rfl, rfl, by rw [Nat.add_mul, Nat.one_mul], by omega⟩
  cases hx : e.getD a false with
  | false =>
    have hsk := rchN_skip (S := S) (E := E) (xs := xs) (to := to) hx
    rw [hsk d hd] at hrl ⊢
    repeat' (first
 | refine A_go rfl ?_ | refine A_ifT rfl rfl ?_ | refine A_ifF rfl rfl ?_
 | refine A_offP rfl rfl ?_ | refine A_offH rfl rfl ?_ | refine A_off0 rfl rfl ?_
 | refine A_add rfl rfl rfl (by omega) ?_
 | ((first | refine A_lt rfl rfl rfl ?_ ?_ | refine A_eq rfl rfl rfl ?_ ?_) <;> intro hc <;> try first | contradiction | (exfalso; omega) | exact absurd rfl hc)
 | refine A_idxN1 rfl rfl rfl (by omega) ?_ | refine A_idx1 rfl rfl rfl (by omega) ?_
 | rw [hx]
 | refine A_fld rfl rfl ?_ | refine A_p (by rfl) rfl ?_
 | refine A_ldI rfl (by first | omega | (simp; done) | (simp; omega)) rfl ?_ | refine A_ldB rfl (by first | omega | (simp; done) | (simp; omega)) rfl ?_ | refine A_ld rfl (by rfl) rfl ?_
 | refine A_st rfl rfl rfl ?_ | refine A_stE rfl rfl (by first | omega | (simp; done) | (simp; omega)) rfl ?_
 | ((first | refine A_makeN rfl rfl rfl (by omega) ?_ | refine A_make rfl rfl rfl (by omega) ?_) <;> intro pz hpz)
 | refine A_ret1 rfl (by exact (RP.t rfl RP.nil)) ?_)
    refine A_round rfl [pz] (E - (a + 1)) (by omega) ?_
    exact ⟨a + 1, rfl, rfl, by rw [Nat.add_mul, Nat.one_mul, hsk S (Nat.le_refl _)], by omega⟩
  | true =>
    have hb := mod_in (E := E) (m := a * S + d) hEb.1
    have hstep := rchN_step (E := E) (a := a) (xs := xs) (e := e) (to := to) hd'
    have h1 := lt_mul ha' hd'
    by_cases hto : xs.getD (a * S + d) 0 = to
    · rw [if_pos ⟨hx, hto⟩] at hstep
      repeat' (first
 | refine A_go rfl ?_ | refine A_ifT rfl rfl ?_ | refine A_ifF rfl rfl ?_
 | refine A_offP rfl rfl ?_ | refine A_offH rfl rfl ?_ | refine A_off0 rfl rfl ?_
 | refine A_add rfl rfl rfl (by omega) ?_
 | ((first | refine A_lt rfl rfl rfl ?_ ?_ | refine A_eq rfl rfl rfl ?_ ?_) <;> intro hc <;> try first | contradiction | (exfalso; omega) | exact absurd rfl hc)
 | refine A_idxN1 rfl rfl rfl (by omega) ?_ | refine A_idx1 rfl rfl rfl (by omega) ?_
 | rw [hx]
 | refine A_callV rfl rfl (fun s H => c_l03Pairs (hE := hE) (hl := hl)) ?_
 | refine A_stE (enc := bc) (a := true) rfl rfl (by omega) rfl ?_
 | refine A_fld rfl rfl ?_ | refine A_p (by rfl) rfl ?_
 | refine A_ldI rfl (by first | omega | (simp; done) | (simp; omega)) rfl ?_ | refine A_ldB rfl (by first | omega | (simp; done) | (simp; omega)) rfl ?_ | refine A_ld rfl (by rfl) rfl ?_
 | refine A_st rfl rfl rfl ?_ | refine A_stE rfl rfl (by first | omega | (simp; done) | (simp; omega)) rfl ?_
 | ((first | refine A_makeN rfl rfl rfl (by omega) ?_ | refine A_make rfl rfl rfl (by omega) ?_) <;> intro pz hpz)
 | refine A_ret1 rfl (by exact (RP.t rfl RP.nil)) ?_)
      refine A_round rfl [pz] (S - (d + 1)) (by omega) ?_
      exact ⟨d + 1, rfl, rfl, by rw [hstep], by omega⟩
    · rw [if_neg (fun g => hto g.2)] at hstep
      repeat' (first
 | refine A_go rfl ?_ | refine A_ifT rfl rfl ?_ | refine A_ifF rfl rfl ?_
 | refine A_offP rfl rfl ?_ | refine A_offH rfl rfl ?_ | refine A_off0 rfl rfl ?_
 | refine A_add rfl rfl rfl (by omega) ?_
 | ((first | refine A_lt rfl rfl rfl ?_ ?_ | refine A_eq rfl rfl rfl ?_ ?_) <;> intro hc <;> try first | contradiction | (exfalso; omega) | exact absurd rfl hc)
 | refine A_idxN1 rfl rfl rfl (by omega) ?_ | refine A_idx1 rfl rfl rfl (by omega) ?_
 | rw [hx]
 | refine A_callV rfl rfl (fun s H => c_l03Pairs (hE := hE) (hl := hl)) ?_
 | refine A_stE (enc := bc) (a := true) rfl rfl (by omega) rfl ?_
 | refine A_fld rfl rfl ?_ | refine A_p (by rfl) rfl ?_
 | refine A_ldI rfl (by first | omega | (simp; done) | (simp; omega)) rfl ?_ | refine A_ldB rfl (by first | omega | (simp; done) | (simp; omega)) rfl ?_ | refine A_ld rfl (by rfl) rfl ?_
 | refine A_st rfl rfl rfl ?_ | refine A_stE rfl rfl (by first | omega | (simp; done) | (simp; omega)) rfl ?_
 | ((first | refine A_makeN rfl rfl rfl (by omega) ?_ | refine A_make rfl rfl rfl (by omega) ?_) <;> intro pz hpz)
 | refine A_ret1 rfl (by exact (RP.t rfl RP.nil)) ?_)
      refine A_round rfl [pz] (S - (d + 1)) (by omega) ?_
      exact ⟨d + 1, rfl, rfl, by rw [hstep], by omega⟩

end Go.Proofs.Ytlmbgaoeplffkaa
