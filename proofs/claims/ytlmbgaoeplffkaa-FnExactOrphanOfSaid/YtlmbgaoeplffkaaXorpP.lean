/- The first word to which none leads: the program, level by level. -/
import Derived.Test.YtlmbgaoeplffkaaXorpM
import Derived.Test.YtlmbgaoeplffkaaFB
namespace Go.Proofs.Ytlmbgaoeplffkaa
open Go Go.RowKit
set_option linter.unusedVariables false
set_option linter.unusedSimpArgs false
set_option maxRecDepth 100000
set_option maxHeartbeats 8000000
-- (impl.Rule).mostCells
def L50 : AFun := ⟨12, [.t 6],
 (.seq (.ops false [⟨(some 3), .box 27 (.t 0), none, []⟩,
   ⟨(some 6), .mv (.k (iv 0)), none, []⟩])
 (.seq (.seq (.ops false [⟨(some 7), .fieldA 0 (.t 3), none, []⟩,
    ⟨(some 8), .load false 1 (.t 7), none, []⟩,
    ⟨(some 9), .bin .eql (.t 8) (.k (iv 2)), none, []⟩])
  (.cond (.t 9) (.seq (.ops false [⟨(some 10), .mv (.t 1), none, []⟩,
     ⟨(some 6), .mv (.t 10), none, []⟩])
   .ret)
   .skip))
 (.seq (.ops false [⟨(some 11), .mv (.t 2), none, []⟩,
   ⟨(some 6), .mv (.t 11), none, []⟩])
 .ret)))⟩
theorem code50 : acode Try.prog hints 50 = some L50 := by kernel_rfl

-- impl.OrphanOf
def L20 : AFun := ⟨105, [.t 4, .t 5],
 (.seq (.ops false [⟨(some 2), .box 27 (.t 0), none, []⟩,
   ⟨(some 4), .mv (.k (.c (.sl 0 0 0))), none, []⟩,
   ⟨(some 5), .mv (.k (bv false)), none, []⟩])
 (.seq (.seq (.ops false [⟨(some 17), .load true 3 (.t 2), none, []⟩,
    ⟨(some 18), .call (.f 39) [(.t 17)], none, []⟩,
    ⟨(some 19), .un .not (.t 18), none, []⟩,
    ⟨(some 20), .mv (.t 19), none, []⟩,
    ⟨(some 21), .mv (.t 1), (some (20, false)), []⟩,
    ⟨(some 22), .load true 3 (.t 2), (some (20, false)), []⟩,
    ⟨(some 23), .call (.f 50) [(.t 22), (.k (iv 12)), (.k (iv 7))], (some (20, false)), []⟩,
    ⟨(some 24), .call (.f 43) [(.t 21), (.k (iv 1)), (.t 23)], (some (20, false)), []⟩,
    ⟨(some 25), .un .not (.t 24), (some (20, false)), []⟩,
    ⟨(some 26), .pick (.t 20) (.k (bv true)) (.t 25), none, []⟩])
  (.cond (.t 26) (.seq (.ops false [⟨(some 4), .mv (.k (.c (.sl 0 0 0))), none, []⟩,
     ⟨(some 5), .mv (.k (bv false)), none, []⟩])
   .ret)
   .skip))
 (.seq (.ops false [⟨(some 27), .buildS 4 1 1 [.bool false] [(0, 1, (.k (bv true)))], none, []⟩,
   ⟨(some 28), .load true 3 (.t 2), none, []⟩,
   ⟨(some 29), .call (.f 44) [(.t 28)], none, []⟩,
   ⟨(some 30), .call (.f 51) [(.t 27), (.t 29)], none, []⟩,
   ⟨(some 31), .build [.sl 0 0 0, .sl 0 0 0] [(0, 1, (.k (.c (.sl 0 0 0)))), (1, 1, (.t 30))], none, []⟩,
   ⟨(some 32), .buildS 78 2 1 [.sl 0 0 0, .sl 0 0 0] [(0, 2, (.t 31))], none, []⟩,
   ⟨(some 6), .mv (.t 32), none, []⟩])
 (.seq (.seq (.ops false [⟨(some 33), .mv (.t 1), none, []⟩,
    ⟨(some 34), .mv (.k (iv 0)), none, []⟩])
  (.block 0 (.loop [2, 6, 33, 34] (.seq (.ops false [⟨(some 35), .bin .lss (.t 34) (.t 33), none, []⟩])
    (.seq (.cond (.t 35) .skip
      (.exit 0))
    (.seq (.block 1 (.seq (.ops false [⟨(some 36), .buildS 78 2 0 [.sl 0 0 0, .sl 0 0 0] [], none, []⟩,
        ⟨(some 7), .mv (.t 36), none, []⟩])
      (.seq (.seq (.ops false [⟨(some 37), .mv (.t 6), none, []⟩,
         ⟨(some 38), .len false (.t 37), none, []⟩,
         ⟨(some 39), .mv (.k (iv 0)), none, []⟩])
       (.block 2 (.loop [2, 7, 33, 34, 37, 38, 39] (.seq (.ops false [⟨(some 40), .bin .lss (.t 39) (.t 38), none, []⟩])
         (.seq (.cond (.t 40) .skip
           (.exit 2))
         (.seq (.block 3 (.seq (.ops false [⟨(some 41), .idxA 2 (.t 37) (.t 39), none, []⟩,
             ⟨(some 42), .load true 2 (.t 41), none, []⟩,
             ⟨(some 9), .alloc 78 [.sl 0 0 0, .sl 0 0 0], none, []⟩,
             ⟨none, .store 2 (.t 9) (.t 42), none, []⟩])
           (.seq (.ops false [⟨(some 43), .fieldA 0 (.t 2), none, []⟩,
             ⟨(some 44), .load false 1 (.t 43), none, []⟩,
             ⟨(some 45), .mv (.k (iv 0)), none, []⟩])
           (.block 4 (.loop [2, 7, 9, 33, 34, 37, 38, 39, 44, 45] (.seq (.ops false [⟨(some 46), .bin .lss (.t 45) (.t 44), none, []⟩])
             (.seq (.cond (.t 46) .skip
               (.exit 4))
             (.seq (.block 5 (.seq (.ops false [⟨(some 47), .mv (.t 45), none, []⟩,
                 ⟨(some 10), .mv (.t 47), none, []⟩])
               (.seq (.ops true [⟨(some 48), .fieldA 0 (.t 9), none, []⟩,
                 ⟨(some 49), .load false 1 (.t 48), none, []⟩,
                 ⟨(some 50), .call (.f 37) [(.t 49)], none, []⟩,
                 ⟨(some 51), .mv (.t 10), none, []⟩,
                 ⟨(some 52), .buildS 2 1 1 [.int .i64 0] [(0, 1, (.t 51))], none, []⟩,
                 ⟨(some 53), .append 2 1 8 (.t 50) (.t 52), none, []⟩,
                 ⟨(some 54), .fieldA 1 (.t 9), none, []⟩,
                 ⟨(some 55), .load false 1 (.t 54), none, [0, 1]⟩,
                 ⟨(some 56), .len false (.t 55), none, []⟩,
                 ⟨(some 57), .makeS 4 1 1 [.bool false] (.t 56) (.t 56), none, []⟩,
                 ⟨(some 58), .build [.sl 0 0 0, .sl 0 0 0] [(0, 1, (.t 53)), (1, 1, (.t 57))], none, []⟩,
                 ⟨(some 11), .alloc 78 [.sl 0 0 0, .sl 0 0 0], none, []⟩,
                 ⟨none, .store 2 (.t 11) (.t 58), none, []⟩])
               (.seq (.seq (.ops false [⟨(some 59), .fieldA 1 (.t 9), none, []⟩,
                  ⟨(some 60), .load false 1 (.t 59), none, []⟩,
                  ⟨(some 61), .len false (.t 60), none, []⟩,
                  ⟨(some 62), .mv (.k (iv 0)), none, []⟩])
                (.block 6 (.loop [2, 7, 9, 10, 11, 33, 34, 37, 38, 39, 44, 45, 60, 61, 62] (.seq (.ops false [⟨(some 63), .bin .lss (.t 62) (.t 61), none, []⟩])
                  (.seq (.cond (.t 63) .skip
                    (.exit 6))
                  (.seq (.block 7 (.seq (.ops false [⟨(some 64), .mv (.t 62), none, []⟩,
                      ⟨(some 65), .idxA 1 (.t 60) (.t 62), none, []⟩,
                      ⟨(some 66), .load false 1 (.t 65), none, []⟩,
                      ⟨(some 12), .mv (.t 64), none, []⟩,
                      ⟨(some 13), .mv (.t 66), none, []⟩])
                    (.seq (.ops false [⟨(some 67), .fieldA 0 (.t 2), none, []⟩,
                      ⟨(some 68), .load false 1 (.t 67), none, []⟩,
                      ⟨(some 69), .mv (.k (iv 0)), none, []⟩])
                    (.block 8 (.loop [2, 7, 9, 10, 11, 12, 13, 33, 34, 37, 38, 39, 44, 45, 60, 61, 62, 68, 69] (.seq (.ops false [⟨(some 70), .bin .lss (.t 69) (.t 68), none, []⟩])
                      (.seq (.cond (.t 70) .skip
                        (.exit 8))
                      (.seq (.block 9 (.seq (.ops false [⟨(some 71), .mv (.t 69), none, []⟩,
                          ⟨(some 14), .mv (.t 71), none, []⟩])
                        (.seq (.ops false [⟨(some 73), .load true 3 (.t 2), none, []⟩,
                          ⟨(some 74), .mv (.t 12), none, []⟩,
                          ⟨(some 75), .mv (.t 14), none, []⟩,
                          ⟨(some 76), .call (.f 45) [(.t 73), (.t 74), (.t 75)], none, []⟩,
                          ⟨(some 72), .mv (.t 76), none, []⟩,
                          ⟨(some 77), .ext (.t 72) 0, none, []⟩,
                          ⟨(some 78), .ext (.t 72) 1, none, []⟩,
                          ⟨(some 15), .mv (.t 77), none, []⟩,
                          ⟨(some 16), .mv (.t 78), none, []⟩])
                        (.seq (.ops false [⟨(some 79), .mv (.t 13), none, []⟩,
                          ⟨(some 80), .mv (.t 79), none, []⟩,
                          ⟨(some 81), .mv (.t 16), (some (80, true)), []⟩,
                          ⟨(some 82), .mv (.t 10), (some (80, true)), []⟩,
                          ⟨(some 83), .bin .eql (.t 81) (.t 82), (some (80, true)), []⟩,
                          ⟨(some 84), .pick (.t 80) (.t 83) (.k (bv false)), none, []⟩])
                        (.cond (.t 84) (.ops false [⟨(some 85), .fieldA 1 (.t 11), none, []⟩,
                          ⟨(some 86), .load false 1 (.t 85), none, []⟩,
                          ⟨(some 87), .mv (.t 15), none, []⟩,
                          ⟨(some 88), .idxA 1 (.t 86) (.t 87), none, []⟩,
                          ⟨none, .store 1 (.t 88) (.k (bv true)), none, []⟩])
                         .skip)))))
                      (.ops false [⟨(some 89), .bin .add (.t 69) (.k (iv 1)), none, []⟩,
                       ⟨(some 69), .mv (.t 89), none, []⟩])))))))))
                  (.ops false [⟨(some 90), .bin .add (.t 62) (.k (iv 1)), none, []⟩,
                   ⟨(some 62), .mv (.t 90), none, []⟩])))))))
               (.seq (.seq (.ops false [⟨(some 91), .fieldA 1 (.t 11), none, []⟩,
                  ⟨(some 92), .load false 1 (.t 91), none, []⟩,
                  ⟨(some 93), .call (.f 52) [(.t 92), (.k (bv true))], none, []⟩,
                  ⟨(some 94), .un .not (.t 93), none, []⟩])
                (.cond (.t 94) (.seq (.ops false [⟨(some 95), .fieldA 0 (.t 11), none, []⟩,
                   ⟨(some 96), .load false 1 (.t 95), none, []⟩,
                   ⟨(some 4), .mv (.t 96), none, []⟩,
                   ⟨(some 5), .mv (.k (bv true)), none, []⟩])
                 .ret)
                 .skip))
               (.ops false [⟨(some 97), .mv (.t 7), none, []⟩,
                ⟨(some 98), .load true 2 (.t 11), none, []⟩,
                ⟨(some 99), .buildS 78 2 1 [.sl 0 0 0, .sl 0 0 0] [(0, 2, (.t 98))], none, []⟩,
                ⟨(some 100), .append 78 2 48 (.t 97) (.t 99), none, []⟩,
                ⟨(some 7), .mv (.t 100), none, []⟩]))))))
             (.ops false [⟨(some 101), .bin .add (.t 45) (.k (iv 1)), none, []⟩,
              ⟨(some 45), .mv (.t 101), none, []⟩])))))))))
         (.ops false [⟨(some 102), .bin .add (.t 39) (.k (iv 1)), none, []⟩,
          ⟨(some 39), .mv (.t 102), none, []⟩])))))))
      (.ops false [⟨(some 103), .mv (.t 7), none, []⟩,
       ⟨(some 6), .mv (.t 103), none, []⟩]))))
    (.ops false [⟨(some 104), .bin .add (.t 34) (.k (iv 1)), none, []⟩,
     ⟨(some 34), .mv (.t 104), none, []⟩])))))))
 (.seq (.ops false [⟨(some 4), .mv (.k (.c (.sl 0 0 0))), none, []⟩,
   ⟨(some 5), .mv (.k (bv false)), none, []⟩])
 .ret)))))⟩
theorem code20 : acode Try.prog hints 20 = some L20 := by kernel_rfl


theorem c_mostC {s : St} [Wf s] {st re a b : Int} {v : AC} : FnV 50 [.agg [ic st, ic re, v], iv a, iv b] s (iv (if st = 2 then a else b)) := by
  refine F_start code50 ?_
  repeat' (first
 | refine A_go rfl ?_ | refine A_ifT rfl rfl ?_ | refine A_ifF rfl rfl ?_
 | ((first | refine A_eq rfl rfl rfl ?_ ?_) <;> intro hc <;> try first | contradiction | (exfalso; omega) | exact absurd rfl hc)
 | refine A_fld rfl rfl ?_ | refine A_p (by rfl) rfl ?_
 | refine A_ldI rfl (by first | omega | (simp; done) | (simp; omega)) rfl ?_ | refine A_ldB rfl (by first | omega | (simp; done) | (simp; omega)) rfl ?_ | refine A_ld rfl (by rfl) rfl ?_
 | ((first | refine A_box rfl rfl ?_ | refine A_boxC rfl rfl ?_) <;> intro pz hpz)
 | refine A_ret1 rfl (by exact (RP.t rfl RP.nil)) ?_)
  · exact R_v (by rw [if_pos hc])
  · exact R_v (by rw [if_neg hc])
theorem orp_yes {S E M : Nat} {re : Int} {xs : List Int} {a : Nat × Nat} (hv : VR S re xs) (hm : 1 ≤ M ∧ (M : Int) ≤ if (S : Int) = 3 then 7 else 12) (hE : E = S ^ (2 * re).toNat) (h : Orp S E xs M a) : OrpP S re xs M ∧ wd S a.1 a.2 = orpW S re xs M := by
  subst hE
  refine ⟨⟨⟨hv, by omega, hm.2⟩, fun hno => h.no (by simpa only [Int.toNat_natCast] using hno)⟩, ?_⟩
  rw [orpW, Int.toNat_natCast, Int.toNat_natCast, orpA_eq h]
theorem orp_no {S E M : Nat} {re : Int} {xs : List Int} (hE : E = S ^ (2 * re).toNat) (h : NoOrp S E xs M) : ¬ OrpP S re xs M := by
  subst hE
  rintro ⟨_, g⟩
  exact g (by simpa only [Int.toNat_natCast] using h)
abbrev orowP (zs : List Pr) : AObj := .rw 78 2 (zs.flatMap pcP)
theorem c_implOrphanOf {s : St} [Wf s] {st re mo : Int} {id_xs off_xs len_xs : Nat} {xs : List Int} [h_xs : ArgE ic s id_xs off_xs xs] (hl_xs : xs.length = len_xs := by first | rfl | simp | omega | (simp; omega)) (hb : len_xs ≤ 2000000 := by omega) :
    Fn [] 20 [.agg [ic st, ic re, .sl id_xs off_xs len_xs], iv mo] s (IntsRes (OrpP st re xs mo) (orpW st re xs mo)) := by
  refine F_start code20 ?_
  by_cases hv : VR st re xs
  case neg =>
    repeat' (first
 | refine A_go rfl ?_ | refine A_ifT rfl rfl ?_ | refine A_ifF rfl rfl ?_
 | refine A_offP rfl rfl ?_ | refine A_offH rfl rfl ?_ | refine A_off0 rfl rfl ?_
 | refine A_add rfl rfl rfl (by omega) ?_
 | ((first | refine A_lt rfl rfl rfl ?_ ?_ | refine A_eq rfl rfl rfl ?_ ?_) <;> intro hc <;> try first | contradiction | (exfalso; omega) | exact absurd rfl hc)
 | refine A_idxN1 rfl rfl rfl (by omega) ?_ | refine A_idx1 rfl rfl rfl (by omega) ?_
 | (refine A_callB rfl rfl (fun s H => c_ValidRule) ?_ ?_ <;> intro hc <;> try first | contradiction | (exfalso; omega) | exact absurd rfl hc | exact absurd (And.intro rfl rfl) hc | exact absurd (And.intro rfl (And.intro rfl rfl)) hc | exact absurd (Eq.trans (by assumption) (Eq.symm (by assumption))) hc)
 | refine A_fld rfl rfl ?_ | refine A_mk3 rfl rfl rfl rfl ?_ | refine A_mk23 rfl rfl rfl ?_ | refine A_mk2 rfl rfl rfl ?_ | refine A_mk13 rfl rfl ?_ | refine A_p (by rfl) rfl ?_
 | refine A_ldI rfl (by first | omega | (simp; done) | (simp; omega)) rfl ?_ | refine A_ldB rfl (by first | omega | (simp; done) | (simp; omega)) rfl ?_ | refine A_ld rfl (by rfl) rfl ?_
 | refine A_ldW rfl (by simp) rfl ?_
 | refine A_st rfl rfl rfl ?_ | refine A_stE rfl rfl (by first | omega | (simp; done) | (simp; omega)) rfl ?_
 | refine A_stW rfl rfl (by simp) rfl ?_
 | ((first | refine A_alloc rfl ?_ | refine A_box rfl rfl ?_ | refine A_boxC rfl rfl ?_ | refine A_makeN rfl rfl rfl (by omega) ?_ | refine A_make rfl rfl rfl (by omega) ?_ | refine A_bld1 rfl rfl ?_ | refine A_bld2 rfl rfl rfl ?_ | refine A_bld4 rfl rfl rfl rfl rfl ?_) <;> intro pz hpz)
 | refine A_bld0 rfl ?_
 | (refine A_app rfl rfl rfl (by first | omega | (simp; done) | (simp; omega)) (by first | omega | (simp; done) | (simp; omega)) (by omega) ?_; intro pz) | (refine A_appN (enc := ic) rfl (by decide) rfl rfl (by first | omega | (simp; done) | (simp; omega)) (by omega) ?_; intro pz)
 | refine A_chk1 rfl rfl rfl ?_ | refine A_chk2 rfl rfl rfl rfl ?_ | refine A_chk3 rfl rfl rfl rfl rfl ?_ | refine A_chk4 rfl rfl rfl rfl rfl rfl ?_ | refine A_chkI rfl (by assumption) rfl (by simp) ?_
 | refine A_ret rfl (by exact (RP.t rfl (RP.t rfl RP.nil))) ?_)
    exact R_intsN fun h => hv h.1.1
  obtain ⟨S, w, E, rfl, hS, hw, hw1, hE, hl, hEb, hdg⟩ := hv.nat
  have h23 : (if (S : Int) = 2 then (12 : Int) else 7) = if (S : Int) = 3 then 7 else 12 := by
    obtain rfl | rfl : S = 2 ∨ S = 3 := by omega
    · rfl
    · rfl
  by_cases hm : 1 ≤ mo ∧ mo ≤ if (S : Int) = 3 then 7 else 12
  case neg =>
    repeat' (first
 | refine A_go rfl ?_ | refine A_ifT rfl rfl ?_ | refine A_ifF rfl rfl ?_
 | refine A_offP rfl rfl ?_ | refine A_offH rfl rfl ?_ | refine A_off0 rfl rfl ?_
 | refine A_add rfl rfl rfl (by omega) ?_
 | ((first | refine A_lt rfl rfl rfl ?_ ?_ | refine A_eq rfl rfl rfl ?_ ?_) <;> intro hc <;> try first | contradiction | (exfalso; omega) | exact absurd rfl hc)
 | refine A_idxN1 rfl rfl rfl (by omega) ?_ | refine A_idx1 rfl rfl rfl (by omega) ?_
 | (refine A_callB rfl rfl (fun s H => c_ValidRule) ?_ ?_ <;> intro hc <;> try first | contradiction | (exfalso; omega) | exact absurd rfl hc | exact absurd (And.intro rfl rfl) hc | exact absurd (And.intro rfl (And.intro rfl rfl)) hc | exact absurd (Eq.trans (by assumption) (Eq.symm (by assumption))) hc)
 | refine A_callV rfl rfl (fun s H => c_mostC) ?_
 | rw [h23]
 | (refine A_callB rfl rfl (fun s H => c_within) ?_ ?_ <;> intro hc <;> try first | contradiction | (exfalso; omega) | exact absurd rfl hc | exact absurd (And.intro rfl rfl) hc | exact absurd (And.intro rfl (And.intro rfl rfl)) hc | exact absurd (Eq.trans (by assumption) (Eq.symm (by assumption))) hc)
 | refine A_fld rfl rfl ?_ | refine A_mk3 rfl rfl rfl rfl ?_ | refine A_mk23 rfl rfl rfl ?_ | refine A_mk2 rfl rfl rfl ?_ | refine A_mk13 rfl rfl ?_ | refine A_p (by rfl) rfl ?_
 | refine A_ldI rfl (by first | omega | (simp; done) | (simp; omega)) rfl ?_ | refine A_ldB rfl (by first | omega | (simp; done) | (simp; omega)) rfl ?_ | refine A_ld rfl (by rfl) rfl ?_
 | refine A_ldW rfl (by simp) rfl ?_
 | refine A_st rfl rfl rfl ?_ | refine A_stE rfl rfl (by first | omega | (simp; done) | (simp; omega)) rfl ?_
 | refine A_stW rfl rfl (by simp) rfl ?_
 | ((first | refine A_alloc rfl ?_ | refine A_box rfl rfl ?_ | refine A_boxC rfl rfl ?_ | refine A_makeN rfl rfl rfl (by omega) ?_ | refine A_make rfl rfl rfl (by omega) ?_ | refine A_bld1 rfl rfl ?_ | refine A_bld2 rfl rfl rfl ?_ | refine A_bld4 rfl rfl rfl rfl rfl ?_) <;> intro pz hpz)
 | refine A_bld0 rfl ?_
 | (refine A_app rfl rfl rfl (by first | omega | (simp; done) | (simp; omega)) (by first | omega | (simp; done) | (simp; omega)) (by omega) ?_; intro pz) | (refine A_appN (enc := ic) rfl (by decide) rfl rfl (by first | omega | (simp; done) | (simp; omega)) (by omega) ?_; intro pz)
 | refine A_chk1 rfl rfl rfl ?_ | refine A_chk2 rfl rfl rfl rfl ?_ | refine A_chk3 rfl rfl rfl rfl rfl ?_ | refine A_chk4 rfl rfl rfl rfl rfl rfl ?_ | refine A_chkI rfl (by assumption) rfl (by simp) ?_
 | refine A_ret rfl (by exact (RP.t rfl (RP.t rfl RP.nil))) ?_)
    exact R_intsN fun h => hm h.1.2
  obtain ⟨M, rfl⟩ : ∃ M : Nat, mo = M := ⟨mo.toNat, by omega⟩
  have hre := hv.2.1
  have hEr : E = S ^ (2 * re).toNat := by rw [hE]; congr 1; omega
  have hE5 : E = 1 ∨ E = 4 ∨ E = 9 ∨ E = 16 ∨ E = 81 := by
    have hw5 : w = 1 ∨ w = 3 ∨ w = 5 := by omega
    obtain rfl | rfl : S = 2 ∨ S = 3 := by omega
    all_goals
      rcases hw5 with rfl | rfl | rfl
      all_goals (rw [hE]; decide)
  have hM : M ≤ if (S : Int) = 3 then 7 else 12 := by have := hm.2; split at this <;> split <;> omega
  repeat' (first
 | refine A_go rfl ?_ | refine A_ifT rfl rfl ?_ | refine A_ifF rfl rfl ?_
 | refine A_offP rfl rfl ?_ | refine A_offH rfl rfl ?_ | refine A_off0 rfl rfl ?_
 | refine A_add rfl rfl rfl (by omega) ?_
 | ((first | refine A_lt rfl rfl rfl ?_ ?_ | refine A_eq rfl rfl rfl ?_ ?_) <;> intro hc <;> try first | contradiction | (exfalso; omega) | exact absurd rfl hc)
 | refine A_idxN1 rfl rfl rfl (by omega) ?_ | refine A_idx1 rfl rfl rfl (by omega) ?_
 | (refine A_callB rfl rfl (fun s H => c_ValidRule) ?_ ?_ <;> intro hc <;> try first | contradiction | (exfalso; omega) | exact absurd rfl hc | exact absurd (And.intro rfl rfl) hc | exact absurd (And.intro rfl (And.intro rfl rfl)) hc | exact absurd (Eq.trans (by assumption) (Eq.symm (by assumption))) hc)
 | refine A_callV rfl rfl (fun s H => c_mostC) ?_
 | rw [h23]
 | (refine A_callB rfl rfl (fun s H => c_within) ?_ ?_ <;> intro hc <;> try first | contradiction | (exfalso; omega) | exact absurd rfl hc | exact absurd (And.intro rfl rfl) hc | exact absurd (And.intro rfl (And.intro rfl rfl)) hc | exact absurd (Eq.trans (by assumption) (Eq.symm (by assumption))) hc)
 | refine A_callV rfl rfl (fun s H => c_ends (hE := hE)) ?_
 | (refine A_bld1 (enc := bc) (a := true) rfl rfl ?_ <;> intro pz hpz)
 | (refine A_callM rfl rfl (fun s H => c_repeatB (hE := hE5)) ?_; rintro _ _ ⟨pz, rfl, rfl⟩) | (refine A_callM0 rfl rfl (fun s H => c_repeatB (hE := hE5)) ?_; rintro _ _ ⟨pz, rfl, rfl⟩)
 | (refine A_bldC (by decide) (show fillV _ _ _ = some [.sl 0 0 0, .sl _ 0 E] from rfl) rfl ?_ <;> intro pz hpz)
 | refine A_fld rfl rfl ?_ | refine A_mk3 rfl rfl rfl rfl ?_ | refine A_mk23 rfl rfl rfl ?_ | refine A_mk2 rfl rfl rfl ?_ | refine A_mk13 rfl rfl ?_ | refine A_p (by rfl) rfl ?_
 | refine A_ldI rfl (by first | omega | (simp; done) | (simp; omega)) rfl ?_ | refine A_ldB rfl (by first | omega | (simp; done) | (simp; omega)) rfl ?_ | refine A_ld rfl (by rfl) rfl ?_
 | refine A_ldW rfl (by simp) rfl ?_
 | refine A_st rfl rfl rfl ?_ | refine A_stE rfl rfl (by first | omega | (simp; done) | (simp; omega)) rfl ?_
 | refine A_stW rfl rfl (by simp) rfl ?_
 | ((first | refine A_alloc rfl ?_ | refine A_box rfl rfl ?_ | refine A_boxC rfl rfl ?_ | refine A_makeN rfl rfl rfl (by omega) ?_ | refine A_make rfl rfl rfl (by omega) ?_ | refine A_bld1 rfl rfl ?_ | refine A_bld2 rfl rfl rfl ?_ | refine A_bld4 rfl rfl rfl rfl rfl ?_) <;> intro pz hpz)
 | refine A_bld0 rfl ?_
 | (refine A_app rfl rfl rfl (by first | omega | (simp; done) | (simp; omega)) (by first | omega | (simp; done) | (simp; omega)) (by omega) ?_; intro pz) | (refine A_appN (enc := ic) rfl (by decide) rfl rfl (by first | omega | (simp; done) | (simp; omega)) (by omega) ?_; intro pz)
 | refine A_chk1 rfl rfl rfl ?_ | refine A_chk2 rfl rfl rfl rfl ?_ | refine A_chk3 rfl rfl rfl rfl rfl ?_ | refine A_chk4 rfl rfl rfl rfl rfl rfl ?_ | refine A_chkI rfl (by assumption) rfl (by simp) ?_
 | refine A_ret rfl (by exact (RP.t rfl (RP.t rfl RP.nil))) ?_)
  obtain ⟨pr, hEq⟩ : ∃ p, p = pz := ⟨_, rfl⟩; subst hEq
  obtain ⟨pe, hEq⟩ : ∃ p, p = pz := ⟨_, rfl⟩; subst hEq
  obtain ⟨pt, hEq⟩ : ∃ p, p = pz := ⟨_, rfl⟩; subst hEq
  obtain ⟨q, hEq⟩ : ∃ p, p = pz := ⟨_, rfl⟩; subst hEq
  have e0 : orowP [⟨0, [], pe, List.replicate E true⟩] = .rw 78 2 [.sl 0 0 0, .sl pe 0 E] := by simp
  refine A_loopX rfl (fun m fr L => ∃ (k p : Nat) (cur : List Pr), m = M - k ∧ fr = [(2, .c (.ptr q 0)), (6, .c (.sl p 0 (S ^ k))), (33, iv M), (34, iv k)] ∧ L = (q, .rw 27 3 [ic S, ic re, .sl id_xs off_xs len_xs]) :: (p, orowP cur) :: pobs cur ∧ k ≤ M ∧ Lvl S E xs k (S ^ k) cur ∧ Clear S E xs (k + 1, 0)) (n := M) ⟨[(q, .rw 27 3 [ic S, ic re, .sl id_xs off_xs len_xs]), (pr, .rw 78 2 [.sl 0 0 0, .sl pe 0 E]), (0, ints []), (pe, bools (List.replicate E true))], ⟨0, pr, [⟨0, [], pe, List.replicate E true⟩], rfl, rfl, by rw [e0]; rfl, by omega, ⟨rfl, fun i z hz => ?_⟩, Clear.one⟩, inferInstance⟩ ?_
  · obtain rfl : i = 0 := by
      have := (List.getElem?_eq_some_iff.1 hz).1
      simp at this; exact this
    obtain rfl := Option.some.inj hz
    exact ⟨rfl, rfl⟩
  rintro m fr L ⟨k, p, cur, rfl, rfl, rfl, hk, hcur, hclr⟩
  by_cases hk' : k < M
  case neg =>
    obtain rfl : M = k := by omega
    repeat' (first
 | refine A_go rfl ?_ | refine A_ifT rfl rfl ?_ | refine A_ifF rfl rfl ?_
 | refine A_offP rfl rfl ?_ | refine A_offH rfl rfl ?_ | refine A_off0 rfl rfl ?_
 | refine A_add rfl rfl rfl (by omega) ?_
 | ((first | refine A_lt rfl rfl rfl ?_ ?_ | refine A_eq rfl rfl rfl ?_ ?_) <;> intro hc <;> try first | contradiction | (exfalso; omega) | exact absurd rfl hc)
 | refine A_idxN1 rfl rfl rfl (by omega) ?_ | refine A_idx1 rfl rfl rfl (by omega) ?_
 | refine A_fld rfl rfl ?_ | refine A_mk3 rfl rfl rfl rfl ?_ | refine A_mk23 rfl rfl rfl ?_ | refine A_mk2 rfl rfl rfl ?_ | refine A_mk13 rfl rfl ?_ | refine A_p (by rfl) rfl ?_
 | refine A_ldI rfl (by first | omega | (simp; done) | (simp; omega)) rfl ?_ | refine A_ldB rfl (by first | omega | (simp; done) | (simp; omega)) rfl ?_ | refine A_ld rfl (by rfl) rfl ?_
 | refine A_ldW rfl (by simp) rfl ?_
 | refine A_st rfl rfl rfl ?_ | refine A_stE rfl rfl (by first | omega | (simp; done) | (simp; omega)) rfl ?_
 | refine A_stW rfl rfl (by simp) rfl ?_
 | ((first | refine A_alloc rfl ?_ | refine A_box rfl rfl ?_ | refine A_boxC rfl rfl ?_ | refine A_makeN rfl rfl rfl (by omega) ?_ | refine A_make rfl rfl rfl (by omega) ?_ | refine A_bld1 rfl rfl ?_ | refine A_bld2 rfl rfl rfl ?_ | refine A_bld4 rfl rfl rfl rfl rfl ?_) <;> intro pz hpz)
 | refine A_bld0 rfl ?_
 | (refine A_app rfl rfl rfl (by first | omega | (simp; done) | (simp; omega)) (by first | omega | (simp; done) | (simp; omega)) (by omega) ?_; intro pz) | (refine A_appN (enc := ic) rfl (by decide) rfl rfl (by first | omega | (simp; done) | (simp; omega)) (by omega) ?_; intro pz)
 | refine A_chk1 rfl rfl rfl ?_ | refine A_chk2 rfl rfl rfl rfl ?_ | refine A_chk3 rfl rfl rfl rfl rfl ?_ | refine A_chk4 rfl rfl rfl rfl rfl rfl ?_ | refine A_chkI rfl (by assumption) rfl (by simp) ?_
 | refine A_ret rfl (by exact (RP.t rfl (RP.t rfl RP.nil))) ?_)
    exact R_intsN (orp_no hEr (hclr.no (by omega)))
  have hpw := pow_lim (k := k) hS (by have := hm.2; split at this <;> split <;> omega)
  have hpw1 := pow_lim (k := k + 1) hS (by have := hm.2; split at this <;> split <;> omega)
  have hsk : S ^ (k + 1) = S ^ k * S := Nat.pow_succ ..
  generalize hN : S ^ k = N at *
  have hcl := hcur.1
  have hcfl : (cur.flatMap pcP).length = N * 2 := by rw [flatp_len (fun _ => rfl), hcl]
  have hcne : cur.flatMap pcP ≠ [] := fun e => by rw [e] at hcfl; simp at hcfl; omega
  repeat' (first
 | refine A_go rfl ?_ | refine A_ifT rfl rfl ?_ | refine A_ifF rfl rfl ?_
 | refine A_offP rfl rfl ?_ | refine A_offH rfl rfl ?_ | refine A_off0 rfl rfl ?_
 | refine A_add rfl rfl rfl (by omega) ?_
 | ((first | refine A_lt rfl rfl rfl ?_ ?_ | refine A_eq rfl rfl rfl ?_ ?_) <;> intro hc <;> try first | contradiction | (exfalso; omega) | exact absurd rfl hc)
 | refine A_idxN1 rfl rfl rfl (by omega) ?_ | refine A_idx1 rfl rfl rfl (by omega) ?_
 | refine A_fld rfl rfl ?_ | refine A_mk3 rfl rfl rfl rfl ?_ | refine A_mk23 rfl rfl rfl ?_ | refine A_mk2 rfl rfl rfl ?_ | refine A_mk13 rfl rfl ?_ | refine A_p (by rfl) rfl ?_
 | refine A_ldI rfl (by first | omega | (simp; done) | (simp; omega)) rfl ?_ | refine A_ldB rfl (by first | omega | (simp; done) | (simp; omega)) rfl ?_ | refine A_ld rfl (by rfl) rfl ?_
 | refine A_ldW rfl (by simp) rfl ?_
 | refine A_st rfl rfl rfl ?_ | refine A_stE rfl rfl (by first | omega | (simp; done) | (simp; omega)) rfl ?_
 | refine A_stW rfl rfl (by simp) rfl ?_
 | ((first | refine A_alloc rfl ?_ | refine A_box rfl rfl ?_ | refine A_boxC rfl rfl ?_ | refine A_makeN rfl rfl rfl (by omega) ?_ | refine A_make rfl rfl rfl (by omega) ?_ | refine A_bld1 rfl rfl ?_ | refine A_bld2 rfl rfl rfl ?_ | refine A_bld4 rfl rfl rfl rfl rfl ?_) <;> intro pz hpz)
 | refine A_bld0 rfl ?_
 | (refine A_app rfl rfl rfl (by first | omega | (simp; done) | (simp; omega)) (by first | omega | (simp; done) | (simp; omega)) (by omega) ?_; intro pz) | (refine A_appN (enc := ic) rfl (by decide) rfl rfl (by first | omega | (simp; done) | (simp; omega)) (by omega) ?_; intro pz)
 | refine A_chk1 rfl rfl rfl ?_ | refine A_chk2 rfl rfl rfl rfl ?_ | refine A_chk3 rfl rfl rfl rfl rfl ?_ | refine A_chk4 rfl rfl rfl rfl rfl rfl ?_ | refine A_chkI rfl (by assumption) rfl (by simp) ?_
 | refine A_ret rfl (by exact (RP.t rfl (RP.t rfl RP.nil))) ?_)
  refine A_loopX rfl (fun m fr L => ∃ (i pn : Nat) (nx : List Pr), m = N - i ∧ fr = [(2, .c (.ptr q 0)), (7, .c (.sl pn 0 (i * S))), (33, iv M), (34, iv k), (37, .c (.sl p 0 N)), (38, iv N), (39, iv i)] ∧ L = (q, .rw 27 3 [ic S, ic re, .sl id_xs off_xs len_xs]) :: (p, orowP cur) :: (pn, orowP nx) :: (pobs cur ++ pobs nx) ∧ i ≤ N ∧ Lvl S E xs (k + 1) (i * S) nx ∧ Clear S E xs (k + 1, i * S)) (n := N) ⟨(q, .rw 27 3 [ic S, ic re, .sl id_xs off_xs len_xs]) :: (p, orowP cur) :: (1, orowP []) :: (pobs cur ++ pobs []), ⟨0, 1, [], rfl, by rw [Nat.zero_mul]; rfl, rfl, by omega, by rw [Nat.zero_mul]; exact Lvl.nil, by rw [Nat.zero_mul]; exact hclr⟩, ?_⟩ ?_
  · simp only [List.flatMap_nil, List.append_nil]
    show Sub ((q, .rw 27 3 [ic S, ic re, .sl id_xs off_xs len_xs]) :: (p, orowP cur) :: (1, .rw 78 2 []) :: pobs cur) _
    infer_instance
  rintro m fr L ⟨i, pn, nx, rfl, rfl, rfl, hi, hnx, hcl2⟩
  by_cases hi' : i < N
  case neg =>
    obtain rfl : N = i := by omega
    haveI : Sub (pobs nx) (pobs cur ++ pobs nx) := sub_drop
    repeat' (first
 | refine A_go rfl ?_ | refine A_ifT rfl rfl ?_ | refine A_ifF rfl rfl ?_
 | refine A_offP rfl rfl ?_ | refine A_offH rfl rfl ?_ | refine A_off0 rfl rfl ?_
 | refine A_add rfl rfl rfl (by omega) ?_
 | ((first | refine A_lt rfl rfl rfl ?_ ?_ | refine A_eq rfl rfl rfl ?_ ?_) <;> intro hc <;> try first | contradiction | (exfalso; omega) | exact absurd rfl hc)
 | refine A_idxN1 rfl rfl rfl (by omega) ?_ | refine A_idx1 rfl rfl rfl (by omega) ?_
 | refine A_fld rfl rfl ?_ | refine A_mk3 rfl rfl rfl rfl ?_ | refine A_mk23 rfl rfl rfl ?_ | refine A_mk2 rfl rfl rfl ?_ | refine A_mk13 rfl rfl ?_ | refine A_p (by rfl) rfl ?_
 | refine A_ldI rfl (by first | omega | (simp; done) | (simp; omega)) rfl ?_ | refine A_ldB rfl (by first | omega | (simp; done) | (simp; omega)) rfl ?_ | refine A_ld rfl (by rfl) rfl ?_
 | refine A_ldW rfl (by simp) rfl ?_
 | refine A_st rfl rfl rfl ?_ | refine A_stE rfl rfl (by first | omega | (simp; done) | (simp; omega)) rfl ?_
 | refine A_stW rfl rfl (by simp) rfl ?_
 | ((first | refine A_alloc rfl ?_ | refine A_box rfl rfl ?_ | refine A_boxC rfl rfl ?_ | refine A_makeN rfl rfl rfl (by omega) ?_ | refine A_make rfl rfl rfl (by omega) ?_ | refine A_bld1 rfl rfl ?_ | refine A_bld2 rfl rfl rfl ?_ | refine A_bld4 rfl rfl rfl rfl rfl ?_) <;> intro pz hpz)
 | refine A_bld0 rfl ?_
 | (refine A_app rfl rfl rfl (by first | omega | (simp; done) | (simp; omega)) (by first | omega | (simp; done) | (simp; omega)) (by omega) ?_; intro pz) | (refine A_appN (enc := ic) rfl (by decide) rfl rfl (by first | omega | (simp; done) | (simp; omega)) (by omega) ?_; intro pz)
 | refine A_chk1 rfl rfl rfl ?_ | refine A_chk2 rfl rfl rfl rfl ?_ | refine A_chk3 rfl rfl rfl rfl rfl ?_ | refine A_chk4 rfl rfl rfl rfl rfl rfl ?_ | refine A_chkI rfl (by assumption) rfl (by simp) ?_
 | refine A_ret rfl (by exact (RP.t rfl (RP.t rfl RP.nil))) ?_)
    refine A_roundX rfl ⟨M - (k + 1), (q, .rw 27 3 [ic S, ic re, .sl id_xs off_xs len_xs]) :: (pn, orowP nx) :: pobs nx, by omega, ⟨k + 1, pn, nx, rfl, by rw [hsk]; rfl, rfl, by omega, by rw [hsk]; exact hnx, hcl2.up (by omega)⟩, inferInstance⟩
  obtain ⟨z, hz⟩ : ∃ z, cur[i]? = some z := ⟨_, List.getElem?_eq_getElem (by omega)⟩
  obtain ⟨hzw, hze⟩ := hcur.2 i z hz
  have hzm := List.mem_of_getElem? hz
  haveI hW : Has (pobs cur) z.wi (ints z.w) := pobs_hasW hzm
  haveI hEE : Has (pobs cur) z.ei (bools z.e) := pobs_hasE hzm
  have hcut := flatp_cut (f := pcP) (fun _ => rfl) hz
  have hwl : z.w.length = k := by rw [hzw, wd_len]
  have hel : z.e.length = E := by rw [hze, im_len]
  obtain ⟨wi, ww, ei, ee⟩ := z
  simp only at hzw hze hwl hel hW hEE
  have hpc : pcP ⟨wi, ww, ei, ee⟩ = [.sl wi 0 k, .sl ei 0 E] := by simp [hwl, hel]
  rw [hpc] at hcut
  repeat' (first
 | refine A_go rfl ?_ | refine A_ifT rfl rfl ?_ | refine A_ifF rfl rfl ?_
 | refine A_offP rfl rfl ?_ | refine A_offH rfl rfl ?_ | refine A_off0 rfl rfl ?_
 | refine A_add rfl rfl rfl (by omega) ?_
 | ((first | refine A_lt rfl rfl rfl ?_ ?_ | refine A_eq rfl rfl rfl ?_ ?_) <;> intro hc <;> try first | contradiction | (exfalso; omega) | exact absurd rfl hc)
 | refine A_idxN1 rfl rfl rfl (by omega) ?_ | refine A_idx1 rfl rfl rfl (by omega) ?_
 | refine A_idxN rfl rfl rfl (by omega) ?_
 | refine A_ldA (ys := [.sl wi 0 k, .sl ei 0 E]) rfl hcne hcut rfl ?_
 | refine A_fld rfl rfl ?_ | refine A_mk3 rfl rfl rfl rfl ?_ | refine A_mk23 rfl rfl rfl ?_ | refine A_mk2 rfl rfl rfl ?_ | refine A_mk13 rfl rfl ?_ | refine A_p (by rfl) rfl ?_
 | refine A_ldI rfl (by first | omega | (simp; done) | (simp; omega)) rfl ?_ | refine A_ldB rfl (by first | omega | (simp; done) | (simp; omega)) rfl ?_ | refine A_ld rfl (by rfl) rfl ?_
 | refine A_ldW rfl (by simp) rfl ?_
 | refine A_st rfl rfl rfl ?_ | refine A_stE rfl rfl (by first | omega | (simp; done) | (simp; omega)) rfl ?_
 | refine A_stW rfl rfl (by simp) rfl ?_
 | ((first | refine A_alloc rfl ?_ | refine A_box rfl rfl ?_ | refine A_boxC rfl rfl ?_ | refine A_makeN rfl rfl rfl (by omega) ?_ | refine A_make rfl rfl rfl (by omega) ?_ | refine A_bld1 rfl rfl ?_ | refine A_bld2 rfl rfl rfl ?_ | refine A_bld4 rfl rfl rfl rfl rfl ?_) <;> intro pz hpz)
 | refine A_bld0 rfl ?_
 | (refine A_app rfl rfl rfl (by first | omega | (simp; done) | (simp; omega)) (by first | omega | (simp; done) | (simp; omega)) (by omega) ?_; intro pz) | (refine A_appN (enc := ic) rfl (by decide) rfl rfl (by first | omega | (simp; done) | (simp; omega)) (by omega) ?_; intro pz)
 | refine A_chk1 rfl rfl rfl ?_ | refine A_chk2 rfl rfl rfl rfl ?_ | refine A_chk3 rfl rfl rfl rfl rfl ?_ | refine A_chk4 rfl rfl rfl rfl rfl rfl ?_ | refine A_chkI rfl (by assumption) rfl (by simp) ?_
 | refine A_ret rfl (by exact (RP.t rfl (RP.t rfl RP.nil))) ?_)
  obtain ⟨p9, hEq⟩ : ∃ p, p = pz := ⟨_, rfl⟩; subst hEq
  refine A_loopX rfl (fun m fr L => ∃ (to pn : Nat) (nx : List Pr), m = S - to ∧ fr = [(2, .c (.ptr q 0)), (7, .c (.sl pn 0 (i * S + to))), (9, .c (.ptr p9 0)), (33, iv M), (34, iv k), (37, .c (.sl p 0 N)), (38, iv N), (39, iv i), (44, iv S), (45, iv to)] ∧ L = (q, .rw 27 3 [ic S, ic re, .sl id_xs off_xs len_xs]) :: (p9, .rw 78 2 [.sl wi 0 k, .sl ei 0 E]) :: (p, orowP cur) :: (pn, orowP nx) :: (pobs cur ++ pobs nx) ∧ to ≤ S ∧ Lvl S E xs (k + 1) (i * S + to) nx ∧ Clear S E xs (k + 1, i * S + to)) (n := S) ⟨(q, .rw 27 3 [ic S, ic re, .sl id_xs off_xs len_xs]) :: (p9, .rw 78 2 [.sl wi 0 k, .sl ei 0 E]) :: (p, orowP cur) :: (pn, orowP nx) :: (pobs cur ++ pobs nx), ⟨0, pn, nx, rfl, rfl, rfl, by omega, hnx, hcl2⟩, inferInstance⟩ ?_
  clear hnx hcl2
  rintro m fr L ⟨to, pn, nx, rfl, rfl, rfl, hto, hnx, hcl2⟩
  by_cases hto' : to < S
  case neg =>
    obtain rfl : S = to := by omega
    repeat' (first
 | refine A_go rfl ?_ | refine A_ifT rfl rfl ?_ | refine A_ifF rfl rfl ?_
 | refine A_offP rfl rfl ?_ | refine A_offH rfl rfl ?_ | refine A_off0 rfl rfl ?_
 | refine A_add rfl rfl rfl (by omega) ?_
 | ((first | refine A_lt rfl rfl rfl ?_ ?_ | refine A_eq rfl rfl rfl ?_ ?_) <;> intro hc <;> try first | contradiction | (exfalso; omega) | exact absurd rfl hc)
 | refine A_idxN1 rfl rfl rfl (by omega) ?_ | refine A_idx1 rfl rfl rfl (by omega) ?_
 | refine A_fld rfl rfl ?_ | refine A_mk3 rfl rfl rfl rfl ?_ | refine A_mk23 rfl rfl rfl ?_ | refine A_mk2 rfl rfl rfl ?_ | refine A_mk13 rfl rfl ?_ | refine A_p (by rfl) rfl ?_
 | refine A_ldI rfl (by first | omega | (simp; done) | (simp; omega)) rfl ?_ | refine A_ldB rfl (by first | omega | (simp; done) | (simp; omega)) rfl ?_ | refine A_ld rfl (by rfl) rfl ?_
 | refine A_ldW rfl (by simp) rfl ?_
 | refine A_st rfl rfl rfl ?_ | refine A_stE rfl rfl (by first | omega | (simp; done) | (simp; omega)) rfl ?_
 | refine A_stW rfl rfl (by simp) rfl ?_
 | ((first | refine A_alloc rfl ?_ | refine A_box rfl rfl ?_ | refine A_boxC rfl rfl ?_ | refine A_makeN rfl rfl rfl (by omega) ?_ | refine A_make rfl rfl rfl (by omega) ?_ | refine A_bld1 rfl rfl ?_ | refine A_bld2 rfl rfl rfl ?_ | refine A_bld4 rfl rfl rfl rfl rfl ?_) <;> intro pz hpz)
 | refine A_bld0 rfl ?_
 | (refine A_app rfl rfl rfl (by first | omega | (simp; done) | (simp; omega)) (by first | omega | (simp; done) | (simp; omega)) (by omega) ?_; intro pz) | (refine A_appN (enc := ic) rfl (by decide) rfl rfl (by first | omega | (simp; done) | (simp; omega)) (by omega) ?_; intro pz)
 | refine A_chk1 rfl rfl rfl ?_ | refine A_chk2 rfl rfl rfl rfl ?_ | refine A_chk3 rfl rfl rfl rfl rfl ?_ | refine A_chk4 rfl rfl rfl rfl rfl rfl ?_ | refine A_chkI rfl (by assumption) rfl (by simp) ?_
 | refine A_ret rfl (by exact (RP.t rfl (RP.t rfl RP.nil))) ?_)
    refine A_roundX rfl ⟨N - (i + 1), (q, .rw 27 3 [ic S, ic re, .sl id_xs off_xs len_xs]) :: (p, orowP cur) :: (pn, orowP nx) :: (pobs cur ++ pobs nx), by omega, ⟨i + 1, pn, nx, rfl, by rw [Nat.add_mul, Nat.one_mul]; rfl, rfl, by omega, by rw [Nat.add_mul, Nat.one_mul]; exact hnx, by rw [Nat.add_mul, Nat.one_mul]; exact hcl2⟩, inferInstance⟩
  have hlt := lt_mul hi' hto'
  have hnl := hnx.1
  repeat' (first
 | refine A_go rfl ?_ | refine A_ifT rfl rfl ?_ | refine A_ifF rfl rfl ?_
 | refine A_offP rfl rfl ?_ | refine A_offH rfl rfl ?_ | refine A_off0 rfl rfl ?_
 | refine A_add rfl rfl rfl (by omega) ?_
 | ((first | refine A_lt rfl rfl rfl ?_ ?_ | refine A_eq rfl rfl rfl ?_ ?_) <;> intro hc <;> try first | contradiction | (exfalso; omega) | exact absurd rfl hc)
 | refine A_idxN1 rfl rfl rfl (by omega) ?_ | refine A_idx1 rfl rfl rfl (by omega) ?_
 | (refine A_callM rfl rfl (fun s H => c_clone (xs := ww)) ?_; rintro _ _ ⟨pz, rfl, rfl⟩) | (refine A_callM0 rfl rfl (fun s H => c_clone (xs := ww)) ?_; rintro _ _ ⟨pz, rfl, rfl⟩)
 | (refine A_bld1 (a := (to : Int)) rfl rfl ?_ <;> intro pz hpz)
 | (refine A_makeN (enc := bc) (a := false) rfl rfl rfl (by omega) ?_ <;> intro pz hpz)
 | refine A_fld rfl rfl ?_ | refine A_mk3 rfl rfl rfl rfl ?_ | refine A_mk23 rfl rfl rfl ?_ | refine A_mk2 rfl rfl rfl ?_ | refine A_mk13 rfl rfl ?_ | refine A_p (by rfl) rfl ?_
 | refine A_ldI rfl (by first | omega | (simp; done) | (simp; omega)) rfl ?_ | refine A_ldB rfl (by first | omega | (simp; done) | (simp; omega)) rfl ?_ | refine A_ld rfl (by rfl) rfl ?_
 | refine A_ldW rfl (by simp) rfl ?_
 | refine A_st rfl rfl rfl ?_ | refine A_stE rfl rfl (by first | omega | (simp; done) | (simp; omega)) rfl ?_
 | refine A_stW rfl rfl (by simp) rfl ?_
 | ((first | refine A_alloc rfl ?_ | refine A_box rfl rfl ?_ | refine A_boxC rfl rfl ?_ | refine A_makeN rfl rfl rfl (by omega) ?_ | refine A_make rfl rfl rfl (by omega) ?_ | refine A_bld1 rfl rfl ?_ | refine A_bld2 rfl rfl rfl ?_ | refine A_bld4 rfl rfl rfl rfl rfl ?_) <;> intro pz hpz)
 | refine A_bld0 rfl ?_
 | (refine A_app rfl rfl rfl (by first | omega | (simp; done) | (simp; omega)) (by first | omega | (simp; done) | (simp; omega)) (by omega) ?_; intro pz) | (refine A_appN (enc := ic) rfl (by decide) rfl rfl (by first | omega | (simp; done) | (simp; omega)) (by omega) ?_; intro pz)
 | refine A_chk1 rfl rfl rfl ?_ | refine A_chk2 rfl rfl rfl rfl ?_ | refine A_chk3 rfl rfl rfl rfl rfl ?_ | refine A_chk4 rfl rfl rfl rfl rfl rfl ?_ | refine A_chkI rfl (by assumption) rfl (by simp) ?_
 | refine A_ret rfl (by exact (RP.t rfl (RP.t rfl RP.nil))) ?_)
  obtain ⟨p11, hEq⟩ : ∃ p, p = pz := ⟨_, rfl⟩; subst hEq
  obtain ⟨py, hEq⟩ : ∃ p, p = pz := ⟨_, rfl⟩; subst hEq
  obtain ⟨pw, hEq⟩ : ∃ p, p = pz := ⟨_, rfl⟩; subst hEq
  obtain ⟨pt1, hEq⟩ : ∃ p, p = pz := ⟨_, rfl⟩; subst hEq
  simp only [List.nil_append]
  refine A_loopX rfl (fun m fr L => ∃ a : Nat, m = E - a ∧ fr = [(2, .c (.ptr q 0)), (7, .c (.sl pn 0 (i * S + to))), (9, .c (.ptr p9 0)), (10, iv to), (11, .c (.ptr p11 0)), (33, iv M), (34, iv k), (37, .c (.sl p 0 N)), (38, iv N), (39, iv i), (44, iv S), (45, iv to), (60, .c (.sl ei 0 E)), (61, iv E), (62, iv a)] ∧ L = (q, .rw 27 3 [ic S, ic re, .sl id_xs off_xs len_xs]) :: (p9, .rw 78 2 [.sl wi 0 k, .sl ei 0 E]) :: (p11, .rw 78 2 [.sl pw 0 (k + 1), .sl py 0 E]) :: (pw, ints (ww ++ [(to : Int)])) :: (py, bools (rchN S E xs ee to (a * S))) :: (p, orowP cur) :: (pn, orowP nx) :: (pobs cur ++ pobs nx) ∧ a ≤ E) (n := E) ⟨(q, .rw 27 3 [ic S, ic re, .sl id_xs off_xs len_xs]) :: (p9, .rw 78 2 [.sl wi 0 k, .sl ei 0 E]) :: (p11, .rw 78 2 [.sl pw 0 (k + 1), .sl py 0 E]) :: (pw, ints (ww ++ [(to : Int)])) :: (py, bools (rchN S E xs ee to (0 * S))) :: (p, orowP cur) :: (pn, orowP nx) :: (pobs cur ++ pobs nx), ⟨0, rfl, rfl, rfl, by omega⟩, by rw [Nat.zero_mul]; show Sub ((q, .rw 27 3 [ic S, ic re, .sl id_xs off_xs len_xs]) :: (p9, .rw 78 2 [.sl wi 0 k, .sl ei 0 E]) :: (p11, .rw 78 2 [.sl pw 0 (k + 1), .sl py 0 E]) :: (pw, ints (ww ++ [(to : Int)])) :: (py, bools (List.replicate E false)) :: (p, orowP cur) :: (pn, orowP nx) :: (pobs cur ++ pobs nx)) _; infer_instance⟩ ?_
  rintro m fr L ⟨a, rfl, rfl, rfl, ha⟩
  by_cases ha' : a < E
  case pos =>
    have hrl := rchN_len (S := S) (E := E) (xs := xs) (e := ee) (to := to) (a * S)
    repeat' (first
 | refine A_go rfl ?_ | refine A_ifT rfl rfl ?_ | refine A_ifF rfl rfl ?_
 | refine A_offP rfl rfl ?_ | refine A_offH rfl rfl ?_ | refine A_off0 rfl rfl ?_
 | refine A_add rfl rfl rfl (by omega) ?_
 | ((first | refine A_lt rfl rfl rfl ?_ ?_ | refine A_eq rfl rfl rfl ?_ ?_) <;> intro hc <;> try first | contradiction | (exfalso; omega) | exact absurd rfl hc)
 | refine A_idxN1 rfl rfl rfl (by omega) ?_ | refine A_idx1 rfl rfl rfl (by omega) ?_
 | refine A_fld rfl rfl ?_ | refine A_mk3 rfl rfl rfl rfl ?_ | refine A_mk23 rfl rfl rfl ?_ | refine A_mk2 rfl rfl rfl ?_ | refine A_mk13 rfl rfl ?_ | refine A_p (by rfl) rfl ?_
 | refine A_ldI rfl (by first | omega | (simp; done) | (simp; omega)) rfl ?_ | refine A_ldB rfl (by first | omega | (simp; done) | (simp; omega)) rfl ?_ | refine A_ld rfl (by rfl) rfl ?_
 | refine A_ldW rfl (by simp) rfl ?_
 | refine A_st rfl rfl rfl ?_ | refine A_stE rfl rfl (by first | omega | (simp; done) | (simp; omega)) rfl ?_
 | refine A_stW rfl rfl (by simp) rfl ?_
 | ((first | refine A_alloc rfl ?_ | refine A_box rfl rfl ?_ | refine A_boxC rfl rfl ?_ | refine A_makeN rfl rfl rfl (by omega) ?_ | refine A_make rfl rfl rfl (by omega) ?_ | refine A_bld1 rfl rfl ?_ | refine A_bld2 rfl rfl rfl ?_ | refine A_bld4 rfl rfl rfl rfl rfl ?_) <;> intro pz hpz)
 | refine A_bld0 rfl ?_
 | (refine A_app rfl rfl rfl (by first | omega | (simp; done) | (simp; omega)) (by first | omega | (simp; done) | (simp; omega)) (by omega) ?_; intro pz) | (refine A_appN (enc := ic) rfl (by decide) rfl rfl (by first | omega | (simp; done) | (simp; omega)) (by omega) ?_; intro pz)
 | refine A_chk1 rfl rfl rfl ?_ | refine A_chk2 rfl rfl rfl rfl ?_ | refine A_chk3 rfl rfl rfl rfl rfl ?_ | refine A_chk4 rfl rfl rfl rfl rfl rfl ?_ | refine A_chkI rfl (by assumption) rfl (by simp) ?_
 | refine A_ret rfl (by exact (RP.t rfl (RP.t rfl RP.nil))) ?_)
    refine A_loopX rfl (fun m fr L => ∃ d : Nat, m = S - d ∧ fr = [(2, .c (.ptr q 0)), (7, .c (.sl pn 0 (i * S + to))), (9, .c (.ptr p9 0)), (10, iv to), (11, .c (.ptr p11 0)), (12, iv a), (13, bv (ee.getD a false)), (33, iv M), (34, iv k), (37, .c (.sl p 0 N)), (38, iv N), (39, iv i), (44, iv S), (45, iv to), (60, .c (.sl ei 0 E)), (61, iv E), (62, iv a), (68, iv S), (69, iv d)] ∧ L = (q, .rw 27 3 [ic S, ic re, .sl id_xs off_xs len_xs]) :: (p9, .rw 78 2 [.sl wi 0 k, .sl ei 0 E]) :: (p11, .rw 78 2 [.sl pw 0 (k + 1), .sl py 0 E]) :: (pw, ints (ww ++ [(to : Int)])) :: (py, bools (rchN S E xs ee to (a * S + d))) :: (p, orowP cur) :: (pn, orowP nx) :: (pobs cur ++ pobs nx) ∧ d ≤ S) (n := S) ⟨(q, .rw 27 3 [ic S, ic re, .sl id_xs off_xs len_xs]) :: (p9, .rw 78 2 [.sl wi 0 k, .sl ei 0 E]) :: (p11, .rw 78 2 [.sl pw 0 (k + 1), .sl py 0 E]) :: (pw, ints (ww ++ [(to : Int)])) :: (py, bools (rchN S E xs ee to (a * S + 0))) :: (p, orowP cur) :: (pn, orowP nx) :: (pobs cur ++ pobs nx), ⟨0, rfl, rfl, rfl, by omega⟩, inferInstance⟩ ?_
    clear hrl
    rintro m fr L ⟨d, rfl, rfl, rfl, hd⟩
    have hrl := rchN_len (S := S) (E := E) (xs := xs) (e := ee) (to := to) (a * S + d)
    by_cases hd' : d < S
    case neg =>
      obtain rfl : S = d := by omega
      repeat' (first
 | refine A_go rfl ?_ | refine A_ifT rfl rfl ?_ | refine A_ifF rfl rfl ?_
 | refine A_offP rfl rfl ?_ | refine A_offH rfl rfl ?_ | refine A_off0 rfl rfl ?_
 | refine A_add rfl rfl rfl (by omega) ?_
 | ((first | refine A_lt rfl rfl rfl ?_ ?_ | refine A_eq rfl rfl rfl ?_ ?_) <;> intro hc <;> try first | contradiction | (exfalso; omega) | exact absurd rfl hc)
 | refine A_idxN1 rfl rfl rfl (by omega) ?_ | refine A_idx1 rfl rfl rfl (by omega) ?_
 | refine A_fld rfl rfl ?_ | refine A_mk3 rfl rfl rfl rfl ?_ | refine A_mk23 rfl rfl rfl ?_ | refine A_mk2 rfl rfl rfl ?_ | refine A_mk13 rfl rfl ?_ | refine A_p (by rfl) rfl ?_
 | refine A_ldI rfl (by first | omega | (simp; done) | (simp; omega)) rfl ?_ | refine A_ldB rfl (by first | omega | (simp; done) | (simp; omega)) rfl ?_ | refine A_ld rfl (by rfl) rfl ?_
 | refine A_ldW rfl (by simp) rfl ?_
 | refine A_st rfl rfl rfl ?_ | refine A_stE rfl rfl (by first | omega | (simp; done) | (simp; omega)) rfl ?_
 | refine A_stW rfl rfl (by simp) rfl ?_
 | ((first | refine A_alloc rfl ?_ | refine A_box rfl rfl ?_ | refine A_boxC rfl rfl ?_ | refine A_makeN rfl rfl rfl (by omega) ?_ | refine A_make rfl rfl rfl (by omega) ?_ | refine A_bld1 rfl rfl ?_ | refine A_bld2 rfl rfl rfl ?_ | refine A_bld4 rfl rfl rfl rfl rfl ?_) <;> intro pz hpz)
 | refine A_bld0 rfl ?_
 | (refine A_app rfl rfl rfl (by first | omega | (simp; done) | (simp; omega)) (by first | omega | (simp; done) | (simp; omega)) (by omega) ?_; intro pz) | (refine A_appN (enc := ic) rfl (by decide) rfl rfl (by first | omega | (simp; done) | (simp; omega)) (by omega) ?_; intro pz)
 | refine A_chk1 rfl rfl rfl ?_ | refine A_chk2 rfl rfl rfl rfl ?_ | refine A_chk3 rfl rfl rfl rfl rfl ?_ | refine A_chk4 rfl rfl rfl rfl rfl rfl ?_ | refine A_chkI rfl (by assumption) rfl (by simp) ?_
 | refine A_ret rfl (by exact (RP.t rfl (RP.t rfl RP.nil))) ?_)
      refine A_roundX rfl ⟨E - (a + 1), (q, .rw 27 3 [ic S, ic re, .sl id_xs off_xs len_xs]) :: (p9, .rw 78 2 [.sl wi 0 k, .sl ei 0 E]) :: (p11, .rw 78 2 [.sl pw 0 (k + 1), .sl py 0 E]) :: (pw, ints (ww ++ [(to : Int)])) :: (py, bools (rchN S E xs ee to ((a + 1) * S))) :: (p, orowP cur) :: (pn, orowP nx) :: (pobs cur ++ pobs nx), by omega, ⟨a + 1, rfl, rfl, rfl, by omega⟩, by rw [Nat.add_mul, Nat.one_mul]; exact inferInstance⟩
    have hb := mod_in (E := E) (m := a * S + d) hEb.1
    have hstep := rchN_step (E := E) (a := a) (xs := xs) (e := ee) (to := (to : Int)) hd'
    have h1 := lt_mul ha' hd'
    cases hx : ee.getD a false with
    | false =>
      rw [if_neg (fun g => by rw [hx] at g; exact absurd g.1 (by decide))] at hstep
      repeat' (first
 | refine A_go rfl ?_ | refine A_ifT rfl rfl ?_ | refine A_ifF rfl rfl ?_
 | refine A_offP rfl rfl ?_ | refine A_offH rfl rfl ?_ | refine A_off0 rfl rfl ?_
 | refine A_add rfl rfl rfl (by omega) ?_
 | ((first | refine A_lt rfl rfl rfl ?_ ?_ | refine A_eq rfl rfl rfl ?_ ?_) <;> intro hc <;> try first | contradiction | (exfalso; omega) | exact absurd rfl hc)
 | refine A_idxN1 rfl rfl rfl (by omega) ?_ | refine A_idx1 rfl rfl rfl (by omega) ?_
 | refine A_callV rfl rfl (fun s H => c_way (hE := hE) (hl := hl)) ?_
 | refine A_fld rfl rfl ?_ | refine A_mk3 rfl rfl rfl rfl ?_ | refine A_mk23 rfl rfl rfl ?_ | refine A_mk2 rfl rfl rfl ?_ | refine A_mk13 rfl rfl ?_ | refine A_p (by rfl) rfl ?_
 | refine A_ldI rfl (by first | omega | (simp; done) | (simp; omega)) rfl ?_ | refine A_ldB rfl (by first | omega | (simp; done) | (simp; omega)) rfl ?_ | refine A_ld rfl (by rfl) rfl ?_
 | refine A_ldW rfl (by simp) rfl ?_
 | refine A_st rfl rfl rfl ?_ | refine A_stE rfl rfl (by first | omega | (simp; done) | (simp; omega)) rfl ?_
 | refine A_stW rfl rfl (by simp) rfl ?_
 | ((first | refine A_alloc rfl ?_ | refine A_box rfl rfl ?_ | refine A_boxC rfl rfl ?_ | refine A_makeN rfl rfl rfl (by omega) ?_ | refine A_make rfl rfl rfl (by omega) ?_ | refine A_bld1 rfl rfl ?_ | refine A_bld2 rfl rfl rfl ?_ | refine A_bld4 rfl rfl rfl rfl rfl ?_) <;> intro pz hpz)
 | refine A_bld0 rfl ?_
 | (refine A_app rfl rfl rfl (by first | omega | (simp; done) | (simp; omega)) (by first | omega | (simp; done) | (simp; omega)) (by omega) ?_; intro pz) | (refine A_appN (enc := ic) rfl (by decide) rfl rfl (by first | omega | (simp; done) | (simp; omega)) (by omega) ?_; intro pz)
 | refine A_chk1 rfl rfl rfl ?_ | refine A_chk2 rfl rfl rfl rfl ?_ | refine A_chk3 rfl rfl rfl rfl rfl ?_ | refine A_chk4 rfl rfl rfl rfl rfl rfl ?_ | refine A_chkI rfl (by assumption) rfl (by simp) ?_
 | refine A_ret rfl (by exact (RP.t rfl (RP.t rfl RP.nil))) ?_)
      refine A_roundX rfl ⟨S - (d + 1), (q, .rw 27 3 [ic S, ic re, .sl id_xs off_xs len_xs]) :: (p9, .rw 78 2 [.sl wi 0 k, .sl ei 0 E]) :: (p11, .rw 78 2 [.sl pw 0 (k + 1), .sl py 0 E]) :: (pw, ints (ww ++ [(to : Int)])) :: (py, bools (rchN S E xs ee to (a * S + (d + 1)))) :: (p, orowP cur) :: (pn, orowP nx) :: (pobs cur ++ pobs nx), by omega, ⟨d + 1, rfl, rfl, rfl, by omega⟩, by rw [hstep]; exact inferInstance⟩
    | true =>
      by_cases hxt : xs.getD (a * S + d) 0 = to
      · rw [if_pos ⟨hx, hxt⟩] at hstep
        repeat' (first
 | refine A_go rfl ?_ | refine A_ifT rfl rfl ?_ | refine A_ifF rfl rfl ?_
 | refine A_offP rfl rfl ?_ | refine A_offH rfl rfl ?_ | refine A_off0 rfl rfl ?_
 | refine A_add rfl rfl rfl (by omega) ?_
 | ((first | refine A_lt rfl rfl rfl ?_ ?_ | refine A_eq rfl rfl rfl ?_ ?_) <;> intro hc <;> try first | contradiction | (exfalso; omega) | exact absurd rfl hc)
 | refine A_idxN1 rfl rfl rfl (by omega) ?_ | refine A_idx1 rfl rfl rfl (by omega) ?_
 | refine A_callV rfl rfl (fun s H => c_way (hE := hE) (hl := hl)) ?_
 | refine A_stE (enc := bc) (a := true) rfl rfl (by omega) rfl ?_
 | refine A_fld rfl rfl ?_ | refine A_mk3 rfl rfl rfl rfl ?_ | refine A_mk23 rfl rfl rfl ?_ | refine A_mk2 rfl rfl rfl ?_ | refine A_mk13 rfl rfl ?_ | refine A_p (by rfl) rfl ?_
 | refine A_ldI rfl (by first | omega | (simp; done) | (simp; omega)) rfl ?_ | refine A_ldB rfl (by first | omega | (simp; done) | (simp; omega)) rfl ?_ | refine A_ld rfl (by rfl) rfl ?_
 | refine A_ldW rfl (by simp) rfl ?_
 | refine A_st rfl rfl rfl ?_ | refine A_stE rfl rfl (by first | omega | (simp; done) | (simp; omega)) rfl ?_
 | refine A_stW rfl rfl (by simp) rfl ?_
 | ((first | refine A_alloc rfl ?_ | refine A_box rfl rfl ?_ | refine A_boxC rfl rfl ?_ | refine A_makeN rfl rfl rfl (by omega) ?_ | refine A_make rfl rfl rfl (by omega) ?_ | refine A_bld1 rfl rfl ?_ | refine A_bld2 rfl rfl rfl ?_ | refine A_bld4 rfl rfl rfl rfl rfl ?_) <;> intro pz hpz)
 | refine A_bld0 rfl ?_
 | (refine A_app rfl rfl rfl (by first | omega | (simp; done) | (simp; omega)) (by first | omega | (simp; done) | (simp; omega)) (by omega) ?_; intro pz) | (refine A_appN (enc := ic) rfl (by decide) rfl rfl (by first | omega | (simp; done) | (simp; omega)) (by omega) ?_; intro pz)
 | refine A_chk1 rfl rfl rfl ?_ | refine A_chk2 rfl rfl rfl rfl ?_ | refine A_chk3 rfl rfl rfl rfl rfl ?_ | refine A_chk4 rfl rfl rfl rfl rfl rfl ?_ | refine A_chkI rfl (by assumption) rfl (by simp) ?_
 | refine A_ret rfl (by exact (RP.t rfl (RP.t rfl RP.nil))) ?_)
        refine A_roundX rfl ⟨S - (d + 1), (q, .rw 27 3 [ic S, ic re, .sl id_xs off_xs len_xs]) :: (p9, .rw 78 2 [.sl wi 0 k, .sl ei 0 E]) :: (p11, .rw 78 2 [.sl pw 0 (k + 1), .sl py 0 E]) :: (pw, ints (ww ++ [(to : Int)])) :: (py, bools (rchN S E xs ee to (a * S + (d + 1)))) :: (p, orowP cur) :: (pn, orowP nx) :: (pobs cur ++ pobs nx), by omega, ⟨d + 1, rfl, rfl, rfl, by omega⟩, by rw [hstep]; exact inferInstance⟩
      · rw [if_neg (fun g => hxt g.2)] at hstep
        repeat' (first
 | refine A_go rfl ?_ | refine A_ifT rfl rfl ?_ | refine A_ifF rfl rfl ?_
 | refine A_offP rfl rfl ?_ | refine A_offH rfl rfl ?_ | refine A_off0 rfl rfl ?_
 | refine A_add rfl rfl rfl (by omega) ?_
 | ((first | refine A_lt rfl rfl rfl ?_ ?_ | refine A_eq rfl rfl rfl ?_ ?_) <;> intro hc <;> try first | contradiction | (exfalso; omega) | exact absurd rfl hc)
 | refine A_idxN1 rfl rfl rfl (by omega) ?_ | refine A_idx1 rfl rfl rfl (by omega) ?_
 | refine A_callV rfl rfl (fun s H => c_way (hE := hE) (hl := hl)) ?_
 | refine A_fld rfl rfl ?_ | refine A_mk3 rfl rfl rfl rfl ?_ | refine A_mk23 rfl rfl rfl ?_ | refine A_mk2 rfl rfl rfl ?_ | refine A_mk13 rfl rfl ?_ | refine A_p (by rfl) rfl ?_
 | refine A_ldI rfl (by first | omega | (simp; done) | (simp; omega)) rfl ?_ | refine A_ldB rfl (by first | omega | (simp; done) | (simp; omega)) rfl ?_ | refine A_ld rfl (by rfl) rfl ?_
 | refine A_ldW rfl (by simp) rfl ?_
 | refine A_st rfl rfl rfl ?_ | refine A_stE rfl rfl (by first | omega | (simp; done) | (simp; omega)) rfl ?_
 | refine A_stW rfl rfl (by simp) rfl ?_
 | ((first | refine A_alloc rfl ?_ | refine A_box rfl rfl ?_ | refine A_boxC rfl rfl ?_ | refine A_makeN rfl rfl rfl (by omega) ?_ | refine A_make rfl rfl rfl (by omega) ?_ | refine A_bld1 rfl rfl ?_ | refine A_bld2 rfl rfl rfl ?_ | refine A_bld4 rfl rfl rfl rfl rfl ?_) <;> intro pz hpz)
 | refine A_bld0 rfl ?_
 | (refine A_app rfl rfl rfl (by first | omega | (simp; done) | (simp; omega)) (by first | omega | (simp; done) | (simp; omega)) (by omega) ?_; intro pz) | (refine A_appN (enc := ic) rfl (by decide) rfl rfl (by first | omega | (simp; done) | (simp; omega)) (by omega) ?_; intro pz)
 | refine A_chk1 rfl rfl rfl ?_ | refine A_chk2 rfl rfl rfl rfl ?_ | refine A_chk3 rfl rfl rfl rfl rfl ?_ | refine A_chk4 rfl rfl rfl rfl rfl rfl ?_ | refine A_chkI rfl (by assumption) rfl (by simp) ?_
 | refine A_ret rfl (by exact (RP.t rfl (RP.t rfl RP.nil))) ?_)
        refine A_roundX rfl ⟨S - (d + 1), (q, .rw 27 3 [ic S, ic re, .sl id_xs off_xs len_xs]) :: (p9, .rw 78 2 [.sl wi 0 k, .sl ei 0 E]) :: (p11, .rw 78 2 [.sl pw 0 (k + 1), .sl py 0 E]) :: (pw, ints (ww ++ [(to : Int)])) :: (py, bools (rchN S E xs ee to (a * S + (d + 1)))) :: (p, orowP cur) :: (pn, orowP nx) :: (pobs cur ++ pobs nx), by omega, ⟨d + 1, rfl, rfl, rfl, by omega⟩, by rw [hstep]; exact inferInstance⟩
  obtain rfl : E = a := by omega
  have hYe : rchN S E xs ee (to : Int) (E * S) = im S E xs (k + 1) (i * S + to) := by rw [im_child hto', ← hze]; rfl
  have hWd : ww ++ [(to : Int)] = wd S (k + 1) (i * S + to) := by rw [wd_child hto', hzw]
  have hYl : (im S E xs (k + 1) (i * S + to)).length = E := im_len ..
  have hWl : (ww ++ [(to : Int)]).length = k + 1 := by rw [List.length_append, hwl]; rfl
  rw [hYe]
  by_cases hne : NoEnd (im S E xs (k + 1) (i * S + to))
  · have hO : Orp S E xs M (k + 1, i * S + to) := hcl2.orp (by omega) (by rw [hsk]; exact hlt) hne
    obtain ⟨hP, hWe⟩ := orp_yes hv ⟨by omega, hm.2⟩ hEr hO
    generalize im S E xs (k + 1) (i * S + to) = Y at *
    generalize hWg : ww ++ [(to : Int)] = W at *
    repeat' (first
 | refine A_go rfl ?_ | refine A_ifT rfl rfl ?_ | refine A_ifF rfl rfl ?_
 | refine A_offP rfl rfl ?_ | refine A_offH rfl rfl ?_ | refine A_off0 rfl rfl ?_
 | refine A_add rfl rfl rfl (by omega) ?_
 | ((first | refine A_lt rfl rfl rfl ?_ ?_ | refine A_eq rfl rfl rfl ?_ ?_) <;> intro hc <;> try first | contradiction | (exfalso; omega) | exact absurd rfl hc)
 | refine A_idxN1 rfl rfl rfl (by omega) ?_ | refine A_idx1 rfl rfl rfl (by omega) ?_
 | (refine A_callB rfl rfl (fun s H => c_containsB (e := Y)) ?_ ?_ <;> intro hc <;> try first | contradiction | (exfalso; omega) | exact absurd rfl hc | exact absurd (And.intro rfl rfl) hc | exact absurd (And.intro rfl (And.intro rfl rfl)) hc | exact absurd (Eq.trans (by assumption) (Eq.symm (by assumption))) hc)
 | refine A_fld rfl rfl ?_ | refine A_mk3 rfl rfl rfl rfl ?_ | refine A_mk23 rfl rfl rfl ?_ | refine A_mk2 rfl rfl rfl ?_ | refine A_mk13 rfl rfl ?_ | refine A_p (by rfl) rfl ?_
 | refine A_ldI rfl (by first | omega | (simp; done) | (simp; omega)) rfl ?_ | refine A_ldB rfl (by first | omega | (simp; done) | (simp; omega)) rfl ?_ | refine A_ld rfl (by rfl) rfl ?_
 | refine A_ldW rfl (by simp) rfl ?_
 | refine A_st rfl rfl rfl ?_ | refine A_stE rfl rfl (by first | omega | (simp; done) | (simp; omega)) rfl ?_
 | refine A_stW rfl rfl (by simp) rfl ?_
 | ((first | refine A_alloc rfl ?_ | refine A_box rfl rfl ?_ | refine A_boxC rfl rfl ?_ | refine A_makeN rfl rfl rfl (by omega) ?_ | refine A_make rfl rfl rfl (by omega) ?_ | refine A_bld1 rfl rfl ?_ | refine A_bld2 rfl rfl rfl ?_ | refine A_bld4 rfl rfl rfl rfl rfl ?_) <;> intro pz hpz)
 | refine A_bld0 rfl ?_
 | (refine A_app rfl rfl rfl (by first | omega | (simp; done) | (simp; omega)) (by first | omega | (simp; done) | (simp; omega)) (by omega) ?_; intro pz) | (refine A_appN (enc := ic) rfl (by decide) rfl rfl (by first | omega | (simp; done) | (simp; omega)) (by omega) ?_; intro pz)
 | refine A_chk1 rfl rfl rfl ?_ | refine A_chk2 rfl rfl rfl rfl ?_ | refine A_chk3 rfl rfl rfl rfl rfl ?_ | refine A_chk4 rfl rfl rfl rfl rfl rfl ?_ | refine A_chkI rfl (by assumption) rfl (by simp) ?_
 | refine A_ret rfl (by exact (RP.t rfl (RP.t rfl RP.nil))) ?_)
    rw [← hWe, ← hWd]
    exact R_ints hP (by omega) (by omega)
  · have hnx2 : Lvl S E xs (k + 1) (i * S + to + 1) (nx ++ [⟨pw, ww ++ [(to : Int)], py, im S E xs (k + 1) (i * S + to)⟩]) := hnx.snoc hWd rfl
    have hcl3 := hcl2.next hne
    have hrow : orowP (nx ++ [⟨pw, ww ++ [(to : Int)], py, im S E xs (k + 1) (i * S + to)⟩]) = .rw 78 2 (nx.flatMap pcP ++ [.sl pw 0 (k + 1), .sl py 0 E]) := by
      show AObj.rw _ 2 ((nx ++ [_]).flatMap pcP) = _
      rw [List.flatMap_append]
      simp only [List.flatMap_cons, List.flatMap_nil, List.append_nil, pcP, hWl, hYl]
    have hob : pobs (nx ++ [⟨pw, ww ++ [(to : Int)], py, im S E xs (k + 1) (i * S + to)⟩]) = pobs nx ++ [(pw, ints (ww ++ [(to : Int)])), (py, bools (im S E xs (k + 1) (i * S + to)))] := by
      rw [pobs_app]; rfl
    have hnfl : (nx.flatMap pcP).length = (i * S + to) * 2 := by rw [flatp_len (fun _ => rfl), hnl]
    generalize im S E xs (k + 1) (i * S + to) = Y at *
    generalize hWg : ww ++ [(to : Int)] = W at *
    repeat' (first
 | refine A_go rfl ?_ | refine A_ifT rfl rfl ?_ | refine A_ifF rfl rfl ?_
 | refine A_offP rfl rfl ?_ | refine A_offH rfl rfl ?_ | refine A_off0 rfl rfl ?_
 | refine A_add rfl rfl rfl (by omega) ?_
 | ((first | refine A_lt rfl rfl rfl ?_ ?_ | refine A_eq rfl rfl rfl ?_ ?_) <;> intro hc <;> try first | contradiction | (exfalso; omega) | exact absurd rfl hc)
 | refine A_idxN1 rfl rfl rfl (by omega) ?_ | refine A_idx1 rfl rfl rfl (by omega) ?_
 | (refine A_callB rfl rfl (fun s H => c_containsB (e := Y)) ?_ ?_ <;> intro hc <;> try first | contradiction | (exfalso; omega) | exact absurd rfl hc | exact absurd (And.intro rfl rfl) hc | exact absurd (And.intro rfl (And.intro rfl rfl)) hc | exact absurd (Eq.trans (by assumption) (Eq.symm (by assumption))) hc)
 | (refine A_bldC (by decide) (show fillV _ _ _ = some [.sl pw 0 (k + 1), .sl py 0 E] from rfl) rfl ?_ <;> intro pz hpz)
 | (refine A_appC rfl rfl rfl hnfl rfl (by decide) (by omega) ?_ <;> intro pz)
 | refine A_fld rfl rfl ?_ | refine A_mk3 rfl rfl rfl rfl ?_ | refine A_mk23 rfl rfl rfl ?_ | refine A_mk2 rfl rfl rfl ?_ | refine A_mk13 rfl rfl ?_ | refine A_p (by rfl) rfl ?_
 | refine A_ldI rfl (by first | omega | (simp; done) | (simp; omega)) rfl ?_ | refine A_ldB rfl (by first | omega | (simp; done) | (simp; omega)) rfl ?_ | refine A_ld rfl (by rfl) rfl ?_
 | refine A_ldW rfl (by simp) rfl ?_
 | refine A_st rfl rfl rfl ?_ | refine A_stE rfl rfl (by first | omega | (simp; done) | (simp; omega)) rfl ?_
 | refine A_stW rfl rfl (by simp) rfl ?_
 | ((first | refine A_alloc rfl ?_ | refine A_box rfl rfl ?_ | refine A_boxC rfl rfl ?_ | refine A_makeN rfl rfl rfl (by omega) ?_ | refine A_make rfl rfl rfl (by omega) ?_ | refine A_bld1 rfl rfl ?_ | refine A_bld2 rfl rfl rfl ?_ | refine A_bld4 rfl rfl rfl rfl rfl ?_) <;> intro pz hpz)
 | refine A_bld0 rfl ?_
 | (refine A_app rfl rfl rfl (by first | omega | (simp; done) | (simp; omega)) (by first | omega | (simp; done) | (simp; omega)) (by omega) ?_; intro pz) | (refine A_appN (enc := ic) rfl (by decide) rfl rfl (by first | omega | (simp; done) | (simp; omega)) (by omega) ?_; intro pz)
 | refine A_chk1 rfl rfl rfl ?_ | refine A_chk2 rfl rfl rfl rfl ?_ | refine A_chk3 rfl rfl rfl rfl rfl ?_ | refine A_chk4 rfl rfl rfl rfl rfl rfl ?_ | refine A_chkI rfl (by assumption) rfl (by simp) ?_
 | refine A_ret rfl (by exact (RP.t rfl (RP.t rfl RP.nil))) ?_)
    obtain ⟨pr2, hEq⟩ : ∃ p, p = pz := ⟨_, rfl⟩; subst hEq
    obtain ⟨pt2, hEq⟩ : ∃ p, p = pz := ⟨_, rfl⟩; subst hEq
    refine A_subL (L' := [(q, .rw 27 3 [ic S, ic re, .sl id_xs off_xs len_xs]), (p9, .rw 78 2 [.sl wi 0 k, .sl ei 0 E]), (p, orowP cur), (pr2, .rw 78 2 (nx.flatMap pcP ++ [.sl pw 0 (k + 1), .sl py 0 E]))] ++ (pw, ints W) :: (py, bools Y) :: (pobs cur ++ pobs nx)) (hs := by show Sub ((q, .rw 27 3 [ic S, ic re, .sl id_xs off_xs len_xs]) :: (p9, .rw 78 2 [.sl wi 0 k, .sl ei 0 E]) :: (p, orowP cur) :: (pr2, .rw 78 2 (nx.flatMap pcP ++ [.sl pw 0 (k + 1), .sl py 0 E])) :: (pw, ints W) :: (py, bools Y) :: (pobs cur ++ pobs nx)) _; infer_instance) ?_
    refine A_subL (L' := [(q, .rw 27 3 [ic S, ic re, .sl id_xs off_xs len_xs]), (p9, .rw 78 2 [.sl wi 0 k, .sl ei 0 E]), (p, orowP cur), (pr2, .rw 78 2 (nx.flatMap pcP ++ [.sl pw 0 (k + 1), .sl py 0 E]))] ++ (pobs cur ++ (pobs nx ++ [(pw, ints W), (py, bools Y)]))) (hs := .ofPerm perm_snoc) ?_
    refine A_roundX rfl ⟨S - (to + 1), [(q, .rw 27 3 [ic S, ic re, .sl id_xs off_xs len_xs]), (p9, .rw 78 2 [.sl wi 0 k, .sl ei 0 E]), (p, orowP cur), (pr2, .rw 78 2 (nx.flatMap pcP ++ [.sl pw 0 (k + 1), .sl py 0 E]))] ++ (pobs cur ++ (pobs nx ++ [(pw, ints W), (py, bools Y)])), by omega, ⟨to + 1, pr2, nx ++ [⟨pw, W, py, Y⟩], rfl, rfl, by rw [hrow, hob]; rfl, by omega, hnx2, hcl3⟩, .ofPerm (List.Perm.refl _)⟩

end Go.Proofs.Ytlmbgaoeplffkaa
