/- The first word to which none leads: the reference, breadth first. -/
import Derived.Test.YtlmbgaoeplffkaaXorpP
import Derived.Test.YtlmbgaoeplffkaaFB
namespace Go.Proofs.Ytlmbgaoeplffkaa
open Go Go.RowKit
set_option linter.unusedVariables false
set_option linter.unusedSimpArgs false
set_option maxRecDepth 100000
set_option maxHeartbeats 8000000
-- spec.l03Orphan
def L49 : AFun := ⟨85, [.t 4, .t 5],
 (.seq (.ops false [⟨(some 4), .mv (.k (.c (.sl 0 0 0))), none, []⟩,
   ⟨(some 5), .mv (.k (bv false)), none, []⟩])
 (.seq (.ops false [⟨(some 13), .mv (.t 0), none, []⟩,
   ⟨(some 14), .call (.f 72) [(.t 13)], none, []⟩,
   ⟨(some 15), .buildS 2 1 0 [.int .i64 0] [], none, []⟩,
   ⟨(some 16), .build [.sl 0 0 0, .sl 0 0 0] [(0, 1, (.t 14)), (1, 1, (.t 15))], none, []⟩,
   ⟨(some 17), .buildS 97 2 1 [.sl 0 0 0, .sl 0 0 0] [(0, 2, (.t 16))], none, []⟩,
   ⟨(some 6), .mv (.t 17), none, []⟩])
 (.seq (.seq (.ops false [⟨(some 7), .mv (.k (iv 0)), none, []⟩])
  (.block 0 (.loop [0, 1, 6, 7] (.seq (.seq (.ops false [⟨(some 18), .mv (.t 7), none, []⟩,
       ⟨(some 19), .mv (.t 6), none, []⟩,
       ⟨(some 20), .len false (.t 19), none, []⟩,
       ⟨(some 21), .bin .lss (.t 18) (.t 20), none, []⟩])
     (.cond (.t 21) .skip
      (.exit 0)))
    (.seq (.block 1 (.seq (.seq (.ops false [⟨(some 24), .mv (.t 6), none, []⟩,
         ⟨(some 25), .mv (.t 7), none, []⟩,
         ⟨(some 26), .idxA 2 (.t 24) (.t 25), none, []⟩,
         ⟨(some 27), .fieldA 1 (.t 26), none, []⟩,
         ⟨(some 28), .load false 1 (.t 27), none, []⟩,
         ⟨(some 29), .len false (.t 28), none, []⟩,
         ⟨(some 30), .mv (.t 1), none, []⟩,
         ⟨(some 31), .bin .geq (.t 29) (.t 30), none, []⟩])
       (.cond (.t 31) (.exit 0)
        .skip))
      (.seq (.ops false [⟨(some 8), .mv (.k (iv 0)), none, []⟩])
      (.block 2 (.loop [0, 1, 6, 7, 8] (.seq (.seq (.ops false [⟨(some 32), .mv (.t 8), none, []⟩,
           ⟨(some 33), .mv (.t 0), none, []⟩,
           ⟨(some 34), .nilChk (.t 33), none, []⟩,
           ⟨(some 35), .fieldA 0 (.t 34), none, []⟩,
           ⟨(some 36), .load false 1 (.t 35), none, []⟩,
           ⟨(some 37), .bin .lss (.t 32) (.t 36), none, []⟩])
         (.cond (.t 37) .skip
          (.exit 2)))
        (.seq (.block 3 (.seq (.ops false [⟨(some 40), .mv (.t 0), none, []⟩,
            ⟨(some 41), .mv (.t 6), none, []⟩,
            ⟨(some 42), .mv (.t 7), none, []⟩,
            ⟨(some 43), .idxA 2 (.t 41) (.t 42), none, []⟩,
            ⟨(some 44), .fieldA 0 (.t 43), none, []⟩,
            ⟨(some 45), .load false 1 (.t 44), none, []⟩,
            ⟨(some 46), .mv (.t 8), none, []⟩,
            ⟨(some 47), .call (.f 73) [(.t 40), (.t 45), (.t 46)], none, []⟩,
            ⟨(some 9), .mv (.t 47), none, []⟩])
          (.seq (.ops false [⟨(some 48), .buildS 2 1 0 [.int .i64 0] [], none, []⟩,
            ⟨(some 49), .mv (.t 6), none, []⟩,
            ⟨(some 50), .mv (.t 7), none, []⟩,
            ⟨(some 51), .idxA 2 (.t 49) (.t 50), none, []⟩,
            ⟨(some 52), .fieldA 1 (.t 51), none, []⟩,
            ⟨(some 53), .load false 1 (.t 52), none, []⟩,
            ⟨(some 54), .append 2 1 8 (.t 48) (.t 53), none, []⟩,
            ⟨(some 55), .mv (.t 8), none, []⟩,
            ⟨(some 56), .buildS 2 1 1 [.int .i64 0] [(0, 1, (.t 55))], none, []⟩,
            ⟨(some 57), .append 2 1 8 (.t 54) (.t 56), none, []⟩,
            ⟨(some 10), .mv (.t 57), none, []⟩])
          (.seq (.seq (.ops false [⟨(some 58), .mv (.t 9), none, []⟩,
             ⟨(some 59), .call (.f 74) [(.t 58)], none, []⟩])
           (.cond (.t 59) (.seq (.ops false [⟨(some 60), .mv (.t 10), none, []⟩,
              ⟨(some 4), .mv (.t 60), none, []⟩,
              ⟨(some 5), .mv (.k (bv true)), none, []⟩])
            .ret)
            .skip))
          (.seq (.ops false [⟨(some 11), .mv (.k (bv false)), none, []⟩])
          (.seq (.seq (.ops false [⟨(some 61), .mv (.t 6), none, []⟩,
             ⟨(some 62), .len false (.t 61), none, []⟩,
             ⟨(some 63), .mv (.k (iv 0)), none, []⟩])
           (.block 4 (.loop [0, 1, 6, 7, 8, 9, 10, 11, 62, 63] (.seq (.ops false [⟨(some 64), .bin .lss (.t 63) (.t 62), none, []⟩])
             (.seq (.cond (.t 64) .skip
               (.exit 4))
             (.seq (.block 5 (.seq (.ops false [⟨(some 65), .mv (.t 63), none, []⟩,
                 ⟨(some 12), .mv (.t 65), none, []⟩])
               (.ops false [⟨(some 66), .mv (.t 11), none, []⟩,
                ⟨(some 67), .mv (.t 66), none, []⟩,
                ⟨(some 68), .mv (.t 6), (some (67, false)), []⟩,
                ⟨(some 69), .mv (.t 12), (some (67, false)), []⟩,
                ⟨(some 70), .idxA 2 (.t 68) (.t 69), (some (67, false)), []⟩,
                ⟨(some 71), .fieldA 0 (.t 70), (some (67, false)), []⟩,
                ⟨(some 72), .load false 1 (.t 71), (some (67, false)), []⟩,
                ⟨(some 73), .mv (.t 9), (some (67, false)), []⟩,
                ⟨(some 74), .call (.f 75) [(.t 72), (.t 73)], (some (67, false)), []⟩,
                ⟨(some 75), .pick (.t 67) (.k (bv true)) (.t 74), none, []⟩,
                ⟨(some 11), .mv (.t 75), none, []⟩])))
             (.ops false [⟨(some 76), .bin .add (.t 63) (.k (iv 1)), none, []⟩,
              ⟨(some 63), .mv (.t 76), none, []⟩])))))))
          (.seq (.ops false [⟨(some 77), .mv (.t 11), none, []⟩,
            ⟨(some 78), .un .not (.t 77), none, []⟩])
          (.cond (.t 78) (.ops false [⟨(some 79), .mv (.t 6), none, []⟩,
            ⟨(some 80), .mv (.t 9), none, []⟩,
            ⟨(some 81), .mv (.t 10), none, []⟩,
            ⟨(some 82), .build [.sl 0 0 0, .sl 0 0 0] [(0, 1, (.t 80)), (1, 1, (.t 81))], none, []⟩,
            ⟨(some 83), .buildS 97 2 1 [.sl 0 0 0, .sl 0 0 0] [(0, 2, (.t 82))], none, []⟩,
            ⟨(some 84), .append 97 2 48 (.t 79) (.t 83), none, []⟩,
            ⟨(some 6), .mv (.t 84), none, []⟩])
           .skip))))))))
        (.ops false [⟨(some 38), .mv (.t 8), none, []⟩,
         ⟨(some 39), .bin .add (.t 38) (.k (iv 1)), none, []⟩,
         ⟨(some 8), .mv (.t 39), none, []⟩]))))))))
    (.ops false [⟨(some 22), .mv (.t 7), none, []⟩,
     ⟨(some 23), .bin .add (.t 22) (.k (iv 1)), none, []⟩,
     ⟨(some 7), .mv (.t 23), none, []⟩]))))))
 (.seq (.ops false [⟨(some 4), .mv (.k (.c (.sl 0 0 0))), none, []⟩,
   ⟨(some 5), .mv (.k (bv false)), none, []⟩])
 .ret))))⟩
theorem code49 : acode Try.prog hints 49 = some L49 := by kernel_rfl

-- spec.OrphanOf
def L18 : AFun := ⟨26, [.t 4, .t 5],
 (.seq (.ops false [⟨(some 2), .box 27 (.t 0), none, []⟩,
   ⟨(some 4), .mv (.k (.c (.sl 0 0 0))), none, []⟩,
   ⟨(some 5), .mv (.k (bv false)), none, []⟩])
 (.seq (.seq (.ops false [⟨(some 6), .call (.f 47) [(.t 2)], none, []⟩,
    ⟨(some 7), .un .not (.t 6), none, []⟩,
    ⟨(some 8), .mv (.t 7), none, []⟩,
    ⟨(some 9), .mv (.t 1), (some (8, false)), []⟩,
    ⟨(some 10), .call (.f 48) [(.t 9), (.k (iv 1)), (.k (iv 12))], (some (8, false)), []⟩,
    ⟨(some 11), .un .not (.t 10), (some (8, false)), []⟩,
    ⟨(some 12), .pick (.t 8) (.k (bv true)) (.t 11), none, []⟩,
    ⟨(some 13), .mv (.t 12), none, []⟩,
    ⟨(some 14), .fieldA 0 (.t 2), (some (13, false)), []⟩,
    ⟨(some 15), .load false 1 (.t 14), (some (13, false)), []⟩,
    ⟨(some 16), .bin .eql (.t 15) (.k (iv 3)), (some (13, false)), []⟩,
    ⟨(some 17), .mv (.t 16), (some (13, false)), []⟩,
    ⟨(some 18), .mv (.t 1), (some (17, true)), []⟩,
    ⟨(some 19), .bin .gtr (.t 18) (.k (iv 7)), (some (17, true)), []⟩,
    ⟨(some 20), .pick (.t 17) (.t 19) (.k (bv false)), (some (13, false)), []⟩,
    ⟨(some 21), .pick (.t 13) (.k (bv true)) (.t 20), none, []⟩])
  (.cond (.t 21) (.seq (.ops false [⟨(some 4), .mv (.k (.c (.sl 0 0 0))), none, []⟩,
     ⟨(some 5), .mv (.k (bv false)), none, []⟩])
   .ret)
   .skip))
 (.seq (.ops false [⟨(some 22), .mv (.t 1), none, []⟩,
   ⟨(some 23), .call (.f 49) [(.t 2), (.t 22)], none, []⟩,
   ⟨(some 24), .ext (.t 23) 0, none, []⟩,
   ⟨(some 25), .ext (.t 23) 1, none, []⟩,
   ⟨(some 4), .mv (.t 24), none, []⟩,
   ⟨(some 5), .mv (.t 25), none, []⟩])
 .ret)))⟩
theorem code18 : acode Try.prog hints 18 = some L18 := by kernel_rfl


abbrev orowS (zs : List Pr) : AObj := .rw 97 2 (zs.flatMap pcS)
/-- What is followed, and where it lies. -/
def Its (S E : Nat) (xs : List Int) (its : List (Nat × Nat)) (zs : List Pr) : Prop := zs.length = its.length ∧ ∀ i z, zs[i]? = some z → z.w = wd S (its.getD i (0, 0)).1 (its.getD i (0, 0)).2 ∧ z.e = imP S E xs (its.getD i (0, 0))
theorem Its.snoc {S E : Nat} {xs : List Int} {its : List (Nat × Nat)} {zs : List Pr} {a : Nat × Nat} {z : Pr} (h : Its S E xs its zs) (h1 : z.w = wd S a.1 a.2) (h2 : z.e = imP S E xs a) : Its S E xs (its ++ [a]) (zs ++ [z]) := by
  refine ⟨by rw [List.length_append, List.length_append, h.1]; rfl, fun i y hy => ?_⟩
  by_cases hi : i < zs.length
  · rw [List.getElem?_append_left hi] at hy
    rw [getD_snocL (by have := h.1; omega)]
    exact h.2 i y hy
  · rw [List.getElem?_append_right (by omega)] at hy
    have h3 := h.1
    obtain rfl : i = its.length := by
      have := (List.getElem?_eq_some_iff.1 hy).1
      simp at this; omega
    rw [h3, Nat.sub_self] at hy
    simp at hy; subst hy
    rw [getD_snocE]
    exact ⟨h1, h2⟩
/-- A number for each word, rising. -/
def cod (a : Nat × Nat) : Nat := a.1 * 8192 + a.2
theorem cod_lt {a b : Nat × Nat} (h : Lt2 a b) (ha : a.2 < 8192) : cod a < cod b := by
  unfold cod
  rcases h with h | ⟨h1, h2⟩
  · have : (a.1 + 1) * 8192 ≤ b.1 * 8192 := Nat.mul_le_mul_right _ h
    omega
  · rw [h1]; omega
/-- Their number is bounded. -/
theorem its_len {its : List (Nat × Nat)} (hs : ∀ i i', i < i' → i' < its.length → Lt2 (its.getD i (0, 0)) (its.getD i' (0, 0))) (hb : ∀ i, i < its.length → (its.getD i (0, 0)).2 < 8192) : ∀ i, i < its.length → i ≤ cod (its.getD i (0, 0))
  | 0, _ => Nat.zero_le _
  | i + 1, hi => by
    have := its_len hs hb i (by omega)
    have := cod_lt (hs i (i + 1) (by omega) hi) (hb i (by omega))
    omega
theorem Bfs.small {S E M : Nat} {xs : List Int} {its : List (Nat × Nat)} {at_ to : Nat} (hbfs : Bfs S E xs its at_ to) (hS : 2 ≤ S ∧ S ≤ 3) (hM : M ≤ if (S : Int) = 3 then 7 else 12) (hlm : ∀ i, i < its.length → (its.getD i (0, 0)).1 ≤ M) : its.length ≤ 110000 := by
  have hM12 : M ≤ 12 := by split at hM <;> omega
  have h0 := hbfs.first.2
  have h8 : ∀ i, i < its.length → (its.getD i (0, 0)).2 < 8192 := fun i hi => by
    have h1 := hbfs.num i hi
    have h2 := hlm i hi
    have h3 := pow_lim (k := (its.getD i (0, 0)).1) hS (by split at hM <;> split <;> omega)
    omega
  have h1 := its_len hbfs.sort h8 (its.length - 1) (by omega)
  have h2 := hlm (its.length - 1) (by omega)
  have h3 := h8 (its.length - 1) (by omega)
  unfold cod at h1; omega
theorem c_orphan {s : St} [Wf s] {q S w E M : Nat} {re : Int} {id_xs off_xs len_xs : Nat} {xs : List Int} [h_xs : ArgE ic s id_xs off_xs xs] (hl_xs : xs.length = len_xs := by first | rfl | simp | omega | (simp; omega)) [hq : Ref s q [ic S, ic re, .sl id_xs off_xs len_xs]] (hv : VR S re xs) (hS : 2 ≤ S ∧ S ≤ 3) (hw : 2 * re + 1 = w) (hw1 : 1 ≤ w ∧ w ≤ 5) (hE : E = S ^ (w - 1)) (hl : xs.length = E * S) (hEb : 1 ≤ E ∧ E ≤ 81) (hm : 1 ≤ M ∧ (M : Int) ≤ if (S : Int) = 3 then 7 else 12) (hb : len_xs ≤ 2000000) :
    Fn [] 49 [.c (.ptr q 0), iv M] s (IntsRes (OrpP S re xs M) (orpW S re xs M)) := by
  have hEr : E = S ^ (2 * re).toNat := by rw [hE]; congr 1; omega
  have hM : M ≤ if (S : Int) = 3 then 7 else 12 := by have := hm.2; split at this <;> split <;> omega
  have hM12 : M ≤ 12 := by split at hM <;> omega
  refine F_start code49 ?_
  repeat' (first
 | refine A_go rfl ?_ | refine A_ifT rfl rfl ?_ | refine A_ifF rfl rfl ?_
 | refine A_offP rfl rfl ?_ | refine A_offH rfl rfl ?_ | refine A_off0 rfl rfl ?_
 | refine A_add rfl rfl rfl (by omega) ?_
 | ((first | refine A_lt rfl rfl rfl ?_ ?_ | refine A_ge rfl rfl rfl ?_ ?_) <;> intro hc <;> try first | contradiction | (exfalso; omega) | exact absurd rfl hc)
 | refine A_idxN1 rfl rfl rfl (by omega) ?_ | refine A_idx1 rfl rfl rfl (by omega) ?_
 | (refine A_callM rfl rfl (fun s H => c_full (hE := hE) (w := w)) ?_; rintro _ _ ⟨pz, rfl, rfl⟩) | (refine A_callM0 rfl rfl (fun s H => c_full (hE := hE) (w := w)) ?_; rintro _ _ ⟨pz, rfl, rfl⟩)
 | (refine A_bldC (by decide) (show fillV _ _ _ = some [.sl _ 0 E, .sl 1 0 0] from rfl) rfl ?_ <;> intro pz hpz)
 | refine A_fld rfl rfl ?_ | refine A_mk3 rfl rfl rfl rfl ?_ | refine A_mk23 rfl rfl rfl ?_ | refine A_mk2 rfl rfl rfl ?_ | refine A_mk13 rfl rfl ?_ | refine A_p (by rfl) rfl ?_
 | refine A_ldI rfl (by first | omega | (simp; done) | (simp; omega)) rfl ?_ | refine A_ldB rfl (by first | omega | (simp; done) | (simp; omega)) rfl ?_ | refine A_ld rfl (by rfl) rfl ?_
 | ((first | refine A_bld1 rfl rfl ?_ | refine A_bld2 rfl rfl rfl ?_ | refine A_bld4 rfl rfl rfl rfl rfl ?_) <;> intro pz hpz)
 | refine A_bld0 rfl ?_
 | (refine A_app rfl rfl rfl (by first | omega | (simp; done) | (simp; omega)) (by first | omega | (simp; done) | (simp; omega)) (by omega) ?_; intro pz) | (refine A_appN (enc := ic) rfl (by decide) rfl rfl (by first | omega | (simp; done) | (simp; omega)) (by omega) ?_; intro pz)
 | refine A_ret rfl (by exact (RP.t rfl (RP.t rfl RP.nil))) ?_)
  obtain ⟨pl0, hEq⟩ : ∃ p, p = pz := ⟨_, rfl⟩; subst hEq
  obtain ⟨pe, hEq⟩ : ∃ p, p = pz := ⟨_, rfl⟩; subst hEq
  have e0 : orowS [⟨1, [], pe, List.replicate E true⟩] = .rw 97 2 [.sl pe 0 E, .sl 1 0 0] := by simp
  refine A_loopX rfl (fun m fr L => ∃ (at_ pl : Nat) (its : List (Nat × Nat)) (zs : List Pr), m = 200000 - at_ ∧ fr = [(0, .c (.ptr q 0)), (1, iv M), (6, .c (.sl pl 0 its.length)), (7, iv at_)] ∧ L = (pl, orowS zs) :: pobs zs ∧ at_ ≤ its.length ∧ Its S E xs its zs ∧ Bfs S E xs its at_ 0 ∧ ∀ i, i < its.length → (its.getD i (0, 0)).1 ≤ M) (n := 200000) ⟨[(pl0, .rw 97 2 [.sl pe 0 E, .sl 1 0 0]), (1, ints []), (pe, bools (List.replicate E true))], ⟨0, pl0, [(0, 0)], [⟨1, [], pe, List.replicate E true⟩], rfl, rfl, by rw [e0]; rfl, by simp, ⟨rfl, fun i z hz => ?_⟩, Bfs.start, fun i hi => ?_⟩, inferInstance⟩ ?_
  · obtain rfl : i = 0 := by
      have := (List.getElem?_eq_some_iff.1 hz).1
      simp at this; exact this
    obtain rfl := Option.some.inj hz
    exact ⟨rfl, rfl⟩
  · obtain rfl : i = 0 := by simp at hi; exact hi
    exact Nat.zero_le _
  rintro m fr L ⟨at_, pl, its, zs, rfl, rfl, rfl, hat, hits, hbfs, hlm⟩
  have hlen := hbfs.small hS hM hlm
  by_cases hat' : at_ < its.length
  case neg =>
    repeat' (first
 | refine A_go rfl ?_ | refine A_ifT rfl rfl ?_ | refine A_ifF rfl rfl ?_
 | refine A_offP rfl rfl ?_ | refine A_offH rfl rfl ?_ | refine A_off0 rfl rfl ?_
 | refine A_add rfl rfl rfl (by omega) ?_
 | ((first | refine A_lt rfl rfl rfl ?_ ?_ | refine A_ge rfl rfl rfl ?_ ?_) <;> intro hc <;> try first | contradiction | (exfalso; omega) | exact absurd rfl hc)
 | refine A_idxN1 rfl rfl rfl (by omega) ?_ | refine A_idx1 rfl rfl rfl (by omega) ?_
 | refine A_fld rfl rfl ?_ | refine A_mk3 rfl rfl rfl rfl ?_ | refine A_mk23 rfl rfl rfl ?_ | refine A_mk2 rfl rfl rfl ?_ | refine A_mk13 rfl rfl ?_ | refine A_p (by rfl) rfl ?_
 | refine A_ldI rfl (by first | omega | (simp; done) | (simp; omega)) rfl ?_ | refine A_ldB rfl (by first | omega | (simp; done) | (simp; omega)) rfl ?_ | refine A_ld rfl (by rfl) rfl ?_
 | ((first | refine A_bld1 rfl rfl ?_ | refine A_bld2 rfl rfl rfl ?_ | refine A_bld4 rfl rfl rfl rfl rfl ?_) <;> intro pz hpz)
 | refine A_bld0 rfl ?_
 | (refine A_app rfl rfl rfl (by first | omega | (simp; done) | (simp; omega)) (by first | omega | (simp; done) | (simp; omega)) (by omega) ?_; intro pz) | (refine A_appN (enc := ic) rfl (by decide) rfl rfl (by first | omega | (simp; done) | (simp; omega)) (by omega) ?_; intro pz)
 | refine A_ret rfl (by exact (RP.t rfl (RP.t rfl RP.nil))) ?_)
    exact R_intsN (orp_no hEr (hbfs.none (by omega) (fun h => absurd h hat')))
  have hzl := hits.1
  obtain ⟨z, hz⟩ : ∃ z, zs[at_]? = some z := ⟨_, List.getElem?_eq_getElem (by omega)⟩
  obtain ⟨hzw, hze⟩ := hits.2 at_ z hz
  have h0 := flatp_at (f := pcS) (fun _ => rfl) hz 0 (by omega)
  have h1 := flatp_at (f := pcS) (fun _ => rfl) hz 1 (by omega)
  have hwl : z.w.length = (its.getD at_ (0, 0)).1 := by rw [hzw, wd_len]
  have hel : z.e.length = E := by rw [hze, im_len]
  have h1' : (zs.flatMap pcS)[0 + at_ * 2 + 1]? = some (.sl z.wi 0 (its.getD at_ (0, 0)).1) := by rw [h1, ← hwl]; rfl
  by_cases hkM : (its.getD at_ (0, 0)).1 < M
  case neg =>
    repeat' (first
 | refine A_go rfl ?_ | refine A_ifT rfl rfl ?_ | refine A_ifF rfl rfl ?_
 | refine A_offP rfl rfl ?_ | refine A_offH rfl rfl ?_ | refine A_off0 rfl rfl ?_
 | refine A_add rfl rfl rfl (by omega) ?_
 | ((first | refine A_lt rfl rfl rfl ?_ ?_ | refine A_ge rfl rfl rfl ?_ ?_) <;> intro hc <;> try first | contradiction | (exfalso; omega) | exact absurd rfl hc)
 | refine A_idxN1 rfl rfl rfl (by omega) ?_ | refine A_idx1 rfl rfl rfl (by omega) ?_
 | refine A_idxN rfl rfl rfl (by omega) ?_
 | refine A_ld rfl h1' rfl ?_
 | refine A_fld rfl rfl ?_ | refine A_mk3 rfl rfl rfl rfl ?_ | refine A_mk23 rfl rfl rfl ?_ | refine A_mk2 rfl rfl rfl ?_ | refine A_mk13 rfl rfl ?_ | refine A_p (by rfl) rfl ?_
 | refine A_ldI rfl (by first | omega | (simp; done) | (simp; omega)) rfl ?_ | refine A_ldB rfl (by first | omega | (simp; done) | (simp; omega)) rfl ?_ | refine A_ld rfl (by rfl) rfl ?_
 | ((first | refine A_bld1 rfl rfl ?_ | refine A_bld2 rfl rfl rfl ?_ | refine A_bld4 rfl rfl rfl rfl rfl ?_) <;> intro pz hpz)
 | refine A_bld0 rfl ?_
 | (refine A_app rfl rfl rfl (by first | omega | (simp; done) | (simp; omega)) (by first | omega | (simp; done) | (simp; omega)) (by omega) ?_; intro pz) | (refine A_appN (enc := ic) rfl (by decide) rfl rfl (by first | omega | (simp; done) | (simp; omega)) (by omega) ?_; intro pz)
 | refine A_ret rfl (by exact (RP.t rfl (RP.t rfl RP.nil))) ?_)
    exact R_intsN (orp_no hEr (hbfs.none (by omega) (fun _ => by omega)))
  repeat' (first
 | refine A_go rfl ?_ | refine A_ifT rfl rfl ?_ | refine A_ifF rfl rfl ?_
 | refine A_offP rfl rfl ?_ | refine A_offH rfl rfl ?_ | refine A_off0 rfl rfl ?_
 | refine A_add rfl rfl rfl (by omega) ?_
 | ((first | refine A_lt rfl rfl rfl ?_ ?_ | refine A_ge rfl rfl rfl ?_ ?_) <;> intro hc <;> try first | contradiction | (exfalso; omega) | exact absurd rfl hc)
 | refine A_idxN1 rfl rfl rfl (by omega) ?_ | refine A_idx1 rfl rfl rfl (by omega) ?_
 | refine A_idxN rfl rfl rfl (by omega) ?_
 | refine A_ld rfl h1' rfl ?_
 | refine A_fld rfl rfl ?_ | refine A_mk3 rfl rfl rfl rfl ?_ | refine A_mk23 rfl rfl rfl ?_ | refine A_mk2 rfl rfl rfl ?_ | refine A_mk13 rfl rfl ?_ | refine A_p (by rfl) rfl ?_
 | refine A_ldI rfl (by first | omega | (simp; done) | (simp; omega)) rfl ?_ | refine A_ldB rfl (by first | omega | (simp; done) | (simp; omega)) rfl ?_ | refine A_ld rfl (by rfl) rfl ?_
 | ((first | refine A_bld1 rfl rfl ?_ | refine A_bld2 rfl rfl rfl ?_ | refine A_bld4 rfl rfl rfl rfl rfl ?_) <;> intro pz hpz)
 | refine A_bld0 rfl ?_
 | (refine A_app rfl rfl rfl (by first | omega | (simp; done) | (simp; omega)) (by first | omega | (simp; done) | (simp; omega)) (by omega) ?_; intro pz) | (refine A_appN (enc := ic) rfl (by decide) rfl rfl (by first | omega | (simp; done) | (simp; omega)) (by omega) ?_; intro pz)
 | refine A_ret rfl (by exact (RP.t rfl (RP.t rfl RP.nil))) ?_)
  obtain ⟨⟨k, j⟩, hkj⟩ : ∃ a, its.getD at_ (0, 0) = a := ⟨_, rfl⟩
  rw [hkj] at hkM
  simp only at hkM
  refine A_loopX rfl (fun m fr L => ∃ (to pl : Nat) (its : List (Nat × Nat)) (zs : List Pr), m = S - to ∧ fr = [(0, .c (.ptr q 0)), (1, iv M), (6, .c (.sl pl 0 its.length)), (7, iv at_), (8, iv to)] ∧ L = (pl, orowS zs) :: pobs zs ∧ to ≤ S ∧ at_ < its.length ∧ its.getD at_ (0, 0) = (k, j) ∧ Its S E xs its zs ∧ Bfs S E xs its at_ to ∧ ∀ i, i < its.length → (its.getD i (0, 0)).1 ≤ M) (n := S) ⟨(pl, orowS zs) :: pobs zs, ⟨0, pl, its, zs, rfl, rfl, rfl, by omega, hat', hkj, hits, hbfs, hlm⟩, inferInstance⟩ ?_
  rintro m fr L ⟨to, pl, its, zs, rfl, rfl, rfl, hto, hat', hkj, hits, hbfs, hlm⟩
  have hlen := hbfs.small hS hM hlm
  by_cases hto' : to < S
  case neg =>
    obtain rfl : S = to := by omega
    repeat' (first
 | refine A_go rfl ?_ | refine A_ifT rfl rfl ?_ | refine A_ifF rfl rfl ?_
 | refine A_offP rfl rfl ?_ | refine A_offH rfl rfl ?_ | refine A_off0 rfl rfl ?_
 | refine A_add rfl rfl rfl (by omega) ?_
 | ((first | refine A_lt rfl rfl rfl ?_ ?_ | refine A_ge rfl rfl rfl ?_ ?_) <;> intro hc <;> try first | contradiction | (exfalso; omega) | exact absurd rfl hc)
 | refine A_idxN1 rfl rfl rfl (by omega) ?_ | refine A_idx1 rfl rfl rfl (by omega) ?_
 | refine A_fld rfl rfl ?_ | refine A_mk3 rfl rfl rfl rfl ?_ | refine A_mk23 rfl rfl rfl ?_ | refine A_mk2 rfl rfl rfl ?_ | refine A_mk13 rfl rfl ?_ | refine A_p (by rfl) rfl ?_
 | refine A_ldI rfl (by first | omega | (simp; done) | (simp; omega)) rfl ?_ | refine A_ldB rfl (by first | omega | (simp; done) | (simp; omega)) rfl ?_ | refine A_ld rfl (by rfl) rfl ?_
 | ((first | refine A_bld1 rfl rfl ?_ | refine A_bld2 rfl rfl rfl ?_ | refine A_bld4 rfl rfl rfl rfl rfl ?_) <;> intro pz hpz)
 | refine A_bld0 rfl ?_
 | (refine A_app rfl rfl rfl (by first | omega | (simp; done) | (simp; omega)) (by first | omega | (simp; done) | (simp; omega)) (by omega) ?_; intro pz) | (refine A_appN (enc := ic) rfl (by decide) rfl rfl (by first | omega | (simp; done) | (simp; omega)) (by omega) ?_; intro pz)
 | refine A_ret rfl (by exact (RP.t rfl (RP.t rfl RP.nil))) ?_)
    refine A_roundX rfl ⟨200000 - (at_ + 1), (pl, orowS zs) :: pobs zs, by omega, ⟨at_ + 1, pl, its, zs, rfl, rfl, rfl, by omega, hits, hbfs.adv (by omega) hat', hlm⟩, inferInstance⟩
  have hzl := hits.1
  obtain ⟨z, hz⟩ : ∃ z, zs[at_]? = some z := ⟨_, List.getElem?_eq_getElem (by omega)⟩
  obtain ⟨hzw, hze⟩ := hits.2 at_ z hz
  rw [hkj] at hzw hze
  simp only at hzw hze
  have hzm := List.mem_of_getElem? hz
  haveI hW : Has (pobs zs) z.wi (ints z.w) := pobs_hasW hzm
  haveI hEE : Has (pobs zs) z.ei (bools z.e) := pobs_hasE hzm
  have h0 := flatp_at (f := pcS) (fun _ => rfl) hz 0 (by omega)
  have h1 := flatp_at (f := pcS) (fun _ => rfl) hz 1 (by omega)
  have hwl : z.w.length = k := by rw [hzw, wd_len]
  have hel : z.e.length = E := by rw [hze, im_len]
  have h0' : (zs.flatMap pcS)[0 + at_ * 2 + 0]? = some (.sl z.ei 0 E) := by rw [h0, ← hel]; rfl
  have h1' : (zs.flatMap pcS)[0 + at_ * 2 + 1]? = some (.sl z.wi 0 k) := by rw [h1, ← hwl]; rfl
  obtain ⟨wi, ww, ei, ee⟩ := z
  simp only at hzw hze hwl hel hW hEE h0' h1'
  have hze : ee = im S E xs k j := hze
  have hYe : rch S E xs ee (to : Int) = im S E xs (k + 1) (j * S + to) := by rw [im_child hto', ← hze]
  have hWd : ww ++ [(to : Int)] = wd S (k + 1) (j * S + to) := by rw [wd_child hto', hzw]
  have hYl : (rch S E xs ee (to : Int)).length = E := rch_len
  have hWl : (ww ++ [(to : Int)]).length = k + 1 := by rw [List.length_append, hwl]; rfl
  have hch : chl S (its.getD at_ (0, 0)) to = (k + 1, j * S + to) := by rw [hkj]
  have hclr := hbfs.clear (by omega) hat' hto'
  rw [hch] at hclr
  have hnum : j * S + to < S ^ (k + 1) := by
    have := hbfs.num at_ hat'
    rw [hkj] at this
    rw [Nat.pow_succ]; exact mul_up this hto'
  repeat' (first
 | refine A_go rfl ?_ | refine A_ifT rfl rfl ?_ | refine A_ifF rfl rfl ?_
 | refine A_offP rfl rfl ?_ | refine A_offH rfl rfl ?_ | refine A_off0 rfl rfl ?_
 | refine A_add rfl rfl rfl (by omega) ?_
 | ((first | refine A_lt rfl rfl rfl ?_ ?_ | refine A_ge rfl rfl rfl ?_ ?_) <;> intro hc <;> try first | contradiction | (exfalso; omega) | exact absurd rfl hc)
 | refine A_idxN1 rfl rfl rfl (by omega) ?_ | refine A_idx1 rfl rfl rfl (by omega) ?_
 | refine A_idxN rfl rfl rfl (by omega) ?_
 | refine A_ld rfl h0' rfl ?_
 | refine A_ld rfl h1' rfl ?_
 | (refine A_callM rfl rfl (fun s H => c_reach (e := ee) (hel := hel) (hE := hE) (hl := hl) (w := w)) ?_; rintro _ _ ⟨pz, rfl, rfl⟩) | (refine A_callM0 rfl rfl (fun s H => c_reach (e := ee) (hel := hel) (hE := hE) (hl := hl) (w := w)) ?_; rintro _ _ ⟨pz, rfl, rfl⟩)
 | (refine A_bld1 (a := (to : Int)) rfl rfl ?_ <;> intro pz hpz)
 | (refine A_callB rfl rfl (fun s H => c_none (e := rch S E xs ee (to : Int))) ?_ ?_ <;> intro hc <;> try first | contradiction | (exfalso; omega) | exact absurd rfl hc | exact absurd (And.intro rfl rfl) hc | exact absurd (And.intro rfl (And.intro rfl rfl)) hc | exact absurd (Eq.trans (by assumption) (Eq.symm (by assumption))) hc)
 | refine A_fld rfl rfl ?_ | refine A_mk3 rfl rfl rfl rfl ?_ | refine A_mk23 rfl rfl rfl ?_ | refine A_mk2 rfl rfl rfl ?_ | refine A_mk13 rfl rfl ?_ | refine A_p (by rfl) rfl ?_
 | refine A_ldI rfl (by first | omega | (simp; done) | (simp; omega)) rfl ?_ | refine A_ldB rfl (by first | omega | (simp; done) | (simp; omega)) rfl ?_ | refine A_ld rfl (by rfl) rfl ?_
 | ((first | refine A_bld1 rfl rfl ?_ | refine A_bld2 rfl rfl rfl ?_ | refine A_bld4 rfl rfl rfl rfl rfl ?_) <;> intro pz hpz)
 | refine A_bld0 rfl ?_
 | (refine A_app rfl rfl rfl (by first | omega | (simp; done) | (simp; omega)) (by first | omega | (simp; done) | (simp; omega)) (by omega) ?_; intro pz) | (refine A_appN (enc := ic) rfl (by decide) rfl rfl (by first | omega | (simp; done) | (simp; omega)) (by omega) ?_; intro pz)
 | refine A_ret rfl (by exact (RP.t rfl (RP.t rfl RP.nil))) ?_)
  · have hO : Orp S E xs M (k + 1, j * S + to) := hclr.orp (by omega) hnum (by rw [← hYe]; exact hc)
    obtain ⟨hP, hWe⟩ := orp_yes hv hm hEr hO
    rw [← hWe, ← hWd]
    exact R_ints hP (by omega) (by omega)
  obtain ⟨pw, hEq⟩ : ∃ p, p = pz := ⟨_, rfl⟩; subst hEq
  obtain ⟨pt, hEq⟩ : ∃ p, p = pz := ⟨_, rfl⟩; subst hEq
  obtain ⟨pd, hEq⟩ : ∃ p, p = pz := ⟨_, rfl⟩; subst hEq
  obtain ⟨py, hEq⟩ : ∃ p, p = pz := ⟨_, rfl⟩; subst hEq
  have hne : ¬ NoEnd (imP S E xs (chl S (its.getD at_ (0, 0)) to)) := by rw [hch]; show ¬ NoEnd (im S E xs (k + 1) (j * S + to)); rw [← hYe]; exact hc
  have hYe2 : rch S E xs ee (to : Int) = imP S E xs (chl S (its.getD at_ (0, 0)) to) := by rw [hch]; exact hYe
  have hWd2 : ww ++ [(to : Int)] = wd S (chl S (its.getD at_ (0, 0)) to).1 (chl S (its.getD at_ (0, 0)) to).2 := by rw [hch]; exact hWd
  clear hYe hWd
  generalize rch S E xs ee (to : Int) = Y at *
  generalize ww ++ [(to : Int)] = W at *
  refine A_loopX rfl (fun m fr L => ∃ (i : Nat) (th : Bool), m = its.length - i ∧ fr = [(0, .c (.ptr q 0)), (1, iv M), (6, .c (.sl pl 0 its.length)), (7, iv at_), (8, iv to), (9, .c (.sl py 0 E)), (10, .c (.sl pw 0 (k + 1))), (11, bv th), (62, iv its.length), (63, iv i)] ∧ L = (pl, orowS zs) :: (pw, ints W) :: (py, bools Y) :: pobs zs ∧ i ≤ its.length ∧ (th = true → ∃ i', i' < its.length ∧ imP S E xs (its.getD i' (0, 0)) = Y)) (n := its.length) ⟨(pl, orowS zs) :: (pw, ints W) :: (py, bools Y) :: pobs zs, ⟨0, false, rfl, rfl, rfl, by omega, fun h => by cases h⟩, by simp only [List.cons_append, List.nil_append]; infer_instance⟩ ?_
  rintro m fr L ⟨i, th, rfl, rfl, rfl, hi, hth⟩
  by_cases hi' : i < its.length
  · cases th with
    | true =>
      repeat' (first
 | refine A_go rfl ?_ | refine A_ifT rfl rfl ?_ | refine A_ifF rfl rfl ?_
 | refine A_offP rfl rfl ?_ | refine A_offH rfl rfl ?_ | refine A_off0 rfl rfl ?_
 | refine A_add rfl rfl rfl (by omega) ?_
 | ((first | refine A_lt rfl rfl rfl ?_ ?_ | refine A_ge rfl rfl rfl ?_ ?_) <;> intro hc <;> try first | contradiction | (exfalso; omega) | exact absurd rfl hc)
 | refine A_idxN1 rfl rfl rfl (by omega) ?_ | refine A_idx1 rfl rfl rfl (by omega) ?_
 | refine A_fld rfl rfl ?_ | refine A_mk3 rfl rfl rfl rfl ?_ | refine A_mk23 rfl rfl rfl ?_ | refine A_mk2 rfl rfl rfl ?_ | refine A_mk13 rfl rfl ?_ | refine A_p (by rfl) rfl ?_
 | refine A_ldI rfl (by first | omega | (simp; done) | (simp; omega)) rfl ?_ | refine A_ldB rfl (by first | omega | (simp; done) | (simp; omega)) rfl ?_ | refine A_ld rfl (by rfl) rfl ?_
 | ((first | refine A_bld1 rfl rfl ?_ | refine A_bld2 rfl rfl rfl ?_ | refine A_bld4 rfl rfl rfl rfl rfl ?_) <;> intro pz hpz)
 | refine A_bld0 rfl ?_
 | (refine A_app rfl rfl rfl (by first | omega | (simp; done) | (simp; omega)) (by first | omega | (simp; done) | (simp; omega)) (by omega) ?_; intro pz) | (refine A_appN (enc := ic) rfl (by decide) rfl rfl (by first | omega | (simp; done) | (simp; omega)) (by omega) ?_; intro pz)
 | refine A_ret rfl (by exact (RP.t rfl (RP.t rfl RP.nil))) ?_)
      refine A_roundX rfl ⟨its.length - (i + 1), (pl, orowS zs) :: (pw, ints W) :: (py, bools Y) :: pobs zs, by omega, ⟨i + 1, true, rfl, rfl, rfl, by omega, hth⟩, inferInstance⟩
    | false =>
      obtain ⟨y, hy⟩ : ∃ y, zs[i]? = some y := ⟨_, List.getElem?_eq_getElem (by omega)⟩
      obtain ⟨-, hye⟩ := hits.2 i y hy
      haveI hyE : Has (pobs zs) y.ei (bools y.e) := pobs_hasE (List.mem_of_getElem? hy)
      have hyl : y.e.length = E := by rw [hye, im_len]
      have g0 : (zs.flatMap pcS)[0 + i * 2 + 0]? = some (.sl y.ei 0 E) := by rw [flatp_at (f := pcS) (fun _ => rfl) hy 0 (by omega), ← hyl]; rfl
      repeat' (first
 | refine A_go rfl ?_ | refine A_ifT rfl rfl ?_ | refine A_ifF rfl rfl ?_
 | refine A_offP rfl rfl ?_ | refine A_offH rfl rfl ?_ | refine A_off0 rfl rfl ?_
 | refine A_add rfl rfl rfl (by omega) ?_
 | ((first | refine A_lt rfl rfl rfl ?_ ?_ | refine A_ge rfl rfl rfl ?_ ?_) <;> intro hc <;> try first | contradiction | (exfalso; omega) | exact absurd rfl hc)
 | refine A_idxN1 rfl rfl rfl (by omega) ?_ | refine A_idx1 rfl rfl rfl (by omega) ?_
 | refine A_idxN rfl rfl rfl (by omega) ?_
 | refine A_ld rfl g0 rfl ?_
 | (refine A_callB rfl rfl (fun s H => c_sameB (e := y.e) (f := Y) hyl hYl (by omega)) ?_ ?_ <;> intro hc <;> try first | contradiction | (exfalso; omega) | exact absurd rfl hc | exact absurd (And.intro rfl rfl) hc | exact absurd (And.intro rfl (And.intro rfl rfl)) hc | exact absurd (Eq.trans (by assumption) (Eq.symm (by assumption))) hc)
 | refine A_fld rfl rfl ?_ | refine A_mk3 rfl rfl rfl rfl ?_ | refine A_mk23 rfl rfl rfl ?_ | refine A_mk2 rfl rfl rfl ?_ | refine A_mk13 rfl rfl ?_ | refine A_p (by rfl) rfl ?_
 | refine A_ldI rfl (by first | omega | (simp; done) | (simp; omega)) rfl ?_ | refine A_ldB rfl (by first | omega | (simp; done) | (simp; omega)) rfl ?_ | refine A_ld rfl (by rfl) rfl ?_
 | ((first | refine A_bld1 rfl rfl ?_ | refine A_bld2 rfl rfl rfl ?_ | refine A_bld4 rfl rfl rfl rfl rfl ?_) <;> intro pz hpz)
 | refine A_bld0 rfl ?_
 | (refine A_app rfl rfl rfl (by first | omega | (simp; done) | (simp; omega)) (by first | omega | (simp; done) | (simp; omega)) (by omega) ?_; intro pz) | (refine A_appN (enc := ic) rfl (by decide) rfl rfl (by first | omega | (simp; done) | (simp; omega)) (by omega) ?_; intro pz)
 | refine A_ret rfl (by exact (RP.t rfl (RP.t rfl RP.nil))) ?_)
      · refine A_roundX rfl ⟨its.length - (i + 1), (pl, orowS zs) :: (pw, ints W) :: (py, bools Y) :: pobs zs, by omega, ⟨i + 1, true, rfl, rfl, rfl, by omega, fun _ => ⟨i, hi', by rw [← hye]; assumption⟩⟩, inferInstance⟩
      · refine A_roundX rfl ⟨its.length - (i + 1), (pl, orowS zs) :: (pw, ints W) :: (py, bools Y) :: pobs zs, by omega, ⟨i + 1, false, rfl, rfl, rfl, by omega, hth⟩, inferInstance⟩
  obtain rfl : its.length = i := by omega
  cases th with
  | true =>
    obtain ⟨i', g1, g2⟩ := hth rfl
    haveI : Sub (pobs zs) ((py, bools Y) :: pobs zs) := inferInstance
    repeat' (first
 | refine A_go rfl ?_ | refine A_ifT rfl rfl ?_ | refine A_ifF rfl rfl ?_
 | refine A_offP rfl rfl ?_ | refine A_offH rfl rfl ?_ | refine A_off0 rfl rfl ?_
 | refine A_add rfl rfl rfl (by omega) ?_
 | ((first | refine A_lt rfl rfl rfl ?_ ?_ | refine A_ge rfl rfl rfl ?_ ?_) <;> intro hc <;> try first | contradiction | (exfalso; omega) | exact absurd rfl hc)
 | refine A_idxN1 rfl rfl rfl (by omega) ?_ | refine A_idx1 rfl rfl rfl (by omega) ?_
 | refine A_fld rfl rfl ?_ | refine A_mk3 rfl rfl rfl rfl ?_ | refine A_mk23 rfl rfl rfl ?_ | refine A_mk2 rfl rfl rfl ?_ | refine A_mk13 rfl rfl ?_ | refine A_p (by rfl) rfl ?_
 | refine A_ldI rfl (by first | omega | (simp; done) | (simp; omega)) rfl ?_ | refine A_ldB rfl (by first | omega | (simp; done) | (simp; omega)) rfl ?_ | refine A_ld rfl (by rfl) rfl ?_
 | ((first | refine A_bld1 rfl rfl ?_ | refine A_bld2 rfl rfl rfl ?_ | refine A_bld4 rfl rfl rfl rfl rfl ?_) <;> intro pz hpz)
 | refine A_bld0 rfl ?_
 | (refine A_app rfl rfl rfl (by first | omega | (simp; done) | (simp; omega)) (by first | omega | (simp; done) | (simp; omega)) (by omega) ?_; intro pz) | (refine A_appN (enc := ic) rfl (by decide) rfl rfl (by first | omega | (simp; done) | (simp; omega)) (by omega) ?_; intro pz)
 | refine A_ret rfl (by exact (RP.t rfl (RP.t rfl RP.nil))) ?_)
    refine A_roundX rfl ⟨S - (to + 1), (pl, orowS zs) :: pobs zs, by omega, ⟨to + 1, pl, its, zs, rfl, rfl, rfl, by omega, hat', hkj, hits, hbfs.there hat' hto' hne g1 (g2.trans hYe2), hlm⟩, inferInstance⟩
  | false =>
    have hb2 := hbfs.new hat' hto' hne
    have hi2 : Its S E xs (its ++ [chl S (its.getD at_ (0, 0)) to]) (zs ++ [⟨pw, W, py, Y⟩]) := hits.snoc hWd2 hYe2
    have hl2 : (its ++ [chl S (its.getD at_ (0, 0)) to]).length = its.length + 1 := by simp
    have hk2 : (its ++ [chl S (its.getD at_ (0, 0)) to]).getD at_ (0, 0) = (k, j) := by rw [getD_snocL hat', hkj]
    have hlm2 : ∀ i, i < (its ++ [chl S (its.getD at_ (0, 0)) to]).length → ((its ++ [chl S (its.getD at_ (0, 0)) to]).getD i (0, 0)).1 ≤ M := fun i hi => by
      rw [hl2] at hi
      by_cases e : i < its.length
      · rw [getD_snocL e]; exact hlm i e
      · obtain rfl : i = its.length := by omega
        rw [getD_snocE, hch]; show k + 1 ≤ M; omega
    have hrow : orowS (zs ++ [⟨pw, W, py, Y⟩]) = .rw 97 2 (zs.flatMap pcS ++ [.sl py 0 E, .sl pw 0 (k + 1)]) := by
      show AObj.rw _ 2 ((zs ++ [_]).flatMap pcS) = _
      rw [List.flatMap_append]
      simp only [List.flatMap_cons, List.flatMap_nil, List.append_nil, pcS, hWl, hYl]
    have hob : pobs (zs ++ [⟨pw, W, py, Y⟩]) = pobs zs ++ [(pw, ints W), (py, bools Y)] := by rw [pobs_app]; rfl
    have hnfl : (zs.flatMap pcS).length = its.length * 2 := by rw [flatp_len (fun _ => rfl), hzl]
    repeat' (first
 | refine A_go rfl ?_ | refine A_ifT rfl rfl ?_ | refine A_ifF rfl rfl ?_
 | refine A_offP rfl rfl ?_ | refine A_offH rfl rfl ?_ | refine A_off0 rfl rfl ?_
 | refine A_add rfl rfl rfl (by omega) ?_
 | ((first | refine A_lt rfl rfl rfl ?_ ?_ | refine A_ge rfl rfl rfl ?_ ?_) <;> intro hc <;> try first | contradiction | (exfalso; omega) | exact absurd rfl hc)
 | refine A_idxN1 rfl rfl rfl (by omega) ?_ | refine A_idx1 rfl rfl rfl (by omega) ?_
 | (refine A_bldC (by decide) (show fillV _ _ _ = some [.sl py 0 E, .sl pw 0 (k + 1)] from rfl) rfl ?_ <;> intro pz hpz)
 | (refine A_appC rfl rfl rfl hnfl rfl (by decide) (by omega) ?_ <;> intro pz)
 | refine A_fld rfl rfl ?_ | refine A_mk3 rfl rfl rfl rfl ?_ | refine A_mk23 rfl rfl rfl ?_ | refine A_mk2 rfl rfl rfl ?_ | refine A_mk13 rfl rfl ?_ | refine A_p (by rfl) rfl ?_
 | refine A_ldI rfl (by first | omega | (simp; done) | (simp; omega)) rfl ?_ | refine A_ldB rfl (by first | omega | (simp; done) | (simp; omega)) rfl ?_ | refine A_ld rfl (by rfl) rfl ?_
 | ((first | refine A_bld1 rfl rfl ?_ | refine A_bld2 rfl rfl rfl ?_ | refine A_bld4 rfl rfl rfl rfl rfl ?_) <;> intro pz hpz)
 | refine A_bld0 rfl ?_
 | (refine A_app rfl rfl rfl (by first | omega | (simp; done) | (simp; omega)) (by first | omega | (simp; done) | (simp; omega)) (by omega) ?_; intro pz) | (refine A_appN (enc := ic) rfl (by decide) rfl rfl (by first | omega | (simp; done) | (simp; omega)) (by omega) ?_; intro pz)
 | refine A_ret rfl (by exact (RP.t rfl (RP.t rfl RP.nil))) ?_)
    obtain ⟨pl2, hEq⟩ : ∃ p, p = pz := ⟨_, rfl⟩; subst hEq
    obtain ⟨pt2, hEq⟩ : ∃ p, p = pz := ⟨_, rfl⟩; subst hEq
    refine A_subL (L' := [(pl2, .rw 97 2 (zs.flatMap pcS ++ [.sl py 0 E, .sl pw 0 (k + 1)]))] ++ (pw, ints W) :: (py, bools Y) :: ([] ++ pobs zs)) (hs := by show Sub ((pl2, .rw 97 2 (zs.flatMap pcS ++ [.sl py 0 E, .sl pw 0 (k + 1)])) :: (pw, ints W) :: (py, bools Y) :: pobs zs) _; infer_instance) ?_
    refine A_subL (L' := [(pl2, .rw 97 2 (zs.flatMap pcS ++ [.sl py 0 E, .sl pw 0 (k + 1)]))] ++ ([] ++ (pobs zs ++ [(pw, ints W), (py, bools Y)]))) (hs := .ofPerm perm_snoc) ?_
    refine A_roundX rfl ⟨S - (to + 1), [(pl2, .rw 97 2 (zs.flatMap pcS ++ [.sl py 0 E, .sl pw 0 (k + 1)]))] ++ ([] ++ (pobs zs ++ [(pw, ints W), (py, bools Y)])), by omega, ⟨to + 1, pl2, its ++ [chl S (its.getD at_ (0, 0)) to], zs ++ [⟨pw, W, py, Y⟩], rfl, by rw [hl2]; rfl, by rw [hrow, hob]; rfl, by omega, by omega, hk2, hi2, hb2, hlm2⟩, .ofPerm (List.Perm.refl _)⟩
theorem c_specOrphanOf {s : St} [Wf s] {st re mo : Int} {id_xs off_xs len_xs : Nat} {xs : List Int} [h_xs : ArgE ic s id_xs off_xs xs] (hl_xs : xs.length = len_xs := by first | rfl | simp | omega | (simp; omega)) (hb : len_xs ≤ 2000000 := by omega) :
    Fn [] 18 [.agg [ic st, ic re, .sl id_xs off_xs len_xs], iv mo] s (IntsRes (OrpP st re xs mo) (orpW st re xs mo)) := by
  refine F_start code18 ?_
  by_cases hv : VR st re xs
  case neg =>
    repeat' (first
 | refine A_go rfl ?_ | refine A_ifT rfl rfl ?_ | refine A_ifF rfl rfl ?_
 | refine A_offP rfl rfl ?_ | refine A_offH rfl rfl ?_ | refine A_off0 rfl rfl ?_
 | ((first | refine A_gt rfl rfl rfl ?_ ?_ | refine A_eq rfl rfl rfl ?_ ?_) <;> intro hc <;> try first | contradiction | (exfalso; omega) | exact absurd rfl hc)
 | (refine A_callB rfl rfl (fun s H => c_l02Is) ?_ ?_ <;> intro hc <;> try first | contradiction | (exfalso; omega) | exact absurd rfl hc | exact absurd (And.intro rfl rfl) hc | exact absurd (And.intro rfl (And.intro rfl rfl)) hc | exact absurd (Eq.trans (by assumption) (Eq.symm (by assumption))) hc)
 | refine A_fld rfl rfl ?_ | refine A_p (by rfl) rfl ?_
 | refine A_ldI rfl (by first | omega | (simp; done) | (simp; omega)) rfl ?_ | refine A_ldB rfl (by first | omega | (simp; done) | (simp; omega)) rfl ?_ | refine A_ld rfl (by rfl) rfl ?_
 | ((first | refine A_box rfl rfl ?_ | refine A_boxC rfl rfl ?_) <;> intro pz hpz)
 | refine A_ret rfl (by exact (RP.t rfl (RP.t rfl RP.nil))) ?_)
    exact R_intsN fun h => hv h.1.1
  obtain ⟨S, w, E, rfl, hS, hw, hw1, hE, hl, hEb, hdg⟩ := hv.nat
  by_cases hm : 1 ≤ mo ∧ mo ≤ if (S : Int) = 3 then 7 else 12
  case neg =>
    by_cases h12 : 1 ≤ mo ∧ mo ≤ 12
    case neg =>
      repeat' (first
 | refine A_go rfl ?_ | refine A_ifT rfl rfl ?_ | refine A_ifF rfl rfl ?_
 | refine A_offP rfl rfl ?_ | refine A_offH rfl rfl ?_ | refine A_off0 rfl rfl ?_
 | ((first | refine A_gt rfl rfl rfl ?_ ?_ | refine A_eq rfl rfl rfl ?_ ?_) <;> intro hc <;> try first | contradiction | (exfalso; omega) | exact absurd rfl hc)
 | (refine A_callB rfl rfl (fun s H => c_l02Is) ?_ ?_ <;> intro hc <;> try first | contradiction | (exfalso; omega) | exact absurd rfl hc | exact absurd (And.intro rfl rfl) hc | exact absurd (And.intro rfl (And.intro rfl rfl)) hc | exact absurd (Eq.trans (by assumption) (Eq.symm (by assumption))) hc)
 | (refine A_callB rfl rfl (fun s H => c_l00In) ?_ ?_ <;> intro hc <;> try first | contradiction | (exfalso; omega) | exact absurd rfl hc | exact absurd (And.intro rfl rfl) hc | exact absurd (And.intro rfl (And.intro rfl rfl)) hc | exact absurd (Eq.trans (by assumption) (Eq.symm (by assumption))) hc)
 | refine A_fld rfl rfl ?_ | refine A_p (by rfl) rfl ?_
 | refine A_ldI rfl (by first | omega | (simp; done) | (simp; omega)) rfl ?_ | refine A_ldB rfl (by first | omega | (simp; done) | (simp; omega)) rfl ?_ | refine A_ld rfl (by rfl) rfl ?_
 | ((first | refine A_box rfl rfl ?_ | refine A_boxC rfl rfl ?_) <;> intro pz hpz)
 | refine A_ret rfl (by exact (RP.t rfl (RP.t rfl RP.nil))) ?_)
      exact R_intsN fun h => hm h.1.2
    have h3 : (S : Int) = 3 := Classical.byContradiction fun e => hm ⟨h12.1, by rw [if_neg e]; exact h12.2⟩
    have h7 : 7 < mo := by rw [if_pos h3] at hm; omega
    repeat' (first
 | refine A_go rfl ?_ | refine A_ifT rfl rfl ?_ | refine A_ifF rfl rfl ?_
 | refine A_offP rfl rfl ?_ | refine A_offH rfl rfl ?_ | refine A_off0 rfl rfl ?_
 | ((first | refine A_gt rfl rfl rfl ?_ ?_ | refine A_eq rfl rfl rfl ?_ ?_) <;> intro hc <;> try first | contradiction | (exfalso; omega) | exact absurd rfl hc)
 | (refine A_callB rfl rfl (fun s H => c_l02Is) ?_ ?_ <;> intro hc <;> try first | contradiction | (exfalso; omega) | exact absurd rfl hc | exact absurd (And.intro rfl rfl) hc | exact absurd (And.intro rfl (And.intro rfl rfl)) hc | exact absurd (Eq.trans (by assumption) (Eq.symm (by assumption))) hc)
 | (refine A_callB rfl rfl (fun s H => c_l00In) ?_ ?_ <;> intro hc <;> try first | contradiction | (exfalso; omega) | exact absurd rfl hc | exact absurd (And.intro rfl rfl) hc | exact absurd (And.intro rfl (And.intro rfl rfl)) hc | exact absurd (Eq.trans (by assumption) (Eq.symm (by assumption))) hc)
 | refine A_fld rfl rfl ?_ | refine A_p (by rfl) rfl ?_
 | refine A_ldI rfl (by first | omega | (simp; done) | (simp; omega)) rfl ?_ | refine A_ldB rfl (by first | omega | (simp; done) | (simp; omega)) rfl ?_ | refine A_ld rfl (by rfl) rfl ?_
 | ((first | refine A_box rfl rfl ?_ | refine A_boxC rfl rfl ?_) <;> intro pz hpz)
 | refine A_ret rfl (by exact (RP.t rfl (RP.t rfl RP.nil))) ?_)
    exact R_intsN fun h => hm h.1.2
  obtain ⟨M, rfl⟩ : ∃ M : Nat, mo = M := ⟨mo.toNat, by omega⟩
  have h12 : (M : Int) ≤ 12 := by have := hm.2; split at this <;> omega
  by_cases h3 : (S : Int) = 3
  · have h7 : (M : Int) ≤ 7 := by have := hm.2; rw [if_pos h3] at this; exact this
    repeat' (first
 | refine A_go rfl ?_ | refine A_ifT rfl rfl ?_ | refine A_ifF rfl rfl ?_
 | refine A_offP rfl rfl ?_ | refine A_offH rfl rfl ?_ | refine A_off0 rfl rfl ?_
 | ((first | refine A_gt rfl rfl rfl ?_ ?_ | refine A_eq rfl rfl rfl ?_ ?_) <;> intro hc <;> try first | contradiction | (exfalso; omega) | exact absurd rfl hc)
 | (refine A_callB rfl rfl (fun s H => c_l02Is) ?_ ?_ <;> intro hc <;> try first | contradiction | (exfalso; omega) | exact absurd rfl hc | exact absurd (And.intro rfl rfl) hc | exact absurd (And.intro rfl (And.intro rfl rfl)) hc | exact absurd (Eq.trans (by assumption) (Eq.symm (by assumption))) hc)
 | (refine A_callB rfl rfl (fun s H => c_l00In) ?_ ?_ <;> intro hc <;> try first | contradiction | (exfalso; omega) | exact absurd rfl hc | exact absurd (And.intro rfl rfl) hc | exact absurd (And.intro rfl (And.intro rfl rfl)) hc | exact absurd (Eq.trans (by assumption) (Eq.symm (by assumption))) hc)
 | (refine A_callM rfl rfl (fun s H => c_orphan (hv := hv) (hS := hS) (hw := hw) (hw1 := hw1) (hE := hE) (hl := hl) (hEb := hEb) (hm := ⟨by omega, hm.2⟩) (hb := by omega)) ?_; rintro _ _ ⟨pr, rfl, rfl, hlen⟩) | (refine A_callM0 rfl rfl (fun s H => c_orphan (hv := hv) (hS := hS) (hw := hw) (hw1 := hw1) (hE := hE) (hl := hl) (hEb := hEb) (hm := ⟨by omega, hm.2⟩) (hb := by omega)) ?_; rintro _ _ ⟨pr, rfl, rfl, hlen⟩)
 | refine A_fld rfl rfl ?_ | refine A_p (by rfl) rfl ?_
 | refine A_ldI rfl (by first | omega | (simp; done) | (simp; omega)) rfl ?_ | refine A_ldB rfl (by first | omega | (simp; done) | (simp; omega)) rfl ?_ | refine A_ld rfl (by rfl) rfl ?_
 | ((first | refine A_box rfl rfl ?_ | refine A_boxC rfl rfl ?_) <;> intro pz hpz)
 | refine A_ret rfl (by exact (RP.t rfl (RP.t rfl RP.nil))) ?_)
    exact R_s ⟨pr, rfl, rfl, hlen⟩
  · repeat' (first
 | refine A_go rfl ?_ | refine A_ifT rfl rfl ?_ | refine A_ifF rfl rfl ?_
 | refine A_offP rfl rfl ?_ | refine A_offH rfl rfl ?_ | refine A_off0 rfl rfl ?_
 | ((first | refine A_gt rfl rfl rfl ?_ ?_ | refine A_eq rfl rfl rfl ?_ ?_) <;> intro hc <;> try first | contradiction | (exfalso; omega) | exact absurd rfl hc)
 | (refine A_callB rfl rfl (fun s H => c_l02Is) ?_ ?_ <;> intro hc <;> try first | contradiction | (exfalso; omega) | exact absurd rfl hc | exact absurd (And.intro rfl rfl) hc | exact absurd (And.intro rfl (And.intro rfl rfl)) hc | exact absurd (Eq.trans (by assumption) (Eq.symm (by assumption))) hc)
 | (refine A_callB rfl rfl (fun s H => c_l00In) ?_ ?_ <;> intro hc <;> try first | contradiction | (exfalso; omega) | exact absurd rfl hc | exact absurd (And.intro rfl rfl) hc | exact absurd (And.intro rfl (And.intro rfl rfl)) hc | exact absurd (Eq.trans (by assumption) (Eq.symm (by assumption))) hc)
 | (refine A_callM rfl rfl (fun s H => c_orphan (hv := hv) (hS := hS) (hw := hw) (hw1 := hw1) (hE := hE) (hl := hl) (hEb := hEb) (hm := ⟨by omega, hm.2⟩) (hb := by omega)) ?_; rintro _ _ ⟨pr, rfl, rfl, hlen⟩) | (refine A_callM0 rfl rfl (fun s H => c_orphan (hv := hv) (hS := hS) (hw := hw) (hw1 := hw1) (hE := hE) (hl := hl) (hEb := hEb) (hm := ⟨by omega, hm.2⟩) (hb := by omega)) ?_; rintro _ _ ⟨pr, rfl, rfl, hlen⟩)
 | refine A_fld rfl rfl ?_ | refine A_p (by rfl) rfl ?_
 | refine A_ldI rfl (by first | omega | (simp; done) | (simp; omega)) rfl ?_ | refine A_ldB rfl (by first | omega | (simp; done) | (simp; omega)) rfl ?_ | refine A_ld rfl (by rfl) rfl ?_
 | ((first | refine A_box rfl rfl ?_ | refine A_boxC rfl rfl ?_) <;> intro pz hpz)
 | refine A_ret rfl (by exact (RP.t rfl (RP.t rfl RP.nil))) ?_)
    exact R_s ⟨pr, rfl, rfl, hlen⟩

end Go.Proofs.Ytlmbgaoeplffkaa
