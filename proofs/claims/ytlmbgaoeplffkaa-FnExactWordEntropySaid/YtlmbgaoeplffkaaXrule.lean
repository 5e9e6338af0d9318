/- Rules: powers, and which are valid. -/
import Derived.Test.YtlmbgaoeplffkaaXvalid
import Derived.Test.YtlmbgaoeplffkaaFB
namespace Go.Proofs.Ytlmbgaoeplffkaa
open Go Go.RowKit
set_option linter.unusedVariables false
set_option linter.unusedSimpArgs false
set_option maxRecDepth 100000
set_option maxHeartbeats 8000000
-- impl.raised
def L67 : AFun := ⟨14, [.t 4],
 (.seq (.ops false [⟨(some 4), .mv (.k (iv 0)), none, []⟩])
 (.seq (.ops false [⟨(some 5), .mv (.k (iv 1)), none, []⟩])
 (.seq (.seq (.ops false [⟨(some 6), .mv (.t 1), none, []⟩,
    ⟨(some 7), .mv (.k (iv 0)), none, []⟩])
  (.block 0 (.loop [0, 5, 6, 7] (.seq (.ops false [⟨(some 8), .bin .lss (.t 7) (.t 6), none, []⟩])
    (.seq (.cond (.t 8) .skip
      (.exit 0))
    (.seq (.block 1 (.ops false [⟨(some 9), .mv (.t 5), none, []⟩,
       ⟨(some 10), .mv (.t 0), none, []⟩,
       ⟨(some 11), .bin .mul (.t 9) (.t 10), none, []⟩,
       ⟨(some 5), .mv (.t 11), none, []⟩]))
    (.ops false [⟨(some 12), .bin .add (.t 7) (.k (iv 1)), none, []⟩,
     ⟨(some 7), .mv (.t 12), none, []⟩])))))))
 (.seq (.ops false [⟨(some 13), .mv (.t 5), none, []⟩,
   ⟨(some 4), .mv (.t 13), none, []⟩])
 .ret))))⟩
theorem code67 : acode Try.prog hints 67 = some L67 := by kernel_rfl

-- spec.l02Powers
def L71 : AFun := ⟨14, [.t 4],
 (.seq (.ops false [⟨(some 4), .mv (.k (iv 0)), none, []⟩])
 (.seq (.ops false [⟨(some 5), .mv (.k (iv 1)), none, []⟩])
 (.seq (.block 0 (.loop [0, 1, 5] (.seq (.seq (.ops false [⟨(some 6), .mv (.t 1), none, []⟩,
       ⟨(some 7), .bin .gtr (.t 6) (.k (iv 0)), none, []⟩])
     (.cond (.t 7) .skip
      (.exit 0)))
    (.seq (.block 1 (.ops false [⟨(some 10), .mv (.t 5), none, []⟩,
       ⟨(some 11), .mv (.t 0), none, []⟩,
       ⟨(some 12), .bin .mul (.t 10) (.t 11), none, []⟩,
       ⟨(some 5), .mv (.t 12), none, []⟩]))
    (.ops false [⟨(some 8), .mv (.t 1), none, []⟩,
     ⟨(some 9), .bin .sub (.t 8) (.k (iv 1)), none, []⟩,
     ⟨(some 1), .mv (.t 9), none, []⟩])))))
 (.seq (.ops false [⟨(some 13), .mv (.t 5), none, []⟩,
   ⟨(some 4), .mv (.t 13), none, []⟩])
 .ret))))⟩
theorem code71 : acode Try.prog hints 71 = some L71 := by kernel_rfl

-- spec.l03Power
def L58 : AFun := ⟨14, [.t 4],
 (.seq (.ops false [⟨(some 4), .mv (.k (iv 0)), none, []⟩])
 (.seq (.ops false [⟨(some 5), .mv (.k (iv 1)), none, []⟩])
 (.seq (.block 0 (.loop [0, 1, 5] (.seq (.seq (.ops false [⟨(some 6), .mv (.t 1), none, []⟩,
       ⟨(some 7), .bin .gtr (.t 6) (.k (iv 0)), none, []⟩])
     (.cond (.t 7) .skip
      (.exit 0)))
    (.seq (.block 1 (.ops false [⟨(some 10), .mv (.t 5), none, []⟩,
       ⟨(some 11), .mv (.t 0), none, []⟩,
       ⟨(some 12), .bin .mul (.t 10) (.t 11), none, []⟩,
       ⟨(some 5), .mv (.t 12), none, []⟩]))
    (.ops false [⟨(some 8), .mv (.t 1), none, []⟩,
     ⟨(some 9), .bin .sub (.t 8) (.k (iv 1)), none, []⟩,
     ⟨(some 1), .mv (.t 9), none, []⟩])))))
 (.seq (.ops false [⟨(some 13), .mv (.t 5), none, []⟩,
   ⟨(some 4), .mv (.t 13), none, []⟩])
 .ret))))⟩
theorem code58 : acode Try.prog hints 58 = some L58 := by kernel_rfl

-- impl.areStates
def L65 : AFun := ⟨9, [.t 2],
 (.seq (.ops false [⟨(some 2), .mv (.k (bv false)), none, []⟩])
 (.seq (.ops false [⟨(some 3), .mv (.t 0), none, []⟩,
   ⟨(some 4), .bin .eql (.t 3) (.k (iv 2)), none, []⟩,
   ⟨(some 5), .mv (.t 4), none, []⟩,
   ⟨(some 6), .mv (.t 0), (some (5, false)), []⟩,
   ⟨(some 7), .bin .eql (.t 6) (.k (iv 3)), (some (5, false)), []⟩,
   ⟨(some 8), .pick (.t 5) (.k (bv true)) (.t 7), none, []⟩,
   ⟨(some 2), .mv (.t 8), none, []⟩])
 .ret))⟩
theorem code65 : acode Try.prog hints 65 = some L65 := by kernel_rfl

-- impl.isReach
def L66 : AFun := ⟨5, [.t 2],
 (.seq (.ops false [⟨(some 2), .mv (.k (bv false)), none, []⟩])
 (.seq (.ops false [⟨(some 3), .mv (.t 0), none, []⟩,
   ⟨(some 4), .call (.f 43) [(.t 3), (.k (iv 0)), (.k (iv 2))], none, []⟩,
   ⟨(some 2), .mv (.t 4), none, []⟩])
 .ret))⟩
theorem code66 : acode Try.prog hints 66 = some L66 := by kernel_rfl

-- (impl.Rule).cells
def L61 : AFun := ⟨7, [.t 2],
 (.seq (.ops false [⟨(some 1), .box 27 (.t 0), none, []⟩,
   ⟨(some 2), .mv (.k (iv 0)), none, []⟩])
 (.seq (.ops false [⟨(some 3), .fieldA 1 (.t 1), none, []⟩,
   ⟨(some 4), .load false 1 (.t 3), none, []⟩,
   ⟨(some 5), .bin .mul (.k (iv 2)) (.t 4), none, []⟩,
   ⟨(some 6), .bin .add (.t 5) (.k (iv 1)), none, []⟩,
   ⟨(some 2), .mv (.t 6), none, []⟩])
 .ret))⟩
theorem code61 : acode Try.prog hints 61 = some L61 := by kernel_rfl

-- impl.ValidRule
def L39 : AFun := ⟨27, [.t 2],
 (.seq (.ops false [⟨(some 1), .box 27 (.t 0), none, []⟩,
   ⟨(some 2), .mv (.k (bv false)), none, []⟩])
 (.seq (.seq (.ops false [⟨(some 4), .fieldA 0 (.t 1), none, []⟩,
    ⟨(some 5), .load false 1 (.t 4), none, []⟩,
    ⟨(some 6), .call (.f 65) [(.t 5)], none, []⟩,
    ⟨(some 7), .un .not (.t 6), none, []⟩,
    ⟨(some 8), .mv (.t 7), none, []⟩,
    ⟨(some 9), .fieldA 1 (.t 1), (some (8, false)), []⟩,
    ⟨(some 10), .load false 1 (.t 9), (some (8, false)), []⟩,
    ⟨(some 11), .call (.f 66) [(.t 10)], (some (8, false)), []⟩,
    ⟨(some 12), .un .not (.t 11), (some (8, false)), []⟩,
    ⟨(some 13), .pick (.t 8) (.k (bv true)) (.t 12), none, []⟩])
  (.cond (.t 13) (.seq (.ops false [⟨(some 2), .mv (.k (bv false)), none, []⟩])
   .ret)
   .skip))
 (.seq (.ops true [⟨(some 16), .load true 3 (.t 1), none, []⟩,
   ⟨(some 17), .call (.f 61) [(.t 16)], none, []⟩,
   ⟨(some 14), .fieldA 0 (.t 1), none, []⟩,
   ⟨(some 15), .load false 1 (.t 14), none, [0]⟩,
   ⟨(some 18), .call (.f 67) [(.t 15), (.t 17)], none, []⟩,
   ⟨(some 3), .mv (.t 18), none, []⟩])
 (.seq (.ops false [⟨(some 19), .fieldA 2 (.t 1), none, []⟩,
   ⟨(some 20), .load false 1 (.t 19), none, []⟩,
   ⟨(some 21), .mv (.t 3), none, []⟩,
   ⟨(some 22), .mv (.t 3), none, []⟩,
   ⟨(some 23), .fieldA 0 (.t 1), none, []⟩,
   ⟨(some 24), .load false 1 (.t 23), none, []⟩,
   ⟨(some 25), .bin .sub (.t 24) (.k (iv 1)), none, []⟩,
   ⟨(some 26), .call (.f 68) [(.t 20), (.t 21), (.t 22), (.k (iv 0)), (.t 25)], none, []⟩,
   ⟨(some 2), .mv (.t 26), none, []⟩])
 .ret))))⟩
theorem code39 : acode Try.prog hints 39 = some L39 := by kernel_rfl

-- spec.l02Is
def L47 : AFun := ⟨60, [.t 2],
 (.seq (.ops false [⟨(some 2), .mv (.k (bv false)), none, []⟩])
 (.seq (.seq (.ops true [⟨(some 4), .mv (.t 0), none, []⟩,
    ⟨(some 5), .nilChk (.t 4), none, []⟩,
    ⟨(some 6), .fieldA 0 (.t 5), none, []⟩,
    ⟨(some 7), .load false 1 (.t 6), none, []⟩,
    ⟨(some 8), .call (.f 48) [(.t 7), (.k (iv 2)), (.k (iv 3))], none, []⟩,
    ⟨(some 9), .un .not (.t 8), none, []⟩,
    ⟨(some 10), .mv (.t 9), none, []⟩,
    ⟨(some 11), .mv (.t 0), (some (10, false)), []⟩,
    ⟨(some 12), .nilChk (.t 11), (some (10, false)), []⟩,
    ⟨(some 13), .fieldA 1 (.t 12), (some (10, false)), []⟩,
    ⟨(some 14), .load false 1 (.t 13), (some (10, false)), []⟩,
    ⟨(some 15), .call (.f 48) [(.t 14), (.k (iv 0)), (.k (iv 2))], (some (10, false)), []⟩,
    ⟨(some 16), .un .not (.t 15), (some (10, false)), []⟩,
    ⟨(some 17), .pick (.t 10) (.k (bv true)) (.t 16), none, []⟩,
    ⟨(some 18), .mv (.t 17), none, []⟩,
    ⟨(some 24), .mv (.t 0), (some (18, false)), []⟩,
    ⟨(some 25), .nilChk (.t 24), (some (18, false)), []⟩,
    ⟨(some 26), .fieldA 0 (.t 25), (some (18, false)), []⟩,
    ⟨(some 27), .load false 1 (.t 26), (some (18, false)), []⟩,
    ⟨(some 28), .mv (.t 0), (some (18, false)), []⟩,
    ⟨(some 29), .nilChk (.t 28), (some (18, false)), []⟩,
    ⟨(some 30), .fieldA 1 (.t 29), (some (18, false)), []⟩,
    ⟨(some 31), .load false 1 (.t 30), (some (18, false)), []⟩,
    ⟨(some 32), .bin .mul (.k (iv 2)) (.t 31), (some (18, false)), []⟩,
    ⟨(some 33), .bin .add (.t 32) (.k (iv 1)), (some (18, false)), []⟩,
    ⟨(some 34), .call (.f 71) [(.t 27), (.t 33)], (some (18, false)), []⟩,
    ⟨(some 19), .mv (.t 0), (some (18, false)), []⟩,
    ⟨(some 20), .nilChk (.t 19), (some (18, false)), []⟩,
    ⟨(some 21), .fieldA 2 (.t 20), (some (18, false)), []⟩,
    ⟨(some 22), .load false 1 (.t 21), (some (18, false)), [2]⟩,
    ⟨(some 23), .len false (.t 22), (some (18, false)), []⟩,
    ⟨(some 35), .bin .neq (.t 23) (.t 34), (some (18, false)), []⟩,
    ⟨(some 36), .pick (.t 18) (.k (bv true)) (.t 35), none, []⟩])
  (.cond (.t 36) (.seq (.ops false [⟨(some 2), .mv (.k (bv false)), none, []⟩])
   .ret)
   .skip))
 (.seq (.seq (.ops false [⟨(some 3), .mv (.k (iv 0)), none, []⟩])
  (.block 0 (.loop [0, 3] (.seq (.seq (.ops false [⟨(some 37), .mv (.t 3), none, []⟩,
       ⟨(some 38), .mv (.t 0), none, []⟩,
       ⟨(some 39), .nilChk (.t 38), none, []⟩,
       ⟨(some 40), .fieldA 2 (.t 39), none, []⟩,
       ⟨(some 41), .load false 1 (.t 40), none, []⟩,
       ⟨(some 42), .len false (.t 41), none, []⟩,
       ⟨(some 43), .bin .lss (.t 37) (.t 42), none, []⟩])
     (.cond (.t 43) .skip
      (.exit 0)))
    (.seq (.block 1 (.seq (.ops true [⟨(some 46), .mv (.t 0), none, []⟩,
        ⟨(some 47), .nilChk (.t 46), none, []⟩,
        ⟨(some 48), .fieldA 2 (.t 47), none, []⟩,
        ⟨(some 49), .load false 1 (.t 48), none, []⟩,
        ⟨(some 50), .mv (.t 3), none, []⟩,
        ⟨(some 51), .idxA 1 (.t 49) (.t 50), none, []⟩,
        ⟨(some 52), .load false 1 (.t 51), none, []⟩,
        ⟨(some 53), .mv (.t 0), none, []⟩,
        ⟨(some 54), .nilChk (.t 53), none, []⟩,
        ⟨(some 55), .fieldA 0 (.t 54), none, []⟩,
        ⟨(some 56), .load false 1 (.t 55), none, []⟩,
        ⟨(some 57), .bin .sub (.t 56) (.k (iv 1)), none, []⟩,
        ⟨(some 58), .call (.f 48) [(.t 52), (.k (iv 0)), (.t 57)], none, []⟩,
        ⟨(some 59), .un .not (.t 58), none, []⟩])
      (.cond (.t 59) (.seq (.ops false [⟨(some 2), .mv (.k (bv false)), none, []⟩])
       .ret)
       .skip)))
    (.ops false [⟨(some 44), .mv (.t 3), none, []⟩,
     ⟨(some 45), .bin .add (.t 44) (.k (iv 1)), none, []⟩,
     ⟨(some 3), .mv (.t 45), none, []⟩]))))))
 (.seq (.ops false [⟨(some 2), .mv (.k (bv true)), none, []⟩])
 .ret))))⟩
theorem code47 : acode Try.prog hints 47 = some L47 := by kernel_rfl


theorem pow_le {b n : Nat} (hb : b ≤ 3) (hn : n ≤ 30) : b ^ n ≤ 205891132094649 :=
  Nat.le_trans (Nat.pow_le_pow_left hb n) (Nat.le_trans (Nat.pow_le_pow_right (by omega) hn) (by decide))
theorem pow_cast {b i : Nat} : ((b ^ i : Nat) : Int) * (b : Int) = ((b ^ (i + 1) : Nat) : Int) := by rw [Nat.pow_succ]; push_cast; rfl
theorem c_raised {s : St} [Wf s] {b0 n0 : Int} (hb : 0 ≤ b0 ∧ b0 ≤ 3 := by omega) (hn : 0 ≤ n0 ∧ n0 ≤ 30 := by omega) : FnV 67 [iv b0, iv n0] s (iv ((b0.toNat ^ n0.toNat : Nat) : Int)) := by
  obtain ⟨b, rfl⟩ : ∃ n : Nat, b0 = n := ⟨b0.toNat, by omega⟩
  obtain ⟨n, rfl⟩ : ∃ n : Nat, n0 = n := ⟨n0.toNat, by omega⟩
  simp only [Int.toNat_natCast]
  refine F_start code67 ?_
  repeat' (first
 | refine A_go rfl ?_ | refine A_ifT rfl rfl ?_ | refine A_ifF rfl rfl ?_
 | refine A_add rfl rfl rfl (by omega) ?_ | refine A_mul rfl rfl rfl (by omega) ?_
 | ((first | refine A_lt rfl rfl rfl ?_ ?_) <;> intro hc <;> try first | contradiction | (exfalso; omega) | exact absurd rfl hc)
 | refine A_p (by rfl) rfl ?_
 | refine A_ret1 rfl (by exact (RP.t rfl RP.nil)) ?_)
  refine A_loop rfl [] (fun m fr L => ∃ (i : Nat) (j : Int), m = n - i ∧ fr = [(0, iv b), (5, iv j), (6, iv n), (7, iv i)] ∧ L = [] ∧ i ≤ n ∧ j = ((b ^ i : Nat) : Int)) n ⟨0, 1, rfl, rfl, rfl, by omega, by simp⟩ ?_
  rintro m fr L ⟨i, j, rfl, rfl, rfl, hi, hj⟩
  by_cases hin : i < n
  · have h1 := pow_le (b := b) (n := i + 1) (by omega) (by omega)
    have h2 := pow_cast (b := b) (i := i)
    rw [← hj] at h2
    repeat' (first
 | refine A_go rfl ?_ | refine A_ifT rfl rfl ?_ | refine A_ifF rfl rfl ?_
 | refine A_add rfl rfl rfl (by omega) ?_ | refine A_mul rfl rfl rfl (by omega) ?_
 | ((first | refine A_lt rfl rfl rfl ?_ ?_) <;> intro hc <;> try first | contradiction | (exfalso; omega) | exact absurd rfl hc)
 | refine A_p (by rfl) rfl ?_
 | refine A_ret1 rfl (by exact (RP.t rfl RP.nil)) ?_)
    refine A_round rfl [] (n - (i + 1)) (by omega) ?_
    exact ⟨i + 1, _, rfl, rfl, rfl, by omega, h2⟩
  · obtain rfl : n = i := by omega
    repeat' (first
 | refine A_go rfl ?_ | refine A_ifT rfl rfl ?_ | refine A_ifF rfl rfl ?_
 | refine A_add rfl rfl rfl (by omega) ?_ | refine A_mul rfl rfl rfl (by omega) ?_
 | ((first | refine A_lt rfl rfl rfl ?_ ?_) <;> intro hc <;> try first | contradiction | (exfalso; omega) | exact absurd rfl hc)
 | refine A_p (by rfl) rfl ?_
 | refine A_ret1 rfl (by exact (RP.t rfl RP.nil)) ?_)
    exact R_v (by rw [hj])
theorem c_l02Powers {s : St} [Wf s] {b0 n0 : Int} (hb : 0 ≤ b0 ∧ b0 ≤ 3 := by omega) (hn : 0 ≤ n0 ∧ n0 ≤ 30 := by omega) : FnV 71 [iv b0, iv n0] s (iv ((b0.toNat ^ n0.toNat : Nat) : Int)) := by
  obtain ⟨b, rfl⟩ : ∃ n : Nat, b0 = n := ⟨b0.toNat, by omega⟩
  obtain ⟨n, rfl⟩ : ∃ n : Nat, n0 = n := ⟨n0.toNat, by omega⟩
  simp only [Int.toNat_natCast]
  refine F_start code71 ?_
  repeat' (first
 | refine A_go rfl ?_ | refine A_ifT rfl rfl ?_ | refine A_ifF rfl rfl ?_
 | refine A_sub rfl rfl rfl (by omega) ?_ | refine A_mul rfl rfl rfl (by omega) ?_
 | ((first | refine A_gt rfl rfl rfl ?_ ?_) <;> intro hc <;> try first | contradiction | (exfalso; omega) | exact absurd rfl hc)
 | refine A_p (by rfl) rfl ?_
 | refine A_ret1 rfl (by exact (RP.t rfl RP.nil)) ?_)
  refine A_loop rfl [] (fun m fr L => ∃ (i : Nat) (j t : Int), m = n - i ∧ fr = [(0, iv b), (1, iv t), (5, iv j)] ∧ L = [] ∧ i ≤ n ∧ j = ((b ^ i : Nat) : Int) ∧ t = (n : Int) - i) n ⟨0, 1, n, rfl, rfl, rfl, by omega, by simp, by omega⟩ ?_
  rintro m fr L ⟨i, j, t, rfl, rfl, rfl, hi, hj, ht⟩
  by_cases hin : i < n
  · have h1 := pow_le (b := b) (n := i + 1) (by omega) (by omega)
    have h2 := pow_cast (b := b) (i := i)
    rw [← hj] at h2
    repeat' (first
 | refine A_go rfl ?_ | refine A_ifT rfl rfl ?_ | refine A_ifF rfl rfl ?_
 | refine A_sub rfl rfl rfl (by omega) ?_ | refine A_mul rfl rfl rfl (by omega) ?_
 | ((first | refine A_gt rfl rfl rfl ?_ ?_) <;> intro hc <;> try first | contradiction | (exfalso; omega) | exact absurd rfl hc)
 | refine A_p (by rfl) rfl ?_
 | refine A_ret1 rfl (by exact (RP.t rfl RP.nil)) ?_)
    refine A_round rfl [] (n - (i + 1)) (by omega) ?_
    exact ⟨i + 1, _, _, rfl, rfl, rfl, by omega, h2, by omega⟩
  · obtain rfl : n = i := by omega
    repeat' (first
 | refine A_go rfl ?_ | refine A_ifT rfl rfl ?_ | refine A_ifF rfl rfl ?_
 | refine A_sub rfl rfl rfl (by omega) ?_ | refine A_mul rfl rfl rfl (by omega) ?_
 | ((first | refine A_gt rfl rfl rfl ?_ ?_) <;> intro hc <;> try first | contradiction | (exfalso; omega) | exact absurd rfl hc)
 | refine A_p (by rfl) rfl ?_
 | refine A_ret1 rfl (by exact (RP.t rfl RP.nil)) ?_)
    exact R_v (by rw [hj])
theorem c_l03Power {s : St} [Wf s] {b0 n0 : Int} (hb : 0 ≤ b0 ∧ b0 ≤ 3 := by omega) (hn : 0 ≤ n0 ∧ n0 ≤ 30 := by omega) : FnV 58 [iv b0, iv n0] s (iv ((b0.toNat ^ n0.toNat : Nat) : Int)) := by
  obtain ⟨b, rfl⟩ : ∃ n : Nat, b0 = n := ⟨b0.toNat, by omega⟩
  obtain ⟨n, rfl⟩ : ∃ n : Nat, n0 = n := ⟨n0.toNat, by omega⟩
  simp only [Int.toNat_natCast]
  refine F_start code58 ?_
  repeat' (first
 | refine A_go rfl ?_ | refine A_ifT rfl rfl ?_ | refine A_ifF rfl rfl ?_
 | refine A_sub rfl rfl rfl (by omega) ?_ | refine A_mul rfl rfl rfl (by omega) ?_
 | ((first | refine A_gt rfl rfl rfl ?_ ?_) <;> intro hc <;> try first | contradiction | (exfalso; omega) | exact absurd rfl hc)
 | refine A_p (by rfl) rfl ?_
 | refine A_ret1 rfl (by exact (RP.t rfl RP.nil)) ?_)
  refine A_loop rfl [] (fun m fr L => ∃ (i : Nat) (j t : Int), m = n - i ∧ fr = [(0, iv b), (1, iv t), (5, iv j)] ∧ L = [] ∧ i ≤ n ∧ j = ((b ^ i : Nat) : Int) ∧ t = (n : Int) - i) n ⟨0, 1, n, rfl, rfl, rfl, by omega, by simp, by omega⟩ ?_
  rintro m fr L ⟨i, j, t, rfl, rfl, rfl, hi, hj, ht⟩
  by_cases hin : i < n
  · have h1 := pow_le (b := b) (n := i + 1) (by omega) (by omega)
    have h2 := pow_cast (b := b) (i := i)
    rw [← hj] at h2
    repeat' (first
 | refine A_go rfl ?_ | refine A_ifT rfl rfl ?_ | refine A_ifF rfl rfl ?_
 | refine A_sub rfl rfl rfl (by omega) ?_ | refine A_mul rfl rfl rfl (by omega) ?_
 | ((first | refine A_gt rfl rfl rfl ?_ ?_) <;> intro hc <;> try first | contradiction | (exfalso; omega) | exact absurd rfl hc)
 | refine A_p (by rfl) rfl ?_
 | refine A_ret1 rfl (by exact (RP.t rfl RP.nil)) ?_)
    refine A_round rfl [] (n - (i + 1)) (by omega) ?_
    exact ⟨i + 1, _, _, rfl, rfl, rfl, by omega, h2, by omega⟩
  · obtain rfl : n = i := by omega
    repeat' (first
 | refine A_go rfl ?_ | refine A_ifT rfl rfl ?_ | refine A_ifF rfl rfl ?_
 | refine A_sub rfl rfl rfl (by omega) ?_ | refine A_mul rfl rfl rfl (by omega) ?_
 | ((first | refine A_gt rfl rfl rfl ?_ ?_) <;> intro hc <;> try first | contradiction | (exfalso; omega) | exact absurd rfl hc)
 | refine A_p (by rfl) rfl ?_
 | refine A_ret1 rfl (by exact (RP.t rfl RP.nil)) ?_)
    exact R_v (by rw [hj])
theorem c_areStates {s : St} [Wf s] {n : Int} : FnB 65 [iv n] s (2 ≤ n ∧ n ≤ 3) := by
  refine F_start code65 ?_
  repeat' (first
 | refine A_go rfl ?_ | refine A_ifT rfl rfl ?_ | refine A_ifF rfl rfl ?_
 | refine A_offP rfl rfl ?_ | refine A_offH rfl rfl ?_ | refine A_off0 rfl rfl ?_
 | ((first | refine A_eq rfl rfl rfl ?_ ?_) <;> intro hc <;> try first | contradiction | (exfalso; omega) | exact absurd rfl hc)
 | refine A_p (by rfl) rfl ?_
 | refine A_ret1 rfl (by exact (RP.t rfl RP.nil)) ?_)
  all_goals first | exact R_t ⟨by omega, by omega⟩ | exact R_f (by omega)
theorem c_isReach {s : St} [Wf s] {n : Int} : FnB 66 [iv n] s (0 ≤ n ∧ n ≤ 2) := by
  refine F_start code66 ?_
  repeat' (first
 | refine A_go rfl ?_ | refine A_ifT rfl rfl ?_ | refine A_ifF rfl rfl ?_
 | (refine A_callB rfl rfl (fun s H => c_within) ?_ ?_ <;> intro hc <;> try first | contradiction | (exfalso; omega) | exact absurd rfl hc | exact absurd (And.intro rfl rfl) hc | exact absurd (And.intro rfl (And.intro rfl rfl)) hc | exact absurd (Eq.trans (by assumption) (Eq.symm (by assumption))) hc)
 | refine A_p (by rfl) rfl ?_
 | refine A_ret1 rfl (by exact (RP.t rfl RP.nil)) ?_)
  all_goals first | exact R_t (by assumption) | exact R_f (by assumption)
theorem c_cells {s : St} [Wf s] {st re : Int} {v : AC} (h : 0 ≤ re ∧ re ≤ 2 := by omega) : FnV 61 [.agg [ic st, ic re, v]] s (iv (2 * re + 1)) := by
  refine F_start code61 ?_
  repeat' (first
 | refine A_go rfl ?_ | refine A_ifT rfl rfl ?_ | refine A_ifF rfl rfl ?_
 | refine A_add rfl rfl rfl (by omega) ?_ | refine A_mul rfl rfl rfl (by omega) ?_
 | refine A_fld rfl rfl ?_ | refine A_p (by rfl) rfl ?_
 | refine A_ldI rfl (by first | omega | (simp; done) | (simp; omega)) rfl ?_ | refine A_ldB rfl (by first | omega | (simp; done) | (simp; omega)) rfl ?_ | refine A_ld rfl (by rfl) rfl ?_
 | ((first | refine A_box rfl rfl ?_ | refine A_boxC rfl rfl ?_) <;> intro pz hpz)
 | refine A_ret1 rfl (by exact (RP.t rfl RP.nil)) ?_)
  exact R_v rfl
/-- A rule that is valid: states, reach, table. -/
def VR (st re : Int) (xs : List Int) : Prop := (2 ≤ st ∧ st ≤ 3) ∧ (0 ≤ re ∧ re ≤ 2) ∧ xs.length = st.toNat ^ (2 * re + 1).toNat ∧ ∀ x ∈ xs, 0 ≤ x ∧ x ≤ st - 1
theorem c_ValidRule {s : St} [Wf s] {st re : Int} {id_xs off_xs len_xs : Nat} {xs : List Int} [h_xs : ArgE ic s id_xs off_xs xs] (hl_xs : xs.length = len_xs := by first | rfl | simp | omega | (simp; omega)) (hb : len_xs ≤ 9223372036854775807 := by omega) : FnB 39 [.agg [ic st, ic re, .sl id_xs off_xs len_xs]] s (VR st re xs) := by
  refine F_start code39 ?_
  by_cases h1 : 2 ≤ st ∧ st ≤ 3
  case neg =>
    repeat' (first
 | refine A_go rfl ?_ | refine A_ifT rfl rfl ?_ | refine A_ifF rfl rfl ?_
 | refine A_offP rfl rfl ?_ | refine A_offH rfl rfl ?_ | refine A_off0 rfl rfl ?_
 | refine A_sub rfl rfl rfl (by omega) ?_
 | (refine A_callB rfl rfl (fun s H => c_areStates) ?_ ?_ <;> intro hc <;> try first | contradiction | (exfalso; omega) | exact absurd rfl hc | exact absurd (And.intro rfl rfl) hc | exact absurd (And.intro rfl (And.intro rfl rfl)) hc | exact absurd (Eq.trans (by assumption) (Eq.symm (by assumption))) hc)
 | refine A_fld rfl rfl ?_ | refine A_p (by rfl) rfl ?_
 | refine A_ldI rfl (by first | omega | (simp; done) | (simp; omega)) rfl ?_ | refine A_ldB rfl (by first | omega | (simp; done) | (simp; omega)) rfl ?_ | refine A_ld rfl (by rfl) rfl ?_
 | refine A_ldW rfl (by simp) rfl ?_
 | ((first | refine A_box rfl rfl ?_ | refine A_boxC rfl rfl ?_) <;> intro pz hpz)
 | refine A_chk1 rfl rfl rfl ?_ | refine A_chk2 rfl rfl rfl rfl ?_ | refine A_chk3 rfl rfl rfl rfl rfl ?_ | refine A_chk4 rfl rfl rfl rfl rfl rfl ?_ | refine A_chkI rfl (by assumption) rfl (by simp) ?_
 | refine A_ret1 rfl (by exact (RP.t rfl RP.nil)) ?_)
    exact R_f fun h => h1 h.1
  by_cases h2 : 0 ≤ re ∧ re ≤ 2
  case neg =>
    repeat' (first
 | refine A_go rfl ?_ | refine A_ifT rfl rfl ?_ | refine A_ifF rfl rfl ?_
 | refine A_offP rfl rfl ?_ | refine A_offH rfl rfl ?_ | refine A_off0 rfl rfl ?_
 | refine A_sub rfl rfl rfl (by omega) ?_
 | (refine A_callB rfl rfl (fun s H => c_areStates) ?_ ?_ <;> intro hc <;> try first | contradiction | (exfalso; omega) | exact absurd rfl hc | exact absurd (And.intro rfl rfl) hc | exact absurd (And.intro rfl (And.intro rfl rfl)) hc | exact absurd (Eq.trans (by assumption) (Eq.symm (by assumption))) hc)
 | (refine A_callB rfl rfl (fun s H => c_isReach) ?_ ?_ <;> intro hc <;> try first | contradiction | (exfalso; omega) | exact absurd rfl hc | exact absurd (And.intro rfl rfl) hc | exact absurd (And.intro rfl (And.intro rfl rfl)) hc | exact absurd (Eq.trans (by assumption) (Eq.symm (by assumption))) hc)
 | refine A_fld rfl rfl ?_ | refine A_p (by rfl) rfl ?_
 | refine A_ldI rfl (by first | omega | (simp; done) | (simp; omega)) rfl ?_ | refine A_ldB rfl (by first | omega | (simp; done) | (simp; omega)) rfl ?_ | refine A_ld rfl (by rfl) rfl ?_
 | refine A_ldW rfl (by simp) rfl ?_
 | ((first | refine A_box rfl rfl ?_ | refine A_boxC rfl rfl ?_) <;> intro pz hpz)
 | refine A_chk1 rfl rfl rfl ?_ | refine A_chk2 rfl rfl rfl rfl ?_ | refine A_chk3 rfl rfl rfl rfl rfl ?_ | refine A_chk4 rfl rfl rfl rfl rfl rfl ?_ | refine A_chkI rfl (by assumption) rfl (by simp) ?_
 | refine A_ret1 rfl (by exact (RP.t rfl RP.nil)) ?_)
    exact R_f fun h => h2 h.2.1
  repeat' (first
 | refine A_go rfl ?_ | refine A_ifT rfl rfl ?_ | refine A_ifF rfl rfl ?_
 | refine A_offP rfl rfl ?_ | refine A_offH rfl rfl ?_ | refine A_off0 rfl rfl ?_
 | refine A_sub rfl rfl rfl (by omega) ?_
 | (refine A_callB rfl rfl (fun s H => c_areStates) ?_ ?_ <;> intro hc <;> try first | contradiction | (exfalso; omega) | exact absurd rfl hc | exact absurd (And.intro rfl rfl) hc | exact absurd (And.intro rfl (And.intro rfl rfl)) hc | exact absurd (Eq.trans (by assumption) (Eq.symm (by assumption))) hc)
 | (refine A_callB rfl rfl (fun s H => c_isReach) ?_ ?_ <;> intro hc <;> try first | contradiction | (exfalso; omega) | exact absurd rfl hc | exact absurd (And.intro rfl rfl) hc | exact absurd (And.intro rfl (And.intro rfl rfl)) hc | exact absurd (Eq.trans (by assumption) (Eq.symm (by assumption))) hc)
 | refine A_callV rfl rfl (fun s H => c_cells) ?_
 | refine A_callV rfl rfl (fun s H => c_raised) ?_
 | (refine A_callB rfl rfl (fun s H => c_areMany) ?_ ?_ <;> intro hc <;> try first | contradiction | (exfalso; omega) | exact absurd rfl hc | exact absurd (And.intro rfl rfl) hc | exact absurd (And.intro rfl (And.intro rfl rfl)) hc | exact absurd (Eq.trans (by assumption) (Eq.symm (by assumption))) hc)
 | refine A_fld rfl rfl ?_ | refine A_p (by rfl) rfl ?_
 | refine A_ldI rfl (by first | omega | (simp; done) | (simp; omega)) rfl ?_ | refine A_ldB rfl (by first | omega | (simp; done) | (simp; omega)) rfl ?_ | refine A_ld rfl (by rfl) rfl ?_
 | refine A_ldW rfl (by simp) rfl ?_
 | ((first | refine A_box rfl rfl ?_ | refine A_boxC rfl rfl ?_) <;> intro pz hpz)
 | refine A_chk1 rfl rfl rfl ?_ | refine A_chk2 rfl rfl rfl rfl ?_ | refine A_chk3 rfl rfl rfl rfl rfl ?_ | refine A_chk4 rfl rfl rfl rfl rfl rfl ?_ | refine A_chkI rfl (by assumption) rfl (by simp) ?_
 | refine A_ret1 rfl (by exact (RP.t rfl RP.nil)) ?_)
  · exact R_t ⟨h1, h2, by omega, hc.2⟩
  · exact R_f fun h => hc ⟨by have := h.2.2.1; omega, h.2.2.2⟩
theorem c_l02Is {s : St} [Wf s] {p : Nat} {st re : Int} {id_xs off_xs len_xs : Nat} {xs : List Int} [hp : Ref s p [ic st, ic re, .sl id_xs off_xs len_xs]] [h_xs : ArgE ic s id_xs off_xs xs] (hl_xs : xs.length = len_xs := by first | rfl | simp | omega | (simp; omega)) (hb : len_xs ≤ 9223372036854775807 := by omega) : FnB 47 [.c (.ptr p 0)] s (VR st re xs) := by
  refine F_start code47 ?_
  by_cases h1 : 2 ≤ st ∧ st ≤ 3
  case neg =>
    repeat' (first
 | refine A_go rfl ?_ | refine A_ifT rfl rfl ?_ | refine A_ifF rfl rfl ?_
 | refine A_offP rfl rfl ?_ | refine A_offH rfl rfl ?_ | refine A_off0 rfl rfl ?_
 | refine A_add rfl rfl rfl (by omega) ?_ | refine A_sub rfl rfl rfl (by omega) ?_ | refine A_mul rfl rfl rfl (by omega) ?_
 | ((first | refine A_lt rfl rfl rfl ?_ ?_ | refine A_ne rfl rfl rfl ?_ ?_) <;> intro hc <;> try first | contradiction | (exfalso; omega) | exact absurd rfl hc)
 | refine A_idxN1 rfl rfl rfl (by omega) ?_ | refine A_idx1 rfl rfl rfl (by omega) ?_
 | (refine A_callB rfl rfl (fun s H => c_l00In) ?_ ?_ <;> intro hc <;> try first | contradiction | (exfalso; omega) | exact absurd rfl hc | exact absurd (And.intro rfl rfl) hc | exact absurd (And.intro rfl (And.intro rfl rfl)) hc | exact absurd (Eq.trans (by assumption) (Eq.symm (by assumption))) hc)
 | refine A_fld rfl rfl ?_ | refine A_p (by rfl) rfl ?_
 | refine A_ldI rfl (by first | omega | (simp; done) | (simp; omega)) rfl ?_ | refine A_ldB rfl (by first | omega | (simp; done) | (simp; omega)) rfl ?_ | refine A_ld rfl (by rfl) rfl ?_
 | refine A_chk1 rfl rfl rfl ?_ | refine A_chk2 rfl rfl rfl rfl ?_ | refine A_chk3 rfl rfl rfl rfl rfl ?_ | refine A_chk4 rfl rfl rfl rfl rfl rfl ?_ | refine A_chkI rfl (by assumption) rfl (by simp) ?_
 | refine A_ret1 rfl (by exact (RP.t rfl RP.nil)) ?_)
    exact R_f fun h => h1 h.1
  by_cases h2 : 0 ≤ re ∧ re ≤ 2
  case neg =>
    repeat' (first
 | refine A_go rfl ?_ | refine A_ifT rfl rfl ?_ | refine A_ifF rfl rfl ?_
 | refine A_offP rfl rfl ?_ | refine A_offH rfl rfl ?_ | refine A_off0 rfl rfl ?_
 | refine A_add rfl rfl rfl (by omega) ?_ | refine A_sub rfl rfl rfl (by omega) ?_ | refine A_mul rfl rfl rfl (by omega) ?_
 | ((first | refine A_lt rfl rfl rfl ?_ ?_ | refine A_ne rfl rfl rfl ?_ ?_) <;> intro hc <;> try first | contradiction | (exfalso; omega) | exact absurd rfl hc)
 | refine A_idxN1 rfl rfl rfl (by omega) ?_ | refine A_idx1 rfl rfl rfl (by omega) ?_
 | (refine A_callB rfl rfl (fun s H => c_l00In) ?_ ?_ <;> intro hc <;> try first | contradiction | (exfalso; omega) | exact absurd rfl hc | exact absurd (And.intro rfl rfl) hc | exact absurd (And.intro rfl (And.intro rfl rfl)) hc | exact absurd (Eq.trans (by assumption) (Eq.symm (by assumption))) hc)
 | refine A_fld rfl rfl ?_ | refine A_p (by rfl) rfl ?_
 | refine A_ldI rfl (by first | omega | (simp; done) | (simp; omega)) rfl ?_ | refine A_ldB rfl (by first | omega | (simp; done) | (simp; omega)) rfl ?_ | refine A_ld rfl (by rfl) rfl ?_
 | refine A_chk1 rfl rfl rfl ?_ | refine A_chk2 rfl rfl rfl rfl ?_ | refine A_chk3 rfl rfl rfl rfl rfl ?_ | refine A_chk4 rfl rfl rfl rfl rfl rfl ?_ | refine A_chkI rfl (by assumption) rfl (by simp) ?_
 | refine A_ret1 rfl (by exact (RP.t rfl RP.nil)) ?_)
    exact R_f fun h => h2 h.2.1
  repeat' (first
 | refine A_go rfl ?_ | refine A_ifT rfl rfl ?_ | refine A_ifF rfl rfl ?_
 | refine A_offP rfl rfl ?_ | refine A_offH rfl rfl ?_ | refine A_off0 rfl rfl ?_
 | refine A_add rfl rfl rfl (by omega) ?_ | refine A_sub rfl rfl rfl (by omega) ?_ | refine A_mul rfl rfl rfl (by omega) ?_
 | ((first | refine A_lt rfl rfl rfl ?_ ?_ | refine A_ne rfl rfl rfl ?_ ?_) <;> intro hc <;> try first | contradiction | (exfalso; omega) | exact absurd rfl hc)
 | refine A_idxN1 rfl rfl rfl (by omega) ?_ | refine A_idx1 rfl rfl rfl (by omega) ?_
 | (refine A_callB rfl rfl (fun s H => c_l00In) ?_ ?_ <;> intro hc <;> try first | contradiction | (exfalso; omega) | exact absurd rfl hc | exact absurd (And.intro rfl rfl) hc | exact absurd (And.intro rfl (And.intro rfl rfl)) hc | exact absurd (Eq.trans (by assumption) (Eq.symm (by assumption))) hc)
 | refine A_callV rfl rfl (fun s H => c_l02Powers) ?_
 | refine A_fld rfl rfl ?_ | refine A_p (by rfl) rfl ?_
 | refine A_ldI rfl (by first | omega | (simp; done) | (simp; omega)) rfl ?_ | refine A_ldB rfl (by first | omega | (simp; done) | (simp; omega)) rfl ?_ | refine A_ld rfl (by rfl) rfl ?_
 | refine A_chk1 rfl rfl rfl ?_ | refine A_chk2 rfl rfl rfl rfl ?_ | refine A_chk3 rfl rfl rfl rfl rfl ?_ | refine A_chk4 rfl rfl rfl rfl rfl rfl ?_ | refine A_chkI rfl (by assumption) rfl (by simp) ?_
 | refine A_ret1 rfl (by exact (RP.t rfl RP.nil)) ?_)
  · exact R_f fun h => by have := h.2.2.1; omega
  refine A_loop rfl [] (fun m fr L => ∃ i : Nat, m = len_xs - i ∧ fr = [(0, .c (.ptr p 0)), (3, iv i)] ∧ L = [] ∧ i ≤ len_xs ∧ ∀ x ∈ xs.take i, 0 ≤ x ∧ x ≤ st - 1) len_xs ⟨0, rfl, rfl, rfl, by omega, by simp⟩ ?_
  rintro m fr L ⟨i, rfl, rfl, rfl, hi, ht⟩
  repeat' (first
 | refine A_go rfl ?_ | refine A_ifT rfl rfl ?_ | refine A_ifF rfl rfl ?_
 | refine A_offP rfl rfl ?_ | refine A_offH rfl rfl ?_ | refine A_off0 rfl rfl ?_
 | refine A_add rfl rfl rfl (by omega) ?_ | refine A_sub rfl rfl rfl (by omega) ?_ | refine A_mul rfl rfl rfl (by omega) ?_
 | ((first | refine A_lt rfl rfl rfl ?_ ?_ | refine A_ne rfl rfl rfl ?_ ?_) <;> intro hc <;> try first | contradiction | (exfalso; omega) | exact absurd rfl hc)
 | refine A_idxN1 rfl rfl rfl (by omega) ?_ | refine A_idx1 rfl rfl rfl (by omega) ?_
 | (refine A_callB rfl rfl (fun s H => c_l00In) ?_ ?_ <;> intro hc <;> try first | contradiction | (exfalso; omega) | exact absurd rfl hc | exact absurd (And.intro rfl rfl) hc | exact absurd (And.intro rfl (And.intro rfl rfl)) hc | exact absurd (Eq.trans (by assumption) (Eq.symm (by assumption))) hc)
 | refine A_fld rfl rfl ?_ | refine A_p (by rfl) rfl ?_
 | refine A_ldI rfl (by first | omega | (simp; done) | (simp; omega)) rfl ?_ | refine A_ldB rfl (by first | omega | (simp; done) | (simp; omega)) rfl ?_ | refine A_ld rfl (by rfl) rfl ?_
 | refine A_chk1 rfl rfl rfl ?_ | refine A_chk2 rfl rfl rfl rfl ?_ | refine A_chk3 rfl rfl rfl rfl rfl ?_ | refine A_chk4 rfl rfl rfl rfl rfl rfl ?_ | refine A_chkI rfl (by assumption) rfl (by simp) ?_
 | refine A_ret1 rfl (by exact (RP.t rfl RP.nil)) ?_)
  · refine A_round rfl [] (len_xs - (i + 1)) (by omega) ?_
    exact ⟨i + 1, rfl, rfl, rfl, by omega, all_succ ht (by omega) (by assumption)⟩
  · exact R_f fun h => by have := h.2.2.2 _ (getD_mem (d := 0) (by omega : i < xs.length)); contradiction
  · exact R_t ⟨h1, h2, by omega, all_end ht (by omega)⟩

end Go.Proofs.Ytlmbgaoeplffkaa
