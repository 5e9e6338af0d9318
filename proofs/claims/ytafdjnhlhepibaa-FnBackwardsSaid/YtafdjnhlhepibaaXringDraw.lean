/- Rings and rules that are drawn out of bytes. -/
import Derived.Test.YtafdjnhlhepibaaXsrc
import Derived.Test.YtafdjnhlhepibaaXlend
import Derived.Test.YtafdjnhlhepibaaXringOk
import Derived.Test.YtafdjnhlhepibaaFB
namespace Go.Proofs.Ytafdjnhlhepibaa
open Go Go.RowKit
set_option linter.unusedVariables false
set_option linter.unusedSimpArgs false
set_option maxRecDepth 100000
set_option maxHeartbeats 8000000
-- spec.l00Min
def L135 : AFun := ⟨10, [.t 4],
 (.seq (.ops false [⟨(some 4), .mv (.k (iv 0)), none, []⟩])
 (.seq (.seq (.ops false [⟨(some 5), .mv (.t 0), none, []⟩,
    ⟨(some 6), .mv (.t 1), none, []⟩,
    ⟨(some 7), .bin .lss (.t 5) (.t 6), none, []⟩])
  (.cond (.t 7) (.seq (.ops false [⟨(some 8), .mv (.t 0), none, []⟩,
     ⟨(some 4), .mv (.t 8), none, []⟩])
   .ret)
   .skip))
 (.seq (.ops false [⟨(some 9), .mv (.t 1), none, []⟩,
   ⟨(some 4), .mv (.t 9), none, []⟩])
 .ret)))⟩
theorem code135 : acode Try.prog hints 135 = some L135 := by kernel_rfl

-- spec.l00Max
def L134 : AFun := ⟨10, [.t 4],
 (.seq (.ops false [⟨(some 4), .mv (.k (iv 0)), none, []⟩])
 (.seq (.seq (.ops false [⟨(some 5), .mv (.t 0), none, []⟩,
    ⟨(some 6), .mv (.t 1), none, []⟩,
    ⟨(some 7), .bin .gtr (.t 5) (.t 6), none, []⟩])
  (.cond (.t 7) (.seq (.ops false [⟨(some 8), .mv (.t 0), none, []⟩,
     ⟨(some 4), .mv (.t 8), none, []⟩])
   .ret)
   .skip))
 (.seq (.ops false [⟨(some 9), .mv (.t 1), none, []⟩,
   ⟨(some 4), .mv (.t 9), none, []⟩])
 .ret)))⟩
theorem code134 : acode Try.prog hints 134 = some L134 := by kernel_rfl

-- spec.l02DrawSides
def L97 : AFun := ⟨30, [.cell true 3 6],
 (.seq (.ops false [⟨(some 6), .alloc 30 [.int .i64 0, .int .i64 0, .sl 0 0 0], none, []⟩])
 (.seq (.ops false [⟨(some 9), .mv (.t 1), none, []⟩,
   ⟨(some 10), .mv (.t 2), none, []⟩,
   ⟨(some 11), .build [.int .i64 0, .int .i64 0, .sl 0 0 0] [(0, 1, (.t 9)), (1, 1, (.t 10))], none, []⟩,
   ⟨(some 7), .alloc 30 [.int .i64 0, .int .i64 0, .sl 0 0 0], none, []⟩,
   ⟨none, .store 3 (.t 7) (.t 11), none, []⟩])
 (.seq (.seq (.ops false [⟨(some 12), .mv (.t 1), none, []⟩,
    ⟨(some 13), .mv (.t 2), none, []⟩,
    ⟨(some 14), .bin .mul (.k (iv 2)) (.t 13), none, []⟩,
    ⟨(some 15), .bin .add (.t 14) (.k (iv 1)), none, []⟩,
    ⟨(some 16), .call (.f 111) [(.t 12), (.t 15)], none, []⟩,
    ⟨(some 8), .mv (.t 16), none, []⟩])
  (.block 0 (.loop [0, 1, 6, 7, 8] (.seq (.seq (.ops false [⟨(some 17), .mv (.t 8), none, []⟩,
       ⟨(some 18), .bin .gtr (.t 17) (.k (iv 0)), none, []⟩])
     (.cond (.t 18) .skip
      (.exit 0)))
    (.seq (.block 1 (.ops true [⟨(some 23), .mv (.t 0), none, []⟩,
       ⟨(some 24), .mv (.t 1), none, []⟩,
       ⟨(some 25), .call (.f 93) [(.t 23), (.t 24)], none, []⟩,
       ⟨(some 21), .fieldA 2 (.t 7), none, []⟩,
       ⟨(some 22), .load false 1 (.t 21), none, [0]⟩,
       ⟨(some 26), .buildS 2 1 1 [.int .i64 0] [(0, 1, (.t 25))], none, []⟩,
       ⟨(some 27), .append 2 1 8 (.t 22) (.t 26), none, []⟩,
       ⟨(some 28), .fieldA 2 (.t 7), none, []⟩,
       ⟨none, .store 1 (.t 28) (.t 27), none, []⟩]))
    (.ops false [⟨(some 19), .mv (.t 8), none, []⟩,
     ⟨(some 20), .bin .sub (.t 19) (.k (iv 1)), none, []⟩,
     ⟨(some 8), .mv (.t 20), none, []⟩]))))))
 (.seq (.ops false [⟨(some 29), .load true 3 (.t 7), none, []⟩,
   ⟨none, .store 3 (.t 6) (.t 29), none, []⟩])
 .ret))))⟩
theorem code97 : acode Try.prog hints 97 = some L97 := by kernel_rfl

-- spec.l02DrawCells
def L98 : AFun := ⟨24, [.t 6],
 (.seq (.ops false [⟨(some 6), .mv (.k (.c (.sl 0 0 0))), none, []⟩])
 (.seq (.ops false [⟨(some 9), .buildS 2 1 0 [.int .i64 0] [], none, []⟩,
   ⟨(some 7), .mv (.t 9), none, []⟩])
 (.seq (.block 0 (.loop [0, 1, 2, 7] (.seq (.seq (.ops false [⟨(some 10), .mv (.t 2), none, []⟩,
       ⟨(some 11), .bin .gtr (.t 10) (.k (iv 0)), none, []⟩])
     (.cond (.t 11) .skip
      (.exit 0)))
    (.seq (.block 1 (.seq (.ops false [⟨(some 14), .mv (.t 0), none, []⟩,
        ⟨(some 15), .mv (.t 1), none, []⟩,
        ⟨(some 16), .call (.f 135) [(.k (iv 3)), (.t 15)], none, []⟩,
        ⟨(some 17), .call (.f 134) [(.k (iv 1)), (.t 16)], none, []⟩,
        ⟨(some 18), .call (.f 93) [(.t 14), (.t 17)], none, []⟩,
        ⟨(some 8), .mv (.t 18), none, []⟩])
      (.ops false [⟨(some 19), .mv (.t 7), none, []⟩,
       ⟨(some 20), .mv (.t 8), none, []⟩,
       ⟨(some 21), .buildS 2 1 1 [.int .i64 0] [(0, 1, (.t 20))], none, []⟩,
       ⟨(some 22), .append 2 1 8 (.t 19) (.t 21), none, []⟩,
       ⟨(some 7), .mv (.t 22), none, []⟩])))
    (.ops false [⟨(some 12), .mv (.t 2), none, []⟩,
     ⟨(some 13), .bin .sub (.t 12) (.k (iv 1)), none, []⟩,
     ⟨(some 2), .mv (.t 13), none, []⟩])))))
 (.seq (.ops false [⟨(some 23), .mv (.t 7), none, []⟩,
   ⟨(some 6), .mv (.t 23), none, []⟩])
 .ret))))⟩
theorem code98 : acode Try.prog hints 98 = some L98 := by kernel_rfl

-- spec.R8Rule
def L45 : AFun := ⟨14, [.cell true 3 6],
 (.seq (.ops false [⟨(some 6), .alloc 30 [.int .i64 0, .int .i64 0, .sl 0 0 0], none, []⟩])
 (.seq (.ops false [⟨(some 8), .mv (.t 0), none, []⟩,
   ⟨(some 9), .call (.f 91) [(.t 8)], none, []⟩,
   ⟨(some 7), .mv (.t 9), none, []⟩])
 (.seq (.ops false [⟨(some 10), .mv (.t 7), none, []⟩,
   ⟨(some 11), .mv (.t 1), none, []⟩,
   ⟨(some 12), .mv (.t 2), none, []⟩,
   ⟨(some 13), .call (.f 97) [(.t 10), (.t 11), (.t 12)], none, []⟩,
   ⟨none, .store 3 (.t 6) (.t 13), none, []⟩])
 .ret)))⟩
theorem code45 : acode Try.prog hints 45 = some L45 := by kernel_rfl

-- spec.R8Ring
def L46 : AFun := ⟨14, [.t 6],
 (.seq (.ops false [⟨(some 6), .mv (.k (.c (.sl 0 0 0))), none, []⟩])
 (.seq (.ops false [⟨(some 8), .mv (.t 0), none, []⟩,
   ⟨(some 9), .call (.f 91) [(.t 8)], none, []⟩,
   ⟨(some 7), .mv (.t 9), none, []⟩])
 (.seq (.ops false [⟨(some 10), .mv (.t 7), none, []⟩,
   ⟨(some 11), .mv (.t 1), none, []⟩,
   ⟨(some 12), .mv (.t 2), none, []⟩,
   ⟨(some 13), .call (.f 98) [(.t 10), (.t 11), (.t 12)], none, []⟩,
   ⟨(some 6), .mv (.t 13), none, []⟩])
 .ret)))⟩
theorem code46 : acode Try.prog hints 46 = some L46 := by kernel_rfl

-- laws.r8Same
def L48 : AFun := ⟨26, [.t 4],
 (.seq (.ops false [⟨(some 4), .mv (.k (bv false)), none, []⟩])
 (.seq (.seq (.ops false [⟨(some 6), .mv (.t 0), none, []⟩,
    ⟨(some 7), .len false (.t 6), none, []⟩,
    ⟨(some 8), .mv (.t 1), none, []⟩,
    ⟨(some 9), .len false (.t 8), none, []⟩,
    ⟨(some 10), .bin .neq (.t 7) (.t 9), none, []⟩])
  (.cond (.t 10) (.seq (.ops false [⟨(some 4), .mv (.k (bv false)), none, []⟩])
   .ret)
   .skip))
 (.seq (.seq (.ops false [⟨(some 5), .mv (.k (iv 0)), none, []⟩])
  (.block 0 (.loop [0, 1, 5] (.seq (.seq (.ops false [⟨(some 11), .mv (.t 5), none, []⟩,
       ⟨(some 12), .mv (.t 0), none, []⟩,
       ⟨(some 13), .len false (.t 12), none, []⟩,
       ⟨(some 14), .bin .lss (.t 11) (.t 13), none, []⟩])
     (.cond (.t 14) .skip
      (.exit 0)))
    (.seq (.block 1 (.seq (.ops true [⟨(some 17), .mv (.t 0), none, []⟩,
        ⟨(some 18), .mv (.t 5), none, []⟩,
        ⟨(some 19), .idxA 1 (.t 17) (.t 18), none, []⟩,
        ⟨(some 20), .load false 1 (.t 19), none, []⟩,
        ⟨(some 21), .mv (.t 1), none, []⟩,
        ⟨(some 22), .mv (.t 5), none, []⟩,
        ⟨(some 23), .idxA 1 (.t 21) (.t 22), none, []⟩,
        ⟨(some 24), .load false 1 (.t 23), none, []⟩,
        ⟨(some 25), .bin .neq (.t 20) (.t 24), none, []⟩])
      (.cond (.t 25) (.seq (.ops false [⟨(some 4), .mv (.k (bv false)), none, []⟩])
       .ret)
       .skip)))
    (.ops false [⟨(some 15), .mv (.t 5), none, []⟩,
     ⟨(some 16), .bin .add (.t 15) (.k (iv 1)), none, []⟩,
     ⟨(some 5), .mv (.t 16), none, []⟩]))))))
 (.seq (.ops false [⟨(some 4), .mv (.k (bv true)), none, []⟩])
 .ret))))⟩
theorem code48 : acode Try.prog hints 48 = some L48 := by kernel_rfl

-- laws.r8Run
def L53 : AFun := ⟨31, [.t 6, .t 7],
 (.seq (.ops false [⟨(some 3), .box 30 (.t 0), none, []⟩,
   ⟨(some 6), .mv (.k (.c (.sl 0 0 0))), none, []⟩,
   ⟨(some 7), .mv (.k (bv false)), none, []⟩])
 (.seq (.ops false [⟨(some 12), .mv (.t 1), none, []⟩,
   ⟨(some 8), .mv (.t 12), none, []⟩])
 (.seq (.block 0 (.loop [2, 3, 8] (.seq (.seq (.ops false [⟨(some 13), .mv (.t 2), none, []⟩,
       ⟨(some 14), .bin .gtr (.t 13) (.k (iv 0)), none, []⟩])
     (.cond (.t 14) .skip
      (.exit 0)))
    (.block 1 (.seq (.ops false [⟨(some 15), .mv (.t 2), none, []⟩,
       ⟨(some 16), .minmax false (.t 15) (.k (iv 1000)), none, []⟩,
       ⟨(some 9), .mv (.t 16), none, []⟩])
     (.seq (.ops false [⟨(some 18), .load true 3 (.t 3), none, []⟩,
       ⟨(some 19), .mv (.t 8), none, []⟩,
       ⟨(some 20), .mv (.t 9), none, []⟩,
       ⟨(some 21), .call (.f 62) [(.t 18), (.t 19), (.t 20)], none, []⟩,
       ⟨(some 17), .mv (.t 21), none, []⟩,
       ⟨(some 22), .ext (.t 17) 0, none, []⟩,
       ⟨(some 23), .ext (.t 17) 1, none, []⟩,
       ⟨(some 10), .mv (.t 22), none, []⟩,
       ⟨(some 11), .mv (.t 23), none, []⟩])
     (.seq (.seq (.ops false [⟨(some 24), .mv (.t 11), none, []⟩,
        ⟨(some 25), .un .not (.t 24), none, []⟩])
      (.cond (.t 25) (.seq (.ops false [⟨(some 6), .mv (.k (.c (.sl 0 0 0))), none, []⟩,
         ⟨(some 7), .mv (.k (bv false)), none, []⟩])
       .ret)
       .skip))
     (.seq (.ops false [⟨(some 26), .mv (.t 10), none, []⟩,
       ⟨(some 8), .mv (.t 26), none, []⟩])
     (.ops false [⟨(some 27), .mv (.t 2), none, []⟩,
      ⟨(some 28), .mv (.t 9), none, []⟩,
      ⟨(some 29), .bin .sub (.t 27) (.t 28), none, []⟩,
      ⟨(some 2), .mv (.t 29), none, []⟩])))))))))
 (.seq (.ops false [⟨(some 30), .mv (.t 8), none, []⟩,
   ⟨(some 6), .mv (.t 30), none, []⟩,
   ⟨(some 7), .mv (.k (bv true)), none, []⟩])
 .ret))))⟩
theorem code53 : acode Try.prog hints 53 = some L53 := by kernel_rfl


theorem c_min3 {s : St} [Wf s] {S : Int} (hS : 2 ≤ S ∧ S ≤ 3 := by omega) : FnV 135 [iv 3, iv S] s (iv S) := by
  refine F_start code135 ?_
  repeat' (first
 | refine A_go rfl ?_ | refine A_ifT rfl rfl ?_ | refine A_ifF rfl rfl ?_
 | ((first | refine A_lt rfl rfl rfl ?_ ?_) <;> intro hc <;> try first | contradiction | (exfalso; omega) | exact absurd rfl hc)
 | refine A_p (by rfl) rfl ?_
 | refine A_ret1 rfl (by exact (RP.t rfl RP.nil)) ?_)
  all_goals exact R_v rfl
theorem c_max1 {s : St} [Wf s] {S : Int} (hS : 2 ≤ S ∧ S ≤ 3 := by omega) : FnV 134 [iv 1, iv S] s (iv S) := by
  refine F_start code134 ?_
  repeat' (first
 | refine A_go rfl ?_ | refine A_ifT rfl rfl ?_ | refine A_ifF rfl rfl ?_
 | ((first | refine A_gt rfl rfl rfl ?_ ?_) <;> intro hc <;> try first | contradiction | (exfalso; omega) | exact absurd rfl hc)
 | refine A_p (by rfl) rfl ?_
 | refine A_ret1 rfl (by exact (RP.t rfl RP.nil)) ?_)
  all_goals exact R_v rfl
theorem c_drawCells {s : St} [Wf s] {p id off len : Nat} {at_ sd S : Int} {ys : List Int} {n : Nat} [hb : Bor s p (srcO id off len at_ sd)] [hy : ArgE ub s id off ys] (hl : ys.length = len) (hr : ∀ n ∈ ys, 0 ≤ n ∧ n ≤ 255) (hne : id ≠ p ∨ id ≤ 1) (hat : 0 ≤ at_ ∧ at_ ≤ 1000000) (hlen : len ≤ 1000000000000) (hS : 2 ≤ S ∧ S ≤ 3) (hn : n ≤ 64) :
    Fn [p] 98 [.c (.ptr p 0), iv S, iv n] s fun V N => ∃ q xs at' sd', V = .c (.sl q 0 n) ∧ xs.length = n ∧ (∀ x ∈ xs, 0 ≤ x ∧ x < S) ∧ N = [(q, ints xs), (p, srcO id off len at' sd')] := by
  haveI hni : NotIn id [p] := ⟨by rcases hne with h | h; exact .inl (by simpa using h); exact .inr h⟩
  refine F_start1 code98 ?_
  repeat' (first
 | refine A_go rfl ?_ | refine A_ifT rfl rfl ?_ | refine A_ifF rfl rfl ?_
 | refine A_sub rfl rfl rfl (by omega) ?_
 | ((first | refine A_gt rfl rfl rfl ?_ ?_) <;> intro hc <;> try first | contradiction | (exfalso; omega) | exact absurd rfl hc)
 | refine A_p (by rfl) rfl ?_
 | ((first | refine A_bld1 rfl rfl ?_ | refine A_bld2 rfl rfl rfl ?_ | refine A_bld4 rfl rfl rfl rfl rfl ?_) <;> intro pz hpz)
 | refine A_bld0 rfl ?_
 | (refine A_app rfl rfl rfl (by first | omega | (simp; done) | (simp; omega)) (by first | omega | (simp; done) | (simp; omega)) (by omega) ?_; intro pz) | (refine A_appN (enc := ic) rfl (by decide) rfl rfl (by first | omega | (simp; done) | (simp; omega)) (by omega) ?_; intro pz)
 | refine A_ret1 rfl (by exact (RP.t rfl RP.nil)) ?_)
  refine A_loopX rfl (fun m fr L => ∃ (i q : Nat) (xs : List Int) (at' sd' : Int), m = n - i ∧ fr = [(0, .c (.ptr p 0)), (1, iv S), (2, iv ((n : Int) - i)), (7, .c (.sl q 0 i))] ∧ L = [(p, srcO id off len at' sd'), (q, ints xs)] ∧ i ≤ n ∧ xs.length = i ∧ (∀ x ∈ xs, 0 ≤ x ∧ x < S) ∧ 0 ≤ at' ∧ at' ≤ 1000000 + 2 * i) (n := n) ⟨[(p, srcO id off len at_ sd), (1, ints [])], ⟨0, 1, [], at_, sd, rfl, by simp only [Int.ofNat_zero, Int.sub_zero]; rfl, rfl, by omega, rfl, by simp, by omega, by omega⟩, inferInstance⟩ ?_
  rintro m fr L ⟨i, q, xs, at', sd', rfl, rfl, rfl, hi, hxl, hxm, ha1, ha2⟩
  by_cases hi' : i < n
  · repeat' (first
 | refine A_go rfl ?_ | refine A_ifT rfl rfl ?_ | refine A_ifF rfl rfl ?_
 | refine A_sub rfl rfl rfl (by omega) ?_
 | ((first | refine A_gt rfl rfl rfl ?_ ?_) <;> intro hc <;> try first | contradiction | (exfalso; omega) | exact absurd rfl hc)
 | refine A_callV rfl rfl (fun s H => c_min3) ?_
 | refine A_callV rfl rfl (fun s H => c_max1) ?_
 | (refine A_callM rfl rfl (fun s H => c_pick (hl := hl) (hr := hr) (hne := hne) (hat := by omega) (hlen := hlen) (hn := by omega)) ?_; rintro _ _ ⟨x, at', sd, rfl, hxb, hat, rfl⟩) | (refine A_callM0 rfl rfl (fun s H => c_pick (hl := hl) (hr := hr) (hne := hne) (hat := by omega) (hlen := hlen) (hn := by omega)) ?_; rintro _ _ ⟨x, at', sd, rfl, hxb, hat, rfl⟩)
 | refine A_p (by rfl) rfl ?_
 | ((first | refine A_bld1 rfl rfl ?_ | refine A_bld2 rfl rfl rfl ?_ | refine A_bld4 rfl rfl rfl rfl rfl ?_) <;> intro pz hpz)
 | refine A_bld0 rfl ?_
 | (refine A_app rfl rfl rfl (by first | omega | (simp; done) | (simp; omega)) (by first | omega | (simp; done) | (simp; omega)) (by omega) ?_; intro pz) | (refine A_appN (enc := ic) rfl (by decide) rfl rfl (by first | omega | (simp; done) | (simp; omega)) (by omega) ?_; intro pz)
 | refine A_ret1 rfl (by exact (RP.t rfl RP.nil)) ?_)
    refine A_roundX rfl ⟨n - (i + 1), [(p, srcO id off len at' sd), (pz, ints (xs ++ [x]))], by omega, ⟨i + 1, pz, _, _, _, rfl, ?_, rfl, by omega, by simp [hxl], ?_, by omega, by omega⟩, inferInstance⟩
    · rw [show (n : Int) - i - 1 = (n : Int) - ((i + 1 : Nat) : Int) by omega]; rfl
    · intro a ha
      rcases List.mem_append.1 ha with g | g
      · exact hxm a g
      · obtain rfl := List.mem_singleton.1 g; omega
  · obtain rfl : n = i := by omega
    repeat' (first
 | refine A_go rfl ?_ | refine A_ifT rfl rfl ?_ | refine A_ifF rfl rfl ?_
 | refine A_sub rfl rfl rfl (by omega) ?_
 | ((first | refine A_gt rfl rfl rfl ?_ ?_) <;> intro hc <;> try first | contradiction | (exfalso; omega) | exact absurd rfl hc)
 | refine A_p (by rfl) rfl ?_
 | ((first | refine A_bld1 rfl rfl ?_ | refine A_bld2 rfl rfl rfl ?_ | refine A_bld4 rfl rfl rfl rfl rfl ?_) <;> intro pz hpz)
 | refine A_bld0 rfl ?_
 | (refine A_app rfl rfl rfl (by first | omega | (simp; done) | (simp; omega)) (by first | omega | (simp; done) | (simp; omega)) (by omega) ?_; intro pz) | (refine A_appN (enc := ic) rfl (by decide) rfl rfl (by first | omega | (simp; done) | (simp; omega)) (by omega) ?_; intro pz)
 | refine A_ret1 rfl (by exact (RP.t rfl RP.nil)) ?_)
    exact R_n [q, p] ⟨q, xs, _, _, rfl, hxl, hxm, rfl⟩
theorem powT {S re : Int} (hS : 2 ≤ S ∧ S ≤ 3) (hre : 0 ≤ re ∧ re ≤ 1) : S.toNat ^ (2 * re + 1).toNat ≤ 27 := by
  obtain rfl | rfl : S = 2 ∨ S = 3 := by omega
  all_goals
    obtain rfl | rfl : re = 0 ∨ re = 1 := by omega
    all_goals decide
theorem c_drawSides {s : St} [Wf s] {p id off len : Nat} {at_ sd S re : Int} {ys : List Int} [hb : Bor s p (srcO id off len at_ sd)] [hy : ArgE ub s id off ys] (hl : ys.length = len) (hr : ∀ n ∈ ys, 0 ≤ n ∧ n ≤ 255) (hne : id ≠ p ∨ id ≤ 1) (hat : 0 ≤ at_ ∧ at_ ≤ 1000000) (hlen : len ≤ 1000000000000) (hS : 2 ≤ S ∧ S ≤ 3) (hre : 0 ≤ re ∧ re ≤ 1) :
    Fn [p] 97 [.c (.ptr p 0), iv S, iv re] s fun V N => ∃ q xs at' sd', V = .agg [ic S, ic re, .sl q 0 (S.toNat ^ (2 * re + 1).toNat)] ∧ xs.length = S.toNat ^ (2 * re + 1).toNat ∧ (∀ x ∈ xs, 0 ≤ x ∧ x < S) ∧ N = [(q, ints xs), (p, srcO id off len at' sd')] := by
  haveI hni : NotIn id [p] := ⟨by rcases hne with h | h; exact .inl (by simpa using h); exact .inr h⟩
  have hT := powT hS hre
  refine F_start1 code97 ?_
  repeat' (first
 | refine A_go rfl ?_ | refine A_ifT rfl rfl ?_ | refine A_ifF rfl rfl ?_
 | refine A_add rfl rfl rfl (by omega) ?_ | refine A_sub rfl rfl rfl (by omega) ?_ | refine A_mul rfl rfl rfl (by omega) ?_
 | ((first | refine A_gt rfl rfl rfl ?_ ?_) <;> intro hc <;> try first | contradiction | (exfalso; omega) | exact absurd rfl hc)
 | refine A_callV rfl rfl (fun s H => c_l02Powers) ?_
 | refine A_fld rfl rfl ?_ | refine A_mk3 rfl rfl rfl rfl ?_ | refine A_mk23 rfl rfl rfl ?_ | refine A_mk2 rfl rfl rfl ?_ | refine A_mk13 rfl rfl ?_ | refine A_p (by rfl) rfl ?_
 | refine A_ldI rfl (by first | omega | (simp; done) | (simp; omega)) rfl ?_ | refine A_ldB rfl (by first | omega | (simp; done) | (simp; omega)) rfl ?_ | refine A_ld rfl (by rfl) rfl ?_
 | refine A_ldW rfl (by simp) rfl ?_
 | refine A_st rfl rfl rfl ?_ | refine A_stE rfl rfl (by first | omega | (simp; done) | (simp; omega)) rfl ?_
 | refine A_stW rfl rfl (by simp) rfl ?_
 | ((first | refine A_alloc rfl ?_ | refine A_bld1 rfl rfl ?_ | refine A_bld2 rfl rfl rfl ?_ | refine A_bld4 rfl rfl rfl rfl rfl ?_) <;> intro pz hpz)
 | refine A_bld0 rfl ?_
 | (refine A_app rfl rfl rfl (by first | omega | (simp; done) | (simp; omega)) (by first | omega | (simp; done) | (simp; omega)) (by omega) ?_; intro pz) | (refine A_appN (enc := ic) rfl (by decide) rfl rfl (by first | omega | (simp; done) | (simp; omega)) (by omega) ?_; intro pz)
 | refine A_chk1 rfl rfl rfl ?_ | refine A_chk2 rfl rfl rfl rfl ?_ | refine A_chk3 rfl rfl rfl rfl rfl ?_ | refine A_chk4 rfl rfl rfl rfl rfl rfl ?_ | refine A_chkI rfl (by assumption) rfl (by simp) ?_
 | refine A_ret1 rfl (by exact (RP.c rfl inferInstance rfl (by simp) RP.nil)) ?_)
  generalize S.toNat ^ (2 * re + 1).toNat = T at *
  rename_i p6 h6
  obtain ⟨p7, hEq⟩ : ∃ p, p = pz := ⟨_, rfl⟩; subst hEq
  refine A_loopX rfl (fun m fr L => ∃ (i q : Nat) (xs : List Int) (at' sd' : Int), m = T - i ∧ fr = [(0, .c (.ptr p 0)), (1, iv S), (6, .c (.ptr p6 0)), (7, .c (.ptr p7 0)), (8, iv ((T : Int) - i))] ∧ L = [(p7, .rw 30 3 [ic S, ic re, .sl q 0 i]), (p6, .rw 30 3 [ic 0, ic 0, .sl 0 0 0]), (p, srcO id off len at' sd'), (q, ints xs)] ∧ i ≤ T ∧ xs.length = i ∧ (∀ x ∈ xs, 0 ≤ x ∧ x < S) ∧ 0 ≤ at' ∧ at' ≤ 1000000 + 2 * i) (n := T) ⟨[(p7, .rw 30 3 [ic S, ic re, .sl 0 0 0]), (p6, .rw 30 3 [ic 0, ic 0, .sl 0 0 0]), (p, srcO id off len at_ sd), (0, ints [])], ⟨0, 0, [], at_, sd, rfl, by simp only [Int.ofNat_zero, Int.sub_zero]; rfl, rfl, by omega, rfl, by simp, by omega, by omega⟩, inferInstance⟩ ?_
  rintro m fr L ⟨i, q, xs, at', sd', rfl, rfl, rfl, hi, hxl, hxm, ha1, ha2⟩
  by_cases hi' : i < T
  · repeat' (first
 | refine A_go rfl ?_ | refine A_ifT rfl rfl ?_ | refine A_ifF rfl rfl ?_
 | refine A_add rfl rfl rfl (by omega) ?_ | refine A_sub rfl rfl rfl (by omega) ?_ | refine A_mul rfl rfl rfl (by omega) ?_
 | ((first | refine A_gt rfl rfl rfl ?_ ?_) <;> intro hc <;> try first | contradiction | (exfalso; omega) | exact absurd rfl hc)
 | (refine A_callM rfl rfl (fun s H => c_pick (hl := hl) (hr := hr) (hne := hne) (hat := by omega) (hlen := hlen) (hn := by omega)) ?_; rintro _ _ ⟨x, at', sd, rfl, hxb, hat, rfl⟩) | (refine A_callM0 rfl rfl (fun s H => c_pick (hl := hl) (hr := hr) (hne := hne) (hat := by omega) (hlen := hlen) (hn := by omega)) ?_; rintro _ _ ⟨x, at', sd, rfl, hxb, hat, rfl⟩)
 | refine A_fld rfl rfl ?_ | refine A_mk3 rfl rfl rfl rfl ?_ | refine A_mk23 rfl rfl rfl ?_ | refine A_mk2 rfl rfl rfl ?_ | refine A_mk13 rfl rfl ?_ | refine A_p (by rfl) rfl ?_
 | refine A_ldI rfl (by first | omega | (simp; done) | (simp; omega)) rfl ?_ | refine A_ldB rfl (by first | omega | (simp; done) | (simp; omega)) rfl ?_ | refine A_ld rfl (by rfl) rfl ?_
 | refine A_ldW rfl (by simp) rfl ?_
 | refine A_st rfl rfl rfl ?_ | refine A_stE rfl rfl (by first | omega | (simp; done) | (simp; omega)) rfl ?_
 | refine A_stW rfl rfl (by simp) rfl ?_
 | ((first | refine A_alloc rfl ?_ | refine A_bld1 rfl rfl ?_ | refine A_bld2 rfl rfl rfl ?_ | refine A_bld4 rfl rfl rfl rfl rfl ?_) <;> intro pz hpz)
 | refine A_bld0 rfl ?_
 | (refine A_app rfl rfl rfl (by first | omega | (simp; done) | (simp; omega)) (by first | omega | (simp; done) | (simp; omega)) (by omega) ?_; intro pz) | (refine A_appN (enc := ic) rfl (by decide) rfl rfl (by first | omega | (simp; done) | (simp; omega)) (by omega) ?_; intro pz)
 | refine A_chk1 rfl rfl rfl ?_ | refine A_chk2 rfl rfl rfl rfl ?_ | refine A_chk3 rfl rfl rfl rfl rfl ?_ | refine A_chk4 rfl rfl rfl rfl rfl rfl ?_ | refine A_chkI rfl (by assumption) rfl (by simp) ?_
 | refine A_ret1 rfl (by exact (RP.c rfl inferInstance rfl (by simp) RP.nil)) ?_)
    refine A_roundX rfl ⟨T - (i + 1), [(p7, .rw 30 3 [ic S, ic re, .sl pz 0 (i + 1)]), (p6, .rw 30 3 [ic 0, ic 0, .sl 0 0 0]), (p, srcO id off len at' sd), (pz, ints (xs ++ [x]))], by omega, ⟨i + 1, pz, _, _, _, rfl, ?_, rfl, by omega, by simp [hxl], ?_, by omega, by omega⟩, inferInstance⟩
    · rw [show (T : Int) - i - 1 = (T : Int) - ((i + 1 : Nat) : Int) by omega]; rfl
    · intro a ha
      rcases List.mem_append.1 ha with g | g
      · exact hxm a g
      · obtain rfl := List.mem_singleton.1 g; omega
  · obtain rfl : T = i := by omega
    repeat' (first
 | refine A_go rfl ?_ | refine A_ifT rfl rfl ?_ | refine A_ifF rfl rfl ?_
 | refine A_add rfl rfl rfl (by omega) ?_ | refine A_sub rfl rfl rfl (by omega) ?_ | refine A_mul rfl rfl rfl (by omega) ?_
 | ((first | refine A_gt rfl rfl rfl ?_ ?_) <;> intro hc <;> try first | contradiction | (exfalso; omega) | exact absurd rfl hc)
 | refine A_fld rfl rfl ?_ | refine A_mk3 rfl rfl rfl rfl ?_ | refine A_mk23 rfl rfl rfl ?_ | refine A_mk2 rfl rfl rfl ?_ | refine A_mk13 rfl rfl ?_ | refine A_p (by rfl) rfl ?_
 | refine A_ldI rfl (by first | omega | (simp; done) | (simp; omega)) rfl ?_ | refine A_ldB rfl (by first | omega | (simp; done) | (simp; omega)) rfl ?_ | refine A_ld rfl (by rfl) rfl ?_
 | refine A_ldW rfl (by simp) rfl ?_
 | refine A_st rfl rfl rfl ?_ | refine A_stE rfl rfl (by first | omega | (simp; done) | (simp; omega)) rfl ?_
 | refine A_stW rfl rfl (by simp) rfl ?_
 | ((first | refine A_alloc rfl ?_ | refine A_bld1 rfl rfl ?_ | refine A_bld2 rfl rfl rfl ?_ | refine A_bld4 rfl rfl rfl rfl rfl ?_) <;> intro pz hpz)
 | refine A_bld0 rfl ?_
 | (refine A_app rfl rfl rfl (by first | omega | (simp; done) | (simp; omega)) (by first | omega | (simp; done) | (simp; omega)) (by omega) ?_; intro pz) | (refine A_appN (enc := ic) rfl (by decide) rfl rfl (by first | omega | (simp; done) | (simp; omega)) (by omega) ?_; intro pz)
 | refine A_chk1 rfl rfl rfl ?_ | refine A_chk2 rfl rfl rfl rfl ?_ | refine A_chk3 rfl rfl rfl rfl rfl ?_ | refine A_chk4 rfl rfl rfl rfl rfl rfl ?_ | refine A_chkI rfl (by assumption) rfl (by simp) ?_
 | refine A_ret1 rfl (by exact (RP.c rfl inferInstance rfl (by simp) RP.nil)) ?_)
    exact R_n [q, p] ⟨q, xs, _, _, rfl, hxl, hxm, rfl⟩
theorem c_R8Ring {s : St} [Wf s] {id off len n : Nat} {S : Int} {ys : List Int} [hy : ArgE ub s id off ys] (hl : ys.length = len) (hr : ∀ n ∈ ys, 0 ≤ n ∧ n ≤ 255) (hlen : len ≤ 1000000000000 := by omega) (hS : 2 ≤ S ∧ S ≤ 3 := by omega) (hn : 1 ≤ n ∧ n ≤ 64 := by omega) :
    Fn [] 46 [.c (.sl id off len), iv S, iv n] s fun V N => ∃ q xs, V = .c (.sl q 0 n) ∧ RG S xs ∧ xs.length = n ∧ N = [(q, ints xs)] := by
  refine F_start code46 ?_
  repeat' (first
 | refine A_go rfl ?_ | refine A_ifT rfl rfl ?_ | refine A_ifF rfl rfl ?_
 | (refine A_callM rfl rfl (fun s H => c_l00From) ?_; rintro _ _ ⟨pz, rfl, hpz, rfl⟩) | (refine A_callM0 rfl rfl (fun s H => c_l00From) ?_; rintro _ _ ⟨pz, rfl, hpz, rfl⟩)
 | (refine A_callM rfl rfl (fun s H => c_drawCells (hl := hl) (hr := hr) (hne := H.neB hy.lt) (hat := by omega) (hlen := hlen) (hS := hS) (hn := hn.2)) ?_; rintro _ _ ⟨pz, xs, at', sd, rfl, hxl, hxm, rfl⟩) | (refine A_callM0 rfl rfl (fun s H => c_drawCells (hl := hl) (hr := hr) (hne := H.neB hy.lt) (hat := by omega) (hlen := hlen) (hS := hS) (hn := hn.2)) ?_; rintro _ _ ⟨pz, xs, at', sd, rfl, hxl, hxm, rfl⟩)
 | refine A_p (by rfl) rfl ?_
 | refine A_ret1 rfl (by exact (RP.t rfl RP.nil)) ?_)
  rename_i hpz
  exact R_s ⟨pz, xs, rfl, ⟨by omega, fun x hx => by have := hxm x hx; omega⟩, hxl, rfl⟩
theorem c_R8Rule {s : St} [Wf s] {id off len : Nat} {S re : Int} {ys : List Int} [hy : ArgE ub s id off ys] (hl : ys.length = len) (hr : ∀ n ∈ ys, 0 ≤ n ∧ n ≤ 255) (hlen : len ≤ 1000000000000 := by omega) (hS : 2 ≤ S ∧ S ≤ 3 := by omega) (hre : 0 ≤ re ∧ re ≤ 1 := by omega) :
    Fn [] 45 [.c (.sl id off len), iv S, iv re] s fun V N => ∃ q xs, V = .agg [ic S, ic re, .sl q 0 xs.length] ∧ VR S re xs ∧ xs.length ≤ 27 ∧ N = [(q, ints xs)] := by
  have hT := powT hS hre
  refine F_start code45 ?_
  repeat' (first
 | refine A_go rfl ?_ | refine A_ifT rfl rfl ?_ | refine A_ifF rfl rfl ?_
 | (refine A_callM rfl rfl (fun s H => c_l00From) ?_; rintro _ _ ⟨pz, rfl, hpz, rfl⟩) | (refine A_callM0 rfl rfl (fun s H => c_l00From) ?_; rintro _ _ ⟨pz, rfl, hpz, rfl⟩)
 | (refine A_callM rfl rfl (fun s H => c_drawSides (hl := hl) (hr := hr) (hne := H.neB hy.lt) (hat := by omega) (hlen := hlen) (hS := hS) (hre := hre)) ?_; rintro _ _ ⟨pz, xs, at', sd, rfl, hxl, hxm, rfl⟩) | (refine A_callM0 rfl rfl (fun s H => c_drawSides (hl := hl) (hr := hr) (hne := H.neB hy.lt) (hat := by omega) (hlen := hlen) (hS := hS) (hre := hre)) ?_; rintro _ _ ⟨pz, xs, at', sd, rfl, hxl, hxm, rfl⟩)
 | refine A_p (by rfl) rfl ?_
 | refine A_stW rfl rfl (by simp) rfl ?_
 | ((first | refine A_alloc rfl ?_) <;> intro pz hpz)
 | refine A_ret1 rfl (by exact (RP.c rfl inferInstance rfl (by simp) RP.nil)) ?_)
  rw [← hxl]
  exact R_s ⟨pz, xs, rfl, ⟨hS, by omega, hxl, fun x hx => by have := hxm x hx; omega⟩, by omega, rfl⟩
theorem c_r8Same {s : St} [Wf s] {id_xs off_xs len_xs : Nat} {xs : List Int} [h_xs : ArgE ic s id_xs off_xs xs] (hl_xs : xs.length = len_xs := by first | rfl | simp | omega | (simp; omega)) {id_ys off_ys len_ys : Nat} {ys : List Int} [h_ys : ArgE ic s id_ys off_ys ys] (hl_ys : ys.length = len_ys := by first | rfl | simp | omega | (simp; omega)) (hb : len_xs ≤ 2000000 := by omega) : FnB 48 [.c (.sl id_xs off_xs len_xs), .c (.sl id_ys off_ys len_ys)] s (xs = ys) := by
  refine F_start code48 ?_
  repeat' (first
 | refine A_go rfl ?_ | refine A_ifT rfl rfl ?_ | refine A_ifF rfl rfl ?_
 | refine A_add rfl rfl rfl (by omega) ?_
 | ((first | refine A_lt rfl rfl rfl ?_ ?_ | refine A_ne rfl rfl rfl ?_ ?_) <;> intro hc <;> try first | contradiction | (exfalso; omega) | exact absurd rfl hc)
 | refine A_idxN1 rfl rfl rfl (by omega) ?_ | refine A_idx1 rfl rfl rfl (by omega) ?_
 | refine A_p (by rfl) rfl ?_
 | refine A_ldI rfl (by first | omega | (simp; done) | (simp; omega)) rfl ?_ | refine A_ldB rfl (by first | omega | (simp; done) | (simp; omega)) rfl ?_ | refine A_ld rfl (by rfl) rfl ?_
 | refine A_ret1 rfl (by exact (RP.t rfl RP.nil)) ?_)
  · exact R_f (fun e => by subst e; omega)
  refine A_loop rfl [] (fun m fr L => ∃ i, i ≤ len_xs ∧ m = len_xs - i ∧ fr = [(0, .c (.sl id_xs off_xs len_xs)), (1, .c (.sl id_ys off_ys len_ys)), (5, iv i)] ∧ L = [] ∧ xs.take i = ys.take i) len_xs ⟨0, by omega, rfl, rfl, rfl, by simp⟩ ?_
  rintro m fr L ⟨i, hi, rfl, rfl, rfl, ht⟩
  repeat' (first
 | refine A_go rfl ?_ | refine A_ifT rfl rfl ?_ | refine A_ifF rfl rfl ?_
 | refine A_add rfl rfl rfl (by omega) ?_
 | ((first | refine A_lt rfl rfl rfl ?_ ?_ | refine A_ne rfl rfl rfl ?_ ?_) <;> intro hc <;> try first | contradiction | (exfalso; omega) | exact absurd rfl hc)
 | refine A_idxN1 rfl rfl rfl (by omega) ?_ | refine A_idx1 rfl rfl rfl (by omega) ?_
 | refine A_p (by rfl) rfl ?_
 | refine A_ldI rfl (by first | omega | (simp; done) | (simp; omega)) rfl ?_ | refine A_ldB rfl (by first | omega | (simp; done) | (simp; omega)) rfl ?_ | refine A_ld rfl (by rfl) rfl ?_
 | refine A_ret1 rfl (by exact (RP.t rfl RP.nil)) ?_)
  · exact R_f (fun e => by subst e; omega)
  · refine A_round rfl [] (len_xs - (i + 1)) (by omega) ?_
    exact ⟨i + 1, by omega, rfl, rfl, rfl, ext_take ht (by omega) (by omega) (by assumption)⟩
  · exact R_t (take_end ht (by omega) (by omega))
theorem A_minmax {B : List Nat} {b : St} {L : Objs} {l : List AStep} {hist : List Objs} {fr : Frm} {kk : KK} {d : Nat} {chk : List Nat} {g : Option (Nat × Bool)} {t : Bool} {x y : Opd} {a c m : Int} (hx : ev fr x = some (iv a)) (hy : ev fr y = some (iv c)) (hg : gon fr g = some true) (hm : (if t then (if c > a then c else a) else (if c < a then c else a)) = m)
    (h : At B b L l hist ((d, iv m) :: fr) kk) : At B b L (⟨some d, .minmax t x y, g, chk⟩ :: l) hist fr kk := by
  refine A_p ?_ hg h
  simp only [evP, hx, hy, Option.bind_some, minmaxV]
  rw [hm]
theorem runR_add {st re : Int} {xs ys : List Int} {a : Nat} : ∀ b, runR st re xs (runR st re xs ys a) b = runR st re xs ys (a + b)
  | 0 => rfl
  | b + 1 => by rw [runR, runR_add b]; rfl
theorem c_r8Run0 {s : St} [Wf s] {st re : Int} {id_xs off_xs len_xs : Nat} {xs : List Int} [h_xs : ArgE ic s id_xs off_xs xs] (hl_xs : xs.length = len_xs := by first | rfl | simp | omega | (simp; omega)) {id_ys off_ys len_ys : Nat} {ys : List Int} [h_ys : ArgE ic s id_ys off_ys ys] (hl_ys : ys.length = len_ys := by first | rfl | simp | omega | (simp; omega)) : FnV 53 [.agg [ic st, ic re, .sl id_xs off_xs len_xs], .c (.sl id_ys off_ys len_ys), iv 0] s (.tup [.c (.sl id_ys off_ys len_ys), .c (.bool true)]) := by
  refine F_start code53 ?_
  repeat' (first
 | refine A_go rfl ?_ | refine A_ifT rfl rfl ?_ | refine A_ifF rfl rfl ?_
 | refine A_sub rfl rfl rfl (by omega) ?_
 | ((first | refine A_gt rfl rfl rfl ?_ ?_) <;> intro hc <;> try first | contradiction | (exfalso; omega) | exact absurd rfl hc)
 | refine A_p (by rfl) rfl ?_
 | refine A_ldW rfl (by simp) rfl ?_
 | ((first | refine A_box rfl rfl ?_ | refine A_boxC rfl rfl ?_) <;> intro pz hpz)
 | refine A_ret rfl (by exact (RP.t rfl (RP.t rfl RP.nil))) ?_)
  refine A_unroll rfl ?_
  repeat' (first
 | refine A_go rfl ?_ | refine A_ifT rfl rfl ?_ | refine A_ifF rfl rfl ?_
 | refine A_sub rfl rfl rfl (by omega) ?_
 | ((first | refine A_gt rfl rfl rfl ?_ ?_) <;> intro hc <;> try first | contradiction | (exfalso; omega) | exact absurd rfl hc)
 | refine A_p (by rfl) rfl ?_
 | refine A_ldW rfl (by simp) rfl ?_
 | ((first | refine A_box rfl rfl ?_ | refine A_boxC rfl rfl ?_) <;> intro pz hpz)
 | refine A_ret rfl (by exact (RP.t rfl (RP.t rfl RP.nil))) ?_)
  exact R_v rfl
theorem c_r8Run1 {s : St} [Wf s] {st re : Int} {n : Nat} {id_xs off_xs len_xs : Nat} {xs : List Int} [h_xs : ArgE ic s id_xs off_xs xs] (hl_xs : xs.length = len_xs := by first | rfl | simp | omega | (simp; omega)) {id_ys off_ys len_ys : Nat} {ys : List Int} [h_ys : ArgE ic s id_ys off_ys ys] (hl_ys : ys.length = len_ys := by first | rfl | simp | omega | (simp; omega)) (hv : VR st re xs := by assumption) (hr : RG st ys := by assumption) (hn : 1 ≤ n ∧ n ≤ 4096 := by omega) (hb : len_xs ≤ 2000000 ∧ len_ys ≤ 2000000 := by omega) :
    Fn [] 53 [.agg [ic st, ic re, .sl id_xs off_xs len_xs], .c (.sl id_ys off_ys len_ys), iv n] s fun V N => ∃ p, V = .tup [.c (.sl p 0 ys.length), .c (.bool true)] ∧ N = [(p, ints (runR st re xs ys n))] := by
  refine F_start code53 ?_
  repeat' (first
 | refine A_go rfl ?_ | refine A_ifT rfl rfl ?_ | refine A_ifF rfl rfl ?_
 | refine A_sub rfl rfl rfl (by omega) ?_
 | ((first | refine A_gt rfl rfl rfl ?_ ?_) <;> intro hc <;> try first | contradiction | (exfalso; omega) | exact absurd rfl hc)
 | refine A_p (by rfl) rfl ?_
 | refine A_ldW rfl (by simp) rfl ?_
 | ((first | refine A_box rfl rfl ?_ | refine A_boxC rfl rfl ?_) <;> intro pz hpz)
 | refine A_ret rfl (by exact (RP.t rfl (RP.t rfl RP.nil))) ?_)
  obtain ⟨q, hEq⟩ : ∃ p, p = pz := ⟨_, rfl⟩; subst hEq
  refine A_unroll rfl ?_
  obtain ⟨a, ha⟩ : ∃ a : Nat, (if (1000 : Int) < n then (1000 : Int) else n) = a := ⟨if 1000 < n then 1000 else n, by split <;> split <;> omega⟩
  have ha2 : 1 ≤ a ∧ a ≤ 1000 ∧ a ≤ n := by split at ha <;> omega
  repeat' (first
 | refine A_go rfl ?_ | refine A_ifT rfl rfl ?_ | refine A_ifF rfl rfl ?_
 | refine A_sub rfl rfl rfl (by omega) ?_
 | ((first | refine A_gt rfl rfl rfl ?_ ?_) <;> intro hc <;> try first | contradiction | (exfalso; omega) | exact absurd rfl hc)
 | refine A_minmax rfl rfl rfl ha ?_
 | (refine A_callM rfl rfl (fun s H => c_runOk (n := a) (ys := ys)) ?_; rintro _ _ ⟨pz, rfl, rfl⟩) | (refine A_callM0 rfl rfl (fun s H => c_runOk (n := a) (ys := ys)) ?_; rintro _ _ ⟨pz, rfl, rfl⟩)
 | refine A_p (by rfl) rfl ?_
 | refine A_ldW rfl (by simp) rfl ?_
 | ((first | refine A_box rfl rfl ?_ | refine A_boxC rfl rfl ?_) <;> intro pz hpz)
 | refine A_ret rfl (by exact (RP.t rfl (RP.t rfl RP.nil))) ?_)
  obtain ⟨p1, hEq⟩ : ∃ p, p = pz := ⟨_, rfl⟩; subst hEq
  refine A_loop rfl [q, p1] (fun m fr L => ∃ (k p : Nat), m = n - k ∧ fr = [(2, iv ((n : Int) - k)), (3, .c (.ptr q 0)), (8, .c (.sl p 0 ys.length))] ∧ L = [(q, .rw 30 3 [ic st, ic re, .sl id_xs off_xs len_xs]), (p, ints (runR st re xs ys k))] ∧ 1 ≤ k ∧ k ≤ n) (n - a) ⟨a, p1, rfl, rfl, rfl, by omega, by omega⟩ ?_
  rintro m fr L ⟨k, p, rfl, rfl, rfl, hk1, hk⟩
  have hrk := runR_rg hv hr k
  have hlk := runR_len (st := st) (re := re) (xs := xs) (ys := ys) k
  by_cases hk' : k < n
  · obtain ⟨c, hcm⟩ : ∃ c : Nat, (if (1000 : Int) < (n : Int) - k then (1000 : Int) else (n : Int) - k) = c := ⟨if 1000 < n - k then 1000 else n - k, by split <;> split <;> omega⟩
    have hc2 : 1 ≤ c ∧ c ≤ 1000 ∧ c ≤ n - k := by split at hcm <;> omega
    repeat' (first
 | refine A_go rfl ?_ | refine A_ifT rfl rfl ?_ | refine A_ifF rfl rfl ?_
 | refine A_sub rfl rfl rfl (by omega) ?_
 | ((first | refine A_gt rfl rfl rfl ?_ ?_) <;> intro hc <;> try first | contradiction | (exfalso; omega) | exact absurd rfl hc)
 | refine A_minmax rfl rfl rfl hcm ?_
 | (refine A_callM rfl rfl (fun s H => c_runOk (n := c) (ys := runR st re xs ys k)) ?_; rintro _ _ ⟨pz, rfl, rfl⟩) | (refine A_callM0 rfl rfl (fun s H => c_runOk (n := c) (ys := runR st re xs ys k)) ?_; rintro _ _ ⟨pz, rfl, rfl⟩)
 | refine A_p (by rfl) rfl ?_
 | refine A_ldW rfl (by simp) rfl ?_
 | ((first | refine A_box rfl rfl ?_ | refine A_boxC rfl rfl ?_) <;> intro pz hpz)
 | refine A_ret rfl (by exact (RP.t rfl (RP.t rfl RP.nil))) ?_)
    rw [runR_add, hlk]
    refine A_round rfl [q, pz] (n - (k + c)) (by omega) ?_
    refine ⟨k + c, pz, rfl, ?_, rfl, by omega, by omega⟩
    rw [show (n : Int) - k - c = (n : Int) - ((k + c : Nat) : Int) by omega]; rfl
  · obtain rfl : n = k := by omega
    repeat' (first
 | refine A_go rfl ?_ | refine A_ifT rfl rfl ?_ | refine A_ifF rfl rfl ?_
 | refine A_sub rfl rfl rfl (by omega) ?_
 | ((first | refine A_gt rfl rfl rfl ?_ ?_) <;> intro hc <;> try first | contradiction | (exfalso; omega) | exact absurd rfl hc)
 | refine A_p (by rfl) rfl ?_
 | refine A_ldW rfl (by simp) rfl ?_
 | ((first | refine A_box rfl rfl ?_ | refine A_boxC rfl rfl ?_) <;> intro pz hpz)
 | refine A_ret rfl (by exact (RP.t rfl (RP.t rfl RP.nil))) ?_)
    exact R_s ⟨p, rfl, rfl⟩

end Go.Proofs.Ytafdjnhlhepibaa
