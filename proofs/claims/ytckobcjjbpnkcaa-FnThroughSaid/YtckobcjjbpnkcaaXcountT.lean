/- How many fields lead through. -/
import Derived.Test.YtckobcjjbpnkcaaXthrough
import Derived.Test.YtckobcjjbpnkcaaXcount
import Derived.Test.YtckobcjjbpnkcaaXdigits
import Derived.Test.YtckobcjjbpnkcaaXbitsum
import Derived.Test.YtckobcjjbpnkcaaXbits
import Derived.Test.YtckobcjjbpnkcaaFB
namespace Go.Proofs.Ytckobcjjbpnkcaa
open Go Go.RowKit
set_option linter.unusedVariables false
set_option linter.unusedSimpArgs false
set_option maxRecDepth 100000
set_option maxHeartbeats 8000000
-- impl.plainFields
def L52 : AFun := ⟨25, [],
 (.seq (.ops false [⟨(some 8), .mv (.t 0), none, []⟩,
   ⟨(some 9), .mv (.t 1), none, []⟩,
   ⟨(some 10), .bin .mul (.t 8) (.t 9), none, []⟩,
   ⟨(some 6), .mv (.t 10), none, []⟩])
 (.seq (.ops false [⟨(some 11), .mv (.t 6), none, []⟩,
   ⟨(some 12), .bin .shl (.k (iv 1)) (.t 11), none, []⟩,
   ⟨(some 13), .mv (.k (iv 0)), none, []⟩])
 (.block 0 (.loop [0, 1, 2, 6, 12, 13] (.seq (.ops false [⟨(some 14), .bin .lss (.t 13) (.t 12), none, []⟩])
   (.seq (.cond (.t 14) .skip
     (.exit 0))
   (.seq (.block 1 (.seq (.ops false [⟨(some 15), .mv (.t 13), none, []⟩,
       ⟨(some 7), .mv (.t 15), none, []⟩])
     (.ops false [⟨(some 16), .mv (.t 2), none, []⟩,
      ⟨(some 17), .mv (.t 0), none, []⟩,
      ⟨(some 18), .mv (.t 1), none, []⟩,
      ⟨(some 19), .mv (.t 7), none, []⟩,
      ⟨(some 20), .mv (.t 6), none, []⟩,
      ⟨(some 21), .call (.f 79) [(.t 19), (.k (iv 2)), (.t 20)], none, []⟩,
      ⟨(some 22), .build [.int .i64 0, .int .i64 0, .sl 0 0 0] [(0, 1, (.t 17)), (1, 1, (.t 18)), (2, 1, (.t 21))], none, []⟩,
      ⟨(some 23), .call (.t 16) [(.t 22)], none, []⟩])))
   (.ops false [⟨(some 24), .bin .add (.t 13) (.k (iv 1)), none, []⟩,
    ⟨(some 13), .mv (.t 24), none, []⟩]))))))))⟩
theorem code52 : acode Try.prog hints 52 = some L52 := by kernel_rfl

-- impl.CountThrough$1
def L53 : AFun := ⟨12, [],
 (.seq (.ops false [⟨(some 2), .box 25 (.t 0), none, []⟩])
 (.seq (.ops false [⟨(some 3), .load true 3 (.t 2), none, []⟩,
   ⟨(some 4), .call (.f 54) [(.t 3)], none, []⟩])
 (.cond (.t 4) (.ops true [⟨(some 6), .load true 3 (.t 2), none, []⟩,
   ⟨(some 7), .call (.f 55) [(.t 6), (.k (iv 1))], none, []⟩,
   ⟨(some 5), .load false 1 (.t 1), none, [0]⟩,
   ⟨(some 8), .idxA 1 (.t 5) (.t 7), none, []⟩,
   ⟨(some 9), .load false 1 (.t 8), none, []⟩,
   ⟨(some 10), .bin .add (.t 9) (.k (iv 1)), none, []⟩,
   ⟨(some 11), .idxA 1 (.t 5) (.t 7), none, []⟩,
   ⟨none, .store 1 (.t 11) (.t 10), none, []⟩])
  .skip)))⟩
theorem code53 : acode Try.prog hints 53 = some L53 := by kernel_rfl

-- impl.areSmall
def L51 : AFun := ⟨17, [.t 4],
 (.seq (.ops false [⟨(some 4), .mv (.k (bv false)), none, []⟩])
 (.seq (.ops false [⟨(some 5), .mv (.t 0), none, []⟩,
   ⟨(some 6), .call (.f 41) [(.t 5)], none, []⟩,
   ⟨(some 7), .mv (.t 6), none, []⟩,
   ⟨(some 8), .mv (.t 1), (some (7, true)), []⟩,
   ⟨(some 9), .call (.f 41) [(.t 8)], (some (7, true)), []⟩,
   ⟨(some 10), .pick (.t 7) (.t 9) (.k (bv false)), none, []⟩,
   ⟨(some 11), .mv (.t 10), none, []⟩,
   ⟨(some 12), .mv (.t 0), (some (11, true)), []⟩,
   ⟨(some 13), .mv (.t 1), (some (11, true)), []⟩,
   ⟨(some 14), .bin .mul (.t 12) (.t 13), (some (11, true)), []⟩,
   ⟨(some 15), .bin .leq (.t 14) (.k (iv 12)), (some (11, true)), []⟩,
   ⟨(some 16), .pick (.t 11) (.t 15) (.k (bv false)), none, []⟩,
   ⟨(some 4), .mv (.t 16), none, []⟩])
 .ret))⟩
theorem code51 : acode Try.prog hints 51 = some L51 := by kernel_rfl

-- impl.CountThrough
def L14 : AFun := ⟨21, [.t 4, .t 5],
 (.seq (.ops false [⟨(some 4), .mv (.k (.c (.sl 0 0 0))), none, []⟩,
   ⟨(some 5), .mv (.k (bv false)), none, []⟩])
 (.seq (.seq (.ops false [⟨(some 7), .mv (.t 0), none, []⟩,
    ⟨(some 8), .mv (.t 1), none, []⟩,
    ⟨(some 9), .call (.f 51) [(.t 7), (.t 8)], none, []⟩,
    ⟨(some 10), .un .not (.t 9), none, []⟩])
  (.cond (.t 10) (.seq (.ops false [⟨(some 4), .mv (.k (.c (.sl 0 0 0))), none, []⟩,
     ⟨(some 5), .mv (.k (bv false)), none, []⟩])
   .ret)
   .skip))
 (.seq (.ops false [⟨(some 11), .mv (.t 0), none, []⟩,
   ⟨(some 12), .mv (.t 1), none, []⟩,
   ⟨(some 13), .bin .mul (.t 11) (.t 12), none, []⟩,
   ⟨(some 14), .bin .add (.t 13) (.k (iv 1)), none, []⟩,
   ⟨(some 15), .makeS 2 1 8 [.int .i64 0] (.t 14) (.t 14), none, []⟩,
   ⟨(some 6), .alloc 23 [.sl 0 0 0], none, []⟩,
   ⟨none, .store 1 (.t 6) (.t 15), none, []⟩])
 (.seq (.ops false [⟨(some 16), .mv (.t 0), none, []⟩,
   ⟨(some 17), .mv (.t 1), none, []⟩,
   ⟨(some 18), .mkFn 53 [(.t 6)], none, []⟩,
   ⟨(some 19), .call (.f 52) [(.t 16), (.t 17), (.t 18)], none, []⟩])
 (.seq (.ops false [⟨(some 20), .load false 1 (.t 6), none, []⟩,
   ⟨(some 4), .mv (.t 20), none, []⟩,
   ⟨(some 5), .mv (.k (bv true)), none, []⟩])
 .ret)))))⟩
theorem code14 : acode Try.prog hints 14 = some L14 := by kernel_rfl

-- spec.CountThrough
def L13 : AFun := ⟨63, [.t 4, .t 5],
 (.seq (.ops false [⟨(some 4), .mv (.k (.c (.sl 0 0 0))), none, []⟩,
   ⟨(some 5), .mv (.k (bv false)), none, []⟩])
 (.seq (.seq (.ops false [⟨(some 12), .mv (.t 0), none, []⟩,
    ⟨(some 13), .mv (.t 1), none, []⟩,
    ⟨(some 14), .call (.f 37) [(.t 12), (.t 13)], none, []⟩,
    ⟨(some 15), .un .not (.t 14), none, []⟩,
    ⟨(some 16), .mv (.t 15), none, []⟩,
    ⟨(some 17), .mv (.t 0), (some (16, false)), []⟩,
    ⟨(some 18), .mv (.t 1), (some (16, false)), []⟩,
    ⟨(some 19), .bin .mul (.t 17) (.t 18), (some (16, false)), []⟩,
    ⟨(some 20), .bin .gtr (.t 19) (.k (iv 12)), (some (16, false)), []⟩,
    ⟨(some 21), .pick (.t 16) (.k (bv true)) (.t 20), none, []⟩])
  (.cond (.t 21) (.seq (.ops false [⟨(some 4), .mv (.k (.c (.sl 0 0 0))), none, []⟩,
     ⟨(some 5), .mv (.k (bv false)), none, []⟩])
   .ret)
   .skip))
 (.seq (.ops false [⟨(some 22), .mv (.t 0), none, []⟩,
   ⟨(some 23), .mv (.t 1), none, []⟩,
   ⟨(some 24), .bin .mul (.t 22) (.t 23), none, []⟩,
   ⟨(some 6), .mv (.t 24), none, []⟩])
 (.seq (.ops false [⟨(some 25), .mv (.t 6), none, []⟩,
   ⟨(some 26), .bin .add (.t 25) (.k (iv 1)), none, []⟩,
   ⟨(some 27), .makeS 2 1 8 [.int .i64 0] (.t 26) (.t 26), none, []⟩,
   ⟨(some 7), .mv (.t 27), none, []⟩])
 (.seq (.ops false [⟨(some 28), .mv (.t 0), none, []⟩,
   ⟨(some 29), .mv (.t 1), none, []⟩,
   ⟨(some 30), .call (.f 40) [(.t 28), (.t 29)], none, []⟩,
   ⟨(some 8), .alloc 25 [.int .i64 0, .int .i64 0, .sl 0 0 0], none, []⟩,
   ⟨none, .store 3 (.t 8) (.t 30), none, []⟩])
 (.seq (.seq (.ops false [⟨(some 9), .mv (.k (iv 0)), none, []⟩])
  (.block 0 (.loop [6, 7, 8, 9] (.seq (.seq (.ops false [⟨(some 31), .mv (.t 9), none, []⟩,
       ⟨(some 32), .mv (.t 6), none, []⟩,
       ⟨(some 33), .conv .u64 (.t 32), none, []⟩,
       ⟨(some 34), .bin .shl (.k (iv 1)) (.t 33), none, []⟩,
       ⟨(some 35), .bin .lss (.t 31) (.t 34), none, []⟩])
     (.cond (.t 35) .skip
      (.exit 0)))
    (.seq (.block 1 (.seq (.seq (.ops false [⟨(some 10), .mv (.k (iv 0)), none, []⟩])
       (.block 2 (.loop [6, 7, 8, 9, 10] (.seq (.seq (.ops false [⟨(some 38), .mv (.t 10), none, []⟩,
            ⟨(some 39), .mv (.t 6), none, []⟩,
            ⟨(some 40), .bin .lss (.t 38) (.t 39), none, []⟩])
          (.cond (.t 40) .skip
           (.exit 2)))
         (.seq (.block 3 (.ops false [⟨(some 43), .fieldA 2 (.t 8), none, []⟩,
            ⟨(some 44), .load false 1 (.t 43), none, []⟩,
            ⟨(some 45), .mv (.t 10), none, []⟩,
            ⟨(some 46), .mv (.t 9), none, []⟩,
            ⟨(some 47), .mv (.t 10), none, []⟩,
            ⟨(some 48), .conv .u64 (.t 47), none, []⟩,
            ⟨(some 49), .bin .shr (.t 46) (.t 48), none, []⟩,
            ⟨(some 50), .bin .and (.t 49) (.k (iv 1)), none, []⟩,
            ⟨(some 51), .idxA 1 (.t 44) (.t 45), none, []⟩,
            ⟨none, .store 1 (.t 51) (.t 50), none, []⟩]))
         (.ops false [⟨(some 41), .mv (.t 10), none, []⟩,
          ⟨(some 42), .bin .add (.t 41) (.k (iv 1)), none, []⟩,
          ⟨(some 10), .mv (.t 42), none, []⟩]))))))
      (.seq (.ops false [⟨(some 52), .call (.f 49) [(.t 8)], none, []⟩])
      (.cond (.t 52) (.seq (.ops false [⟨(some 53), .fieldA 2 (.t 8), none, []⟩,
         ⟨(some 54), .load false 1 (.t 53), none, []⟩,
         ⟨(some 55), .call (.f 50) [(.t 54)], none, []⟩,
         ⟨(some 11), .mv (.t 55), none, []⟩])
       (.ops false [⟨(some 56), .mv (.t 7), none, []⟩,
        ⟨(some 57), .mv (.t 11), none, []⟩,
        ⟨(some 58), .idxA 1 (.t 56) (.t 57), none, []⟩,
        ⟨(some 59), .load false 1 (.t 58), none, []⟩,
        ⟨(some 60), .bin .add (.t 59) (.k (iv 1)), none, []⟩,
        ⟨(some 61), .idxA 1 (.t 56) (.t 57), none, []⟩,
        ⟨none, .store 1 (.t 61) (.t 60), none, []⟩]))
       .skip))))
    (.ops false [⟨(some 36), .mv (.t 9), none, []⟩,
     ⟨(some 37), .bin .add (.t 36) (.k (iv 1)), none, []⟩,
     ⟨(some 9), .mv (.t 37), none, []⟩]))))))
 (.seq (.ops false [⟨(some 62), .mv (.t 7), none, []⟩,
   ⟨(some 4), .mv (.t 62), none, []⟩,
   ⟨(some 5), .mv (.k (bv true)), none, []⟩])
 .ret)))))))⟩
theorem code13 : acode Try.prog hints 13 = some L13 := by kernel_rfl


theorem A_shl1 {B : List Nat} {b : St} {L : Objs} {l : List AStep} {hist : List Objs} {fr : Frm} {kk : KK} {d : Nat} {chk : List Nat} {g : Option (Nat × Bool)} {y : Opd} {n : Nat} {q : IntKind} (hy : ev fr y = some (.c (.int q (n : Int)))) (hg : gon fr g = some true) (hn : n ≤ 12)
    (h : At B b L l hist ((d, iv ((2 ^ n : Nat) : Int)) :: fr) kk) : At B b L (⟨some d, .bin .shl (.k (iv 1)) y, g, chk⟩ :: l) hist fr kk := by
  refine A_p ?_ hg h
  have hx : ev fr (.k (iv 1)) = some (iv 1) := rfl
  simp only [evP, hx, hy, Option.bind_some, binV, intBin]
  rw [if_neg (by omega)]
  obtain rfl | rfl | rfl | rfl | rfl | rfl | rfl | rfl | rfl | rfl | rfl | rfl | rfl : n = 0 ∨ n = 1 ∨ n = 2 ∨ n = 3 ∨ n = 4 ∨ n = 5 ∨ n = 6 ∨ n = 7 ∨ n = 8 ∨ n = 9 ∨ n = 10 ∨ n = 11 ∨ n = 12 := by omega
  all_goals rfl
theorem A_shl1M {B : List Nat} {b : St} {L : Objs} {l : List AStep} {hist : List Objs} {fr : Frm} {kk : KK} {d : Nat} {chk : List Nat} {g : Option (Nat × Bool)} {y : Opd} {n M : Nat} {q : IntKind} (hM : 2 ^ n = M) (hy : ev fr y = some (.c (.int q (n : Int)))) (hg : gon fr g = some true) (hn : n ≤ 12)
    (h : At B b L l hist ((d, iv (M : Int)) :: fr) kk) : At B b L (⟨some d, .bin .shl (.k (iv 1)) y, g, chk⟩ :: l) hist fr kk := by
  subst hM; exact A_shl1 hy hg hn h
theorem A_shrN {B : List Nat} {b : St} {L : Objs} {l : List AStep} {hist : List Objs} {fr : Frm} {kk : KK} {d : Nat} {chk : List Nat} {g : Option (Nat × Bool)} {x y : Opd} {a n : Nat} {q : IntKind} (hx : ev fr x = some (iv (a : Int))) (hy : ev fr y = some (.c (.int q (n : Int)))) (hg : gon fr g = some true) (hn : n ≤ 60)
    (h : At B b L l hist ((d, iv ((a / 2 ^ n : Nat) : Int)) :: fr) kk) : At B b L (⟨some d, .bin .shr x y, g, chk⟩ :: l) hist fr kk := by
  refine A_p ?_ hg h
  simp only [evP, hx, hy, Option.bind_some, binV, intBin]
  rw [if_neg (by omega)]
  have e : min (n : Int).toNat (IntKind.bits .i64) = n := by
    have : IntKind.bits .i64 = 64 := rfl
    rw [this]; omega
  rw [e, Int.fdiv_eq_ediv_of_nonneg _ (by have : (0:Int) < 2 ^ n := Int.pow_pos (by decide); omega)]
  push_cast; rfl
theorem A_andN1 {B : List Nat} {b : St} {L : Objs} {l : List AStep} {hist : List Objs} {fr : Frm} {kk : KK} {d : Nat} {chk : List Nat} {g : Option (Nat × Bool)} {x : Opd} {a : Nat} (hx : ev fr x = some (iv (a : Int))) (hg : gon fr g = some true)
    (h : At B b L l hist ((d, iv ((a % 2 : Nat) : Int)) :: fr) kk) : At B b L (⟨some d, .bin .and x (.k (iv 1)), g, chk⟩ :: l) hist fr kk := by
  have hy : ev fr (.k (iv 1)) = some (iv 1) := rfl
  refine A_p (v := iv (IntKind.wrap .i64 ((BitVec.ofInt 64 (a : Int) &&& BitVec.ofInt 64 1).toNat : Int))) (by simp only [evP, hx, hy, Option.bind_some, binV, intBin, if_true]; rfl) hg ?_
  have e1 : (BitVec.ofInt 64 (a : Int) &&& BitVec.ofInt 64 1).toNat = a % 2 := by
    rw [BitVec.toNat_and]
    have h1 : (BitVec.ofInt 64 1).toNat = 1 := by decide
    have h2 : (BitVec.ofInt 64 (a : Int)).toNat = a % 2 ^ 64 := by
      rw [BitVec.toNat_ofInt]; omega
    rw [h1, h2, Nat.and_one_is_mod]; omega
  rw [e1, wrap_in (by unfold in64; omega)]
  exact h
abbrev SmlP (r c : Int) : Prop := ((1 ≤ r ∧ r ≤ 24) ∧ 1 ≤ c ∧ c ≤ 24) ∧ r * c ≤ 12
theorem c_areSmall {s : St} [Wf s] {r c : Int} : FnB 51 [iv r, iv c] s (SmlP r c) := by
  refine F_start code51 ?_
  by_cases h : (1 ≤ r ∧ r ≤ 24) ∧ 1 ≤ c ∧ c ≤ 24
  · have := side_mul (r := r) (c := c) (by omega) (by omega)
    have h1 := h.1
    have h2 := h.2
    repeat' (first
 | refine A_go rfl ?_ | refine A_ifT rfl rfl ?_ | refine A_ifF rfl rfl ?_
 | refine A_offP rfl rfl ?_ | refine A_offH rfl rfl ?_ | refine A_off0 rfl rfl ?_
 | refine A_mul rfl rfl rfl (by omega) ?_
 | ((first | refine A_le rfl rfl rfl ?_ ?_) <;> intro hc <;> try first | contradiction | (exfalso; omega) | exact absurd rfl hc)
 | (refine A_callB rfl rfl (fun s H => c_isSide) ?_ ?_ <;> intro hc <;> try first | contradiction | (exfalso; omega) | exact absurd rfl hc | exact absurd (And.intro rfl rfl) hc | exact absurd (And.intro rfl (And.intro rfl rfl)) hc | exact absurd (Eq.trans (by assumption) (Eq.symm (by assumption))) hc)
 | refine A_p (by rfl) rfl ?_
 | refine A_ret1 rfl (by exact (RP.t rfl RP.nil)) ?_)
    · exact R_t ⟨h, by omega⟩
    · exact R_f fun g => by have := g.2; omega
  · repeat' (first
 | refine A_go rfl ?_ | refine A_ifT rfl rfl ?_ | refine A_ifF rfl rfl ?_
 | refine A_offP rfl rfl ?_ | refine A_offH rfl rfl ?_ | refine A_off0 rfl rfl ?_
 | refine A_mul rfl rfl rfl (by omega) ?_
 | ((first | refine A_le rfl rfl rfl ?_ ?_) <;> intro hc <;> try first | contradiction | (exfalso; omega) | exact absurd rfl hc)
 | (refine A_callB rfl rfl (fun s H => c_isSide) ?_ ?_ <;> intro hc <;> try first | contradiction | (exfalso; omega) | exact absurd rfl hc | exact absurd (And.intro rfl rfl) hc | exact absurd (And.intro rfl (And.intro rfl rfl)) hc | exact absurd (Eq.trans (by assumption) (Eq.symm (by assumption))) hc)
 | refine A_p (by rfl) rfl ?_
 | refine A_ret1 rfl (by exact (RP.t rfl RP.nil)) ?_)
    all_goals first | exact R_f fun g => h g.1 | exact absurd ⟨by assumption, by assumption⟩ h
/-- A function is called for all plain fields, in the order of their cells. -/
theorem c_plainFields {s : St} [Wf s] {R C T : Nat} {fn : Nat} {caps : List (Nat × Nat)} {ids : List Nat} {N0 : Objs} (hO : Own ids s s N0) (Enc : Nat → Objs → Prop) (h0 : Enc 0 N0) (hT : T = R * C) (hT2 : T ≤ 12)
    (hb : R ≤ 24 ∧ C ≤ 24)
    (hdo : ∀ i, i < 2 ^ T → ∀ s1 M N, Own ids s s1 (M ++ N) → Enc i N → Own (N.map Prod.fst) s1 s1 N → ∀ p, ArgE ic s1 p 0 (dg 2 i T) → NotIn p (N.map Prod.fst) → Fn (N.map Prod.fst) fn ([.agg [ic R, ic C, .sl p 0 T]] ++ caps.map fun p => AV.c (.ptr p.1 p.2)) s1 fun _ N' => Enc (i + 1) N') :
    Fn ids 52 [iv R, iv C, .c (.fn fn caps)] s fun _ N => Enc (2 ^ T) N := by
  have e : (R : Int) * C = (T : Int) := by rw [hT]; push_cast; rfl
  refine F_startB code52 hO ?_
  have hp : 2 ^ T ≤ 2 ^ 12 := Nat.pow_le_pow_right (by omega) hT2
  have hp2 : (2 : Nat) ^ 12 = 4096 := by decide
  rw [hp2] at hp
  obtain ⟨X, hX⟩ : ∃ X : Nat, 2 ^ T = X := ⟨_, rfl⟩
  rw [hX] at hp hdo ⊢
  repeat' (first
 | refine A_go rfl ?_ | refine A_ifT rfl rfl ?_ | refine A_ifF rfl rfl ?_
 | refine A_add rfl rfl rfl (by omega) ?_ | refine A_mul rfl rfl rfl (by omega) ?_
 | ((first | refine A_lt rfl rfl rfl ?_ ?_) <;> intro hc <;> try first | contradiction | (exfalso; omega) | exact absurd rfl hc)
 | simp only [e]
 | refine A_shl1M hX rfl rfl hT2 ?_
 | refine A_mk3 rfl rfl rfl rfl ?_ | refine A_mk23 rfl rfl rfl ?_ | refine A_mk2 rfl rfl rfl ?_ | refine A_mk13 rfl rfl ?_ | refine A_p (by rfl) rfl ?_
 | refine A_ret0 rfl ?_)
  refine A_loopX rfl (fun m fr L => ∃ (i : Nat) (N : Objs), m = X - i ∧ fr = [(0, iv R), (1, iv C), (2, .c (.fn fn caps)), (6, iv T), (12, iv X), (13, iv i)] ∧ L = N ∧ i ≤ X ∧ Enc i N) (n := X) ⟨N0, ⟨0, N0, rfl, rfl, rfl, by omega, h0⟩, inferInstance⟩ ?_
  rintro m fr N ⟨i, _, rfl, rfl, rfl, hi, hN⟩
  by_cases hi' : i < X
  · repeat' (first
 | refine A_go rfl ?_ | refine A_ifT rfl rfl ?_ | refine A_ifF rfl rfl ?_
 | refine A_add rfl rfl rfl (by omega) ?_ | refine A_mul rfl rfl rfl (by omega) ?_
 | ((first | refine A_lt rfl rfl rfl ?_ ?_) <;> intro hc <;> try first | contradiction | (exfalso; omega) | exact absurd rfl hc)
 | (refine A_callM rfl rfl (fun s H => c_digitsOf (S := 2) (w := T)) ?_; rintro _ _ ⟨pz, rfl, rfl⟩) | (refine A_callM0 rfl rfl (fun s H => c_digitsOf (S := 2) (w := T)) ?_; rintro _ _ ⟨pz, rfl, rfl⟩)
 | refine A_mk3 rfl rfl rfl rfl ?_ | refine A_mk23 rfl rfl rfl ?_ | refine A_mk2 rfl rfl rfl ?_ | refine A_mk13 rfl rfl ?_ | refine A_p (by rfl) rfl ?_
 | refine A_ret0 rfl ?_)
    refine A_callI (M := [(pz, ints (dg 2 i T))]) (N := N) (P := fun _ N' => Enc (i + 1) N') rfl rfl rfl (fun s' H K => ?_) ?_
    · have ha : ArgE ic s' pz 0 (dg 2 i T) := inferInstance
      refine hdo i hi' s' _ N H hN K pz ha ⟨?_⟩
      by_cases h1 : pz ≤ 1
      · exact .inr h1
      · refine .inl fun hm => ?_
        obtain ⟨⟨q, o⟩, hq, e⟩ := List.mem_map.1 hm
        obtain ⟨j, hj⟩ := List.mem_iff_getElem?.1 hq
        simp only at e
        exact H.inj 0 (j + 1) _ _ _ _ rfl (by simpa using hj) (by omega) (by omega) e.symm
    intro r N' hN'
    repeat' (first
 | refine A_go rfl ?_ | refine A_ifT rfl rfl ?_ | refine A_ifF rfl rfl ?_
 | refine A_add rfl rfl rfl (by omega) ?_ | refine A_mul rfl rfl rfl (by omega) ?_
 | ((first | refine A_lt rfl rfl rfl ?_ ?_) <;> intro hc <;> try first | contradiction | (exfalso; omega) | exact absurd rfl hc)
 | refine A_mk3 rfl rfl rfl rfl ?_ | refine A_mk23 rfl rfl rfl ?_ | refine A_mk2 rfl rfl rfl ?_ | refine A_mk13 rfl rfl ?_ | refine A_p (by rfl) rfl ?_
 | refine A_ret0 rfl ?_)
    refine A_roundX rfl ⟨X - (i + 1), N', by omega, ⟨i + 1, N', rfl, rfl, rfl, by omega, hN'⟩, inferInstance⟩
  · obtain rfl : X = i := by omega
    repeat' (first
 | refine A_go rfl ?_ | refine A_ifT rfl rfl ?_ | refine A_ifF rfl rfl ?_
 | refine A_add rfl rfl rfl (by omega) ?_ | refine A_mul rfl rfl rfl (by omega) ?_
 | ((first | refine A_lt rfl rfl rfl ?_ ?_) <;> intro hc <;> try first | contradiction | (exfalso; omega) | exact absurd rfl hc)
 | refine A_mk3 rfl rfl rfl rfl ?_ | refine A_mk23 rfl rfl rfl ?_ | refine A_mk2 rfl rfl rfl ?_ | refine A_mk13 rfl rfl ?_ | refine A_p (by rfl) rfl ?_
 | refine A_ret0 rfl ?_)
    exact ⟨N, hN, inferInstance⟩
noncomputable def ctS (P : List Int → Prop) (T : Nat) (out xs : List Int) : List Int := bif tt (P xs) then out.set (cnt xs 1 T) (out.getD (cnt xs 1 T) 0 + 1) else out
theorem c_countDo {s : St} [Wf s] {R C T p pc po : Nat} {out xs : List Int} (hO : Own [pc, po] s s [(pc, .rw 23 1 [.sl po 0 (T + 1)]), (po, ints out)]) (ha : ArgE ic s p 0 xs) (hn : NotIn p [pc, po]) (hx : xs.length = T) (hT : T = R * C) (hb : (1 ≤ R ∧ R ≤ 24) ∧ 1 ≤ C ∧ C ≤ 24) (ho : out.length = T + 1) (hbd : ∀ k, 0 ≤ out.getD k 0 ∧ out.getD k 0 ≤ 1000000) :
    Fn [pc, po] 53 [.agg [ic R, ic C, .sl p 0 T], .c (.ptr pc 0)] s fun _ N => N = [(pc, .rw 23 1 [.sl po 0 (T + 1)]), (po, ints (ctS (Thr R C) T out xs))] := by
  have hc := cnt_le (xs := xs) (a := 1) T
  have hk := hbd (cnt xs 1 T)
  have hcc : R * C ≤ 576 := Nat.mul_le_mul hb.1.2 hb.2.2
  refine F_startB code53 hO ?_
  by_cases h : Thr R C xs
  · repeat' (first
 | refine A_go rfl ?_ | refine A_ifT rfl rfl ?_ | refine A_ifF rfl rfl ?_
 | refine A_add rfl rfl rfl (by omega) ?_
 | refine A_idxN1 rfl rfl rfl (by omega) ?_ | refine A_idx1 rfl rfl rfl (by omega) ?_
 | (refine A_callB rfl rfl (fun s H => c_through) ?_ ?_ <;> intro hc <;> try first | contradiction | (exfalso; omega) | exact absurd rfl hc | exact absurd (And.intro rfl rfl) hc | exact absurd (And.intro rfl (And.intro rfl rfl)) hc | exact absurd (Eq.trans (by assumption) (Eq.symm (by assumption))) hc)
 | refine A_callV rfl rfl (fun s H => c_count) ?_
 | refine A_p (by rfl) rfl ?_
 | refine A_ldI rfl (by first | omega | (simp; done) | (simp; omega)) rfl ?_ | refine A_ldB rfl (by first | omega | (simp; done) | (simp; omega)) rfl ?_ | refine A_ld rfl (by rfl) rfl ?_
 | refine A_ldW rfl (by simp) rfl ?_
 | refine A_st rfl rfl rfl ?_ | refine A_stE rfl rfl (by first | omega | (simp; done) | (simp; omega)) rfl ?_
 | ((first | refine A_box rfl rfl ?_ | refine A_boxC rfl rfl ?_) <;> intro pz hpz)
 | refine A_chk1 rfl rfl rfl ?_ | refine A_chk2 rfl rfl rfl rfl ?_ | refine A_chk3 rfl rfl rfl rfl rfl ?_ | refine A_chk4 rfl rfl rfl rfl rfl rfl ?_ | refine A_chkI rfl (by assumption) rfl (by simp) ?_
 | refine A_ret0 rfl ?_)
    exact R_n [pc, po] (by rw [ctS, tt_t h]; rfl)
  · repeat' (first
 | refine A_go rfl ?_ | refine A_ifT rfl rfl ?_ | refine A_ifF rfl rfl ?_
 | refine A_add rfl rfl rfl (by omega) ?_
 | refine A_idxN1 rfl rfl rfl (by omega) ?_ | refine A_idx1 rfl rfl rfl (by omega) ?_
 | (refine A_callB rfl rfl (fun s H => c_through) ?_ ?_ <;> intro hc <;> try first | contradiction | (exfalso; omega) | exact absurd rfl hc | exact absurd (And.intro rfl rfl) hc | exact absurd (And.intro rfl (And.intro rfl rfl)) hc | exact absurd (Eq.trans (by assumption) (Eq.symm (by assumption))) hc)
 | refine A_p (by rfl) rfl ?_
 | refine A_ldI rfl (by first | omega | (simp; done) | (simp; omega)) rfl ?_ | refine A_ldB rfl (by first | omega | (simp; done) | (simp; omega)) rfl ?_ | refine A_ld rfl (by rfl) rfl ?_
 | refine A_ldW rfl (by simp) rfl ?_
 | refine A_st rfl rfl rfl ?_ | refine A_stE rfl rfl (by first | omega | (simp; done) | (simp; omega)) rfl ?_
 | ((first | refine A_box rfl rfl ?_ | refine A_boxC rfl rfl ?_) <;> intro pz hpz)
 | refine A_chk1 rfl rfl rfl ?_ | refine A_chk2 rfl rfl rfl rfl ?_ | refine A_chk3 rfl rfl rfl rfl rfl ?_ | refine A_chk4 rfl rfl rfl rfl rfl rfl ?_ | refine A_chkI rfl (by assumption) rfl (by simp) ?_
 | refine A_ret0 rfl ?_)
    exact R_n [pc, po] (by rw [ctS, tt_f h]; rfl)
noncomputable def thrR (r c : Int) : List Int := ctab (Thr r.toNat c.toNat) (r.toNat * c.toNat) (fun i => dg 2 i (r.toNat * c.toNat)) (2 ^ (r.toNat * c.toNat))
theorem c_implCountThrough {s : St} [Wf s] {r c : Int} : Fn [] 14 [iv r, iv c] s (IntsRes (SmlP r c) (thrR r c)) := by
  refine F_start code14 ?_
  by_cases hp : SmlP r c
  case neg =>
    repeat' (first
 | refine A_go rfl ?_ | refine A_ifT rfl rfl ?_ | refine A_ifF rfl rfl ?_
 | refine A_add rfl rfl rfl (by omega) ?_ | refine A_mul rfl rfl rfl (by omega) ?_
 | (refine A_callB rfl rfl (fun s H => c_areSmall) ?_ ?_ <;> intro hc <;> try first | contradiction | (exfalso; omega) | exact absurd rfl hc | exact absurd (And.intro rfl rfl) hc | exact absurd (And.intro rfl (And.intro rfl rfl)) hc | exact absurd (Eq.trans (by assumption) (Eq.symm (by assumption))) hc)
 | refine A_p (by rfl) rfl ?_
 | refine A_ldI rfl (by first | omega | (simp; done) | (simp; omega)) rfl ?_ | refine A_ldB rfl (by first | omega | (simp; done) | (simp; omega)) rfl ?_ | refine A_ld rfl (by rfl) rfl ?_
 | refine A_st rfl rfl rfl ?_ | refine A_stE rfl rfl (by first | omega | (simp; done) | (simp; omega)) rfl ?_
 | ((first | refine A_alloc rfl ?_ | refine A_makeN rfl rfl rfl (by omega) ?_ | refine A_make rfl rfl rfl (by omega) ?_) <;> intro pz hpz)
 | refine A_ret rfl (by exact (RP.t rfl (RP.t rfl RP.nil))) ?_)
    exact R_intsN hp
  have hp1 := hp.1.1
  have hp2 := hp.1.2
  have hp3 := hp.2
  obtain ⟨R, rfl⟩ : ∃ R : Nat, r = R := ⟨r.toNat, by omega⟩
  obtain ⟨C, rfl⟩ : ∃ C : Nat, c = C := ⟨c.toNat, by omega⟩
  obtain ⟨T, hT⟩ : ∃ T, R * C = T := ⟨_, rfl⟩
  have e : (R : Int) * C = (T : Int) := by rw [← hT]; push_cast; rfl
  rw [e] at hp3
  have hval : thrR R C = ctab (Thr R C) T (fun i => dg 2 i T) (2 ^ T) := by rw [thrR]; simp only [Int.toNat_natCast, hT]
  repeat' (first
 | refine A_go rfl ?_ | refine A_ifT rfl rfl ?_ | refine A_ifF rfl rfl ?_
 | refine A_add rfl rfl rfl (by omega) ?_ | refine A_mul rfl rfl rfl (by omega) ?_
 | (refine A_callB rfl rfl (fun s H => c_areSmall) ?_ ?_ <;> intro hc <;> try first | contradiction | (exfalso; omega) | exact absurd rfl hc | exact absurd (And.intro rfl rfl) hc | exact absurd (And.intro rfl (And.intro rfl rfl)) hc | exact absurd (Eq.trans (by assumption) (Eq.symm (by assumption))) hc)
 | simp only [e]
 | refine A_p (by rfl) rfl ?_
 | refine A_ldI rfl (by first | omega | (simp; done) | (simp; omega)) rfl ?_ | refine A_ldB rfl (by first | omega | (simp; done) | (simp; omega)) rfl ?_ | refine A_ld rfl (by rfl) rfl ?_
 | refine A_st rfl rfl rfl ?_ | refine A_stE rfl rfl (by first | omega | (simp; done) | (simp; omega)) rfl ?_
 | ((first | refine A_alloc rfl ?_ | refine A_makeN rfl rfl rfl (by omega) ?_ | refine A_make rfl rfl rfl (by omega) ?_) <;> intro pz hpz)
 | refine A_ret rfl (by exact (RP.t rfl (RP.t rfl RP.nil))) ?_)
  obtain ⟨pc, hEq⟩ : ∃ p, p = pz := ⟨_, rfl⟩; subst hEq
  obtain ⟨po, hEq⟩ : ∃ p, p = pz := ⟨_, rfl⟩; subst hEq
  have e2 : ((T : Int) + 1).toNat = T + 1 := by omega
  simp only [e2]
  refine A_callM (C := [pc, po]) (P := fun _ N => N = [(pc, .rw 23 1 [.sl po 0 (T + 1)]), (po, ints (ctab (Thr R C) T (fun i => dg 2 i T) (2 ^ T)))]) rfl rfl (fun s' H => ?_) ?_
  · have H2 := ((inferInstance : Sub [(pc, .rw 23 1 [.sl po 0 (T + 1)]), (po, ints (List.replicate (T + 1) 0))] _).own _ _ _ H).self
    refine c_plainFields (caps := [(pc, 0)]) H2 (fun i N => N = [(pc, .rw 23 1 [.sl po 0 (T + 1)]), (po, ints (ctab (Thr R C) T (fun i => dg 2 i T) i))]) rfl hT.symm (by omega) (by omega) ?_
    rintro i hi s1 M N H1 rfl K p ha hn
    have hbd : ∀ k, 0 ≤ (ctab (Thr R C) T (fun i => dg 2 i T) i).getD k 0 ∧ (ctab (Thr R C) T (fun i => dg 2 i T) i).getD k 0 ≤ 1000000 := fun k => by
      have h1 := ctab_in (P := Thr R C) (n := T) (fl := fun i => dg 2 i T) i k
      have h2 : 2 ^ T ≤ 2 ^ 12 := Nat.pow_le_pow_right (by omega) (by omega)
      have h3 : (2 : Nat) ^ 12 = 4096 := by decide
      omega
    haveI : Wf s1 := ⟨K.wf⟩
    exact c_countDo (hO := K) ha hn (by simp) hT.symm (by omega) (by simp) hbd
  rintro _ _ rfl
  repeat' (first
 | refine A_go rfl ?_ | refine A_ifT rfl rfl ?_ | refine A_ifF rfl rfl ?_
 | refine A_add rfl rfl rfl (by omega) ?_ | refine A_mul rfl rfl rfl (by omega) ?_
 | refine A_p (by rfl) rfl ?_
 | refine A_ldI rfl (by first | omega | (simp; done) | (simp; omega)) rfl ?_ | refine A_ldB rfl (by first | omega | (simp; done) | (simp; omega)) rfl ?_ | refine A_ld rfl (by rfl) rfl ?_
 | refine A_st rfl rfl rfl ?_ | refine A_stE rfl rfl (by first | omega | (simp; done) | (simp; omega)) rfl ?_
 | ((first | refine A_alloc rfl ?_ | refine A_makeN rfl rfl rfl (by omega) ?_ | refine A_make rfl rfl rfl (by omega) ?_) <;> intro pz hpz)
 | refine A_ret rfl (by exact (RP.t rfl (RP.t rfl RP.nil))) ?_)
  refine R_ints hp (by rw [hval]; simp) (by omega) (hs := ?_)
  rw [hval]; exact inferInstance
theorem c_l02SumB {s : St} [Wf s] {T : Nat} {id_ys off_ys len_ys : Nat} {ys : List Int} [h_ys : ArgE ic s id_ys off_ys ys] (hl_ys : ys.length = len_ys := by first | rfl | simp | omega | (simp; omega)) (h : ∀ i, i < T → ys.getD i 0 = 0 ∨ ys.getD i 0 = 1) (hT : len_ys = T) (hT2 : T ≤ 1000) : FnV 50 [.c (.sl id_ys off_ys len_ys)] s (iv (cnt ys 1 T)) := by
  refine F_start code50 ?_
  repeat' (first
 | refine A_go rfl ?_ | refine A_ifT rfl rfl ?_ | refine A_ifF rfl rfl ?_
 | refine A_add rfl rfl rfl (by omega) ?_
 | ((first | refine A_lt rfl rfl rfl ?_ ?_) <;> intro hc <;> try first | contradiction | (exfalso; omega) | exact absurd rfl hc)
 | refine A_idxN1 rfl rfl rfl (by omega) ?_ | refine A_idx1 rfl rfl rfl (by omega) ?_
 | refine A_p (by rfl) rfl ?_
 | refine A_ldI rfl (by first | omega | (simp; done) | (simp; omega)) rfl ?_ | refine A_ldB rfl (by first | omega | (simp; done) | (simp; omega)) rfl ?_ | refine A_ld rfl (by rfl) rfl ?_
 | refine A_ret1 rfl (by exact (RP.t rfl RP.nil)) ?_)
  refine A_loop rfl [] (fun m fr L => ∃ (j : Nat) (a : Int), m = len_ys - j ∧ fr = [(0, .c (.sl id_ys off_ys len_ys)), (3, iv a), (4, iv j)] ∧ L = [] ∧ j ≤ len_ys ∧ a = (cnt ys 1 j : Nat)) len_ys ⟨0, 0, rfl, rfl, rfl, by omega, rfl⟩ ?_
  rintro m fr L ⟨j, a, rfl, rfl, rfl, hj, ha⟩
  have hc := cnt_le (xs := ys) (a := 1) j
  by_cases hin : j < len_ys
  · have h2 := h j (by omega)
    repeat' (first
 | refine A_go rfl ?_ | refine A_ifT rfl rfl ?_ | refine A_ifF rfl rfl ?_
 | refine A_add rfl rfl rfl (by omega) ?_
 | ((first | refine A_lt rfl rfl rfl ?_ ?_) <;> intro hc <;> try first | contradiction | (exfalso; omega) | exact absurd rfl hc)
 | refine A_idxN1 rfl rfl rfl (by omega) ?_ | refine A_idx1 rfl rfl rfl (by omega) ?_
 | refine A_p (by rfl) rfl ?_
 | refine A_ldI rfl (by first | omega | (simp; done) | (simp; omega)) rfl ?_ | refine A_ldB rfl (by first | omega | (simp; done) | (simp; omega)) rfl ?_ | refine A_ld rfl (by rfl) rfl ?_
 | refine A_ret1 rfl (by exact (RP.t rfl RP.nil)) ?_)
    refine A_round rfl [] (len_ys - (j + 1)) (by omega) ?_
    refine ⟨j + 1, _, rfl, rfl, rfl, by omega, ?_⟩
    rw [cnt, ha]
    rcases h2 with e | e <;> rw [e] <;> simp
  · obtain rfl : len_ys = j := by omega
    repeat' (first
 | refine A_go rfl ?_ | refine A_ifT rfl rfl ?_ | refine A_ifF rfl rfl ?_
 | refine A_add rfl rfl rfl (by omega) ?_
 | ((first | refine A_lt rfl rfl rfl ?_ ?_) <;> intro hc <;> try first | contradiction | (exfalso; omega) | exact absurd rfl hc)
 | refine A_idxN1 rfl rfl rfl (by omega) ?_ | refine A_idx1 rfl rfl rfl (by omega) ?_
 | refine A_p (by rfl) rfl ?_
 | refine A_ldI rfl (by first | omega | (simp; done) | (simp; omega)) rfl ?_ | refine A_ldB rfl (by first | omega | (simp; done) | (simp; omega)) rfl ?_ | refine A_ld rfl (by rfl) rfl ?_
 | refine A_ret1 rfl (by exact (RP.t rfl RP.nil)) ?_)
    exact R_v (by rw [ha, hT])
theorem c_specCountThrough {s : St} [Wf s] {r c : Int} : Fn [] 13 [iv r, iv c] s (IntsRes (SmlP r c) (thrR r c)) := by
  refine F_start code13 ?_
  by_cases hs : (1 ≤ r ∧ r ≤ 24) ∧ 1 ≤ c ∧ c ≤ 24
  case neg =>
    repeat' (first
 | refine A_go rfl ?_ | refine A_ifT rfl rfl ?_ | refine A_ifF rfl rfl ?_
 | refine A_offP rfl rfl ?_ | refine A_offH rfl rfl ?_ | refine A_off0 rfl rfl ?_
 | refine A_add rfl rfl rfl (by omega) ?_ | refine A_mul rfl rfl rfl (by omega) ?_
 | ((first | refine A_lt rfl rfl rfl ?_ ?_ | refine A_gt rfl rfl rfl ?_ ?_) <;> intro hc <;> try first | contradiction | (exfalso; omega) | exact absurd rfl hc)
 | refine A_idxN1 rfl rfl rfl (by omega) ?_ | refine A_idx1 rfl rfl rfl (by omega) ?_
 | (refine A_callB rfl rfl (fun s H => c_l04Sides) ?_ ?_ <;> intro hc <;> try first | contradiction | (exfalso; omega) | exact absurd rfl hc | exact absurd (And.intro rfl rfl) hc | exact absurd (And.intro rfl (And.intro rfl rfl)) hc | exact absurd (Eq.trans (by assumption) (Eq.symm (by assumption))) hc)
 | refine A_fld rfl rfl ?_ | refine A_p (by rfl) rfl ?_
 | refine A_ldI rfl (by first | omega | (simp; done) | (simp; omega)) rfl ?_ | refine A_ldB rfl (by first | omega | (simp; done) | (simp; omega)) rfl ?_ | refine A_ld rfl (by rfl) rfl ?_
 | refine A_st rfl rfl rfl ?_ | refine A_stE rfl rfl (by first | omega | (simp; done) | (simp; omega)) rfl ?_
 | refine A_stW rfl rfl (by simp) rfl ?_
 | ((first | refine A_alloc rfl ?_ | refine A_makeN rfl rfl rfl (by omega) ?_ | refine A_make rfl rfl rfl (by omega) ?_) <;> intro pz hpz)
 | refine A_ret rfl (by exact (RP.t rfl (RP.t rfl RP.nil))) ?_)
    exact R_intsN fun h => hs h.1
  have hm := side_mul (r := r) (c := c) (by omega) (by omega)
  by_cases h12 : r * c ≤ 12
  case neg =>
    repeat' (first
 | refine A_go rfl ?_ | refine A_ifT rfl rfl ?_ | refine A_ifF rfl rfl ?_
 | refine A_offP rfl rfl ?_ | refine A_offH rfl rfl ?_ | refine A_off0 rfl rfl ?_
 | refine A_add rfl rfl rfl (by omega) ?_ | refine A_mul rfl rfl rfl (by omega) ?_
 | ((first | refine A_lt rfl rfl rfl ?_ ?_ | refine A_gt rfl rfl rfl ?_ ?_) <;> intro hc <;> try first | contradiction | (exfalso; omega) | exact absurd rfl hc)
 | refine A_idxN1 rfl rfl rfl (by omega) ?_ | refine A_idx1 rfl rfl rfl (by omega) ?_
 | (refine A_callB rfl rfl (fun s H => c_l04Sides) ?_ ?_ <;> intro hc <;> try first | contradiction | (exfalso; omega) | exact absurd rfl hc | exact absurd (And.intro rfl rfl) hc | exact absurd (And.intro rfl (And.intro rfl rfl)) hc | exact absurd (Eq.trans (by assumption) (Eq.symm (by assumption))) hc)
 | refine A_fld rfl rfl ?_ | refine A_p (by rfl) rfl ?_
 | refine A_ldI rfl (by first | omega | (simp; done) | (simp; omega)) rfl ?_ | refine A_ldB rfl (by first | omega | (simp; done) | (simp; omega)) rfl ?_ | refine A_ld rfl (by rfl) rfl ?_
 | refine A_st rfl rfl rfl ?_ | refine A_stE rfl rfl (by first | omega | (simp; done) | (simp; omega)) rfl ?_
 | refine A_stW rfl rfl (by simp) rfl ?_
 | ((first | refine A_alloc rfl ?_ | refine A_makeN rfl rfl rfl (by omega) ?_ | refine A_make rfl rfl rfl (by omega) ?_) <;> intro pz hpz)
 | refine A_ret rfl (by exact (RP.t rfl (RP.t rfl RP.nil))) ?_)
    exact R_intsN fun h => h12 h.2
  have hp : SmlP r c := ⟨hs, h12⟩
  obtain ⟨R, rfl⟩ : ∃ R : Nat, r = R := ⟨r.toNat, by omega⟩
  obtain ⟨C, rfl⟩ : ∃ C : Nat, c = C := ⟨c.toNat, by omega⟩
  obtain ⟨T, hT⟩ : ∃ T, R * C = T := ⟨_, rfl⟩
  have e : (R : Int) * C = (T : Int) := by rw [← hT]; push_cast; rfl
  rw [e] at h12
  have hval : thrR R C = ctab (Thr R C) T (fun i => lb i T) (2 ^ T) := by rw [thrR]; simp only [Int.toNat_natCast, hT]; exact ctab_bits
  have hpw : 2 ^ T ≤ 2 ^ 12 := Nat.pow_le_pow_right (by omega) (by omega)
  have hp2 : (2 : Nat) ^ 12 = 4096 := by decide
  have e2 : ((T : Int) + 1).toNat = T + 1 := by omega
  rw [hp2] at hpw
  obtain ⟨X, hX⟩ : ∃ X : Nat, 2 ^ T = X := ⟨_, rfl⟩
  rw [hX] at hpw hval
  repeat' (first
 | refine A_go rfl ?_ | refine A_ifT rfl rfl ?_ | refine A_ifF rfl rfl ?_
 | refine A_offP rfl rfl ?_ | refine A_offH rfl rfl ?_ | refine A_off0 rfl rfl ?_
 | refine A_add rfl rfl rfl (by omega) ?_ | refine A_mul rfl rfl rfl (by omega) ?_
 | ((first | refine A_lt rfl rfl rfl ?_ ?_ | refine A_gt rfl rfl rfl ?_ ?_) <;> intro hc <;> try first | contradiction | (exfalso; omega) | exact absurd rfl hc)
 | refine A_idxN1 rfl rfl rfl (by omega) ?_ | refine A_idx1 rfl rfl rfl (by omega) ?_
 | (refine A_callB rfl rfl (fun s H => c_l04Sides) ?_ ?_ <;> intro hc <;> try first | contradiction | (exfalso; omega) | exact absurd rfl hc | exact absurd (And.intro rfl rfl) hc | exact absurd (And.intro rfl (And.intro rfl rfl)) hc | exact absurd (Eq.trans (by assumption) (Eq.symm (by assumption))) hc)
 | simp only [e, e2]
 | (refine A_callM rfl rfl (fun s H => c_l04New) ?_; rintro _ _ ⟨pz, rfl, rfl⟩) | (refine A_callM0 rfl rfl (fun s H => c_l04New) ?_; rintro _ _ ⟨pz, rfl, rfl⟩)
 | refine A_fld rfl rfl ?_ | refine A_p (by rfl) rfl ?_
 | refine A_ldI rfl (by first | omega | (simp; done) | (simp; omega)) rfl ?_ | refine A_ldB rfl (by first | omega | (simp; done) | (simp; omega)) rfl ?_ | refine A_ld rfl (by rfl) rfl ?_
 | refine A_st rfl rfl rfl ?_ | refine A_stE rfl rfl (by first | omega | (simp; done) | (simp; omega)) rfl ?_
 | refine A_stW rfl rfl (by simp) rfl ?_
 | ((first | refine A_alloc rfl ?_ | refine A_makeN rfl rfl rfl (by omega) ?_ | refine A_make rfl rfl rfl (by omega) ?_) <;> intro pz hpz)
 | refine A_ret rfl (by exact (RP.t rfl (RP.t rfl RP.nil))) ?_)
  obtain ⟨p8, hEq⟩ : ∃ p, p = pz := ⟨_, rfl⟩; subst hEq
  obtain ⟨pc, hEq⟩ : ∃ p, p = pz := ⟨_, rfl⟩; subst hEq
  obtain ⟨po, hEq⟩ : ∃ p, p = pz := ⟨_, rfl⟩; subst hEq
  have hcb : ∀ i k, i ≤ X → 0 ≤ (ctab (Thr R C) T (fun i => lb i T) i).getD k 0 ∧ (ctab (Thr R C) T (fun i => lb i T) i).getD k 0 ≤ 4096 := fun i k hi => by
    have := ctab_in (P := Thr R C) (n := T) (fl := fun i => lb i T) i k
    omega
  rw [hT]
  refine A_loop rfl [p8, pc, po] (fun m fr L => ∃ (i : Nat) (cs : List Int), m = X - i ∧ fr = [(6, iv T), (7, .c (.sl po 0 (T + 1))), (8, .c (.ptr p8 0)), (9, iv i)] ∧ L = [(p8, .rw 25 3 (fld R C pc T)), (pc, ints cs), (po, ints (ctab (Thr R C) T (fun i => lb i T) i))] ∧ i ≤ X ∧ cs.length = T) X ⟨0, List.replicate T 0, rfl, rfl, rfl, by omega, by simp⟩ ?_
  rintro m fr L ⟨i, cs, rfl, rfl, rfl, hi, hcl⟩
  by_cases hi' : i < X
  · repeat' (first
 | refine A_go rfl ?_ | refine A_ifT rfl rfl ?_ | refine A_ifF rfl rfl ?_
 | refine A_offP rfl rfl ?_ | refine A_offH rfl rfl ?_ | refine A_off0 rfl rfl ?_
 | refine A_add rfl rfl rfl (by omega) ?_ | refine A_mul rfl rfl rfl (by omega) ?_
 | ((first | refine A_lt rfl rfl rfl ?_ ?_ | refine A_gt rfl rfl rfl ?_ ?_) <;> intro hc <;> try first | contradiction | (exfalso; omega) | exact absurd rfl hc)
 | refine A_idxN1 rfl rfl rfl (by omega) ?_ | refine A_idx1 rfl rfl rfl (by omega) ?_
 | refine A_convU rfl rfl (by omega) ?_
 | refine A_shl1M hX rfl rfl (by omega) ?_
 | refine A_fld rfl rfl ?_ | refine A_p (by rfl) rfl ?_
 | refine A_ldI rfl (by first | omega | (simp; done) | (simp; omega)) rfl ?_ | refine A_ldB rfl (by first | omega | (simp; done) | (simp; omega)) rfl ?_ | refine A_ld rfl (by rfl) rfl ?_
 | refine A_st rfl rfl rfl ?_ | refine A_stE rfl rfl (by first | omega | (simp; done) | (simp; omega)) rfl ?_
 | refine A_stW rfl rfl (by simp) rfl ?_
 | ((first | refine A_alloc rfl ?_ | refine A_makeN rfl rfl rfl (by omega) ?_ | refine A_make rfl rfl rfl (by omega) ?_) <;> intro pz hpz)
 | refine A_ret rfl (by exact (RP.t rfl (RP.t rfl RP.nil))) ?_)
    refine A_loop rfl [p8, pc, po] (fun m fr L => ∃ (j : Nat) (cs : List Int), m = T - j ∧ fr = [(6, iv T), (7, .c (.sl po 0 (T + 1))), (8, .c (.ptr p8 0)), (9, iv i), (10, iv j)] ∧ L = [(p8, .rw 25 3 (fld R C pc T)), (pc, ints cs), (po, ints (ctab (Thr R C) T (fun i => lb i T) i))] ∧ j ≤ T ∧ cs.length = T ∧ cs.take j = (lb i T).take j) T ⟨0, cs, rfl, rfl, rfl, by omega, hcl, by simp⟩ ?_
    rintro m fr L ⟨j, cs, rfl, rfl, rfl, hj, hcl, htk⟩
    by_cases hj' : j < T
    · have hlb := lb_get (i := i) hj'
      repeat' (first
 | refine A_go rfl ?_ | refine A_ifT rfl rfl ?_ | refine A_ifF rfl rfl ?_
 | refine A_offP rfl rfl ?_ | refine A_offH rfl rfl ?_ | refine A_off0 rfl rfl ?_
 | refine A_add rfl rfl rfl (by omega) ?_ | refine A_mul rfl rfl rfl (by omega) ?_
 | ((first | refine A_lt rfl rfl rfl ?_ ?_ | refine A_gt rfl rfl rfl ?_ ?_) <;> intro hc <;> try first | contradiction | (exfalso; omega) | exact absurd rfl hc)
 | refine A_idxN1 rfl rfl rfl (by omega) ?_ | refine A_idx1 rfl rfl rfl (by omega) ?_
 | refine A_convU rfl rfl (by omega) ?_
 | refine A_shrN (n := j) rfl rfl rfl (by omega) ?_
 | refine A_andN1 rfl rfl ?_
 | refine A_fld rfl rfl ?_ | refine A_p (by rfl) rfl ?_
 | refine A_ldI rfl (by first | omega | (simp; done) | (simp; omega)) rfl ?_ | refine A_ldB rfl (by first | omega | (simp; done) | (simp; omega)) rfl ?_ | refine A_ld rfl (by rfl) rfl ?_
 | refine A_st rfl rfl rfl ?_ | refine A_stE rfl rfl (by first | omega | (simp; done) | (simp; omega)) rfl ?_
 | refine A_stW rfl rfl (by simp) rfl ?_
 | ((first | refine A_alloc rfl ?_ | refine A_makeN rfl rfl rfl (by omega) ?_ | refine A_make rfl rfl rfl (by omega) ?_) <;> intro pz hpz)
 | refine A_ret rfl (by exact (RP.t rfl (RP.t rfl RP.nil))) ?_)
      refine A_round rfl [p8, pc, po] (T - (j + 1)) (by omega) ?_
      refine ⟨j + 1, _, rfl, rfl, rfl, by omega, by simp [hcl], ?_⟩
      have h := take_set (d := 0) htk (by omega) (by simp; omega)
      rw [hlb] at h; exact h
    · obtain rfl : T = j := by omega
      obtain rfl : cs = lb i T := take_end htk (by omega) (by simp)
      have h01 : ∀ k, k < T → (lb i T).getD k 0 = 0 ∨ (lb i T).getD k 0 = 1 := fun k hk => by rw [lb_get hk]; unfold dgt; omega
      have hcn := cnt_le (xs := lb i T) (a := 1) T
      have hck := hcb i (cnt (lb i T) 1 T) (by omega)
      by_cases h : Thr R C (lb i T)
      · repeat' (first
 | refine A_go rfl ?_ | refine A_ifT rfl rfl ?_ | refine A_ifF rfl rfl ?_
 | refine A_offP rfl rfl ?_ | refine A_offH rfl rfl ?_ | refine A_off0 rfl rfl ?_
 | refine A_add rfl rfl rfl (by omega) ?_ | refine A_mul rfl rfl rfl (by omega) ?_
 | ((first | refine A_lt rfl rfl rfl ?_ ?_ | refine A_gt rfl rfl rfl ?_ ?_) <;> intro hc <;> try first | contradiction | (exfalso; omega) | exact absurd rfl hc)
 | refine A_idxN1 rfl rfl rfl (by omega) ?_ | refine A_idx1 rfl rfl rfl (by omega) ?_
 | (refine A_callB rfl rfl (fun s H => c_l04Through (xs := lb i T)) ?_ ?_ <;> intro hc <;> try first | contradiction | (exfalso; omega) | exact absurd rfl hc | exact absurd (And.intro rfl rfl) hc | exact absurd (And.intro rfl (And.intro rfl rfl)) hc | exact absurd (Eq.trans (by assumption) (Eq.symm (by assumption))) hc)
 | refine A_callV rfl rfl (fun s H => c_l02SumB (ys := lb i T) (T := T) (h := h01) (hT := by omega) (hT2 := by omega)) ?_
 | refine A_fld rfl rfl ?_ | refine A_p (by rfl) rfl ?_
 | refine A_ldI rfl (by first | omega | (simp; done) | (simp; omega)) rfl ?_ | refine A_ldB rfl (by first | omega | (simp; done) | (simp; omega)) rfl ?_ | refine A_ld rfl (by rfl) rfl ?_
 | refine A_st rfl rfl rfl ?_ | refine A_stE rfl rfl (by first | omega | (simp; done) | (simp; omega)) rfl ?_
 | refine A_stW rfl rfl (by simp) rfl ?_
 | ((first | refine A_alloc rfl ?_ | refine A_makeN rfl rfl rfl (by omega) ?_ | refine A_make rfl rfl rfl (by omega) ?_) <;> intro pz hpz)
 | refine A_ret rfl (by exact (RP.t rfl (RP.t rfl RP.nil))) ?_)
        refine A_round rfl [p8, pc, po] (X - (i + 1)) (by omega) ?_
        exact ⟨i + 1, _, rfl, rfl, by rw [ctab, tt_t h]; rfl, by omega, by simp⟩
      · repeat' (first
 | refine A_go rfl ?_ | refine A_ifT rfl rfl ?_ | refine A_ifF rfl rfl ?_
 | refine A_offP rfl rfl ?_ | refine A_offH rfl rfl ?_ | refine A_off0 rfl rfl ?_
 | refine A_add rfl rfl rfl (by omega) ?_ | refine A_mul rfl rfl rfl (by omega) ?_
 | ((first | refine A_lt rfl rfl rfl ?_ ?_ | refine A_gt rfl rfl rfl ?_ ?_) <;> intro hc <;> try first | contradiction | (exfalso; omega) | exact absurd rfl hc)
 | refine A_idxN1 rfl rfl rfl (by omega) ?_ | refine A_idx1 rfl rfl rfl (by omega) ?_
 | (refine A_callB rfl rfl (fun s H => c_l04Through (xs := lb i T)) ?_ ?_ <;> intro hc <;> try first | contradiction | (exfalso; omega) | exact absurd rfl hc | exact absurd (And.intro rfl rfl) hc | exact absurd (And.intro rfl (And.intro rfl rfl)) hc | exact absurd (Eq.trans (by assumption) (Eq.symm (by assumption))) hc)
 | refine A_fld rfl rfl ?_ | refine A_p (by rfl) rfl ?_
 | refine A_ldI rfl (by first | omega | (simp; done) | (simp; omega)) rfl ?_ | refine A_ldB rfl (by first | omega | (simp; done) | (simp; omega)) rfl ?_ | refine A_ld rfl (by rfl) rfl ?_
 | refine A_st rfl rfl rfl ?_ | refine A_stE rfl rfl (by first | omega | (simp; done) | (simp; omega)) rfl ?_
 | refine A_stW rfl rfl (by simp) rfl ?_
 | ((first | refine A_alloc rfl ?_ | refine A_makeN rfl rfl rfl (by omega) ?_ | refine A_make rfl rfl rfl (by omega) ?_) <;> intro pz hpz)
 | refine A_ret rfl (by exact (RP.t rfl (RP.t rfl RP.nil))) ?_)
        refine A_round rfl [p8, pc, po] (X - (i + 1)) (by omega) ?_
        exact ⟨i + 1, _, rfl, rfl, by rw [ctab, tt_f h]; rfl, by omega, by simp⟩
  · obtain rfl : X = i := by omega
    repeat' (first
 | refine A_go rfl ?_ | refine A_ifT rfl rfl ?_ | refine A_ifF rfl rfl ?_
 | refine A_offP rfl rfl ?_ | refine A_offH rfl rfl ?_ | refine A_off0 rfl rfl ?_
 | refine A_add rfl rfl rfl (by omega) ?_ | refine A_mul rfl rfl rfl (by omega) ?_
 | ((first | refine A_lt rfl rfl rfl ?_ ?_ | refine A_gt rfl rfl rfl ?_ ?_) <;> intro hc <;> try first | contradiction | (exfalso; omega) | exact absurd rfl hc)
 | refine A_idxN1 rfl rfl rfl (by omega) ?_ | refine A_idx1 rfl rfl rfl (by omega) ?_
 | refine A_convU rfl rfl (by omega) ?_
 | refine A_shl1M hX rfl rfl (by omega) ?_
 | refine A_fld rfl rfl ?_ | refine A_p (by rfl) rfl ?_
 | refine A_ldI rfl (by first | omega | (simp; done) | (simp; omega)) rfl ?_ | refine A_ldB rfl (by first | omega | (simp; done) | (simp; omega)) rfl ?_ | refine A_ld rfl (by rfl) rfl ?_
 | refine A_st rfl rfl rfl ?_ | refine A_stE rfl rfl (by first | omega | (simp; done) | (simp; omega)) rfl ?_
 | refine A_stW rfl rfl (by simp) rfl ?_
 | ((first | refine A_alloc rfl ?_ | refine A_makeN rfl rfl rfl (by omega) ?_ | refine A_make rfl rfl rfl (by omega) ?_) <;> intro pz hpz)
 | refine A_ret rfl (by exact (RP.t rfl (RP.t rfl RP.nil))) ?_)
    refine R_ints hp (by rw [hval]; simp) (by omega) (hs := ?_)
    rw [hval]; exact inferInstance

end Go.Proofs.Ytckobcjjbpnkcaa
