/- Tables that turn. -/
import Derived.Test.YtlhidckolillaaaXwithin
import Derived.Test.YtlhidckolillaaaXlists
import Derived.Test.YtlhidckolillaaaFB
namespace Go.Proofs.Ytlhidckolillaaa
open Go Go.RowKit
set_option linter.unusedVariables false
set_option linter.unusedSimpArgs false
set_option maxRecDepth 100000
set_option maxHeartbeats 8000000
-- spec.l04Has
def L74 : AFun := ⟨18, [.t 4],
 (.seq (.ops false [⟨(some 4), .mv (.k (bv false)), none, []⟩])
 (.seq (.seq (.ops false [⟨(some 5), .mv (.k (iv 0)), none, []⟩])
  (.block 0 (.loop [0, 1, 5] (.seq (.seq (.ops false [⟨(some 6), .mv (.t 5), none, []⟩,
       ⟨(some 7), .mv (.t 0), none, []⟩,
       ⟨(some 8), .len false (.t 7), none, []⟩,
       ⟨(some 9), .bin .lss (.t 6) (.t 8), none, []⟩])
     (.cond (.t 9) .skip
      (.exit 0)))
    (.seq (.block 1 (.seq (.ops false [⟨(some 12), .mv (.t 0), none, []⟩,
        ⟨(some 13), .mv (.t 5), none, []⟩,
        ⟨(some 14), .idxA 1 (.t 12) (.t 13), none, []⟩,
        ⟨(some 15), .load false 1 (.t 14), none, []⟩,
        ⟨(some 16), .mv (.t 1), none, []⟩,
        ⟨(some 17), .bin .eql (.t 15) (.t 16), none, []⟩])
      (.cond (.t 17) (.seq (.ops false [⟨(some 4), .mv (.k (bv true)), none, []⟩])
       .ret)
       .skip)))
    (.ops false [⟨(some 10), .mv (.t 5), none, []⟩,
     ⟨(some 11), .bin .add (.t 10) (.k (iv 1)), none, []⟩,
     ⟨(some 5), .mv (.t 11), none, []⟩]))))))
 (.seq (.ops false [⟨(some 4), .mv (.k (bv false)), none, []⟩])
 .ret)))⟩
theorem code74 : acode Try.prog hints 74 = some L74 := by kernel_rfl

-- spec.l04Table
def L39 : AFun := ⟨29, [.t 2],
 (.seq (.ops false [⟨(some 2), .mv (.k (bv false)), none, []⟩])
 (.seq (.seq (.ops false [⟨(some 3), .mv (.k (iv 0)), none, []⟩])
  (.block 0 (.loop [0, 3] (.seq (.seq (.ops false [⟨(some 4), .mv (.t 3), none, []⟩,
       ⟨(some 5), .mv (.t 0), none, []⟩,
       ⟨(some 6), .len false (.t 5), none, []⟩,
       ⟨(some 7), .bin .lss (.t 4) (.t 6), none, []⟩])
     (.cond (.t 7) .skip
      (.exit 0)))
    (.seq (.block 1 (.seq (.ops true [⟨(some 10), .mv (.t 0), none, []⟩,
        ⟨(some 11), .mv (.t 3), none, []⟩,
        ⟨(some 12), .idxA 1 (.t 10) (.t 11), none, []⟩,
        ⟨(some 13), .load false 1 (.t 12), none, []⟩,
        ⟨(some 14), .call (.f 73) [(.t 13), (.k (iv 0)), (.k (iv 15))], none, []⟩,
        ⟨(some 15), .un .not (.t 14), none, []⟩,
        ⟨(some 16), .mv (.t 15), none, []⟩,
        ⟨(some 17), .mv (.t 0), (some (16, false)), []⟩,
        ⟨(some 18), .mv (.t 3), (some (16, false)), []⟩,
        ⟨(some 19), .slice 1 (.t 17) none (some (.t 18)), (some (16, false)), []⟩,
        ⟨(some 20), .mv (.t 0), (some (16, false)), []⟩,
        ⟨(some 21), .mv (.t 3), (some (16, false)), []⟩,
        ⟨(some 22), .idxA 1 (.t 20) (.t 21), (some (16, false)), []⟩,
        ⟨(some 23), .load false 1 (.t 22), (some (16, false)), []⟩,
        ⟨(some 24), .call (.f 74) [(.t 19), (.t 23)], (some (16, false)), []⟩,
        ⟨(some 25), .pick (.t 16) (.k (bv true)) (.t 24), none, []⟩])
      (.cond (.t 25) (.seq (.ops false [⟨(some 2), .mv (.k (bv false)), none, []⟩])
       .ret)
       .skip)))
    (.ops false [⟨(some 8), .mv (.t 3), none, []⟩,
     ⟨(some 9), .bin .add (.t 8) (.k (iv 1)), none, []⟩,
     ⟨(some 3), .mv (.t 9), none, []⟩]))))))
 (.seq (.ops false [⟨(some 26), .mv (.t 0), none, []⟩,
   ⟨(some 27), .len false (.t 26), none, []⟩,
   ⟨(some 28), .bin .eql (.t 27) (.k (iv 16)), none, []⟩,
   ⟨(some 2), .mv (.t 28), none, []⟩])
 .ret)))⟩
theorem code39 : acode Try.prog hints 39 = some L39 := by kernel_rfl

-- impl.IsTurnTable
def L33 : AFun := ⟨27, [.t 2],
 (.seq (.ops false [⟨(some 2), .mv (.k (bv false)), none, []⟩])
 (.seq (.ops false [⟨(some 6), .build [.bool false, .bool false, .bool false, .bool false, .bool false, .bool false, .bool false, .bool false, .bool false, .bool false, .bool false, .bool false, .bool false, .bool false, .bool false, .bool false] [], none, []⟩,
   ⟨(some 3), .alloc 86 [.bool false, .bool false, .bool false, .bool false, .bool false, .bool false, .bool false, .bool false, .bool false, .bool false, .bool false, .bool false, .bool false, .bool false, .bool false, .bool false], none, []⟩,
   ⟨none, .store 16 (.t 3) (.t 6), none, []⟩])
 (.seq (.seq (.ops false [⟨(some 7), .mv (.t 0), none, []⟩,
    ⟨(some 8), .len false (.t 7), none, []⟩,
    ⟨(some 9), .mv (.k (iv 0)), none, []⟩])
  (.block 0 (.loop [0, 3, 7, 8, 9] (.seq (.ops false [⟨(some 10), .bin .lss (.t 9) (.t 8), none, []⟩])
    (.seq (.cond (.t 10) .skip
      (.exit 0))
    (.seq (.block 1 (.seq (.ops false [⟨(some 11), .idxA 1 (.t 7) (.t 9), none, []⟩,
        ⟨(some 12), .load false 1 (.t 11), none, []⟩,
        ⟨(some 5), .mv (.t 12), none, []⟩])
      (.seq (.seq (.ops false [⟨(some 13), .mv (.t 5), none, []⟩,
         ⟨(some 14), .call (.f 53) [(.t 13), (.k (iv 0)), (.k (iv 15))], none, []⟩,
         ⟨(some 15), .un .not (.t 14), none, []⟩,
         ⟨(some 16), .mv (.t 15), none, []⟩,
         ⟨(some 17), .mv (.t 5), (some (16, false)), []⟩,
         ⟨(some 18), .idxArr 16 1 (.t 3) (.t 17), (some (16, false)), []⟩,
         ⟨(some 19), .load false 1 (.t 18), (some (16, false)), []⟩,
         ⟨(some 20), .pick (.t 16) (.k (bv true)) (.t 19), none, []⟩])
       (.cond (.t 20) (.seq (.ops false [⟨(some 2), .mv (.k (bv false)), none, []⟩])
        .ret)
        .skip))
      (.ops false [⟨(some 21), .mv (.t 5), none, []⟩,
       ⟨(some 22), .idxArr 16 1 (.t 3) (.t 21), none, []⟩,
       ⟨none, .store 1 (.t 22) (.k (bv true)), none, []⟩]))))
    (.ops false [⟨(some 23), .bin .add (.t 9) (.k (iv 1)), none, []⟩,
     ⟨(some 9), .mv (.t 23), none, []⟩])))))))
 (.seq (.ops false [⟨(some 24), .mv (.t 0), none, []⟩,
   ⟨(some 25), .len false (.t 24), none, []⟩,
   ⟨(some 26), .bin .eql (.t 25) (.k (iv 16)), none, []⟩,
   ⟨(some 2), .mv (.t 26), none, []⟩])
 .ret))))⟩
theorem code33 : acode Try.prog hints 33 = some L33 := by kernel_rfl


theorem c_l04Has {s : St} [Wf s] {id off len : Nat} {xs : List Int} [hx : ArgE ic s id off xs] {a : Int} (hl : len ≤ xs.length := by first | omega | (simp; omega)) (hb : len ≤ 9223372036854775806 := by omega) : FnB 74 [.c (.sl id off len), iv a] s (a ∈ xs.take len) := by
  refine F_start code74 ?_
  repeat' (first
 | refine A_go rfl ?_ | refine A_ifT rfl rfl ?_ | refine A_ifF rfl rfl ?_
 | refine A_add rfl rfl rfl (by omega) ?_
 | ((first | refine A_lt rfl rfl rfl ?_ ?_ | refine A_eq rfl rfl rfl ?_ ?_) <;> intro hc <;> try first | contradiction | (exfalso; omega) | exact absurd rfl hc)
 | refine A_idxN1 rfl rfl rfl (by omega) ?_ | refine A_idx1 rfl rfl rfl (by omega) ?_
 | refine A_p (by rfl) rfl ?_
 | refine A_ldI rfl (by first | omega | (simp; done) | (simp; omega)) rfl ?_ | refine A_ldB rfl (by first | omega | (simp; done) | (simp; omega)) rfl ?_ | refine A_ld rfl (by rfl) rfl ?_
 | refine A_ret1 rfl (by exact (RP.t rfl RP.nil)) ?_)
  refine A_loop rfl [] (fun m fr L => ∃ i : Nat, m = len - i ∧ fr = [(0, .c (.sl id off len)), (1, iv a), (5, iv i)] ∧ L = [] ∧ i ≤ len ∧ a ∉ xs.take i) len ⟨0, rfl, rfl, rfl, by omega, by simp⟩ ?_
  rintro m fr L ⟨i, rfl, rfl, rfl, hi, ht⟩
  repeat' (first
 | refine A_go rfl ?_ | refine A_ifT rfl rfl ?_ | refine A_ifF rfl rfl ?_
 | refine A_add rfl rfl rfl (by omega) ?_
 | ((first | refine A_lt rfl rfl rfl ?_ ?_ | refine A_eq rfl rfl rfl ?_ ?_) <;> intro hc <;> try first | contradiction | (exfalso; omega) | exact absurd rfl hc)
 | refine A_idxN1 rfl rfl rfl (by omega) ?_ | refine A_idx1 rfl rfl rfl (by omega) ?_
 | refine A_p (by rfl) rfl ?_
 | refine A_ldI rfl (by first | omega | (simp; done) | (simp; omega)) rfl ?_ | refine A_ldB rfl (by first | omega | (simp; done) | (simp; omega)) rfl ?_ | refine A_ld rfl (by rfl) rfl ?_
 | refine A_ret1 rfl (by exact (RP.t rfl RP.nil)) ?_)
  · rename_i hc2
    exact R_t (by rw [← hc]; exact mem_take (by omega) (by omega))
  · refine A_round rfl [] (len - (i + 1)) (by omega) ?_
    refine ⟨i + 1, rfl, rfl, rfl, by omega, ?_⟩
    rw [List.take_add_one, getD_some 0 (by omega)]
    simp [ht]; exact fun e => hc e.symm
  · obtain rfl : len = i := by omega
    exact R_f ht
def TurnUpTo (xs : List Int) (i : Nat) : Prop := ∀ j, j < i → (0 ≤ xs.getD j 0 ∧ xs.getD j 0 ≤ 15) ∧ xs.getD j 0 ∉ xs.take j
def Turn (xs : List Int) : Prop := xs.length = 16 ∧ TurnUpTo xs xs.length
theorem TurnUpTo.succ {xs : List Int} {i : Nat} (h : TurnUpTo xs i) (h1 : 0 ≤ xs.getD i 0 ∧ xs.getD i 0 ≤ 15) (h2 : xs.getD i 0 ∉ xs.take i) : TurnUpTo xs (i + 1) := by
  intro j hj
  by_cases e : j = i
  · subst e; exact ⟨h1, h2⟩
  · exact h j (by omega)
theorem c_l04Table {s : St} [Wf s] {id_xs off_xs len_xs : Nat} {xs : List Int} [h_xs : ArgE ic s id_xs off_xs xs] (hl_xs : xs.length = len_xs := by first | rfl | simp | omega | (simp; omega)) (hb : len_xs ≤ 9223372036854775806 := by omega) : FnB 39 [.c (.sl id_xs off_xs len_xs)] s (Turn xs) := by
  refine F_start code39 ?_
  repeat' (first
 | refine A_go rfl ?_ | refine A_ifT rfl rfl ?_ | refine A_ifF rfl rfl ?_
 | refine A_offP rfl rfl ?_ | refine A_offH rfl rfl ?_ | refine A_off0 rfl rfl ?_
 | refine A_add rfl rfl rfl (by omega) ?_
 | ((first | refine A_lt rfl rfl rfl ?_ ?_ | refine A_eq rfl rfl rfl ?_ ?_) <;> intro hc <;> try first | contradiction | (exfalso; omega) | exact absurd rfl hc)
 | refine A_idxN1 rfl rfl rfl (by omega) ?_ | refine A_idx1 rfl rfl rfl (by omega) ?_
 | refine A_p (by rfl) rfl ?_
 | refine A_ldI rfl (by first | omega | (simp; done) | (simp; omega)) rfl ?_ | refine A_ldB rfl (by first | omega | (simp; done) | (simp; omega)) rfl ?_ | refine A_ld rfl (by rfl) rfl ?_
 | refine A_ret1 rfl (by exact (RP.t rfl RP.nil)) ?_)
  refine A_loop rfl [] (fun m fr L => ∃ i : Nat, m = len_xs - i ∧ fr = [(0, .c (.sl id_xs off_xs len_xs)), (3, iv i)] ∧ L = [] ∧ i ≤ len_xs ∧ TurnUpTo xs i) len_xs ⟨0, rfl, rfl, rfl, by omega, fun j hj => by omega⟩ ?_
  rintro m fr L ⟨i, rfl, rfl, rfl, hi, ht⟩
  repeat' (first
 | refine A_go rfl ?_ | refine A_ifT rfl rfl ?_ | refine A_ifF rfl rfl ?_
 | refine A_offP rfl rfl ?_ | refine A_offH rfl rfl ?_ | refine A_off0 rfl rfl ?_
 | refine A_add rfl rfl rfl (by omega) ?_
 | ((first | refine A_lt rfl rfl rfl ?_ ?_ | refine A_eq rfl rfl rfl ?_ ?_) <;> intro hc <;> try first | contradiction | (exfalso; omega) | exact absurd rfl hc)
 | refine A_idxN1 rfl rfl rfl (by omega) ?_ | refine A_idx1 rfl rfl rfl (by omega) ?_
 | refine A_slTo rfl rfl rfl (by omega) ?_
 | (refine A_callB rfl rfl (fun s H => c_l00In) ?_ ?_ <;> intro hc <;> try first | contradiction | (exfalso; omega) | exact absurd rfl hc | exact absurd (And.intro rfl rfl) hc | exact absurd (And.intro rfl (And.intro rfl rfl)) hc | exact absurd (Eq.trans (by assumption) (Eq.symm (by assumption))) hc)
 | (refine A_callB rfl rfl (fun s H => c_l04Has (xs := xs)) ?_ ?_ <;> intro hc <;> try first | contradiction | (exfalso; omega) | exact absurd rfl hc | exact absurd (And.intro rfl rfl) hc | exact absurd (And.intro rfl (And.intro rfl rfl)) hc | exact absurd (Eq.trans (by assumption) (Eq.symm (by assumption))) hc)
 | refine A_p (by rfl) rfl ?_
 | refine A_ldI rfl (by first | omega | (simp; done) | (simp; omega)) rfl ?_ | refine A_ldB rfl (by first | omega | (simp; done) | (simp; omega)) rfl ?_ | refine A_ld rfl (by rfl) rfl ?_
 | refine A_ret1 rfl (by exact (RP.t rfl RP.nil)) ?_)
  · rw [Int.toNat_natCast] at hc
    exact R_f fun h => (h.2 i (by omega)).2 hc
  · rw [Int.toNat_natCast] at hc
    refine A_round rfl [] (len_xs - (i + 1)) (by omega) ?_
    exact ⟨i + 1, rfl, rfl, rfl, by omega, ht.succ (by assumption) hc⟩
  · exact R_f fun h => hc (h.2 i (by omega)).1
  · obtain rfl : len_xs = i := by omega
    exact R_t ⟨by omega, by rw [hl_xs]; exact ht⟩
  · exact R_f fun h => by have := h.1; omega
instance argOwnE {α : Type} {enc : α → AC} {p t e : Nat} {xs : List α} {B : List Nat} {b s : St} {L : Objs} [H : Own B b s L] [h : Has L p (.rw t e (xs.map enc))] : ArgE enc s p 0 xs := by
  obtain ⟨i, hi⟩ := h.ex
  refine ⟨H.lt hi, ?_⟩
  rcases H.obj i _ _ hi with ⟨g1, g2, g3, g4⟩ | ⟨g1, t', e', g2⟩
  · simp only [srcCells]
    rw [if_neg (by omega)]
    simp only [cellsAt, cellsOf, g4, Option.bind_some, cut, Nat.zero_add, Nat.mul_one, List.length_map, Nat.le_refl, if_true, List.drop_zero, Option.some.injEq]
    exact List.take_of_length_le (by simp)
  · simp only [AObj.rw.injEq, List.map_eq_nil_iff] at g2
    obtain ⟨_, _, rfl⟩ := g2
    have : p = 0 ∨ p = 1 := by omega
    simp [srcCells, this]
instance lookOwnE {α : Type} {enc : α → AC} {B : List Nat} {b : St} {L : Objs} {p t e : Nat} {xs : List α} [h : Has L p (.rw t e (xs.map enc))] : LookE enc B b L p 0 xs := ⟨fun s H => argOwnE (t := t) (e := e)⟩
theorem c_implTurn {s : St} [Wf s] {id_xs off_xs len_xs : Nat} {xs : List Int} [h_xs : ArgE ic s id_xs off_xs xs] (hl_xs : xs.length = len_xs := by first | rfl | simp | omega | (simp; omega)) (hb : len_xs ≤ 9223372036854775806 := by omega) : FnB 33 [.c (.sl id_xs off_xs len_xs)] s (Turn xs) := by
  refine F_start code33 ?_
  repeat' (first
 | refine A_go rfl ?_ | refine A_ifT rfl rfl ?_ | refine A_ifF rfl rfl ?_
 | refine A_offP rfl rfl ?_ | refine A_offH rfl rfl ?_ | refine A_off0 rfl rfl ?_
 | refine A_add rfl rfl rfl (by omega) ?_
 | ((first | refine A_lt rfl rfl rfl ?_ ?_ | refine A_eq rfl rfl rfl ?_ ?_) <;> intro hc <;> try first | contradiction | (exfalso; omega) | exact absurd rfl hc)
 | refine A_idxN1 rfl rfl rfl (by omega) ?_ | refine A_idx1 rfl rfl rfl (by omega) ?_
 | refine A_idxArr1 rfl rfl rfl (by omega) ?_
 | refine A_mk3 rfl rfl rfl rfl ?_ | refine A_mk23 rfl rfl rfl ?_ | refine A_mk2 rfl rfl rfl ?_ | refine A_mk13 rfl rfl ?_ | refine A_p (by rfl) rfl ?_
 | refine A_ldI rfl (by first | omega | (simp; done) | (simp; omega)) rfl ?_ | refine A_ldB rfl (by first | omega | (simp; done) | (simp; omega)) rfl ?_ | refine A_ld rfl (by rfl) rfl ?_
 | refine A_st rfl rfl rfl ?_ | refine A_stE rfl rfl (by first | omega | (simp; done) | (simp; omega)) rfl ?_
 | refine A_stW rfl rfl (by simp) rfl ?_
 | ((first | refine A_alloc rfl ?_) <;> intro pz hpz)
 | refine A_ret1 rfl (by exact (RP.t rfl RP.nil)) ?_)
  refine A_loop rfl [pz] (fun m fr L => ∃ (i : Nat) (bs : List Bool), m = len_xs - i ∧ fr = [(0, .c (.sl id_xs off_xs len_xs)), (3, .c (.ptr pz 0)), (7, .c (.sl id_xs off_xs len_xs)), (8, iv len_xs), (9, iv i)] ∧ L = [(pz, .rw 86 16 (bs.map bc))] ∧ i ≤ len_xs ∧ TurnUpTo xs i ∧ bs.length = 16 ∧ ∀ x : Int, 0 ≤ x ∧ x ≤ 15 → (bs.getD x.toNat false = true ↔ x ∈ xs.take i)) len_xs ⟨0, List.replicate 16 false, rfl, rfl, rfl, by omega, fun j hj => by omega, by simp, fun x hx => by rw [List.getD_eq_getElem?_getD, List.getElem?_replicate]; split <;> simp⟩ ?_
  rintro m fr L ⟨i, bs, rfl, rfl, rfl, hi, ht, hbl, hbs⟩
  repeat' (first
 | refine A_go rfl ?_ | refine A_ifT rfl rfl ?_ | refine A_ifF rfl rfl ?_
 | refine A_offP rfl rfl ?_ | refine A_offH rfl rfl ?_ | refine A_off0 rfl rfl ?_
 | refine A_add rfl rfl rfl (by omega) ?_
 | ((first | refine A_lt rfl rfl rfl ?_ ?_ | refine A_eq rfl rfl rfl ?_ ?_) <;> intro hc <;> try first | contradiction | (exfalso; omega) | exact absurd rfl hc)
 | refine A_idxN1 rfl rfl rfl (by omega) ?_ | refine A_idx1 rfl rfl rfl (by omega) ?_
 | refine A_idxArr1 rfl rfl rfl (by omega) ?_
 | (refine A_callB rfl rfl (fun s H => c_within) ?_ ?_ <;> intro hc <;> try first | contradiction | (exfalso; omega) | exact absurd rfl hc | exact absurd (And.intro rfl rfl) hc | exact absurd (And.intro rfl (And.intro rfl rfl)) hc | exact absurd (Eq.trans (by assumption) (Eq.symm (by assumption))) hc)
 | (refine A_ifB rfl rfl ?_ ?_ <;> intro hc)
 | refine A_mk3 rfl rfl rfl rfl ?_ | refine A_mk23 rfl rfl rfl ?_ | refine A_mk2 rfl rfl rfl ?_ | refine A_mk13 rfl rfl ?_ | refine A_p (by rfl) rfl ?_
 | refine A_ldI rfl (by first | omega | (simp; done) | (simp; omega)) rfl ?_ | refine A_ldB rfl (by first | omega | (simp; done) | (simp; omega)) rfl ?_ | refine A_ld rfl (by rfl) rfl ?_
 | refine A_st rfl rfl rfl ?_ | refine A_stE rfl rfl (by first | omega | (simp; done) | (simp; omega)) rfl ?_
 | refine A_stW rfl rfl (by simp) rfl ?_
 | ((first | refine A_alloc rfl ?_) <;> intro pz hpz)
 | refine A_ret1 rfl (by exact (RP.t rfl RP.nil)) ?_)
  · have h2 := (hbs _ (by assumption)).1 hc
    exact R_f fun h => (h.2 i (by omega)).2 h2
  · rename_i hin
    have h2 : xs.getD i 0 ∉ xs.take i := fun h => by rw [(hbs _ hin).2 h] at hc; cases hc
    refine A_round rfl [pz] (len_xs - (i + 1)) (by omega) ?_
    refine ⟨i + 1, _, rfl, rfl, rfl, by omega, ht.succ hin h2, by simp [hbl], fun x hx => ?_⟩
    rw [getD_set (by omega), List.take_add_one, getD_some 0 (by omega)]
    simp only [Option.toList_some, List.mem_append, List.mem_singleton]
    split
    · rename_i e
      have : x = xs.getD i 0 := by omega
      simp [this]
    · rename_i e
      rw [hbs x hx]
      constructor
      · exact .inl
      · rintro (h | rfl)
        · exact h
        · exact absurd rfl e
  · exact R_f fun h => hc (h.2 i (by omega)).1
  · obtain rfl : len_xs = i := by omega
    exact R_t ⟨by omega, by rw [hl_xs]; exact ht⟩
  · exact R_f fun h => by have := h.1; omega

end Go.Proofs.Ytlhidckolillaaa
