/- The ways between pairs of ends. -/
import Derived.Test.YtkeabhhndcpejaaXreach
import Derived.Test.YtkeabhhndcpejaaXpairs
import Derived.Test.YtkeabhhndcpejaaXsearch
import Derived.Test.YtkeabhhndcpejaaXpart
import Derived.Test.YtkeabhhndcpejaaFB
namespace Go.Proofs.Ytkeabhhndcpejaa
open Go Go.RowKit
set_option linter.unusedVariables false
set_option linter.unusedSimpArgs false
set_option maxRecDepth 100000
set_option maxHeartbeats 8000000
-- (impl.Rule).pairWays
def L116 : AFun := ⟨47, [],
 (.seq (.ops false [⟨(some 4), .box 28 (.t 0), none, []⟩])
 (.seq (.ops false [⟨(some 14), .fieldA 0 (.t 4), none, []⟩,
   ⟨(some 15), .load false 1 (.t 14), none, []⟩,
   ⟨(some 16), .mv (.k (iv 0)), none, []⟩])
 (.block 0 (.loop [1, 2, 3, 4, 15, 16] (.seq (.ops false [⟨(some 17), .bin .lss (.t 16) (.t 15), none, []⟩])
   (.seq (.cond (.t 17) .skip
     (.exit 0))
   (.seq (.block 1 (.seq (.ops false [⟨(some 18), .mv (.t 16), none, []⟩,
       ⟨(some 8), .mv (.t 18), none, []⟩])
     (.seq (.ops false [⟨(some 20), .load true 3 (.t 4), none, []⟩,
       ⟨(some 21), .mv (.t 1), none, []⟩,
       ⟨(some 22), .mv (.t 8), none, []⟩,
       ⟨(some 23), .call (.f 69) [(.t 20), (.t 21), (.t 22)], none, []⟩,
       ⟨(some 19), .mv (.t 23), none, []⟩,
       ⟨(some 24), .ext (.t 19) 0, none, []⟩,
       ⟨(some 25), .ext (.t 19) 1, none, []⟩,
       ⟨(some 9), .mv (.t 24), none, []⟩,
       ⟨(some 10), .mv (.t 25), none, []⟩])
     (.seq (.ops false [⟨(some 26), .fieldA 0 (.t 4), none, []⟩,
       ⟨(some 27), .load false 1 (.t 26), none, []⟩,
       ⟨(some 28), .mv (.k (iv 0)), none, []⟩])
     (.block 2 (.loop [1, 2, 3, 4, 9, 10, 15, 16, 27, 28] (.seq (.ops false [⟨(some 29), .bin .lss (.t 28) (.t 27), none, []⟩])
       (.seq (.cond (.t 29) .skip
         (.exit 2))
       (.seq (.block 3 (.seq (.ops false [⟨(some 30), .mv (.t 28), none, []⟩,
           ⟨(some 11), .mv (.t 30), none, []⟩])
         (.seq (.ops false [⟨(some 32), .load true 3 (.t 4), none, []⟩,
           ⟨(some 33), .mv (.t 2), none, []⟩,
           ⟨(some 34), .mv (.t 11), none, []⟩,
           ⟨(some 35), .call (.f 69) [(.t 32), (.t 33), (.t 34)], none, []⟩,
           ⟨(some 31), .mv (.t 35), none, []⟩,
           ⟨(some 36), .ext (.t 31) 0, none, []⟩,
           ⟨(some 37), .ext (.t 31) 1, none, []⟩,
           ⟨(some 12), .mv (.t 36), none, []⟩,
           ⟨(some 13), .mv (.t 37), none, []⟩])
         (.seq (.ops false [⟨(some 38), .mv (.t 10), none, []⟩,
           ⟨(some 39), .mv (.t 13), none, []⟩,
           ⟨(some 40), .bin .eql (.t 38) (.t 39), none, []⟩])
         (.cond (.t 40) (.ops false [⟨(some 41), .mv (.t 3), none, []⟩,
           ⟨(some 42), .mv (.t 9), none, []⟩,
           ⟨(some 43), .mv (.t 12), none, []⟩,
           ⟨(some 44), .call (.t 41) [(.t 42), (.t 43)], none, []⟩])
          .skip)))))
       (.ops false [⟨(some 45), .bin .add (.t 28) (.k (iv 1)), none, []⟩,
        ⟨(some 28), .mv (.t 45), none, []⟩]))))))))))
   (.ops false [⟨(some 46), .bin .add (.t 16) (.k (iv 1)), none, []⟩,
    ⟨(some 16), .mv (.t 46), none, []⟩]))))))))⟩
theorem code116 : acode Try.prog hints 116 = some L116 := by kernel_rfl

-- (impl.Rule).pairGraph$1
def L117 : AFun := ⟨53, [],
 (.seq (.ops true [⟨(some 15), .load false 1 (.t 2), none, []⟩,
   ⟨(some 16), .load false 1 (.t 3), none, []⟩,
   ⟨(some 17), .load false 1 (.t 4), none, []⟩,
   ⟨(some 18), .bin .mul (.t 16) (.t 17), none, []⟩,
   ⟨(some 19), .load false 1 (.t 5), none, []⟩,
   ⟨(some 20), .bin .add (.t 18) (.t 19), none, []⟩,
   ⟨(some 21), .idxA 1 (.t 15) (.t 20), none, []⟩,
   ⟨(some 22), .load false 1 (.t 21), none, []⟩,
   ⟨(some 23), .mv (.t 0), none, []⟩,
   ⟨(some 24), .load false 1 (.t 4), none, []⟩,
   ⟨(some 25), .bin .mul (.t 23) (.t 24), none, []⟩,
   ⟨(some 26), .mv (.t 1), none, []⟩,
   ⟨(some 27), .bin .add (.t 25) (.t 26), none, []⟩,
   ⟨(some 28), .buildS 2 1 1 [.int .i64 0] [(0, 1, (.t 27))], none, []⟩,
   ⟨(some 29), .append 2 1 8 (.t 22) (.t 28), none, []⟩,
   ⟨(some 9), .load false 1 (.t 2), none, [0]⟩,
   ⟨(some 10), .load false 1 (.t 3), none, [0]⟩,
   ⟨(some 11), .load false 1 (.t 4), none, [0]⟩,
   ⟨(some 12), .bin .mul (.t 10) (.t 11), none, []⟩,
   ⟨(some 13), .load false 1 (.t 5), none, [0]⟩,
   ⟨(some 14), .bin .add (.t 12) (.t 13), none, []⟩,
   ⟨(some 30), .idxA 1 (.t 9) (.t 14), none, []⟩,
   ⟨none, .store 1 (.t 30) (.t 29), none, []⟩])
 (.ops true [⟨(some 37), .load false 1 (.t 6), none, []⟩,
  ⟨(some 38), .mv (.t 0), none, []⟩,
  ⟨(some 39), .load false 1 (.t 4), none, []⟩,
  ⟨(some 40), .bin .mul (.t 38) (.t 39), none, []⟩,
  ⟨(some 41), .mv (.t 1), none, []⟩,
  ⟨(some 42), .bin .add (.t 40) (.t 41), none, []⟩,
  ⟨(some 43), .idxA 1 (.t 37) (.t 42), none, []⟩,
  ⟨(some 44), .load false 1 (.t 43), none, []⟩,
  ⟨(some 45), .load false 1 (.t 3), none, []⟩,
  ⟨(some 46), .load false 1 (.t 4), none, []⟩,
  ⟨(some 47), .bin .mul (.t 45) (.t 46), none, []⟩,
  ⟨(some 48), .load false 1 (.t 5), none, []⟩,
  ⟨(some 49), .bin .add (.t 47) (.t 48), none, []⟩,
  ⟨(some 50), .buildS 2 1 1 [.int .i64 0] [(0, 1, (.t 49))], none, []⟩,
  ⟨(some 51), .append 2 1 8 (.t 44) (.t 50), none, []⟩,
  ⟨(some 31), .load false 1 (.t 6), none, [0]⟩,
  ⟨(some 32), .mv (.t 0), none, []⟩,
  ⟨(some 33), .load false 1 (.t 4), none, [0]⟩,
  ⟨(some 34), .bin .mul (.t 32) (.t 33), none, []⟩,
  ⟨(some 35), .mv (.t 1), none, []⟩,
  ⟨(some 36), .bin .add (.t 34) (.t 35), none, []⟩,
  ⟨(some 52), .idxA 1 (.t 31) (.t 36), none, []⟩,
  ⟨none, .store 1 (.t 52) (.t 51), none, []⟩]))⟩
theorem code117 : acode Try.prog hints 117 = some L117 := by kernel_rfl

-- (impl.Rule).pairGraph
def L93 : AFun := ⟨36, [.t 2, .t 3],
 (.seq (.ops false [⟨(some 1), .box 28 (.t 0), none, []⟩,
   ⟨(some 2), .mv (.k (.c (.sl 0 0 0))), none, []⟩,
   ⟨(some 3), .mv (.k (.c (.sl 0 0 0))), none, []⟩])
 (.seq (.ops false [⟨(some 9), .load true 3 (.t 1), none, []⟩,
   ⟨(some 10), .call (.f 68) [(.t 9)], none, []⟩,
   ⟨(some 4), .alloc 2 [.int .i64 0], none, []⟩,
   ⟨none, .store 1 (.t 4) (.t 10), none, []⟩])
 (.seq (.ops true [⟨(some 11), .load false 1 (.t 4), none, []⟩,
   ⟨(some 12), .load false 1 (.t 4), none, []⟩,
   ⟨(some 13), .bin .mul (.t 11) (.t 12), none, []⟩,
   ⟨(some 14), .makeS 22 1 24 [.sl 0 0 0] (.t 13) (.t 13), none, []⟩,
   ⟨(some 5), .alloc 48 [.sl 0 0 0], none, []⟩,
   ⟨(some 6), .alloc 48 [.sl 0 0 0], none, []⟩,
   ⟨none, .store 1 (.t 5) (.t 14), none, []⟩,
   ⟨(some 15), .load false 1 (.t 4), none, [0]⟩,
   ⟨(some 16), .load false 1 (.t 4), none, [0]⟩,
   ⟨(some 17), .bin .mul (.t 15) (.t 16), none, []⟩,
   ⟨(some 18), .makeS 22 1 24 [.sl 0 0 0] (.t 17) (.t 17), none, []⟩,
   ⟨none, .store 1 (.t 6) (.t 18), none, []⟩])
 (.seq (.seq (.ops false [⟨(some 19), .load false 1 (.t 4), none, []⟩,
    ⟨(some 20), .mv (.k (iv 0)), none, []⟩])
  (.block 0 (.loop [1, 4, 5, 6, 19, 20] (.seq (.ops false [⟨(some 21), .bin .lss (.t 20) (.t 19), none, []⟩])
    (.seq (.cond (.t 21) .skip
      (.exit 0))
    (.seq (.block 1 (.seq (.ops false [⟨(some 22), .mv (.t 20), none, []⟩,
        ⟨(some 7), .alloc 2 [.int .i64 0], none, []⟩,
        ⟨none, .store 1 (.t 7) (.t 22), none, []⟩])
      (.seq (.ops false [⟨(some 23), .load false 1 (.t 4), none, []⟩,
        ⟨(some 24), .mv (.k (iv 0)), none, []⟩])
      (.block 2 (.loop [1, 4, 5, 6, 7, 19, 20, 23, 24] (.seq (.ops false [⟨(some 25), .bin .lss (.t 24) (.t 23), none, []⟩])
        (.seq (.cond (.t 25) .skip
          (.exit 2))
        (.seq (.block 3 (.seq (.ops false [⟨(some 26), .mv (.t 24), none, []⟩,
            ⟨(some 8), .alloc 2 [.int .i64 0], none, []⟩,
            ⟨none, .store 1 (.t 8) (.t 26), none, []⟩])
          (.ops false [⟨(some 27), .load true 3 (.t 1), none, []⟩,
           ⟨(some 28), .load false 1 (.t 7), none, []⟩,
           ⟨(some 29), .load false 1 (.t 8), none, []⟩,
           ⟨(some 30), .mkFn 117 [(.t 5), (.t 7), (.t 4), (.t 8), (.t 6)], none, []⟩,
           ⟨(some 31), .call (.f 116) [(.t 27), (.t 28), (.t 29), (.t 30)], none, []⟩])))
        (.ops false [⟨(some 32), .bin .add (.t 24) (.k (iv 1)), none, []⟩,
         ⟨(some 24), .mv (.t 32), none, []⟩])))))))))
    (.ops false [⟨(some 33), .bin .add (.t 20) (.k (iv 1)), none, []⟩,
     ⟨(some 20), .mv (.t 33), none, []⟩])))))))
 (.seq (.ops true [⟨(some 34), .load false 1 (.t 5), none, []⟩,
   ⟨(some 35), .load false 1 (.t 6), none, []⟩,
   ⟨(some 2), .mv (.t 34), none, []⟩,
   ⟨(some 3), .mv (.t 35), none, []⟩])
 .ret)))))⟩
theorem code93 : acode Try.prog hints 93 = some L93 := by kernel_rfl

-- (impl.Rule).hasTwice
def L92 : AFun := ⟨20, [.t 2],
 (.seq (.ops false [⟨(some 1), .box 28 (.t 0), none, []⟩,
   ⟨(some 2), .mv (.k (bv false)), none, []⟩])
 (.seq (.seq (.ops false [⟨(some 5), .fieldA 2 (.t 1), none, []⟩,
    ⟨(some 6), .load false 1 (.t 5), none, []⟩,
    ⟨(some 7), .len false (.t 6), none, []⟩,
    ⟨(some 8), .mv (.k (iv 0)), none, []⟩])
  (.block 0 (.loop [1, 6, 7, 8] (.seq (.ops false [⟨(some 9), .bin .lss (.t 8) (.t 7), none, []⟩])
    (.seq (.cond (.t 9) .skip
      (.exit 0))
    (.seq (.block 1 (.seq (.ops false [⟨(some 10), .mv (.t 8), none, []⟩,
        ⟨(some 11), .idxA 1 (.t 6) (.t 8), none, []⟩,
        ⟨(some 12), .load false 1 (.t 11), none, []⟩,
        ⟨(some 3), .mv (.t 10), none, []⟩,
        ⟨(some 4), .mv (.t 12), none, []⟩])
      (.seq (.ops false [⟨(some 13), .fieldA 2 (.t 1), none, []⟩,
        ⟨(some 14), .load false 1 (.t 13), none, []⟩,
        ⟨(some 15), .mv (.t 3), none, []⟩,
        ⟨(some 16), .slice 1 (.t 14) none (some (.t 15)), none, []⟩,
        ⟨(some 17), .mv (.t 4), none, []⟩,
        ⟨(some 18), .call (.f 115) [(.t 16), (.t 17)], none, []⟩])
      (.cond (.t 18) (.seq (.ops false [⟨(some 2), .mv (.k (bv true)), none, []⟩])
       .ret)
       .skip))))
    (.ops false [⟨(some 19), .bin .add (.t 8) (.k (iv 1)), none, []⟩,
     ⟨(some 8), .mv (.t 19), none, []⟩])))))))
 (.seq (.ops false [⟨(some 2), .mv (.k (bv false)), none, []⟩])
 .ret)))⟩
theorem code92 : acode Try.prog hints 92 = some L92 := by kernel_rfl


instance delRow {zs : List Row} {i : Nat} [h : Fact' (i < zs.length)] : Del (mobs zs) (zs.getD i Row.nil).id (ints (zs.getD i Row.nil).xs) (mobs (zs.eraseIdx i)) :=
  ⟨i, by rw [List.getElem?_map, getD_some Row.nil h.h]; rfl, by simp only [mobs, List.eraseIdx_eq_take_drop_succ, List.map_append, List.map_take, List.map_drop]⟩
theorem mobs_set {zs : List Row} {i : Nat} {r : Row} (h : i < zs.length) : (mobs (zs.set i r)).Perm ((r.id, ints r.xs) :: mobs (zs.eraseIdx i)) := by
  rw [List.set_eq_take_append_cons_drop, if_pos h, List.eraseIdx_eq_take_drop_succ, mobs_app, mobs_app]
  exact List.perm_middle
/-- A function is called for all ways from a pair of ends. -/
theorem c_pairWays {s : St} [Wf s] {S w E a b fn : Nat} {re : Int} {caps : List (Nat × Nat)} {id_xs off_xs len_xs : Nat} {xs : List Int} [h_xs : ArgE ic s id_xs off_xs xs] (hl_xs : xs.length = len_xs := by first | rfl | simp | omega | (simp; omega)) {ids : List Nat} {N0 : Objs} (hO : Own ids s s N0) [hni : NotIn id_xs ids] (Enc : Nat → Objs → Prop) (h0 : Enc 0 N0) (hE : E = S ^ (w - 1)) (hl : xs.length = E * S) (ha : a < E) (hb : b < E)
    (hskip : ∀ x y N, x < S → y < S → xs.getD (a * S + x) 0 ≠ xs.getD (b * S + y) 0 → Enc (x * S + y) N → Enc (x * S + (y + 1)) N)
    (hdo : ∀ x y, x < S → y < S → xs.getD (a * S + x) 0 = xs.getD (b * S + y) 0 → ∀ s1 M N, Own ids s s1 (M ++ N) → Enc (x * S + y) N → Own (N.map Prod.fst) s1 s1 N → Fn (N.map Prod.fst) fn ([iv ((a * S + x) % E : Nat), iv ((b * S + y) % E : Nat)] ++ caps.map fun p => AV.c (.ptr p.1 p.2)) s1 fun _ N' => Enc (x * S + (y + 1)) N')
    (hS : 2 ≤ S ∧ S ≤ 3 := by omega) (hw : 2 * re + 1 = w ∧ 1 ≤ w ∧ w ≤ 5 := by omega) (hEb : 1 ≤ E ∧ E ≤ 81 := by omega) :
    Fn ids 116 [.agg [ic S, ic re, .sl id_xs off_xs len_xs], iv a, iv b, .c (.fn fn caps)] s fun _ N => Enc (S * S) N := by
  refine F_startB code116 hO ?_
  repeat' (first
 | refine A_go rfl ?_ | refine A_ifT rfl rfl ?_ | refine A_ifF rfl rfl ?_ | refine A_offP rfl rfl ?_ | refine A_offH rfl rfl ?_ | refine A_off0 rfl rfl ?_
 | refine A_add rfl rfl rfl (by omega) ?_ | refine A_sub rfl rfl rfl (by omega) ?_ | refine A_mul rfl rfl rfl (by omega) ?_ | refine A_rem rfl rfl rfl (by omega) ?_ | refine A_remT rfl rfl rfl (by omega) ?_ | refine A_quo rfl rfl rfl (by omega) ?_
 | ((first | refine A_lt rfl rfl rfl ?_ ?_ | refine A_le rfl rfl rfl ?_ ?_ | refine A_gt rfl rfl rfl ?_ ?_ | refine A_ge rfl rfl rfl ?_ ?_ | refine A_eq rfl rfl rfl ?_ ?_ | refine A_ne rfl rfl rfl ?_ ?_ | refine A_beq rfl rfl rfl ?_ ?_) <;> intro hc <;> try first | contradiction | (exfalso; omega) | exact absurd rfl hc)
 | refine A_idxN1 rfl rfl rfl (by omega) ?_ | refine A_idx1 rfl rfl rfl (by omega) ?_ | refine A_idxArr1 rfl rfl rfl (by omega) ?_
 | refine A_fld rfl rfl ?_ | refine A_mk3 rfl rfl rfl rfl ?_ | refine A_mk23 rfl rfl rfl ?_ | refine A_mk2 rfl rfl rfl ?_ | refine A_mk13 rfl rfl ?_ | refine A_p (by rfl) rfl ?_
 | refine A_ldI rfl (by first | omega | (simp; done) | (simp; omega)) rfl ?_ | refine A_ldB rfl (by first | omega | (simp; done) | (simp; omega)) rfl ?_ | refine A_ld rfl (by rfl) rfl ?_ | refine A_ldW rfl (by simp) rfl ?_
 | refine A_st rfl rfl rfl ?_ | refine A_stW rfl rfl (by simp) rfl ?_ | refine A_stE rfl rfl (by first | omega | (simp; done) | (simp; omega)) rfl ?_
 | ((first | refine A_alloc rfl ?_ | refine A_box rfl rfl ?_ | refine A_boxC rfl rfl ?_ | refine A_makeN rfl rfl rfl (by omega) ?_ | refine A_make rfl rfl rfl (by omega) ?_ | refine A_bld1 rfl rfl ?_ | refine A_bld2 rfl rfl rfl ?_ | refine A_bld4 rfl rfl rfl rfl rfl ?_) <;> intro pz hpz)
 | refine A_bld0 rfl ?_ | (refine A_app rfl rfl rfl (by first | omega | (simp; done) | (simp; omega)) (by first | omega | (simp; done) | (simp; omega)) (by omega) ?_; intro pz) | (refine A_appN (enc := ic) rfl (by decide) rfl rfl (by first | omega | (simp; done) | (simp; omega)) (by omega) ?_; intro pz)
 | refine A_chk1 rfl rfl rfl ?_ | refine A_chk2 rfl rfl rfl rfl ?_ | refine A_chk3 rfl rfl rfl rfl rfl ?_ | refine A_chk4 rfl rfl rfl rfl rfl rfl ?_ | refine A_chkI rfl (by assumption) rfl (by simp) ?_
 | refine A_ret1 rfl (by first | exact (RP.t rfl RP.nil) | exact (RP.c rfl inferInstance rfl (by simp) RP.nil)) ?_ | refine A_ret rfl (by first | exact (RP.t rfl (RP.t rfl RP.nil)) | exact (RP.c rfl inferInstance rfl (by simp) (RP.t rfl RP.nil)) | exact (RP.t rfl (RP.t rfl (RP.t rfl RP.nil))) | exact (RP.c rfl inferInstance rfl (by simp) (RP.t rfl (RP.t rfl RP.nil))) | exact (RP.c rfl inferInstance rfl (by simp) (RP.t rfl (RP.t rfl (RP.t rfl (RP.t rfl RP.nil)))))) ?_ | refine A_ret0 rfl ?_)
  obtain ⟨q, hEq⟩ : ∃ p, p = pz := ⟨_, rfl⟩; subst hEq
  refine A_loopX rfl (fun m fr L => ∃ (x : Nat) (N : Objs), m = S - x ∧ fr = [(1, iv a), (2, iv b), (3, .c (.fn fn caps)), (4, .c (.ptr q 0)), (15, iv S), (16, iv x)] ∧ L = (q, .rw 28 3 [ic S, ic re, .sl id_xs off_xs len_xs]) :: N ∧ x ≤ S ∧ Enc (x * S) N) (n := S) ⟨(q, .rw 28 3 [ic S, ic re, .sl id_xs off_xs len_xs]) :: N0, ⟨0, N0, rfl, rfl, rfl, by omega, by rw [Nat.zero_mul]; exact h0⟩, inferInstance⟩ ?_
  rintro m fr L ⟨x, N, rfl, rfl, rfl, hx, hN⟩
  by_cases hx' : x < S
  case neg =>
    obtain rfl : S = x := by omega
    repeat' (first
 | refine A_go rfl ?_ | refine A_ifT rfl rfl ?_ | refine A_ifF rfl rfl ?_ | refine A_offP rfl rfl ?_ | refine A_offH rfl rfl ?_ | refine A_off0 rfl rfl ?_
 | refine A_add rfl rfl rfl (by omega) ?_ | refine A_sub rfl rfl rfl (by omega) ?_ | refine A_mul rfl rfl rfl (by omega) ?_ | refine A_rem rfl rfl rfl (by omega) ?_ | refine A_remT rfl rfl rfl (by omega) ?_ | refine A_quo rfl rfl rfl (by omega) ?_
 | ((first | refine A_lt rfl rfl rfl ?_ ?_ | refine A_le rfl rfl rfl ?_ ?_ | refine A_gt rfl rfl rfl ?_ ?_ | refine A_ge rfl rfl rfl ?_ ?_ | refine A_eq rfl rfl rfl ?_ ?_ | refine A_ne rfl rfl rfl ?_ ?_ | refine A_beq rfl rfl rfl ?_ ?_) <;> intro hc <;> try first | contradiction | (exfalso; omega) | exact absurd rfl hc)
 | refine A_idxN1 rfl rfl rfl (by omega) ?_ | refine A_idx1 rfl rfl rfl (by omega) ?_ | refine A_idxArr1 rfl rfl rfl (by omega) ?_
 | refine A_fld rfl rfl ?_ | refine A_mk3 rfl rfl rfl rfl ?_ | refine A_mk23 rfl rfl rfl ?_ | refine A_mk2 rfl rfl rfl ?_ | refine A_mk13 rfl rfl ?_ | refine A_p (by rfl) rfl ?_
 | refine A_ldI rfl (by first | omega | (simp; done) | (simp; omega)) rfl ?_ | refine A_ldB rfl (by first | omega | (simp; done) | (simp; omega)) rfl ?_ | refine A_ld rfl (by rfl) rfl ?_ | refine A_ldW rfl (by simp) rfl ?_
 | refine A_st rfl rfl rfl ?_ | refine A_stW rfl rfl (by simp) rfl ?_ | refine A_stE rfl rfl (by first | omega | (simp; done) | (simp; omega)) rfl ?_
 | ((first | refine A_alloc rfl ?_ | refine A_box rfl rfl ?_ | refine A_boxC rfl rfl ?_ | refine A_makeN rfl rfl rfl (by omega) ?_ | refine A_make rfl rfl rfl (by omega) ?_ | refine A_bld1 rfl rfl ?_ | refine A_bld2 rfl rfl rfl ?_ | refine A_bld4 rfl rfl rfl rfl rfl ?_) <;> intro pz hpz)
 | refine A_bld0 rfl ?_ | (refine A_app rfl rfl rfl (by first | omega | (simp; done) | (simp; omega)) (by first | omega | (simp; done) | (simp; omega)) (by omega) ?_; intro pz) | (refine A_appN (enc := ic) rfl (by decide) rfl rfl (by first | omega | (simp; done) | (simp; omega)) (by omega) ?_; intro pz)
 | refine A_chk1 rfl rfl rfl ?_ | refine A_chk2 rfl rfl rfl rfl ?_ | refine A_chk3 rfl rfl rfl rfl rfl ?_ | refine A_chk4 rfl rfl rfl rfl rfl rfl ?_ | refine A_chkI rfl (by assumption) rfl (by simp) ?_
 | refine A_ret1 rfl (by first | exact (RP.t rfl RP.nil) | exact (RP.c rfl inferInstance rfl (by simp) RP.nil)) ?_ | refine A_ret rfl (by first | exact (RP.t rfl (RP.t rfl RP.nil)) | exact (RP.c rfl inferInstance rfl (by simp) (RP.t rfl RP.nil)) | exact (RP.t rfl (RP.t rfl (RP.t rfl RP.nil))) | exact (RP.c rfl inferInstance rfl (by simp) (RP.t rfl (RP.t rfl RP.nil))) | exact (RP.c rfl inferInstance rfl (by simp) (RP.t rfl (RP.t rfl (RP.t rfl (RP.t rfl RP.nil)))))) ?_ | refine A_ret0 rfl ?_)
    exact ⟨N, hN, inferInstance⟩
  repeat' (first
 | refine A_go rfl ?_ | refine A_ifT rfl rfl ?_ | refine A_ifF rfl rfl ?_ | refine A_offP rfl rfl ?_ | refine A_offH rfl rfl ?_ | refine A_off0 rfl rfl ?_
 | refine A_add rfl rfl rfl (by omega) ?_ | refine A_sub rfl rfl rfl (by omega) ?_ | refine A_mul rfl rfl rfl (by omega) ?_ | refine A_rem rfl rfl rfl (by omega) ?_ | refine A_remT rfl rfl rfl (by omega) ?_ | refine A_quo rfl rfl rfl (by omega) ?_
 | ((first | refine A_lt rfl rfl rfl ?_ ?_ | refine A_le rfl rfl rfl ?_ ?_ | refine A_gt rfl rfl rfl ?_ ?_ | refine A_ge rfl rfl rfl ?_ ?_ | refine A_eq rfl rfl rfl ?_ ?_ | refine A_ne rfl rfl rfl ?_ ?_ | refine A_beq rfl rfl rfl ?_ ?_) <;> intro hc <;> try first | contradiction | (exfalso; omega) | exact absurd rfl hc)
 | refine A_idxN1 rfl rfl rfl (by omega) ?_ | refine A_idx1 rfl rfl rfl (by omega) ?_ | refine A_idxArr1 rfl rfl rfl (by omega) ?_
 | refine A_callV rfl rfl (fun s H => c_way (a := a) (d := x) (hE := hE) (hl := hl)) ?_
 | refine A_fld rfl rfl ?_ | refine A_mk3 rfl rfl rfl rfl ?_ | refine A_mk23 rfl rfl rfl ?_ | refine A_mk2 rfl rfl rfl ?_ | refine A_mk13 rfl rfl ?_ | refine A_p (by rfl) rfl ?_
 | refine A_ldI rfl (by first | omega | (simp; done) | (simp; omega)) rfl ?_ | refine A_ldB rfl (by first | omega | (simp; done) | (simp; omega)) rfl ?_ | refine A_ld rfl (by rfl) rfl ?_ | refine A_ldW rfl (by simp) rfl ?_
 | refine A_st rfl rfl rfl ?_ | refine A_stW rfl rfl (by simp) rfl ?_ | refine A_stE rfl rfl (by first | omega | (simp; done) | (simp; omega)) rfl ?_
 | ((first | refine A_alloc rfl ?_ | refine A_box rfl rfl ?_ | refine A_boxC rfl rfl ?_ | refine A_makeN rfl rfl rfl (by omega) ?_ | refine A_make rfl rfl rfl (by omega) ?_ | refine A_bld1 rfl rfl ?_ | refine A_bld2 rfl rfl rfl ?_ | refine A_bld4 rfl rfl rfl rfl rfl ?_) <;> intro pz hpz)
 | refine A_bld0 rfl ?_ | (refine A_app rfl rfl rfl (by first | omega | (simp; done) | (simp; omega)) (by first | omega | (simp; done) | (simp; omega)) (by omega) ?_; intro pz) | (refine A_appN (enc := ic) rfl (by decide) rfl rfl (by first | omega | (simp; done) | (simp; omega)) (by omega) ?_; intro pz)
 | refine A_chk1 rfl rfl rfl ?_ | refine A_chk2 rfl rfl rfl rfl ?_ | refine A_chk3 rfl rfl rfl rfl rfl ?_ | refine A_chk4 rfl rfl rfl rfl rfl rfl ?_ | refine A_chkI rfl (by assumption) rfl (by simp) ?_
 | refine A_ret1 rfl (by first | exact (RP.t rfl RP.nil) | exact (RP.c rfl inferInstance rfl (by simp) RP.nil)) ?_ | refine A_ret rfl (by first | exact (RP.t rfl (RP.t rfl RP.nil)) | exact (RP.c rfl inferInstance rfl (by simp) (RP.t rfl RP.nil)) | exact (RP.t rfl (RP.t rfl (RP.t rfl RP.nil))) | exact (RP.c rfl inferInstance rfl (by simp) (RP.t rfl (RP.t rfl RP.nil))) | exact (RP.c rfl inferInstance rfl (by simp) (RP.t rfl (RP.t rfl (RP.t rfl (RP.t rfl RP.nil)))))) ?_ | refine A_ret0 rfl ?_)
  refine A_loopX rfl (fun m fr L => ∃ (y : Nat) (N : Objs), m = S - y ∧ fr = [(1, iv a), (2, iv b), (3, .c (.fn fn caps)), (4, .c (.ptr q 0)), (9, iv ((a * S + x) % E : Nat)), (10, iv (xs.getD (a * S + x) 0)), (15, iv S), (16, iv x), (27, iv S), (28, iv y)] ∧ L = (q, .rw 28 3 [ic S, ic re, .sl id_xs off_xs len_xs]) :: N ∧ y ≤ S ∧ Enc (x * S + y) N) (n := S) ⟨(q, .rw 28 3 [ic S, ic re, .sl id_xs off_xs len_xs]) :: N, ⟨0, N, rfl, rfl, rfl, by omega, hN⟩, inferInstance⟩ ?_
  rintro m fr L ⟨y, N, rfl, rfl, rfl, hy, hN⟩
  by_cases hy' : y < S
  case neg =>
    obtain rfl : S = y := by omega
    repeat' (first
 | refine A_go rfl ?_ | refine A_ifT rfl rfl ?_ | refine A_ifF rfl rfl ?_ | refine A_offP rfl rfl ?_ | refine A_offH rfl rfl ?_ | refine A_off0 rfl rfl ?_
 | refine A_add rfl rfl rfl (by omega) ?_ | refine A_sub rfl rfl rfl (by omega) ?_ | refine A_mul rfl rfl rfl (by omega) ?_ | refine A_rem rfl rfl rfl (by omega) ?_ | refine A_remT rfl rfl rfl (by omega) ?_ | refine A_quo rfl rfl rfl (by omega) ?_
 | ((first | refine A_lt rfl rfl rfl ?_ ?_ | refine A_le rfl rfl rfl ?_ ?_ | refine A_gt rfl rfl rfl ?_ ?_ | refine A_ge rfl rfl rfl ?_ ?_ | refine A_eq rfl rfl rfl ?_ ?_ | refine A_ne rfl rfl rfl ?_ ?_ | refine A_beq rfl rfl rfl ?_ ?_) <;> intro hc <;> try first | contradiction | (exfalso; omega) | exact absurd rfl hc)
 | refine A_idxN1 rfl rfl rfl (by omega) ?_ | refine A_idx1 rfl rfl rfl (by omega) ?_ | refine A_idxArr1 rfl rfl rfl (by omega) ?_
 | refine A_fld rfl rfl ?_ | refine A_mk3 rfl rfl rfl rfl ?_ | refine A_mk23 rfl rfl rfl ?_ | refine A_mk2 rfl rfl rfl ?_ | refine A_mk13 rfl rfl ?_ | refine A_p (by rfl) rfl ?_
 | refine A_ldI rfl (by first | omega | (simp; done) | (simp; omega)) rfl ?_ | refine A_ldB rfl (by first | omega | (simp; done) | (simp; omega)) rfl ?_ | refine A_ld rfl (by rfl) rfl ?_ | refine A_ldW rfl (by simp) rfl ?_
 | refine A_st rfl rfl rfl ?_ | refine A_stW rfl rfl (by simp) rfl ?_ | refine A_stE rfl rfl (by first | omega | (simp; done) | (simp; omega)) rfl ?_
 | ((first | refine A_alloc rfl ?_ | refine A_box rfl rfl ?_ | refine A_boxC rfl rfl ?_ | refine A_makeN rfl rfl rfl (by omega) ?_ | refine A_make rfl rfl rfl (by omega) ?_ | refine A_bld1 rfl rfl ?_ | refine A_bld2 rfl rfl rfl ?_ | refine A_bld4 rfl rfl rfl rfl rfl ?_) <;> intro pz hpz)
 | refine A_bld0 rfl ?_ | (refine A_app rfl rfl rfl (by first | omega | (simp; done) | (simp; omega)) (by first | omega | (simp; done) | (simp; omega)) (by omega) ?_; intro pz) | (refine A_appN (enc := ic) rfl (by decide) rfl rfl (by first | omega | (simp; done) | (simp; omega)) (by omega) ?_; intro pz)
 | refine A_chk1 rfl rfl rfl ?_ | refine A_chk2 rfl rfl rfl rfl ?_ | refine A_chk3 rfl rfl rfl rfl rfl ?_ | refine A_chk4 rfl rfl rfl rfl rfl rfl ?_ | refine A_chkI rfl (by assumption) rfl (by simp) ?_
 | refine A_ret1 rfl (by first | exact (RP.t rfl RP.nil) | exact (RP.c rfl inferInstance rfl (by simp) RP.nil)) ?_ | refine A_ret rfl (by first | exact (RP.t rfl (RP.t rfl RP.nil)) | exact (RP.c rfl inferInstance rfl (by simp) (RP.t rfl RP.nil)) | exact (RP.t rfl (RP.t rfl (RP.t rfl RP.nil))) | exact (RP.c rfl inferInstance rfl (by simp) (RP.t rfl (RP.t rfl RP.nil))) | exact (RP.c rfl inferInstance rfl (by simp) (RP.t rfl (RP.t rfl (RP.t rfl (RP.t rfl RP.nil)))))) ?_ | refine A_ret0 rfl ?_)
    refine A_roundX rfl ⟨S - (x + 1), (q, .rw 28 3 [ic S, ic re, .sl id_xs off_xs len_xs]) :: N, by omega, ⟨x + 1, N, rfl, rfl, rfl, by omega, by rw [Nat.add_mul, Nat.one_mul]; exact hN⟩, inferInstance⟩
  by_cases heq : xs.getD (a * S + x) 0 = xs.getD (b * S + y) 0
  · repeat' (first
 | refine A_go rfl ?_ | refine A_ifT rfl rfl ?_ | refine A_ifF rfl rfl ?_ | refine A_offP rfl rfl ?_ | refine A_offH rfl rfl ?_ | refine A_off0 rfl rfl ?_
 | refine A_add rfl rfl rfl (by omega) ?_ | refine A_sub rfl rfl rfl (by omega) ?_ | refine A_mul rfl rfl rfl (by omega) ?_ | refine A_rem rfl rfl rfl (by omega) ?_ | refine A_remT rfl rfl rfl (by omega) ?_ | refine A_quo rfl rfl rfl (by omega) ?_
 | ((first | refine A_lt rfl rfl rfl ?_ ?_ | refine A_le rfl rfl rfl ?_ ?_ | refine A_gt rfl rfl rfl ?_ ?_ | refine A_ge rfl rfl rfl ?_ ?_ | refine A_eq rfl rfl rfl ?_ ?_ | refine A_ne rfl rfl rfl ?_ ?_ | refine A_beq rfl rfl rfl ?_ ?_) <;> intro hc <;> try first | contradiction | (exfalso; omega) | exact absurd rfl hc)
 | refine A_idxN1 rfl rfl rfl (by omega) ?_ | refine A_idx1 rfl rfl rfl (by omega) ?_ | refine A_idxArr1 rfl rfl rfl (by omega) ?_
 | refine A_callV rfl rfl (fun s H => c_way (a := b) (d := y) (hE := hE) (hl := hl)) ?_
 | refine A_fld rfl rfl ?_ | refine A_mk3 rfl rfl rfl rfl ?_ | refine A_mk23 rfl rfl rfl ?_ | refine A_mk2 rfl rfl rfl ?_ | refine A_mk13 rfl rfl ?_ | refine A_p (by rfl) rfl ?_
 | refine A_ldI rfl (by first | omega | (simp; done) | (simp; omega)) rfl ?_ | refine A_ldB rfl (by first | omega | (simp; done) | (simp; omega)) rfl ?_ | refine A_ld rfl (by rfl) rfl ?_ | refine A_ldW rfl (by simp) rfl ?_
 | refine A_st rfl rfl rfl ?_ | refine A_stW rfl rfl (by simp) rfl ?_ | refine A_stE rfl rfl (by first | omega | (simp; done) | (simp; omega)) rfl ?_
 | ((first | refine A_alloc rfl ?_ | refine A_box rfl rfl ?_ | refine A_boxC rfl rfl ?_ | refine A_makeN rfl rfl rfl (by omega) ?_ | refine A_make rfl rfl rfl (by omega) ?_ | refine A_bld1 rfl rfl ?_ | refine A_bld2 rfl rfl rfl ?_ | refine A_bld4 rfl rfl rfl rfl rfl ?_) <;> intro pz hpz)
 | refine A_bld0 rfl ?_ | (refine A_app rfl rfl rfl (by first | omega | (simp; done) | (simp; omega)) (by first | omega | (simp; done) | (simp; omega)) (by omega) ?_; intro pz) | (refine A_appN (enc := ic) rfl (by decide) rfl rfl (by first | omega | (simp; done) | (simp; omega)) (by omega) ?_; intro pz)
 | refine A_chk1 rfl rfl rfl ?_ | refine A_chk2 rfl rfl rfl rfl ?_ | refine A_chk3 rfl rfl rfl rfl rfl ?_ | refine A_chk4 rfl rfl rfl rfl rfl rfl ?_ | refine A_chkI rfl (by assumption) rfl (by simp) ?_
 | refine A_ret1 rfl (by first | exact (RP.t rfl RP.nil) | exact (RP.c rfl inferInstance rfl (by simp) RP.nil)) ?_ | refine A_ret rfl (by first | exact (RP.t rfl (RP.t rfl RP.nil)) | exact (RP.c rfl inferInstance rfl (by simp) (RP.t rfl RP.nil)) | exact (RP.t rfl (RP.t rfl (RP.t rfl RP.nil))) | exact (RP.c rfl inferInstance rfl (by simp) (RP.t rfl (RP.t rfl RP.nil))) | exact (RP.c rfl inferInstance rfl (by simp) (RP.t rfl (RP.t rfl (RP.t rfl (RP.t rfl RP.nil)))))) ?_ | refine A_ret0 rfl ?_)
    refine A_callI (M := [_]) (N := N) rfl rfl rfl (fun s H K => hdo x y hx' hy' heq s _ N H hN K) ?_
    intro r N' hN'
    repeat' (first
 | refine A_go rfl ?_ | refine A_ifT rfl rfl ?_ | refine A_ifF rfl rfl ?_ | refine A_offP rfl rfl ?_ | refine A_offH rfl rfl ?_ | refine A_off0 rfl rfl ?_
 | refine A_add rfl rfl rfl (by omega) ?_ | refine A_sub rfl rfl rfl (by omega) ?_ | refine A_mul rfl rfl rfl (by omega) ?_ | refine A_rem rfl rfl rfl (by omega) ?_ | refine A_remT rfl rfl rfl (by omega) ?_ | refine A_quo rfl rfl rfl (by omega) ?_
 | ((first | refine A_lt rfl rfl rfl ?_ ?_ | refine A_le rfl rfl rfl ?_ ?_ | refine A_gt rfl rfl rfl ?_ ?_ | refine A_ge rfl rfl rfl ?_ ?_ | refine A_eq rfl rfl rfl ?_ ?_ | refine A_ne rfl rfl rfl ?_ ?_ | refine A_beq rfl rfl rfl ?_ ?_) <;> intro hc <;> try first | contradiction | (exfalso; omega) | exact absurd rfl hc)
 | refine A_idxN1 rfl rfl rfl (by omega) ?_ | refine A_idx1 rfl rfl rfl (by omega) ?_ | refine A_idxArr1 rfl rfl rfl (by omega) ?_
 | refine A_fld rfl rfl ?_ | refine A_mk3 rfl rfl rfl rfl ?_ | refine A_mk23 rfl rfl rfl ?_ | refine A_mk2 rfl rfl rfl ?_ | refine A_mk13 rfl rfl ?_ | refine A_p (by rfl) rfl ?_
 | refine A_ldI rfl (by first | omega | (simp; done) | (simp; omega)) rfl ?_ | refine A_ldB rfl (by first | omega | (simp; done) | (simp; omega)) rfl ?_ | refine A_ld rfl (by rfl) rfl ?_ | refine A_ldW rfl (by simp) rfl ?_
 | refine A_st rfl rfl rfl ?_ | refine A_stW rfl rfl (by simp) rfl ?_ | refine A_stE rfl rfl (by first | omega | (simp; done) | (simp; omega)) rfl ?_
 | ((first | refine A_alloc rfl ?_ | refine A_box rfl rfl ?_ | refine A_boxC rfl rfl ?_ | refine A_makeN rfl rfl rfl (by omega) ?_ | refine A_make rfl rfl rfl (by omega) ?_ | refine A_bld1 rfl rfl ?_ | refine A_bld2 rfl rfl rfl ?_ | refine A_bld4 rfl rfl rfl rfl rfl ?_) <;> intro pz hpz)
 | refine A_bld0 rfl ?_ | (refine A_app rfl rfl rfl (by first | omega | (simp; done) | (simp; omega)) (by first | omega | (simp; done) | (simp; omega)) (by omega) ?_; intro pz) | (refine A_appN (enc := ic) rfl (by decide) rfl rfl (by first | omega | (simp; done) | (simp; omega)) (by omega) ?_; intro pz)
 | refine A_chk1 rfl rfl rfl ?_ | refine A_chk2 rfl rfl rfl rfl ?_ | refine A_chk3 rfl rfl rfl rfl rfl ?_ | refine A_chk4 rfl rfl rfl rfl rfl rfl ?_ | refine A_chkI rfl (by assumption) rfl (by simp) ?_
 | refine A_ret1 rfl (by first | exact (RP.t rfl RP.nil) | exact (RP.c rfl inferInstance rfl (by simp) RP.nil)) ?_ | refine A_ret rfl (by first | exact (RP.t rfl (RP.t rfl RP.nil)) | exact (RP.c rfl inferInstance rfl (by simp) (RP.t rfl RP.nil)) | exact (RP.t rfl (RP.t rfl (RP.t rfl RP.nil))) | exact (RP.c rfl inferInstance rfl (by simp) (RP.t rfl (RP.t rfl RP.nil))) | exact (RP.c rfl inferInstance rfl (by simp) (RP.t rfl (RP.t rfl (RP.t rfl (RP.t rfl RP.nil)))))) ?_ | refine A_ret0 rfl ?_)
    refine A_roundX rfl ⟨S - (y + 1), (q, .rw 28 3 [ic S, ic re, .sl id_xs off_xs len_xs]) :: N', by omega, ⟨y + 1, N', rfl, rfl, rfl, by omega, hN'⟩, .ofPerm (List.perm_append_comm (l₁ := N'))⟩
  · repeat' (first
 | refine A_go rfl ?_ | refine A_ifT rfl rfl ?_ | refine A_ifF rfl rfl ?_ | refine A_offP rfl rfl ?_ | refine A_offH rfl rfl ?_ | refine A_off0 rfl rfl ?_
 | refine A_add rfl rfl rfl (by omega) ?_ | refine A_sub rfl rfl rfl (by omega) ?_ | refine A_mul rfl rfl rfl (by omega) ?_ | refine A_rem rfl rfl rfl (by omega) ?_ | refine A_remT rfl rfl rfl (by omega) ?_ | refine A_quo rfl rfl rfl (by omega) ?_
 | ((first | refine A_lt rfl rfl rfl ?_ ?_ | refine A_le rfl rfl rfl ?_ ?_ | refine A_gt rfl rfl rfl ?_ ?_ | refine A_ge rfl rfl rfl ?_ ?_ | refine A_eq rfl rfl rfl ?_ ?_ | refine A_ne rfl rfl rfl ?_ ?_ | refine A_beq rfl rfl rfl ?_ ?_) <;> intro hc <;> try first | contradiction | (exfalso; omega) | exact absurd rfl hc)
 | refine A_idxN1 rfl rfl rfl (by omega) ?_ | refine A_idx1 rfl rfl rfl (by omega) ?_ | refine A_idxArr1 rfl rfl rfl (by omega) ?_
 | refine A_callV rfl rfl (fun s H => c_way (a := b) (d := y) (hE := hE) (hl := hl)) ?_
 | refine A_fld rfl rfl ?_ | refine A_mk3 rfl rfl rfl rfl ?_ | refine A_mk23 rfl rfl rfl ?_ | refine A_mk2 rfl rfl rfl ?_ | refine A_mk13 rfl rfl ?_ | refine A_p (by rfl) rfl ?_
 | refine A_ldI rfl (by first | omega | (simp; done) | (simp; omega)) rfl ?_ | refine A_ldB rfl (by first | omega | (simp; done) | (simp; omega)) rfl ?_ | refine A_ld rfl (by rfl) rfl ?_ | refine A_ldW rfl (by simp) rfl ?_
 | refine A_st rfl rfl rfl ?_ | refine A_stW rfl rfl (by simp) rfl ?_ | refine A_stE rfl rfl (by first | omega | (simp; done) | (simp; omega)) rfl ?_
 | ((first | refine A_alloc rfl ?_ | refine A_box rfl rfl ?_ | refine A_boxC rfl rfl ?_ | refine A_makeN rfl rfl rfl (by omega) ?_ | refine A_make rfl rfl rfl (by omega) ?_ | refine A_bld1 rfl rfl ?_ | refine A_bld2 rfl rfl rfl ?_ | refine A_bld4 rfl rfl rfl rfl rfl ?_) <;> intro pz hpz)
 | refine A_bld0 rfl ?_ | (refine A_app rfl rfl rfl (by first | omega | (simp; done) | (simp; omega)) (by first | omega | (simp; done) | (simp; omega)) (by omega) ?_; intro pz) | (refine A_appN (enc := ic) rfl (by decide) rfl rfl (by first | omega | (simp; done) | (simp; omega)) (by omega) ?_; intro pz)
 | refine A_chk1 rfl rfl rfl ?_ | refine A_chk2 rfl rfl rfl rfl ?_ | refine A_chk3 rfl rfl rfl rfl rfl ?_ | refine A_chk4 rfl rfl rfl rfl rfl rfl ?_ | refine A_chkI rfl (by assumption) rfl (by simp) ?_
 | refine A_ret1 rfl (by first | exact (RP.t rfl RP.nil) | exact (RP.c rfl inferInstance rfl (by simp) RP.nil)) ?_ | refine A_ret rfl (by first | exact (RP.t rfl (RP.t rfl RP.nil)) | exact (RP.c rfl inferInstance rfl (by simp) (RP.t rfl RP.nil)) | exact (RP.t rfl (RP.t rfl (RP.t rfl RP.nil))) | exact (RP.c rfl inferInstance rfl (by simp) (RP.t rfl (RP.t rfl RP.nil))) | exact (RP.c rfl inferInstance rfl (by simp) (RP.t rfl (RP.t rfl (RP.t rfl (RP.t rfl RP.nil)))))) ?_ | refine A_ret0 rfl ?_)
    refine A_roundX rfl ⟨S - (y + 1), (q, .rw 28 3 [ic S, ic re, .sl id_xs off_xs len_xs]) :: N, by omega, ⟨y + 1, N, rfl, rfl, rfl, by omega, hskip x y N hx' hy' heq hN⟩, inferInstance⟩
/-- The objects of the two tables of ways, and the cells that tell where these are. -/
abbrev GrN (p4 p5 p6 p7 p8 pa pb E NN a b : Nat) (A Bz : List Row) : Objs :=
  [(p5, .rw 48 1 [.sl pa 0 NN]), (p7, .rw 2 1 [ic a]), (p4, .rw 2 1 [ic E]), (p8, .rw 2 1 [ic b]), (p6, .rw 48 1 [.sl pb 0 NN]), (pa, orow A), (pb, orow Bz)] ++ (mobs A ++ mobs Bz)
/-- A list gets one number more. -/
abbrev addR (A : List Row) (i p : Nat) (v : Int) : List Row := A.set i ⟨p, 0, (A.getD i Row.nil).len + 1, (A.getD i Row.nil).xs ++ [v]⟩
theorem RowsOk.set {A : List Row} (h : RowsOk A) {i p n : Nat} {xs : List Int} (hn : n = xs.length) : RowsOk (A.set i ⟨p, 0, n, xs⟩) := fun z hz => by
  rcases List.mem_or_eq_of_mem_set hz with g | rfl
  · exact h z g
  · exact ⟨rfl, hn⟩
@[simp] theorem addR_len {A : List Row} {i p : Nat} {v : Int} : (addR A i p v).length = A.length := by simp [addR]
theorem addR_ok {A : List Row} {i p : Nat} {v : Int} (h : RowsOk A) (hi : i < A.length) : RowsOk (addR A i p v) :=
  h.set (by have := (h _ (getD_mem (d := Row.nil) hi)).2; rw [List.length_append, List.length_singleton]; omega)
theorem addR_xs {A : List Row} {i p j : Nat} {v : Int} (hi : i < A.length) : ((addR A i p v).getD j Row.nil).xs = if i = j then (A.getD j Row.nil).xs ++ [v] else (A.getD j Row.nil).xs := by
  rw [addR, getD_set hi]
  by_cases e : i = j
  · subst e; rw [if_pos rfl, if_pos rfl]
  · rw [if_neg e, if_neg e]
theorem addR_G {A : List Row} {i p a b : Nat} {v : Nat} (hi : i < A.length) : Gz (addR A i p v) a b ↔ Gz A a b ∨ (a = i ∧ b = v) := by
  unfold Gz
  rw [addR_xs hi]
  by_cases e : i = a
  · subst e
    rw [if_pos rfl, List.mem_append, List.mem_singleton]
    exact or_congr Iff.rfl ⟨fun h => ⟨rfl, by omega⟩, fun h => by omega⟩
  · rw [if_neg e]
    exact ⟨.inl, fun h => h.elim id fun g => absurd g.1.symm e⟩
theorem addR_all {A : List Row} {i p : Nat} {v : Int} {P : List Int → Prop} (h : ∀ z ∈ A, P z.xs) (hn : P ((A.getD i Row.nil).xs ++ [v])) : ∀ z ∈ addR A i p v, P z.xs := fun z hz => by
  rcases List.mem_or_eq_of_mem_set hz with g | rfl
  · exact h z g
  · exact hn
/-- One way from a pair of ends to another one. -/
abbrev tgt (S E p x y : Nat) : Nat := (p / E * S + x) % E * E + (p % E * S + y) % E
def Gp (S E : Nat) (xs : List Int) (p q : Nat) : Prop := ∃ x y, x < S ∧ y < S ∧ xs.getD (p / E * S + x) 0 = xs.getD (p % E * S + y) 0 ∧ q = tgt S E p x y
/-- The same, of the first digits. -/
def Gm (S E : Nat) (xs : List Int) (p m q : Nat) : Prop := ∃ x y, x < S ∧ y < S ∧ x * S + y < m ∧ xs.getD (p / E * S + x) 0 = xs.getD (p % E * S + y) 0 ∧ q = tgt S E p x y
theorem Gm.none {S E : Nat} {xs : List Int} {p q : Nat} : ¬ Gm S E xs p 0 q := fun ⟨x, y, _, _, h, _⟩ => by omega
theorem Gm.all {S E : Nat} {xs : List Int} {p q : Nat} : Gm S E xs p (S * S) q ↔ Gp S E xs p q :=
  ⟨fun ⟨x, y, h1, h2, _, h4, h5⟩ => ⟨x, y, h1, h2, h4, h5⟩, fun ⟨x, y, h1, h2, h4, h5⟩ => ⟨x, y, h1, h2, lt_mul h1 h2, h4, h5⟩⟩
theorem dig_eq {S x y x' y' : Nat} (hy : y < S) (hy' : y' < S) (h : x * S + y = x' * S + y') : x = x' ∧ y = y' := by
  have h1 := am_div (a := x) hy
  have h2 := am_div (a := x') hy'
  have e : x = x' := by rw [← h1, ← h2, h]
  subst e; exact ⟨rfl, by omega⟩
theorem Gm.skip {S E : Nat} {xs : List Int} {p q x y : Nat} (hy : y < S) (hne : xs.getD (p / E * S + x) 0 ≠ xs.getD (p % E * S + y) 0) : Gm S E xs p (x * S + (y + 1)) q ↔ Gm S E xs p (x * S + y) q := by
  constructor
  · rintro ⟨x', y', h1, h2, h3, h4, h5⟩
    refine ⟨x', y', h1, h2, ?_, h4, h5⟩
    by_cases e : x' * S + y' = x * S + y
    · obtain ⟨rfl, rfl⟩ := dig_eq h2 hy e
      exact absurd h4 hne
    · omega
  · rintro ⟨x', y', h1, h2, h3, h4, h5⟩
    exact ⟨x', y', h1, h2, by omega, h4, h5⟩
theorem Gm.step {S E : Nat} {xs : List Int} {p q x y : Nat} (hx : x < S) (hy : y < S) (he : xs.getD (p / E * S + x) 0 = xs.getD (p % E * S + y) 0) : Gm S E xs p (x * S + (y + 1)) q ↔ q = tgt S E p x y ∨ Gm S E xs p (x * S + y) q := by
  constructor
  · rintro ⟨x', y', h1, h2, h3, h4, h5⟩
    by_cases e : x' * S + y' = x * S + y
    · obtain ⟨rfl, rfl⟩ := dig_eq h2 hy e
      exact .inl h5
    · exact .inr ⟨x', y', h1, h2, by omega, h4, h5⟩
  · rintro (rfl | ⟨x', y', h1, h2, h3, h4, h5⟩)
    · exact ⟨x, y, hx, hy, by omega, he, rfl⟩
    · exact ⟨x', y', h1, h2, by omega, h4, h5⟩
theorem tgt_lt {S E p x y : Nat} (hE : 1 ≤ E) : tgt S E p x y < E * E := lt_mul (mod_in hE) (mod_in hE)
/-- The tables of ways behind the first pairs. -/
structure GrI (S E : Nat) (xs : List Int) (A Bz : List Row) (P m : Nat) : Prop where
  la : A.length = E * E
  lb : Bz.length = E * E
  oka : RowsOk A
  okb : RowsOk Bz
  na : ∀ z ∈ A, z.xs.length ≤ P * 9 + m
  nb : ∀ z ∈ Bz, z.xs.length ≤ P * 9 + m
  ra : ∀ z ∈ A, ∀ x ∈ z.xs, 0 ≤ x ∧ x < (E * E : Nat)
  rb : ∀ z ∈ Bz, ∀ x ∈ z.xs, 0 ≤ x ∧ x < (E * E : Nat)
  ga : ∀ p q, Gz A p q ↔ (p < P ∧ Gp S E xs p q) ∨ (p = P ∧ Gm S E xs P m q)
  gb : ∀ p q, Gz Bz q p ↔ (p < P ∧ Gp S E xs p q) ∨ (p = P ∧ Gm S E xs P m q)
theorem rep_nil {n j : Nat} : (List.replicate n Row.nil).getD j Row.nil = Row.nil := by
  rw [List.getD_eq_getElem?_getD, List.getElem?_replicate]; split <;> rfl
theorem GrI.start {S E : Nat} {xs : List Int} : GrI S E xs (List.replicate (E * E) Row.nil) (List.replicate (E * E) Row.nil) 0 0 := by
  have h0 : ∀ z ∈ List.replicate (E * E) Row.nil, z = Row.nil := fun z hz => (List.mem_replicate.1 hz).2
  refine ⟨by simp, by simp, fun z hz => by rw [h0 z hz]; exact ⟨rfl, rfl⟩, fun z hz => by rw [h0 z hz]; exact ⟨rfl, rfl⟩, fun z hz => by rw [h0 z hz]; simp, fun z hz => by rw [h0 z hz]; simp, fun z hz => by rw [h0 z hz]; simp, fun z hz => by rw [h0 z hz]; simp, fun p q => ?_, fun p q => ?_⟩
  all_goals
    unfold Gz
    rw [rep_nil]
    constructor
    · intro h; simp at h
    · rintro (⟨h, _⟩ | ⟨_, h⟩)
      · omega
      · exact absurd h Gm.none
theorem GrI.skip {S E : Nat} {xs : List Int} {A Bz : List Row} {P x y : Nat} (h : GrI S E xs A Bz P (x * S + y)) (hy : y < S) (hne : xs.getD (P / E * S + x) 0 ≠ xs.getD (P % E * S + y) 0) : GrI S E xs A Bz P (x * S + (y + 1)) :=
  ⟨h.la, h.lb, h.oka, h.okb, fun z hz => by have := h.na z hz; omega, fun z hz => by have := h.nb z hz; omega, h.ra, h.rb, fun p q => by rw [h.ga, Gm.skip hy hne], fun p q => by rw [h.gb, Gm.skip hy hne]⟩
theorem GrI.next {S E : Nat} {xs : List Int} {A Bz : List Row} {P : Nat} (h : GrI S E xs A Bz P (S * S)) (hS : S ≤ 3) : GrI S E xs A Bz (P + 1) 0 := by
  have h9 : S * S ≤ 9 := Nat.mul_le_mul hS hS
  have key : ∀ p q, ((p < P ∧ Gp S E xs p q) ∨ (p = P ∧ Gm S E xs P (S * S) q)) ↔ ((p < P + 1 ∧ Gp S E xs p q) ∨ (p = P + 1 ∧ Gm S E xs (P + 1) 0 q)) := fun p q => by
    rw [Gm.all]
    constructor
    · rintro (⟨a, c⟩ | ⟨rfl, c⟩)
      · exact .inl ⟨by omega, c⟩
      · exact .inl ⟨by omega, c⟩
    · rintro (⟨a, c⟩ | ⟨_, c⟩)
      · by_cases e : p = P
        · subst e; exact .inr ⟨rfl, c⟩
        · exact .inl ⟨by omega, c⟩
      · exact absurd c Gm.none
  exact ⟨h.la, h.lb, h.oka, h.okb, fun z hz => by have := h.na z hz; omega, fun z hz => by have := h.nb z hz; omega, h.ra, h.rb, fun p q => (h.ga p q).trans (key p q), fun p q => (h.gb p q).trans (key p q)⟩
theorem GrI.step {S E : Nat} {xs : List Int} {A Bz : List Row} {P x y pa pb : Nat} (h : GrI S E xs A Bz P (x * S + y)) (hE : 1 ≤ E) (hP : P < E * E) (hx : x < S) (hy : y < S) (he : xs.getD (P / E * S + x) 0 = xs.getD (P % E * S + y) 0) :
    GrI S E xs (addR A P pa (tgt S E P x y : Nat)) (addR Bz (tgt S E P x y) pb (P : Nat)) P (x * S + (y + 1)) := by
  have ht := tgt_lt (S := S) (p := P) (x := x) (y := y) hE
  have hPa : P < A.length := by rw [h.la]; exact hP
  have htb : tgt S E P x y < Bz.length := by rw [h.lb]; exact ht
  have key : ∀ p q, (((p < P ∧ Gp S E xs p q) ∨ (p = P ∧ Gm S E xs P (x * S + y) q)) ∨ (p = P ∧ q = tgt S E P x y)) ↔ ((p < P ∧ Gp S E xs p q) ∨ (p = P ∧ Gm S E xs P (x * S + (y + 1)) q)) := fun p q => by
    rw [Gm.step hx hy he]
    constructor
    · rintro ((a | ⟨a, c⟩) | ⟨a, c⟩)
      · exact .inl a
      · exact .inr ⟨a, .inr c⟩
      · exact .inr ⟨a, .inl c⟩
    · rintro (a | ⟨a, c | c⟩)
      · exact .inl (.inl a)
      · exact .inr ⟨a, c⟩
      · exact .inl (.inr ⟨a, c⟩)
  have l1 := h.na _ (getD_mem (d := Row.nil) hPa)
  have l2 := h.nb _ (getD_mem (d := Row.nil) htb)
  have r1 := h.ra _ (getD_mem (d := Row.nil) hPa)
  have r2 := h.rb _ (getD_mem (d := Row.nil) htb)
  refine ⟨by rw [addR_len]; exact h.la, by rw [addR_len]; exact h.lb, addR_ok h.oka hPa, addR_ok h.okb htb,
    addR_all (P := fun l => l.length ≤ P * 9 + (x * S + (y + 1))) (fun z hz => by have := h.na z hz; omega) (by rw [List.length_append, List.length_singleton]; omega),
    addR_all (P := fun l => l.length ≤ P * 9 + (x * S + (y + 1))) (fun z hz => by have := h.nb z hz; omega) (by rw [List.length_append, List.length_singleton]; omega),
    addR_all (P := fun l => ∀ x ∈ l, 0 ≤ x ∧ x < (E * E : Nat)) h.ra (fun v hv => (List.mem_append.1 hv).elim (r1 v) fun g => by obtain rfl := List.mem_singleton.1 g; omega),
    addR_all (P := fun l => ∀ x ∈ l, 0 ≤ x ∧ x < (E * E : Nat)) h.rb (fun v hv => (List.mem_append.1 hv).elim (r2 v) fun g => by obtain rfl := List.mem_singleton.1 g; omega),
    fun p q => ?_, fun p q => ?_⟩
  · rw [addR_G hPa, h.ga]; exact key p q
  · rw [addR_G htb, h.gb, and_comm (a := q = _)]; exact key p q
theorem pair_perm {A Bz : List Row} {i j x y : Nat} {v w : Int} (hi : i < A.length) (hj : j < Bz.length) : ((x, ints ((A.getD i Row.nil).xs ++ [v])) :: (y, ints ((Bz.getD j Row.nil).xs ++ [w])) :: (mobs (A.eraseIdx i) ++ mobs (Bz.eraseIdx j))).Perm (mobs (addR A i x v) ++ mobs (addR Bz j y w)) :=
  (List.Perm.cons _ List.perm_middle.symm).trans ((mobs_set (r := ⟨x, 0, (A.getD i Row.nil).len + 1, (A.getD i Row.nil).xs ++ [v]⟩) hi).append (mobs_set (r := ⟨y, 0, (Bz.getD j Row.nil).len + 1, (Bz.getD j Row.nil).xs ++ [w]⟩) hj)).symm
theorem Sub.nils {N L : Objs} (k : Sub N L) : ∀ n, Sub (mobs (List.replicate n Row.nil) ++ N) L
  | 0 => k
  | n + 1 => by
    rw [List.replicate_succ]
    exact (Sub.nils k n).virt (p := 0) (by omega)
theorem c_pairDo {s : St} [Wf s] {p4 p5 p6 p7 p8 pa pb E NN a b c d : Nat} {A Bz : List Row} (hO : Own ((GrN p4 p5 p6 p7 p8 pa pb E NN a b A Bz).map Prod.fst) s s (GrN p4 p5 p6 p7 p8 pa pb E NN a b A Bz)) (hA : A.length = NN ∧ RowsOk A) (hB : Bz.length = NN ∧ RowsOk Bz) (hE : E ≤ 81) (hNN : NN = E * E) (h1 : a < E ∧ b < E) (h2 : c < E ∧ d < E) (hla : ∀ z ∈ A, z.xs.length ≤ 100000) (hlb : ∀ z ∈ Bz, z.xs.length ≤ 100000) :
    Fn ((GrN p4 p5 p6 p7 p8 pa pb E NN a b A Bz).map Prod.fst) 117 [iv c, iv d, .c (.ptr p5 0), .c (.ptr p7 0), .c (.ptr p4 0), .c (.ptr p8 0), .c (.ptr p6 0)] s fun _ N => ∃ x y, N = GrN p4 p5 p6 p7 p8 pa pb E NN a b (addR A (a * E + b) x (c * E + d : Nat)) (addR Bz (c * E + d) y (a * E + b : Nat)) := by
  have e1 : (a : Int) * E + b = ((a * E + b : Nat) : Int) := by push_cast; rfl
  have e2 : (c : Int) * E + d = ((c * E + d : Nat) : Int) := by push_cast; rfl
  have hp := lt_mul h1.1 h1.2
  have hq := lt_mul h2.1 h2.2
  have hEE : E * E ≤ 6561 := Nat.mul_le_mul hE hE
  have m1 : 0 ≤ (a : Int) * E ∧ (a : Int) * E ≤ 6561 := by
    have : a * E ≤ 6561 := Nat.le_trans (Nat.mul_le_mul (show a ≤ 81 by omega) hE) (by decide)
    have e : ((a * E : Nat) : Int) = (a : Int) * E := by push_cast; rfl
    omega
  have m2 : 0 ≤ (c : Int) * E ∧ (c : Int) * E ≤ 6561 := by
    have : c * E ≤ 6561 := Nat.le_trans (Nat.mul_le_mul (show c ≤ 81 by omega) hE) (by decide)
    have e : ((c * E : Nat) : Int) = (c : Int) * E := by push_cast; rfl
    omega
  haveI : Fact' (a * E + b < A.length) := ⟨by omega⟩
  haveI : Fact' (c * E + d < Bz.length) := ⟨by omega⟩
  haveI : Fact' (RowsOk A) := ⟨hA.2⟩
  haveI : Fact' (RowsOk Bz) := ⟨hB.2⟩
  have ra := hA.2 _ (getD_mem (d := Row.nil) (by omega : a * E + b < A.length))
  have rb := hB.2 _ (getD_mem (d := Row.nil) (by omega : c * E + d < Bz.length))
  have la := hla _ (getD_mem (d := Row.nil) (by omega : a * E + b < A.length))
  have lb := hlb _ (getD_mem (d := Row.nil) (by omega : c * E + d < Bz.length))
  have ra0 := ra.1
  have rb0 := rb.1
  have gA : (rc (A.getD (a * E + b) Row.nil)) = .sl (A.getD (a * E + b) Row.nil).id 0 (A.getD (a * E + b) Row.nil).len := by rw [rc, ra0]
  have gB : (rc (Bz.getD (c * E + d) Row.nil)) = .sl (Bz.getD (c * E + d) Row.nil).id 0 (Bz.getD (c * E + d) Row.nil).len := by rw [rc, rb0]
  refine F_startB code117 hO ?_
  simp only [GrN, List.cons_append, List.nil_append]
  repeat' (first
 | refine A_go rfl ?_ | refine A_ifT rfl rfl ?_ | refine A_ifF rfl rfl ?_ | refine A_offP rfl rfl ?_ | refine A_offH rfl rfl ?_ | refine A_off0 rfl rfl ?_
 | refine A_add rfl rfl rfl (by omega) ?_ | refine A_sub rfl rfl rfl (by omega) ?_ | refine A_mul rfl rfl rfl (by omega) ?_ | refine A_rem rfl rfl rfl (by omega) ?_ | refine A_remT rfl rfl rfl (by omega) ?_ | refine A_quo rfl rfl rfl (by omega) ?_
 | ((first | refine A_lt rfl rfl rfl ?_ ?_ | refine A_le rfl rfl rfl ?_ ?_ | refine A_gt rfl rfl rfl ?_ ?_ | refine A_ge rfl rfl rfl ?_ ?_ | refine A_eq rfl rfl rfl ?_ ?_ | refine A_ne rfl rfl rfl ?_ ?_ | refine A_beq rfl rfl rfl ?_ ?_) <;> intro hc <;> try first | contradiction | (exfalso; omega) | exact absurd rfl hc)
 | refine A_idxN1 rfl rfl rfl (by omega) ?_ | refine A_idx1 rfl rfl rfl (by omega) ?_ | refine A_idxArr1 rfl rfl rfl (by omega) ?_
 | simp only [e1, e2, gA, gB, Int.toNat_natCast]
 | refine A_ldR rfl (by omega) rfl ?_
 | refine A_stE (enc := rc) (a := ⟨pz, 0, (A.getD (a * E + b) Row.nil).len + 1, (A.getD (a * E + b) Row.nil).xs ++ [((c * E + d : Nat) : Int)]⟩) rfl rfl (by omega) rfl ?_
 | refine A_stE (enc := rc) (a := ⟨pz, 0, (Bz.getD (c * E + d) Row.nil).len + 1, (Bz.getD (c * E + d) Row.nil).xs ++ [((a * E + b : Nat) : Int)]⟩) rfl rfl (by omega) rfl ?_
 | refine A_fld rfl rfl ?_ | refine A_mk3 rfl rfl rfl rfl ?_ | refine A_mk23 rfl rfl rfl ?_ | refine A_mk2 rfl rfl rfl ?_ | refine A_mk13 rfl rfl ?_ | refine A_p (by rfl) rfl ?_
 | refine A_ldI rfl (by first | omega | (simp; done) | (simp; omega)) rfl ?_ | refine A_ldB rfl (by first | omega | (simp; done) | (simp; omega)) rfl ?_ | refine A_ld rfl (by rfl) rfl ?_ | refine A_ldW rfl (by simp) rfl ?_
 | refine A_st rfl rfl rfl ?_ | refine A_stW rfl rfl (by simp) rfl ?_ | refine A_stE rfl rfl (by first | omega | (simp; done) | (simp; omega)) rfl ?_
 | ((first | refine A_alloc rfl ?_ | refine A_box rfl rfl ?_ | refine A_boxC rfl rfl ?_ | refine A_makeN rfl rfl rfl (by omega) ?_ | refine A_make rfl rfl rfl (by omega) ?_ | refine A_bld1 rfl rfl ?_ | refine A_bld2 rfl rfl rfl ?_ | refine A_bld4 rfl rfl rfl rfl rfl ?_) <;> intro pz hpz)
 | refine A_bld0 rfl ?_ | (refine A_app rfl rfl rfl (by first | omega | (simp; done) | (simp; omega)) (by first | omega | (simp; done) | (simp; omega)) (by omega) ?_; intro pz) | (refine A_appN (enc := ic) rfl (by decide) rfl rfl (by first | omega | (simp; done) | (simp; omega)) (by omega) ?_; intro pz)
 | refine A_chk1 rfl rfl rfl ?_ | refine A_chk2 rfl rfl rfl rfl ?_ | refine A_chk3 rfl rfl rfl rfl rfl ?_ | refine A_chk4 rfl rfl rfl rfl rfl rfl ?_ | refine A_chkI rfl (by assumption) rfl (by simp) ?_
 | refine A_ret1 rfl (by first | exact (RP.t rfl RP.nil) | exact (RP.c rfl inferInstance rfl (by simp) RP.nil)) ?_ | refine A_ret rfl (by first | exact (RP.t rfl (RP.t rfl RP.nil)) | exact (RP.c rfl inferInstance rfl (by simp) (RP.t rfl RP.nil)) | exact (RP.t rfl (RP.t rfl (RP.t rfl RP.nil))) | exact (RP.c rfl inferInstance rfl (by simp) (RP.t rfl (RP.t rfl RP.nil))) | exact (RP.c rfl inferInstance rfl (by simp) (RP.t rfl (RP.t rfl (RP.t rfl (RP.t rfl RP.nil)))))) ?_ | refine A_ret0 rfl ?_)
  rename_i z1 hz1 x z2
  exact ⟨_, ⟨x, pz, rfl⟩, Sub.trans (.ofPerm (.cons _ (.cons _ (.cons _ (.cons _ (.cons _ (.cons _ (.cons _ (pair_perm (x := x) (y := pz) (by omega) (by omega)))))))))) inferInstance⟩
theorem c_pairGraph {s : St} [Wf s] {S w E : Nat} {re : Int} {id_xs off_xs len_xs : Nat} {xs : List Int} [h_xs : ArgE ic s id_xs off_xs xs] (hl_xs : xs.length = len_xs := by first | rfl | simp | omega | (simp; omega)) (hE : E = S ^ (w - 1)) (hl : xs.length = E * S) (hS : 2 ≤ S ∧ S ≤ 3 := by omega) (hw : 2 * re + 1 = w ∧ 1 ≤ w ∧ w ≤ 5 := by omega) (hEb : 1 ≤ E ∧ E ≤ 81 := by omega) :
    Fn [] 93 [.agg [ic S, ic re, .sl id_xs off_xs len_xs]] s fun V N => ∃ pa pb A Bz, V = .tup [.c (.sl pa 0 (E * E)), .c (.sl pb 0 (E * E))] ∧ GrI S E xs A Bz (E * E) 0 ∧ N = (pa, orow A) :: (pb, orow Bz) :: (mobs A ++ mobs Bz) := by
  have hNN : (E : Int) * E = ((E * E : Nat) : Int) := by push_cast; rfl
  have hEE : E * E ≤ 6561 := Nat.mul_le_mul hEb.2 hEb.2
  refine F_start code93 ?_
  repeat' (first
 | refine A_go rfl ?_ | refine A_ifT rfl rfl ?_ | refine A_ifF rfl rfl ?_ | refine A_offP rfl rfl ?_ | refine A_offH rfl rfl ?_ | refine A_off0 rfl rfl ?_
 | refine A_add rfl rfl rfl (by omega) ?_ | refine A_sub rfl rfl rfl (by omega) ?_ | refine A_mul rfl rfl rfl (by omega) ?_ | refine A_rem rfl rfl rfl (by omega) ?_ | refine A_remT rfl rfl rfl (by omega) ?_ | refine A_quo rfl rfl rfl (by omega) ?_
 | ((first | refine A_lt rfl rfl rfl ?_ ?_ | refine A_le rfl rfl rfl ?_ ?_ | refine A_gt rfl rfl rfl ?_ ?_ | refine A_ge rfl rfl rfl ?_ ?_ | refine A_eq rfl rfl rfl ?_ ?_ | refine A_ne rfl rfl rfl ?_ ?_ | refine A_beq rfl rfl rfl ?_ ?_) <;> intro hc <;> try first | contradiction | (exfalso; omega) | exact absurd rfl hc)
 | refine A_idxN1 rfl rfl rfl (by omega) ?_ | refine A_idx1 rfl rfl rfl (by omega) ?_ | refine A_idxArr1 rfl rfl rfl (by omega) ?_
 | refine A_callV rfl rfl (fun s H => c_ends (hE := hE)) ?_
 | simp only [hNN]
 | (refine A_makeN (enc := rc) (a := Row.nil) rfl rfl rfl (by omega) ?_ <;> intro pz hpz)
 | refine A_fld rfl rfl ?_ | refine A_mk3 rfl rfl rfl rfl ?_ | refine A_mk23 rfl rfl rfl ?_ | refine A_mk2 rfl rfl rfl ?_ | refine A_mk13 rfl rfl ?_ | refine A_p (by rfl) rfl ?_
 | refine A_ldI rfl (by first | omega | (simp; done) | (simp; omega)) rfl ?_ | refine A_ldB rfl (by first | omega | (simp; done) | (simp; omega)) rfl ?_ | refine A_ld rfl (by rfl) rfl ?_ | refine A_ldW rfl (by simp) rfl ?_
 | refine A_st rfl rfl rfl ?_ | refine A_stW rfl rfl (by simp) rfl ?_ | refine A_stE rfl rfl (by first | omega | (simp; done) | (simp; omega)) rfl ?_
 | ((first | refine A_alloc rfl ?_ | refine A_box rfl rfl ?_ | refine A_boxC rfl rfl ?_ | refine A_makeN rfl rfl rfl (by omega) ?_ | refine A_make rfl rfl rfl (by omega) ?_ | refine A_bld1 rfl rfl ?_ | refine A_bld2 rfl rfl rfl ?_ | refine A_bld4 rfl rfl rfl rfl rfl ?_) <;> intro pz hpz)
 | refine A_bld0 rfl ?_ | (refine A_app rfl rfl rfl (by first | omega | (simp; done) | (simp; omega)) (by first | omega | (simp; done) | (simp; omega)) (by omega) ?_; intro pz) | (refine A_appN (enc := ic) rfl (by decide) rfl rfl (by first | omega | (simp; done) | (simp; omega)) (by omega) ?_; intro pz)
 | refine A_chk1 rfl rfl rfl ?_ | refine A_chk2 rfl rfl rfl rfl ?_ | refine A_chk3 rfl rfl rfl rfl rfl ?_ | refine A_chk4 rfl rfl rfl rfl rfl rfl ?_ | refine A_chkI rfl (by assumption) rfl (by simp) ?_
 | refine A_ret1 rfl (by first | exact (RP.t rfl RP.nil) | exact (RP.c rfl inferInstance rfl (by simp) RP.nil)) ?_ | refine A_ret rfl (by first | exact (RP.t rfl (RP.t rfl RP.nil)) | exact (RP.c rfl inferInstance rfl (by simp) (RP.t rfl RP.nil)) | exact (RP.t rfl (RP.t rfl (RP.t rfl RP.nil))) | exact (RP.c rfl inferInstance rfl (by simp) (RP.t rfl (RP.t rfl RP.nil))) | exact (RP.c rfl inferInstance rfl (by simp) (RP.t rfl (RP.t rfl (RP.t rfl (RP.t rfl RP.nil)))))) ?_ | refine A_ret0 rfl ?_)
  obtain ⟨pb, hEq⟩ : ∃ p, p = pz := ⟨_, rfl⟩; subst hEq
  obtain ⟨p6, hEq⟩ : ∃ p, p = pz := ⟨_, rfl⟩; subst hEq
  obtain ⟨p5, hEq⟩ : ∃ p, p = pz := ⟨_, rfl⟩; subst hEq
  obtain ⟨pa, hEq⟩ : ∃ p, p = pz := ⟨_, rfl⟩; subst hEq
  obtain ⟨p4, hEq⟩ : ∃ p, p = pz := ⟨_, rfl⟩; subst hEq
  obtain ⟨q, hEq⟩ : ∃ p, p = pz := ⟨_, rfl⟩; subst hEq
  have hnil : Sub (mobs (List.replicate (E * E) Row.nil) ++ mobs (List.replicate (E * E) Row.nil)) [] := by
    have h := (Sub.nils (Sub.nils (N := []) (L := []) inferInstance (E * E)) (E * E))
    rwa [List.append_nil] at h
  have hcas : ((E * E : Nat) : Int).toNat = E * E := Int.toNat_natCast _
  refine A_loopX rfl (fun m fr L => ∃ (a : Nat) (A Bz : List Row), m = E - a ∧ fr = [(1, .c (.ptr q 0)), (4, .c (.ptr p4 0)), (5, .c (.ptr p5 0)), (6, .c (.ptr p6 0)), (19, iv E), (20, iv a)] ∧ L = (q, .rw 28 3 [ic S, ic re, .sl id_xs off_xs len_xs]) :: (p5, .rw 48 1 [.sl pa 0 (E * E)]) :: (p4, .rw 2 1 [ic E]) :: (p6, .rw 48 1 [.sl pb 0 (E * E)]) :: (pa, orow A) :: (pb, orow Bz) :: (mobs A ++ mobs Bz) ∧ a ≤ E ∧ GrI S E xs A Bz (a * E) 0) (n := E)
    ⟨(q, .rw 28 3 [ic S, ic re, .sl id_xs off_xs len_xs]) :: (p5, .rw 48 1 [.sl pa 0 (E * E)]) :: (p4, .rw 2 1 [ic E]) :: (p6, .rw 48 1 [.sl pb 0 (E * E)]) :: (pa, orow (List.replicate (E * E) Row.nil)) :: (pb, orow (List.replicate (E * E) Row.nil)) :: (mobs (List.replicate (E * E) Row.nil) ++ mobs (List.replicate (E * E) Row.nil)), ⟨0, _, _, rfl, rfl, rfl, by omega, by rw [Nat.zero_mul]; exact .start⟩, inferInstance⟩ ?_
  rintro m fr L ⟨a, A, Bz, rfl, rfl, rfl, ha, hg⟩
  by_cases ha' : a < E
  case neg =>
    obtain rfl : E = a := by omega
    repeat' (first
 | refine A_go rfl ?_ | refine A_ifT rfl rfl ?_ | refine A_ifF rfl rfl ?_ | refine A_offP rfl rfl ?_ | refine A_offH rfl rfl ?_ | refine A_off0 rfl rfl ?_
 | refine A_add rfl rfl rfl (by omega) ?_ | refine A_sub rfl rfl rfl (by omega) ?_ | refine A_mul rfl rfl rfl (by omega) ?_ | refine A_rem rfl rfl rfl (by omega) ?_ | refine A_remT rfl rfl rfl (by omega) ?_ | refine A_quo rfl rfl rfl (by omega) ?_
 | ((first | refine A_lt rfl rfl rfl ?_ ?_ | refine A_le rfl rfl rfl ?_ ?_ | refine A_gt rfl rfl rfl ?_ ?_ | refine A_ge rfl rfl rfl ?_ ?_ | refine A_eq rfl rfl rfl ?_ ?_ | refine A_ne rfl rfl rfl ?_ ?_ | refine A_beq rfl rfl rfl ?_ ?_) <;> intro hc <;> try first | contradiction | (exfalso; omega) | exact absurd rfl hc)
 | refine A_idxN1 rfl rfl rfl (by omega) ?_ | refine A_idx1 rfl rfl rfl (by omega) ?_ | refine A_idxArr1 rfl rfl rfl (by omega) ?_
 | refine A_fld rfl rfl ?_ | refine A_mk3 rfl rfl rfl rfl ?_ | refine A_mk23 rfl rfl rfl ?_ | refine A_mk2 rfl rfl rfl ?_ | refine A_mk13 rfl rfl ?_ | refine A_p (by rfl) rfl ?_
 | refine A_ldI rfl (by first | omega | (simp; done) | (simp; omega)) rfl ?_ | refine A_ldB rfl (by first | omega | (simp; done) | (simp; omega)) rfl ?_ | refine A_ld rfl (by rfl) rfl ?_ | refine A_ldW rfl (by simp) rfl ?_
 | refine A_st rfl rfl rfl ?_ | refine A_stW rfl rfl (by simp) rfl ?_ | refine A_stE rfl rfl (by first | omega | (simp; done) | (simp; omega)) rfl ?_
 | ((first | refine A_alloc rfl ?_ | refine A_box rfl rfl ?_ | refine A_boxC rfl rfl ?_ | refine A_makeN rfl rfl rfl (by omega) ?_ | refine A_make rfl rfl rfl (by omega) ?_ | refine A_bld1 rfl rfl ?_ | refine A_bld2 rfl rfl rfl ?_ | refine A_bld4 rfl rfl rfl rfl rfl ?_) <;> intro pz hpz)
 | refine A_bld0 rfl ?_ | (refine A_app rfl rfl rfl (by first | omega | (simp; done) | (simp; omega)) (by first | omega | (simp; done) | (simp; omega)) (by omega) ?_; intro pz) | (refine A_appN (enc := ic) rfl (by decide) rfl rfl (by first | omega | (simp; done) | (simp; omega)) (by omega) ?_; intro pz)
 | refine A_chk1 rfl rfl rfl ?_ | refine A_chk2 rfl rfl rfl rfl ?_ | refine A_chk3 rfl rfl rfl rfl rfl ?_ | refine A_chk4 rfl rfl rfl rfl rfl rfl ?_ | refine A_chkI rfl (by assumption) rfl (by simp) ?_
 | refine A_ret1 rfl (by first | exact (RP.t rfl RP.nil) | exact (RP.c rfl inferInstance rfl (by simp) RP.nil)) ?_ | refine A_ret rfl (by first | exact (RP.t rfl (RP.t rfl RP.nil)) | exact (RP.c rfl inferInstance rfl (by simp) (RP.t rfl RP.nil)) | exact (RP.t rfl (RP.t rfl (RP.t rfl RP.nil))) | exact (RP.c rfl inferInstance rfl (by simp) (RP.t rfl (RP.t rfl RP.nil))) | exact (RP.c rfl inferInstance rfl (by simp) (RP.t rfl (RP.t rfl (RP.t rfl (RP.t rfl RP.nil)))))) ?_ | refine A_ret0 rfl ?_)
    exact ⟨_, ⟨pa, pb, A, Bz, rfl, hg, rfl⟩, inferInstance⟩
  repeat' (first
 | refine A_go rfl ?_ | refine A_ifT rfl rfl ?_ | refine A_ifF rfl rfl ?_ | refine A_offP rfl rfl ?_ | refine A_offH rfl rfl ?_ | refine A_off0 rfl rfl ?_
 | refine A_add rfl rfl rfl (by omega) ?_ | refine A_sub rfl rfl rfl (by omega) ?_ | refine A_mul rfl rfl rfl (by omega) ?_ | refine A_rem rfl rfl rfl (by omega) ?_ | refine A_remT rfl rfl rfl (by omega) ?_ | refine A_quo rfl rfl rfl (by omega) ?_
 | ((first | refine A_lt rfl rfl rfl ?_ ?_ | refine A_le rfl rfl rfl ?_ ?_ | refine A_gt rfl rfl rfl ?_ ?_ | refine A_ge rfl rfl rfl ?_ ?_ | refine A_eq rfl rfl rfl ?_ ?_ | refine A_ne rfl rfl rfl ?_ ?_ | refine A_beq rfl rfl rfl ?_ ?_) <;> intro hc <;> try first | contradiction | (exfalso; omega) | exact absurd rfl hc)
 | refine A_idxN1 rfl rfl rfl (by omega) ?_ | refine A_idx1 rfl rfl rfl (by omega) ?_ | refine A_idxArr1 rfl rfl rfl (by omega) ?_
 | refine A_fld rfl rfl ?_ | refine A_mk3 rfl rfl rfl rfl ?_ | refine A_mk23 rfl rfl rfl ?_ | refine A_mk2 rfl rfl rfl ?_ | refine A_mk13 rfl rfl ?_ | refine A_p (by rfl) rfl ?_
 | refine A_ldI rfl (by first | omega | (simp; done) | (simp; omega)) rfl ?_ | refine A_ldB rfl (by first | omega | (simp; done) | (simp; omega)) rfl ?_ | refine A_ld rfl (by rfl) rfl ?_ | refine A_ldW rfl (by simp) rfl ?_
 | refine A_st rfl rfl rfl ?_ | refine A_stW rfl rfl (by simp) rfl ?_ | refine A_stE rfl rfl (by first | omega | (simp; done) | (simp; omega)) rfl ?_
 | ((first | refine A_alloc rfl ?_ | refine A_box rfl rfl ?_ | refine A_boxC rfl rfl ?_ | refine A_makeN rfl rfl rfl (by omega) ?_ | refine A_make rfl rfl rfl (by omega) ?_ | refine A_bld1 rfl rfl ?_ | refine A_bld2 rfl rfl rfl ?_ | refine A_bld4 rfl rfl rfl rfl rfl ?_) <;> intro pz hpz)
 | refine A_bld0 rfl ?_ | (refine A_app rfl rfl rfl (by first | omega | (simp; done) | (simp; omega)) (by first | omega | (simp; done) | (simp; omega)) (by omega) ?_; intro pz) | (refine A_appN (enc := ic) rfl (by decide) rfl rfl (by first | omega | (simp; done) | (simp; omega)) (by omega) ?_; intro pz)
 | refine A_chk1 rfl rfl rfl ?_ | refine A_chk2 rfl rfl rfl rfl ?_ | refine A_chk3 rfl rfl rfl rfl rfl ?_ | refine A_chk4 rfl rfl rfl rfl rfl rfl ?_ | refine A_chkI rfl (by assumption) rfl (by simp) ?_
 | refine A_ret1 rfl (by first | exact (RP.t rfl RP.nil) | exact (RP.c rfl inferInstance rfl (by simp) RP.nil)) ?_ | refine A_ret rfl (by first | exact (RP.t rfl (RP.t rfl RP.nil)) | exact (RP.c rfl inferInstance rfl (by simp) (RP.t rfl RP.nil)) | exact (RP.t rfl (RP.t rfl (RP.t rfl RP.nil))) | exact (RP.c rfl inferInstance rfl (by simp) (RP.t rfl (RP.t rfl RP.nil))) | exact (RP.c rfl inferInstance rfl (by simp) (RP.t rfl (RP.t rfl (RP.t rfl (RP.t rfl RP.nil)))))) ?_ | refine A_ret0 rfl ?_)
  obtain ⟨p7, hEq⟩ : ∃ p, p = pz := ⟨_, rfl⟩; subst hEq
  refine A_loopX rfl (fun m fr L => ∃ (b : Nat) (A Bz : List Row), m = E - b ∧ fr = [(1, .c (.ptr q 0)), (4, .c (.ptr p4 0)), (5, .c (.ptr p5 0)), (6, .c (.ptr p6 0)), (7, .c (.ptr p7 0)), (19, iv E), (20, iv a), (23, iv E), (24, iv b)] ∧ L = (q, .rw 28 3 [ic S, ic re, .sl id_xs off_xs len_xs]) :: (p5, .rw 48 1 [.sl pa 0 (E * E)]) :: (p7, .rw 2 1 [ic a]) :: (p4, .rw 2 1 [ic E]) :: (p6, .rw 48 1 [.sl pb 0 (E * E)]) :: (pa, orow A) :: (pb, orow Bz) :: (mobs A ++ mobs Bz) ∧ b ≤ E ∧ GrI S E xs A Bz (a * E + b) 0) (n := E)
    ⟨(q, .rw 28 3 [ic S, ic re, .sl id_xs off_xs len_xs]) :: (p5, .rw 48 1 [.sl pa 0 (E * E)]) :: (p7, .rw 2 1 [ic a]) :: (p4, .rw 2 1 [ic E]) :: (p6, .rw 48 1 [.sl pb 0 (E * E)]) :: (pa, orow A) :: (pb, orow Bz) :: (mobs A ++ mobs Bz), ⟨0, A, Bz, rfl, rfl, rfl, by omega, hg⟩, inferInstance⟩ ?_
  clear hg A Bz
  rintro m fr L ⟨b, A, Bz, rfl, rfl, rfl, hb, hg⟩
  by_cases hb' : b < E
  case neg =>
    obtain rfl : E = b := by omega
    repeat' (first
 | refine A_go rfl ?_ | refine A_ifT rfl rfl ?_ | refine A_ifF rfl rfl ?_ | refine A_offP rfl rfl ?_ | refine A_offH rfl rfl ?_ | refine A_off0 rfl rfl ?_
 | refine A_add rfl rfl rfl (by omega) ?_ | refine A_sub rfl rfl rfl (by omega) ?_ | refine A_mul rfl rfl rfl (by omega) ?_ | refine A_rem rfl rfl rfl (by omega) ?_ | refine A_remT rfl rfl rfl (by omega) ?_ | refine A_quo rfl rfl rfl (by omega) ?_
 | ((first | refine A_lt rfl rfl rfl ?_ ?_ | refine A_le rfl rfl rfl ?_ ?_ | refine A_gt rfl rfl rfl ?_ ?_ | refine A_ge rfl rfl rfl ?_ ?_ | refine A_eq rfl rfl rfl ?_ ?_ | refine A_ne rfl rfl rfl ?_ ?_ | refine A_beq rfl rfl rfl ?_ ?_) <;> intro hc <;> try first | contradiction | (exfalso; omega) | exact absurd rfl hc)
 | refine A_idxN1 rfl rfl rfl (by omega) ?_ | refine A_idx1 rfl rfl rfl (by omega) ?_ | refine A_idxArr1 rfl rfl rfl (by omega) ?_
 | refine A_fld rfl rfl ?_ | refine A_mk3 rfl rfl rfl rfl ?_ | refine A_mk23 rfl rfl rfl ?_ | refine A_mk2 rfl rfl rfl ?_ | refine A_mk13 rfl rfl ?_ | refine A_p (by rfl) rfl ?_
 | refine A_ldI rfl (by first | omega | (simp; done) | (simp; omega)) rfl ?_ | refine A_ldB rfl (by first | omega | (simp; done) | (simp; omega)) rfl ?_ | refine A_ld rfl (by rfl) rfl ?_ | refine A_ldW rfl (by simp) rfl ?_
 | refine A_st rfl rfl rfl ?_ | refine A_stW rfl rfl (by simp) rfl ?_ | refine A_stE rfl rfl (by first | omega | (simp; done) | (simp; omega)) rfl ?_
 | ((first | refine A_alloc rfl ?_ | refine A_box rfl rfl ?_ | refine A_boxC rfl rfl ?_ | refine A_makeN rfl rfl rfl (by omega) ?_ | refine A_make rfl rfl rfl (by omega) ?_ | refine A_bld1 rfl rfl ?_ | refine A_bld2 rfl rfl rfl ?_ | refine A_bld4 rfl rfl rfl rfl rfl ?_) <;> intro pz hpz)
 | refine A_bld0 rfl ?_ | (refine A_app rfl rfl rfl (by first | omega | (simp; done) | (simp; omega)) (by first | omega | (simp; done) | (simp; omega)) (by omega) ?_; intro pz) | (refine A_appN (enc := ic) rfl (by decide) rfl rfl (by first | omega | (simp; done) | (simp; omega)) (by omega) ?_; intro pz)
 | refine A_chk1 rfl rfl rfl ?_ | refine A_chk2 rfl rfl rfl rfl ?_ | refine A_chk3 rfl rfl rfl rfl rfl ?_ | refine A_chk4 rfl rfl rfl rfl rfl rfl ?_ | refine A_chkI rfl (by assumption) rfl (by simp) ?_
 | refine A_ret1 rfl (by first | exact (RP.t rfl RP.nil) | exact (RP.c rfl inferInstance rfl (by simp) RP.nil)) ?_ | refine A_ret rfl (by first | exact (RP.t rfl (RP.t rfl RP.nil)) | exact (RP.c rfl inferInstance rfl (by simp) (RP.t rfl RP.nil)) | exact (RP.t rfl (RP.t rfl (RP.t rfl RP.nil))) | exact (RP.c rfl inferInstance rfl (by simp) (RP.t rfl (RP.t rfl RP.nil))) | exact (RP.c rfl inferInstance rfl (by simp) (RP.t rfl (RP.t rfl (RP.t rfl (RP.t rfl RP.nil)))))) ?_ | refine A_ret0 rfl ?_)
    refine A_roundX rfl ⟨E - (a + 1), (q, .rw 28 3 [ic S, ic re, .sl id_xs off_xs len_xs]) :: (p5, .rw 48 1 [.sl pa 0 (E * E)]) :: (p4, .rw 2 1 [ic E]) :: (p6, .rw 48 1 [.sl pb 0 (E * E)]) :: (pa, orow A) :: (pb, orow Bz) :: (mobs A ++ mobs Bz), by omega, ⟨a + 1, A, Bz, rfl, rfl, rfl, by omega, by rw [Nat.add_mul, Nat.one_mul]; exact hg⟩, inferInstance⟩
  repeat' (first
 | refine A_go rfl ?_ | refine A_ifT rfl rfl ?_ | refine A_ifF rfl rfl ?_ | refine A_offP rfl rfl ?_ | refine A_offH rfl rfl ?_ | refine A_off0 rfl rfl ?_
 | refine A_add rfl rfl rfl (by omega) ?_ | refine A_sub rfl rfl rfl (by omega) ?_ | refine A_mul rfl rfl rfl (by omega) ?_ | refine A_rem rfl rfl rfl (by omega) ?_ | refine A_remT rfl rfl rfl (by omega) ?_ | refine A_quo rfl rfl rfl (by omega) ?_
 | ((first | refine A_lt rfl rfl rfl ?_ ?_ | refine A_le rfl rfl rfl ?_ ?_ | refine A_gt rfl rfl rfl ?_ ?_ | refine A_ge rfl rfl rfl ?_ ?_ | refine A_eq rfl rfl rfl ?_ ?_ | refine A_ne rfl rfl rfl ?_ ?_ | refine A_beq rfl rfl rfl ?_ ?_) <;> intro hc <;> try first | contradiction | (exfalso; omega) | exact absurd rfl hc)
 | refine A_idxN1 rfl rfl rfl (by omega) ?_ | refine A_idx1 rfl rfl rfl (by omega) ?_ | refine A_idxArr1 rfl rfl rfl (by omega) ?_
 | refine A_fld rfl rfl ?_ | refine A_mk3 rfl rfl rfl rfl ?_ | refine A_mk23 rfl rfl rfl ?_ | refine A_mk2 rfl rfl rfl ?_ | refine A_mk13 rfl rfl ?_ | refine A_p (by rfl) rfl ?_
 | refine A_ldI rfl (by first | omega | (simp; done) | (simp; omega)) rfl ?_ | refine A_ldB rfl (by first | omega | (simp; done) | (simp; omega)) rfl ?_ | refine A_ld rfl (by rfl) rfl ?_ | refine A_ldW rfl (by simp) rfl ?_
 | refine A_st rfl rfl rfl ?_ | refine A_stW rfl rfl (by simp) rfl ?_ | refine A_stE rfl rfl (by first | omega | (simp; done) | (simp; omega)) rfl ?_
 | ((first | refine A_alloc rfl ?_ | refine A_box rfl rfl ?_ | refine A_boxC rfl rfl ?_ | refine A_makeN rfl rfl rfl (by omega) ?_ | refine A_make rfl rfl rfl (by omega) ?_ | refine A_bld1 rfl rfl ?_ | refine A_bld2 rfl rfl rfl ?_ | refine A_bld4 rfl rfl rfl rfl rfl ?_) <;> intro pz hpz)
 | refine A_bld0 rfl ?_ | (refine A_app rfl rfl rfl (by first | omega | (simp; done) | (simp; omega)) (by first | omega | (simp; done) | (simp; omega)) (by omega) ?_; intro pz) | (refine A_appN (enc := ic) rfl (by decide) rfl rfl (by first | omega | (simp; done) | (simp; omega)) (by omega) ?_; intro pz)
 | refine A_chk1 rfl rfl rfl ?_ | refine A_chk2 rfl rfl rfl rfl ?_ | refine A_chk3 rfl rfl rfl rfl rfl ?_ | refine A_chk4 rfl rfl rfl rfl rfl rfl ?_ | refine A_chkI rfl (by assumption) rfl (by simp) ?_
 | refine A_ret1 rfl (by first | exact (RP.t rfl RP.nil) | exact (RP.c rfl inferInstance rfl (by simp) RP.nil)) ?_ | refine A_ret rfl (by first | exact (RP.t rfl (RP.t rfl RP.nil)) | exact (RP.c rfl inferInstance rfl (by simp) (RP.t rfl RP.nil)) | exact (RP.t rfl (RP.t rfl (RP.t rfl RP.nil))) | exact (RP.c rfl inferInstance rfl (by simp) (RP.t rfl (RP.t rfl RP.nil))) | exact (RP.c rfl inferInstance rfl (by simp) (RP.t rfl (RP.t rfl (RP.t rfl (RP.t rfl RP.nil)))))) ?_ | refine A_ret0 rfl ?_)
  obtain ⟨p8, hEq⟩ : ∃ p, p = pz := ⟨_, rfl⟩; subst hEq
  have hdv : (a * E + b) / E = a := am_div hb'
  have hmd : (a * E + b) % E = b := by rw [Nat.mul_add_mod_self_right, Nat.mod_eq_of_lt hb']
  have hPl := lt_mul ha' hb'
  have hS9 : S * S ≤ 9 := Nat.mul_le_mul hS.2 hS.2
  refine A_subL (L' := [(q, .rw 28 3 [ic S, ic re, .sl id_xs off_xs len_xs])] ++ GrN p4 p5 p6 p7 p8 pa pb E (E * E) a b A Bz) (hs := ?_) ?_
  · simp only [GrN, List.cons_append, List.nil_append]; exact inferInstance
  refine A_callI (M := [(q, .rw 28 3 [ic S, ic re, .sl id_xs off_xs len_xs])]) (N := GrN p4 p5 p6 p7 p8 pa pb E (E * E) a b A Bz) (P := fun _ N => ∃ A Bz, N = GrN p4 p5 p6 p7 p8 pa pb E (E * E) a b A Bz ∧ GrI S E xs A Bz (a * E + b) (S * S)) rfl rfl rfl (fun s' H K => ?_) ?_
  · haveI hni : NotIn id_xs ((GrN p4 p5 p6 p7 p8 pa pb E (E * E) a b A Bz).map Prod.fst) := notInLent H h_xs.lt NotIn.nil
    haveI : Wf s' := ⟨K.wf⟩
    refine c_pairWays (xs := xs) (id_xs := id_xs) (off_xs := off_xs) (hl_xs := hl_xs) (caps := [(p5, 0), (p7, 0), (p4, 0), (p8, 0), (p6, 0)]) (hO := K) (Enc := fun m N => ∃ A Bz, N = GrN p4 p5 p6 p7 p8 pa pb E (E * E) a b A Bz ∧ GrI S E xs A Bz (a * E + b) m) (h0 := ⟨A, Bz, rfl, hg⟩) (hE := hE) (hl := hl) (ha := ha') (hb := hb') ?_ ?_
    · rintro x y N hx hy hne ⟨A, Bz, e, hg⟩
      exact ⟨A, Bz, e, hg.skip hy (by rw [hdv, hmd]; exact hne)⟩
    · rintro x y hx hy he s1 M N H1 ⟨A, Bz, rfl, hg⟩ K1
      haveI : Wf s1 := ⟨K1.wf⟩
      have hxy := lt_mul hx hy
      refine (c_pairDo (hO := K1) ⟨hg.la, hg.oka⟩ ⟨hg.lb, hg.okb⟩ hEb.2 rfl ⟨ha', hb'⟩ ⟨mod_in hEb.1, mod_in hEb.1⟩ (fun z hz => by have := hg.na z hz; omega) (fun z hz => by have := hg.nb z hz; omega)).mono fun r N' h => ?_
      obtain ⟨x', y', rfl⟩ := h
      have hst := hg.step (pa := x') (pb := y') hEb.1 hPl hx hy (by rw [hdv, hmd]; exact he)
      simp only [tgt, hdv, hmd] at hst
      exact ⟨_, _, rfl, hst⟩
  rintro r N ⟨A', Bz', rfl, hg'⟩
  simp only [GrN, List.cons_append, List.nil_append]
  repeat' (first
 | refine A_go rfl ?_ | refine A_ifT rfl rfl ?_ | refine A_ifF rfl rfl ?_ | refine A_offP rfl rfl ?_ | refine A_offH rfl rfl ?_ | refine A_off0 rfl rfl ?_
 | refine A_add rfl rfl rfl (by omega) ?_ | refine A_sub rfl rfl rfl (by omega) ?_ | refine A_mul rfl rfl rfl (by omega) ?_ | refine A_rem rfl rfl rfl (by omega) ?_ | refine A_remT rfl rfl rfl (by omega) ?_ | refine A_quo rfl rfl rfl (by omega) ?_
 | ((first | refine A_lt rfl rfl rfl ?_ ?_ | refine A_le rfl rfl rfl ?_ ?_ | refine A_gt rfl rfl rfl ?_ ?_ | refine A_ge rfl rfl rfl ?_ ?_ | refine A_eq rfl rfl rfl ?_ ?_ | refine A_ne rfl rfl rfl ?_ ?_ | refine A_beq rfl rfl rfl ?_ ?_) <;> intro hc <;> try first | contradiction | (exfalso; omega) | exact absurd rfl hc)
 | refine A_idxN1 rfl rfl rfl (by omega) ?_ | refine A_idx1 rfl rfl rfl (by omega) ?_ | refine A_idxArr1 rfl rfl rfl (by omega) ?_
 | refine A_fld rfl rfl ?_ | refine A_mk3 rfl rfl rfl rfl ?_ | refine A_mk23 rfl rfl rfl ?_ | refine A_mk2 rfl rfl rfl ?_ | refine A_mk13 rfl rfl ?_ | refine A_p (by rfl) rfl ?_
 | refine A_ldI rfl (by first | omega | (simp; done) | (simp; omega)) rfl ?_ | refine A_ldB rfl (by first | omega | (simp; done) | (simp; omega)) rfl ?_ | refine A_ld rfl (by rfl) rfl ?_ | refine A_ldW rfl (by simp) rfl ?_
 | refine A_st rfl rfl rfl ?_ | refine A_stW rfl rfl (by simp) rfl ?_ | refine A_stE rfl rfl (by first | omega | (simp; done) | (simp; omega)) rfl ?_
 | ((first | refine A_alloc rfl ?_ | refine A_box rfl rfl ?_ | refine A_boxC rfl rfl ?_ | refine A_makeN rfl rfl rfl (by omega) ?_ | refine A_make rfl rfl rfl (by omega) ?_ | refine A_bld1 rfl rfl ?_ | refine A_bld2 rfl rfl rfl ?_ | refine A_bld4 rfl rfl rfl rfl rfl ?_) <;> intro pz hpz)
 | refine A_bld0 rfl ?_ | (refine A_app rfl rfl rfl (by first | omega | (simp; done) | (simp; omega)) (by first | omega | (simp; done) | (simp; omega)) (by omega) ?_; intro pz) | (refine A_appN (enc := ic) rfl (by decide) rfl rfl (by first | omega | (simp; done) | (simp; omega)) (by omega) ?_; intro pz)
 | refine A_chk1 rfl rfl rfl ?_ | refine A_chk2 rfl rfl rfl rfl ?_ | refine A_chk3 rfl rfl rfl rfl rfl ?_ | refine A_chk4 rfl rfl rfl rfl rfl rfl ?_ | refine A_chkI rfl (by assumption) rfl (by simp) ?_
 | refine A_ret1 rfl (by first | exact (RP.t rfl RP.nil) | exact (RP.c rfl inferInstance rfl (by simp) RP.nil)) ?_ | refine A_ret rfl (by first | exact (RP.t rfl (RP.t rfl RP.nil)) | exact (RP.c rfl inferInstance rfl (by simp) (RP.t rfl RP.nil)) | exact (RP.t rfl (RP.t rfl (RP.t rfl RP.nil))) | exact (RP.c rfl inferInstance rfl (by simp) (RP.t rfl (RP.t rfl RP.nil))) | exact (RP.c rfl inferInstance rfl (by simp) (RP.t rfl (RP.t rfl (RP.t rfl (RP.t rfl RP.nil)))))) ?_ | refine A_ret0 rfl ?_)
  refine A_roundX rfl ⟨E - (b + 1), (q, .rw 28 3 [ic S, ic re, .sl id_xs off_xs len_xs]) :: (p5, .rw 48 1 [.sl pa 0 (E * E)]) :: (p7, .rw 2 1 [ic a]) :: (p4, .rw 2 1 [ic E]) :: (p6, .rw 48 1 [.sl pb 0 (E * E)]) :: (pa, orow A') :: (pb, orow Bz') :: (mobs A' ++ mobs Bz'), by omega, ⟨b + 1, A', Bz', rfl, rfl, rfl, by omega, hg'.next hS.2⟩, inferInstance⟩

end Go.Proofs.Ytkeabhhndcpejaa
