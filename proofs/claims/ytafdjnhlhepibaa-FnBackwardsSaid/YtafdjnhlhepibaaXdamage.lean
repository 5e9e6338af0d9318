/- How damage spreads. -/
import Derived.Test.YtafdjnhlhepibaaXrun
import Derived.Test.YtafdjnhlhepibaaXalone
import Derived.Test.YtafdjnhlhepibaaXcount
import Derived.Test.YtafdjnhlhepibaaFB
namespace Go.Proofs.Ytafdjnhlhepibaa
open Go Go.RowKit
set_option linter.unusedVariables false
set_option linter.unusedSimpArgs false
set_option maxRecDepth 100000
set_option maxHeartbeats 8000000
-- impl.DamageOf
def L51 : AFun := ⟨57, [.t 8, .t 9],
 (.seq (.ops false [⟨(some 4), .box 30 (.t 0), none, []⟩,
   ⟨(some 8), .mv (.k (.c (.sl 0 0 0))), none, []⟩,
   ⟨(some 9), .mv (.k (bv false)), none, []⟩])
 (.seq (.seq (.ops false [⟨(some 14), .load true 3 (.t 4), none, []⟩,
    ⟨(some 15), .mv (.t 1), none, []⟩,
    ⟨(some 16), .mv (.t 2), none, []⟩,
    ⟨(some 17), .buildS 22 1 2 [.sl 0 0 0] [(0, 1, (.t 15)), (1, 1, (.t 16))], none, []⟩,
    ⟨(some 18), .call (.f 99) [(.t 14), (.t 17)], none, []⟩,
    ⟨(some 19), .un .not (.t 18), none, []⟩,
    ⟨(some 20), .mv (.t 19), none, []⟩,
    ⟨(some 21), .mv (.t 3), (some (20, false)), []⟩,
    ⟨(some 22), .call (.f 72) [(.t 21), (.k (iv 0)), (.k (iv 64))], (some (20, false)), []⟩,
    ⟨(some 23), .un .not (.t 22), (some (20, false)), []⟩,
    ⟨(some 24), .pick (.t 20) (.k (bv true)) (.t 23), none, []⟩])
  (.cond (.t 24) (.seq (.ops false [⟨(some 8), .mv (.k (.c (.sl 0 0 0))), none, []⟩,
     ⟨(some 9), .mv (.k (bv false)), none, []⟩])
   .ret)
   .skip))
 (.seq (.ops false [⟨(some 25), .buildS 2 1 0 [.int .i64 0] [], none, []⟩,
   ⟨(some 10), .mv (.t 25), none, []⟩])
 (.block 0 (.loop [1, 2, 3, 4, 10] (.block 1 (.seq (.ops false [⟨(some 11), .mv (.k (iv 0)), none, []⟩])
    (.seq (.seq (.ops false [⟨(some 26), .mv (.t 1), none, []⟩,
       ⟨(some 27), .len false (.t 26), none, []⟩,
       ⟨(some 28), .mv (.k (iv 0)), none, []⟩])
     (.block 2 (.loop [1, 2, 3, 4, 10, 11, 26, 27, 28] (.seq (.ops false [⟨(some 29), .bin .lss (.t 28) (.t 27), none, []⟩])
       (.seq (.cond (.t 29) .skip
         (.exit 2))
       (.seq (.block 3 (.seq (.ops false [⟨(some 30), .mv (.t 28), none, []⟩,
           ⟨(some 31), .idxA 1 (.t 26) (.t 28), none, []⟩,
           ⟨(some 32), .load false 1 (.t 31), none, []⟩,
           ⟨(some 12), .mv (.t 30), none, []⟩,
           ⟨(some 13), .mv (.t 32), none, []⟩])
         (.seq (.ops false [⟨(some 33), .mv (.t 13), none, []⟩,
           ⟨(some 34), .mv (.t 2), none, []⟩,
           ⟨(some 35), .mv (.t 12), none, []⟩,
           ⟨(some 36), .idxA 1 (.t 34) (.t 35), none, []⟩,
           ⟨(some 37), .load false 1 (.t 36), none, []⟩,
           ⟨(some 38), .bin .neq (.t 33) (.t 37), none, []⟩])
         (.cond (.t 38) (.ops false [⟨(some 39), .mv (.t 11), none, []⟩,
           ⟨(some 40), .bin .add (.t 39) (.k (iv 1)), none, []⟩,
           ⟨(some 11), .mv (.t 40), none, []⟩])
          .skip))))
       (.ops false [⟨(some 41), .bin .add (.t 28) (.k (iv 1)), none, []⟩,
        ⟨(some 28), .mv (.t 41), none, []⟩])))))))
    (.seq (.ops false [⟨(some 42), .mv (.t 10), none, []⟩,
      ⟨(some 43), .mv (.t 11), none, []⟩,
      ⟨(some 44), .buildS 2 1 1 [.int .i64 0] [(0, 1, (.t 43))], none, []⟩,
      ⟨(some 45), .append 2 1 8 (.t 42) (.t 44), none, []⟩,
      ⟨(some 10), .mv (.t 45), none, []⟩])
    (.seq (.seq (.ops false [⟨(some 46), .mv (.t 10), none, []⟩,
       ⟨(some 47), .len false (.t 46), none, []⟩,
       ⟨(some 48), .mv (.t 3), none, []⟩,
       ⟨(some 49), .bin .gtr (.t 47) (.t 48), none, []⟩])
     (.cond (.t 49) (.seq (.ops false [⟨(some 50), .mv (.t 10), none, []⟩,
        ⟨(some 8), .mv (.t 50), none, []⟩,
        ⟨(some 9), .mv (.k (bv true)), none, []⟩])
      .ret)
      .skip))
    (.ops true [⟨(some 51), .load true 3 (.t 4), none, []⟩,
     ⟨(some 52), .mv (.t 1), none, []⟩,
     ⟨(some 53), .call (.f 78) [(.t 51), (.t 52)], none, []⟩,
     ⟨(some 54), .load true 3 (.t 4), none, [0]⟩,
     ⟨(some 55), .mv (.t 2), none, []⟩,
     ⟨(some 56), .call (.f 78) [(.t 54), (.t 55)], none, []⟩,
     ⟨(some 1), .mv (.t 53), none, []⟩,
     ⟨(some 2), .mv (.t 56), none, []⟩])))))))))))⟩
theorem code51 : acode Try.prog hints 51 = some L51 := by kernel_rfl


def dmg (st re : Int) (xs ys zs : List Int) (k : Nat) : Int := (dif (runR st re xs ys k) (runR st re xs zs k) ys.length : Nat)
def dmgs (st re : Int) (xs ys zs : List Int) (k : Nat) : List Int := (List.range k).map (dmg st re xs ys zs)
@[simp] theorem dmgs_len {st re : Int} {xs ys zs : List Int} {k : Nat} : (dmgs st re xs ys zs k).length = k := by simp [dmgs]
theorem dmgs_succ {st re : Int} {xs ys zs : List Int} {k : Nat} : dmgs st re xs ys zs (k + 1) = dmgs st re xs ys zs k ++ [dmg st re xs ys zs k] := by simp [dmgs, List.range_succ]
abbrev DamP (st re : Int) (xs ys zs : List Int) (T : Int) : Prop := SecP st re xs ys zs ∧ 0 ≤ T ∧ T ≤ 64
theorem c_implDamageOf {s : St} [Wf s] {st re T0 : Int} {id_xs off_xs len_xs : Nat} {xs : List Int} [h_xs : ArgE ic s id_xs off_xs xs] (hl_xs : xs.length = len_xs := by first | rfl | simp | omega | (simp; omega)) {id_ys off_ys len_ys : Nat} {ys : List Int} [h_ys : ArgE ic s id_ys off_ys ys] (hl_ys : ys.length = len_ys := by first | rfl | simp | omega | (simp; omega)) {id_zs off_zs len_zs : Nat} {zs : List Int} [h_zs : ArgE ic s id_zs off_zs zs] (hl_zs : zs.length = len_zs := by first | rfl | simp | omega | (simp; omega)) (hb : len_xs ≤ 2000000 ∧ len_ys ≤ 2000000 ∧ len_zs ≤ 2000000 := by omega) :
    Fn [] 51 [.agg [ic st, ic re, .sl id_xs off_xs len_xs], .c (.sl id_ys off_ys len_ys), .c (.sl id_zs off_zs len_zs), iv T0] s (IntsRes (DamP st re xs ys zs T0) (dmgs st re xs ys zs (T0.toNat + 1))) := by
  refine F_start code51 ?_
  by_cases hv : SecP st re xs ys zs
  case neg =>
    repeat' (first
 | refine A_go rfl ?_ | refine A_ifT rfl rfl ?_ | refine A_ifF rfl rfl ?_
 | refine A_offP rfl rfl ?_ | refine A_offH rfl rfl ?_ | refine A_off0 rfl rfl ?_
 | refine A_add rfl rfl rfl (by omega) ?_
 | ((first | refine A_lt rfl rfl rfl ?_ ?_ | refine A_gt rfl rfl rfl ?_ ?_ | refine A_ne rfl rfl rfl ?_ ?_) <;> intro hc <;> try first | contradiction | (exfalso; omega) | exact absurd rfl hc)
 | refine A_idxN1 rfl rfl rfl (by omega) ?_ | refine A_idx1 rfl rfl rfl (by omega) ?_
 | (refine A_bld2 (enc := rc) (a := ⟨_, _, _, ys⟩) (c := ⟨_, _, _, zs⟩) rfl rfl rfl ?_ <;> intro pz hpz)
 | (refine A_callB rfl rfl (fun s H => c_ringed2 (ys := ys) (zs := zs)) ?_ ?_ <;> intro hc <;> try first | contradiction | (exfalso; omega) | exact absurd rfl hc | exact absurd (And.intro rfl rfl) hc | exact absurd (And.intro rfl (And.intro rfl rfl)) hc | exact absurd (Eq.trans (by assumption) (Eq.symm (by assumption))) hc)
 | refine A_p (by rfl) rfl ?_
 | refine A_ldI rfl (by first | omega | (simp; done) | (simp; omega)) rfl ?_ | refine A_ldB rfl (by first | omega | (simp; done) | (simp; omega)) rfl ?_ | refine A_ld rfl (by rfl) rfl ?_
 | refine A_ldW rfl (by simp) rfl ?_
 | ((first | refine A_box rfl rfl ?_ | refine A_boxC rfl rfl ?_ | refine A_bld1 rfl rfl ?_ | refine A_bld2 rfl rfl rfl ?_ | refine A_bld4 rfl rfl rfl rfl rfl ?_) <;> intro pz hpz)
 | refine A_bld0 rfl ?_
 | (refine A_app rfl rfl rfl (by first | omega | (simp; done) | (simp; omega)) (by first | omega | (simp; done) | (simp; omega)) (by omega) ?_; intro pz) | (refine A_appN (enc := ic) rfl (by decide) rfl rfl (by first | omega | (simp; done) | (simp; omega)) (by omega) ?_; intro pz)
 | refine A_chk1 rfl rfl rfl ?_ | refine A_chk2 rfl rfl rfl rfl ?_ | refine A_chk3 rfl rfl rfl rfl rfl ?_ | refine A_chk4 rfl rfl rfl rfl rfl rfl ?_ | refine A_chkI rfl (by assumption) rfl (by simp) ?_
 | refine A_ret rfl (by exact (RP.t rfl (RP.t rfl RP.nil))) ?_)
    exact R_intsN fun h => hv h.1
  by_cases hT : 0 ≤ T0 ∧ T0 ≤ 64
  case neg =>
    repeat' (first
 | refine A_go rfl ?_ | refine A_ifT rfl rfl ?_ | refine A_ifF rfl rfl ?_
 | refine A_offP rfl rfl ?_ | refine A_offH rfl rfl ?_ | refine A_off0 rfl rfl ?_
 | refine A_add rfl rfl rfl (by omega) ?_
 | ((first | refine A_lt rfl rfl rfl ?_ ?_ | refine A_gt rfl rfl rfl ?_ ?_ | refine A_ne rfl rfl rfl ?_ ?_) <;> intro hc <;> try first | contradiction | (exfalso; omega) | exact absurd rfl hc)
 | refine A_idxN1 rfl rfl rfl (by omega) ?_ | refine A_idx1 rfl rfl rfl (by omega) ?_
 | (refine A_bld2 (enc := rc) (a := ⟨_, _, _, ys⟩) (c := ⟨_, _, _, zs⟩) rfl rfl rfl ?_ <;> intro pz hpz)
 | (refine A_callB rfl rfl (fun s H => c_ringed2 (ys := ys) (zs := zs)) ?_ ?_ <;> intro hc <;> try first | contradiction | (exfalso; omega) | exact absurd rfl hc | exact absurd (And.intro rfl rfl) hc | exact absurd (And.intro rfl (And.intro rfl rfl)) hc | exact absurd (Eq.trans (by assumption) (Eq.symm (by assumption))) hc)
 | (refine A_callB rfl rfl (fun s H => c_within) ?_ ?_ <;> intro hc <;> try first | contradiction | (exfalso; omega) | exact absurd rfl hc | exact absurd (And.intro rfl rfl) hc | exact absurd (And.intro rfl (And.intro rfl rfl)) hc | exact absurd (Eq.trans (by assumption) (Eq.symm (by assumption))) hc)
 | refine A_p (by rfl) rfl ?_
 | refine A_ldI rfl (by first | omega | (simp; done) | (simp; omega)) rfl ?_ | refine A_ldB rfl (by first | omega | (simp; done) | (simp; omega)) rfl ?_ | refine A_ld rfl (by rfl) rfl ?_
 | refine A_ldW rfl (by simp) rfl ?_
 | ((first | refine A_box rfl rfl ?_ | refine A_boxC rfl rfl ?_ | refine A_bld1 rfl rfl ?_ | refine A_bld2 rfl rfl rfl ?_ | refine A_bld4 rfl rfl rfl rfl rfl ?_) <;> intro pz hpz)
 | refine A_bld0 rfl ?_
 | (refine A_app rfl rfl rfl (by first | omega | (simp; done) | (simp; omega)) (by first | omega | (simp; done) | (simp; omega)) (by omega) ?_; intro pz) | (refine A_appN (enc := ic) rfl (by decide) rfl rfl (by first | omega | (simp; done) | (simp; omega)) (by omega) ?_; intro pz)
 | refine A_chk1 rfl rfl rfl ?_ | refine A_chk2 rfl rfl rfl rfl ?_ | refine A_chk3 rfl rfl rfl rfl rfl ?_ | refine A_chk4 rfl rfl rfl rfl rfl rfl ?_ | refine A_chkI rfl (by assumption) rfl (by simp) ?_
 | refine A_ret rfl (by exact (RP.t rfl (RP.t rfl RP.nil))) ?_)
    exact R_intsN fun h => hT h.2
  obtain ⟨v1, v2, v3, v4⟩ := id hv
  have w2 := v2.1
  have w3 := v3.1
  obtain ⟨T, rfl⟩ : ∃ T : Nat, T0 = T := ⟨T0.toNat, by omega⟩
  rw [Int.toNat_natCast]
  have hP : DamP st re xs ys zs T := ⟨hv, hT⟩
  have d0 : dmg st re xs ys zs 0 = ((dif ys zs len_ys : Nat) : Int) := by rw [dmg, runR, runR, hl_ys]
  repeat' (first
 | refine A_go rfl ?_ | refine A_ifT rfl rfl ?_ | refine A_ifF rfl rfl ?_
 | refine A_offP rfl rfl ?_ | refine A_offH rfl rfl ?_ | refine A_off0 rfl rfl ?_
 | refine A_add rfl rfl rfl (by omega) ?_
 | ((first | refine A_lt rfl rfl rfl ?_ ?_ | refine A_gt rfl rfl rfl ?_ ?_ | refine A_ne rfl rfl rfl ?_ ?_) <;> intro hc <;> try first | contradiction | (exfalso; omega) | exact absurd rfl hc)
 | refine A_idxN1 rfl rfl rfl (by omega) ?_ | refine A_idx1 rfl rfl rfl (by omega) ?_
 | (refine A_bld2 (enc := rc) (a := ⟨_, _, _, ys⟩) (c := ⟨_, _, _, zs⟩) rfl rfl rfl ?_ <;> intro pz hpz)
 | (refine A_callB rfl rfl (fun s H => c_ringed2 (ys := ys) (zs := zs)) ?_ ?_ <;> intro hc <;> try first | contradiction | (exfalso; omega) | exact absurd rfl hc | exact absurd (And.intro rfl rfl) hc | exact absurd (And.intro rfl (And.intro rfl rfl)) hc | exact absurd (Eq.trans (by assumption) (Eq.symm (by assumption))) hc)
 | (refine A_callB rfl rfl (fun s H => c_within) ?_ ?_ <;> intro hc <;> try first | contradiction | (exfalso; omega) | exact absurd rfl hc | exact absurd (And.intro rfl rfl) hc | exact absurd (And.intro rfl (And.intro rfl rfl)) hc | exact absurd (Eq.trans (by assumption) (Eq.symm (by assumption))) hc)
 | refine A_p (by rfl) rfl ?_
 | refine A_ldI rfl (by first | omega | (simp; done) | (simp; omega)) rfl ?_ | refine A_ldB rfl (by first | omega | (simp; done) | (simp; omega)) rfl ?_ | refine A_ld rfl (by rfl) rfl ?_
 | refine A_ldW rfl (by simp) rfl ?_
 | ((first | refine A_box rfl rfl ?_ | refine A_boxC rfl rfl ?_ | refine A_bld1 rfl rfl ?_ | refine A_bld2 rfl rfl rfl ?_ | refine A_bld4 rfl rfl rfl rfl rfl ?_) <;> intro pz hpz)
 | refine A_bld0 rfl ?_
 | (refine A_app rfl rfl rfl (by first | omega | (simp; done) | (simp; omega)) (by first | omega | (simp; done) | (simp; omega)) (by omega) ?_; intro pz) | (refine A_appN (enc := ic) rfl (by decide) rfl rfl (by first | omega | (simp; done) | (simp; omega)) (by omega) ?_; intro pz)
 | refine A_chk1 rfl rfl rfl ?_ | refine A_chk2 rfl rfl rfl rfl ?_ | refine A_chk3 rfl rfl rfl rfl rfl ?_ | refine A_chk4 rfl rfl rfl rfl rfl rfl ?_ | refine A_chkI rfl (by assumption) rfl (by simp) ?_
 | refine A_ret rfl (by exact (RP.t rfl (RP.t rfl RP.nil))) ?_)
  rename_i q _ _
  refine A_unroll rfl ?_
  repeat' (first
 | refine A_go rfl ?_ | refine A_ifT rfl rfl ?_ | refine A_ifF rfl rfl ?_
 | refine A_offP rfl rfl ?_ | refine A_offH rfl rfl ?_ | refine A_off0 rfl rfl ?_
 | refine A_add rfl rfl rfl (by omega) ?_
 | ((first | refine A_lt rfl rfl rfl ?_ ?_ | refine A_gt rfl rfl rfl ?_ ?_ | refine A_ne rfl rfl rfl ?_ ?_) <;> intro hc <;> try first | contradiction | (exfalso; omega) | exact absurd rfl hc)
 | refine A_idxN1 rfl rfl rfl (by omega) ?_ | refine A_idx1 rfl rfl rfl (by omega) ?_
 | refine A_p (by rfl) rfl ?_
 | refine A_ldI rfl (by first | omega | (simp; done) | (simp; omega)) rfl ?_ | refine A_ldB rfl (by first | omega | (simp; done) | (simp; omega)) rfl ?_ | refine A_ld rfl (by rfl) rfl ?_
 | refine A_ldW rfl (by simp) rfl ?_
 | ((first | refine A_box rfl rfl ?_ | refine A_boxC rfl rfl ?_ | refine A_bld1 rfl rfl ?_ | refine A_bld2 rfl rfl rfl ?_ | refine A_bld4 rfl rfl rfl rfl rfl ?_) <;> intro pz hpz)
 | refine A_bld0 rfl ?_
 | (refine A_app rfl rfl rfl (by first | omega | (simp; done) | (simp; omega)) (by first | omega | (simp; done) | (simp; omega)) (by omega) ?_; intro pz) | (refine A_appN (enc := ic) rfl (by decide) rfl rfl (by first | omega | (simp; done) | (simp; omega)) (by omega) ?_; intro pz)
 | refine A_chk1 rfl rfl rfl ?_ | refine A_chk2 rfl rfl rfl rfl ?_ | refine A_chk3 rfl rfl rfl rfl rfl ?_ | refine A_chk4 rfl rfl rfl rfl rfl rfl ?_ | refine A_chkI rfl (by assumption) rfl (by simp) ?_
 | refine A_ret rfl (by exact (RP.t rfl (RP.t rfl RP.nil))) ?_)
  refine A_loop rfl [q, 1] (fun m fr L => ∃ (i : Nat) (n : Nat), m = len_ys - i ∧ fr = [(1, .c (.sl id_ys off_ys len_ys)), (2, .c (.sl id_zs off_zs len_zs)), (3, iv T), (4, .c (.ptr q 0)), (10, .c (.sl 1 0 0)), (11, iv n), (26, .c (.sl id_ys off_ys len_ys)), (27, iv len_ys), (28, iv i)] ∧ L = [(q, .rw 30 3 [ic st, ic re, .sl id_xs off_xs len_xs]), (1, ints [])] ∧ i ≤ len_ys ∧ n = dif ys zs i) len_ys ⟨0, 0, rfl, rfl, rfl, by omega, rfl⟩ ?_
  rintro m fr L ⟨i, n, rfl, rfl, rfl, hi, hn⟩
  have hdl := dif_le (xs := ys) (ys := zs) i
  by_cases hin : i < len_ys
  · by_cases he : (ys).getD i 0 = (zs).getD i 0
    · repeat' (first
 | refine A_go rfl ?_ | refine A_ifT rfl rfl ?_ | refine A_ifF rfl rfl ?_
 | refine A_offP rfl rfl ?_ | refine A_offH rfl rfl ?_ | refine A_off0 rfl rfl ?_
 | refine A_add rfl rfl rfl (by omega) ?_
 | ((first | refine A_lt rfl rfl rfl ?_ ?_ | refine A_gt rfl rfl rfl ?_ ?_ | refine A_ne rfl rfl rfl ?_ ?_) <;> intro hc <;> try first | contradiction | (exfalso; omega) | exact absurd rfl hc)
 | refine A_idxN1 rfl rfl rfl (by omega) ?_ | refine A_idx1 rfl rfl rfl (by omega) ?_
 | refine A_p (by rfl) rfl ?_
 | refine A_ldI rfl (by first | omega | (simp; done) | (simp; omega)) rfl ?_ | refine A_ldB rfl (by first | omega | (simp; done) | (simp; omega)) rfl ?_ | refine A_ld rfl (by rfl) rfl ?_
 | refine A_ldW rfl (by simp) rfl ?_
 | ((first | refine A_box rfl rfl ?_ | refine A_boxC rfl rfl ?_ | refine A_bld1 rfl rfl ?_ | refine A_bld2 rfl rfl rfl ?_ | refine A_bld4 rfl rfl rfl rfl rfl ?_) <;> intro pz hpz)
 | refine A_bld0 rfl ?_
 | (refine A_app rfl rfl rfl (by first | omega | (simp; done) | (simp; omega)) (by first | omega | (simp; done) | (simp; omega)) (by omega) ?_; intro pz) | (refine A_appN (enc := ic) rfl (by decide) rfl rfl (by first | omega | (simp; done) | (simp; omega)) (by omega) ?_; intro pz)
 | refine A_chk1 rfl rfl rfl ?_ | refine A_chk2 rfl rfl rfl rfl ?_ | refine A_chk3 rfl rfl rfl rfl rfl ?_ | refine A_chk4 rfl rfl rfl rfl rfl rfl ?_ | refine A_chkI rfl (by assumption) rfl (by simp) ?_
 | refine A_ret rfl (by exact (RP.t rfl (RP.t rfl RP.nil))) ?_)
      refine A_round rfl [q, 1] (len_ys - (i + 1)) (by omega) ?_
      exact ⟨i + 1, n, rfl, rfl, rfl, by omega, by simp only [dif]; rw [if_pos he]; omega⟩
    · repeat' (first
 | refine A_go rfl ?_ | refine A_ifT rfl rfl ?_ | refine A_ifF rfl rfl ?_
 | refine A_offP rfl rfl ?_ | refine A_offH rfl rfl ?_ | refine A_off0 rfl rfl ?_
 | refine A_add rfl rfl rfl (by omega) ?_
 | ((first | refine A_lt rfl rfl rfl ?_ ?_ | refine A_gt rfl rfl rfl ?_ ?_ | refine A_ne rfl rfl rfl ?_ ?_) <;> intro hc <;> try first | contradiction | (exfalso; omega) | exact absurd rfl hc)
 | refine A_idxN1 rfl rfl rfl (by omega) ?_ | refine A_idx1 rfl rfl rfl (by omega) ?_
 | refine A_p (by rfl) rfl ?_
 | refine A_ldI rfl (by first | omega | (simp; done) | (simp; omega)) rfl ?_ | refine A_ldB rfl (by first | omega | (simp; done) | (simp; omega)) rfl ?_ | refine A_ld rfl (by rfl) rfl ?_
 | refine A_ldW rfl (by simp) rfl ?_
 | ((first | refine A_box rfl rfl ?_ | refine A_boxC rfl rfl ?_ | refine A_bld1 rfl rfl ?_ | refine A_bld2 rfl rfl rfl ?_ | refine A_bld4 rfl rfl rfl rfl rfl ?_) <;> intro pz hpz)
 | refine A_bld0 rfl ?_
 | (refine A_app rfl rfl rfl (by first | omega | (simp; done) | (simp; omega)) (by first | omega | (simp; done) | (simp; omega)) (by omega) ?_; intro pz) | (refine A_appN (enc := ic) rfl (by decide) rfl rfl (by first | omega | (simp; done) | (simp; omega)) (by omega) ?_; intro pz)
 | refine A_chk1 rfl rfl rfl ?_ | refine A_chk2 rfl rfl rfl rfl ?_ | refine A_chk3 rfl rfl rfl rfl rfl ?_ | refine A_chk4 rfl rfl rfl rfl rfl rfl ?_ | refine A_chkI rfl (by assumption) rfl (by simp) ?_
 | refine A_ret rfl (by exact (RP.t rfl (RP.t rfl RP.nil))) ?_)
      refine A_round rfl [q, 1] (len_ys - (i + 1)) (by omega) ?_
      exact ⟨i + 1, n + 1, rfl, rfl, rfl, by omega, by simp only [dif]; rw [if_neg he]; omega⟩
  obtain rfl : len_ys = i := by omega
  subst hn
  have g1 := stepR_rg v1 v2
  have g2 := stepR_rg v1 v3
  repeat' (first
 | refine A_go rfl ?_ | refine A_ifT rfl rfl ?_ | refine A_ifF rfl rfl ?_
 | refine A_offP rfl rfl ?_ | refine A_offH rfl rfl ?_ | refine A_off0 rfl rfl ?_
 | refine A_add rfl rfl rfl (by omega) ?_
 | ((first | refine A_lt rfl rfl rfl ?_ ?_ | refine A_gt rfl rfl rfl ?_ ?_ | refine A_ne rfl rfl rfl ?_ ?_) <;> intro hc <;> try first | contradiction | (exfalso; omega) | exact absurd rfl hc)
 | refine A_idxN1 rfl rfl rfl (by omega) ?_ | refine A_idx1 rfl rfl rfl (by omega) ?_
 | (refine A_callM rfl rfl (fun s H => c_rstep (ys := ys) (hv := v1) (hr := v2)) ?_; rintro _ _ ⟨pz, rfl, rfl⟩) | (refine A_callM0 rfl rfl (fun s H => c_rstep (ys := ys) (hv := v1) (hr := v2)) ?_; rintro _ _ ⟨pz, rfl, rfl⟩)
 | (refine A_callM rfl rfl (fun s H => c_rstep (ys := zs) (hv := v1) (hr := v3)) ?_; rintro _ _ ⟨pz, rfl, rfl⟩) | (refine A_callM0 rfl rfl (fun s H => c_rstep (ys := zs) (hv := v1) (hr := v3)) ?_; rintro _ _ ⟨pz, rfl, rfl⟩)
 | refine A_p (by rfl) rfl ?_
 | refine A_ldI rfl (by first | omega | (simp; done) | (simp; omega)) rfl ?_ | refine A_ldB rfl (by first | omega | (simp; done) | (simp; omega)) rfl ?_ | refine A_ld rfl (by rfl) rfl ?_
 | refine A_ldW rfl (by simp) rfl ?_
 | ((first | refine A_box rfl rfl ?_ | refine A_boxC rfl rfl ?_ | refine A_bld1 rfl rfl ?_ | refine A_bld2 rfl rfl rfl ?_ | refine A_bld4 rfl rfl rfl rfl rfl ?_) <;> intro pz hpz)
 | refine A_bld0 rfl ?_
 | (refine A_app rfl rfl rfl (by first | omega | (simp; done) | (simp; omega)) (by first | omega | (simp; done) | (simp; omega)) (by omega) ?_; intro pz) | (refine A_appN (enc := ic) rfl (by decide) rfl rfl (by first | omega | (simp; done) | (simp; omega)) (by omega) ?_; intro pz)
 | refine A_chk1 rfl rfl rfl ?_ | refine A_chk2 rfl rfl rfl rfl ?_ | refine A_chk3 rfl rfl rfl rfl rfl ?_ | refine A_chk4 rfl rfl rfl rfl rfl rfl ?_ | refine A_chkI rfl (by assumption) rfl (by simp) ?_
 | refine A_ret rfl (by exact (RP.t rfl (RP.t rfl RP.nil))) ?_)
  · obtain rfl : T = 0 := by omega
    rw [dmgs_succ, d0, show dmgs st re xs ys zs 0 = [] from rfl]
    exact R_ints hP (by simp) (by omega)
  obtain ⟨pb, hEq⟩ : ∃ p, p = pz := ⟨_, rfl⟩; subst hEq
  obtain ⟨pa, hEq⟩ : ∃ p, p = pz := ⟨_, rfl⟩; subst hEq
  obtain ⟨po, hEq⟩ : ∃ p, p = pz := ⟨_, rfl⟩; subst hEq
  refine A_loop rfl [q, pa, pb, po] (fun m fr L => ∃ (k pa pb po : Nat), m = T + 1 - k ∧ fr = [(1, .c (.sl pa 0 len_ys)), (2, .c (.sl pb 0 len_ys)), (3, iv T), (4, .c (.ptr q 0)), (10, .c (.sl po 0 k))] ∧ L = [(q, .rw 30 3 [ic st, ic re, .sl id_xs off_xs len_xs]), (pa, ints (runR st re xs ys k)), (pb, ints (runR st re xs zs k)), (po, ints (dmgs st re xs ys zs k))] ∧ k ≤ T) (T + 1 - 1) ⟨1, pa, pb, po, rfl, by rw [show len_zs = len_ys by omega]; rfl, by rw [dmgs_succ, d0]; rfl, by omega⟩ ?_
  clear g1 g2
  rintro m fr L ⟨k, pa, pb, po, rfl, rfl, rfl, hk⟩
  have g1 := runR_rg v1 v2 k
  have g2 := runR_rg v1 v3 k
  have l1 := runR_len (st := st) (re := re) (xs := xs) (ys := ys) k
  have l2 := runR_len (st := st) (re := re) (xs := xs) (ys := zs) k
  have d1 : dmg st re xs ys zs k = ((dif (runR st re xs ys k) (runR st re xs zs k) len_ys : Nat) : Int) := by rw [dmg, hl_ys]
  have hdk := dmgs_len (st := st) (re := re) (xs := xs) (ys := ys) (zs := zs) (k := k)
  have e1 : stepR st re xs (runR st re xs ys k) = runR st re xs ys (k + 1) := rfl
  have e2 : stepR st re xs (runR st re xs zs k) = runR st re xs zs (k + 1) := rfl
  have hds := dmgs_succ (st := st) (re := re) (xs := xs) (ys := ys) (zs := zs) (k := k)
  rw [d1] at hds
  clear e1 e2
  repeat' (first
 | refine A_go rfl ?_ | refine A_ifT rfl rfl ?_ | refine A_ifF rfl rfl ?_
 | refine A_offP rfl rfl ?_ | refine A_offH rfl rfl ?_ | refine A_off0 rfl rfl ?_
 | refine A_add rfl rfl rfl (by omega) ?_
 | ((first | refine A_lt rfl rfl rfl ?_ ?_ | refine A_gt rfl rfl rfl ?_ ?_ | refine A_ne rfl rfl rfl ?_ ?_) <;> intro hc <;> try first | contradiction | (exfalso; omega) | exact absurd rfl hc)
 | refine A_idxN1 rfl rfl rfl (by omega) ?_ | refine A_idx1 rfl rfl rfl (by omega) ?_
 | refine A_p (by rfl) rfl ?_
 | refine A_ldI rfl (by first | omega | (simp; done) | (simp; omega)) rfl ?_ | refine A_ldB rfl (by first | omega | (simp; done) | (simp; omega)) rfl ?_ | refine A_ld rfl (by rfl) rfl ?_
 | refine A_ldW rfl (by simp) rfl ?_
 | ((first | refine A_box rfl rfl ?_ | refine A_boxC rfl rfl ?_ | refine A_bld1 rfl rfl ?_ | refine A_bld2 rfl rfl rfl ?_ | refine A_bld4 rfl rfl rfl rfl rfl ?_) <;> intro pz hpz)
 | refine A_bld0 rfl ?_
 | (refine A_app rfl rfl rfl (by first | omega | (simp; done) | (simp; omega)) (by first | omega | (simp; done) | (simp; omega)) (by omega) ?_; intro pz) | (refine A_appN (enc := ic) rfl (by decide) rfl rfl (by first | omega | (simp; done) | (simp; omega)) (by omega) ?_; intro pz)
 | refine A_chk1 rfl rfl rfl ?_ | refine A_chk2 rfl rfl rfl rfl ?_ | refine A_chk3 rfl rfl rfl rfl rfl ?_ | refine A_chk4 rfl rfl rfl rfl rfl rfl ?_ | refine A_chkI rfl (by assumption) rfl (by simp) ?_
 | refine A_ret rfl (by exact (RP.t rfl (RP.t rfl RP.nil))) ?_)
  refine A_loop rfl [q, pa, pb, po] (fun m fr L => ∃ (i : Nat) (n : Nat), m = len_ys - i ∧ fr = [(1, .c (.sl pa 0 len_ys)), (2, .c (.sl pb 0 len_ys)), (3, iv T), (4, .c (.ptr q 0)), (10, .c (.sl po 0 k)), (11, iv n), (26, .c (.sl pa 0 len_ys)), (27, iv len_ys), (28, iv i)] ∧ L = [(q, .rw 30 3 [ic st, ic re, .sl id_xs off_xs len_xs]), (pa, ints (runR st re xs ys k)), (pb, ints (runR st re xs zs k)), (po, ints (dmgs st re xs ys zs k))] ∧ i ≤ len_ys ∧ n = dif (runR st re xs ys k) (runR st re xs zs k) i) len_ys ⟨0, 0, rfl, rfl, rfl, by omega, rfl⟩ ?_
  rintro m fr L ⟨i, n, rfl, rfl, rfl, hi, hn⟩
  have hdl := dif_le (xs := (runR st re xs ys k)) (ys := (runR st re xs zs k)) i
  by_cases hin : i < len_ys
  · by_cases he : ((runR st re xs ys k)).getD i 0 = ((runR st re xs zs k)).getD i 0
    · repeat' (first
 | refine A_go rfl ?_ | refine A_ifT rfl rfl ?_ | refine A_ifF rfl rfl ?_
 | refine A_offP rfl rfl ?_ | refine A_offH rfl rfl ?_ | refine A_off0 rfl rfl ?_
 | refine A_add rfl rfl rfl (by omega) ?_
 | ((first | refine A_lt rfl rfl rfl ?_ ?_ | refine A_gt rfl rfl rfl ?_ ?_ | refine A_ne rfl rfl rfl ?_ ?_) <;> intro hc <;> try first | contradiction | (exfalso; omega) | exact absurd rfl hc)
 | refine A_idxN1 rfl rfl rfl (by omega) ?_ | refine A_idx1 rfl rfl rfl (by omega) ?_
 | refine A_p (by rfl) rfl ?_
 | refine A_ldI rfl (by first | omega | (simp; done) | (simp; omega)) rfl ?_ | refine A_ldB rfl (by first | omega | (simp; done) | (simp; omega)) rfl ?_ | refine A_ld rfl (by rfl) rfl ?_
 | refine A_ldW rfl (by simp) rfl ?_
 | ((first | refine A_box rfl rfl ?_ | refine A_boxC rfl rfl ?_ | refine A_bld1 rfl rfl ?_ | refine A_bld2 rfl rfl rfl ?_ | refine A_bld4 rfl rfl rfl rfl rfl ?_) <;> intro pz hpz)
 | refine A_bld0 rfl ?_
 | (refine A_app rfl rfl rfl (by first | omega | (simp; done) | (simp; omega)) (by first | omega | (simp; done) | (simp; omega)) (by omega) ?_; intro pz) | (refine A_appN (enc := ic) rfl (by decide) rfl rfl (by first | omega | (simp; done) | (simp; omega)) (by omega) ?_; intro pz)
 | refine A_chk1 rfl rfl rfl ?_ | refine A_chk2 rfl rfl rfl rfl ?_ | refine A_chk3 rfl rfl rfl rfl rfl ?_ | refine A_chk4 rfl rfl rfl rfl rfl rfl ?_ | refine A_chkI rfl (by assumption) rfl (by simp) ?_
 | refine A_ret rfl (by exact (RP.t rfl (RP.t rfl RP.nil))) ?_)
      refine A_round rfl [q, pa, pb, po] (len_ys - (i + 1)) (by omega) ?_
      exact ⟨i + 1, n, rfl, rfl, rfl, by omega, by simp only [dif]; rw [if_pos he]; omega⟩
    · repeat' (first
 | refine A_go rfl ?_ | refine A_ifT rfl rfl ?_ | refine A_ifF rfl rfl ?_
 | refine A_offP rfl rfl ?_ | refine A_offH rfl rfl ?_ | refine A_off0 rfl rfl ?_
 | refine A_add rfl rfl rfl (by omega) ?_
 | ((first | refine A_lt rfl rfl rfl ?_ ?_ | refine A_gt rfl rfl rfl ?_ ?_ | refine A_ne rfl rfl rfl ?_ ?_) <;> intro hc <;> try first | contradiction | (exfalso; omega) | exact absurd rfl hc)
 | refine A_idxN1 rfl rfl rfl (by omega) ?_ | refine A_idx1 rfl rfl rfl (by omega) ?_
 | refine A_p (by rfl) rfl ?_
 | refine A_ldI rfl (by first | omega | (simp; done) | (simp; omega)) rfl ?_ | refine A_ldB rfl (by first | omega | (simp; done) | (simp; omega)) rfl ?_ | refine A_ld rfl (by rfl) rfl ?_
 | refine A_ldW rfl (by simp) rfl ?_
 | ((first | refine A_box rfl rfl ?_ | refine A_boxC rfl rfl ?_ | refine A_bld1 rfl rfl ?_ | refine A_bld2 rfl rfl rfl ?_ | refine A_bld4 rfl rfl rfl rfl rfl ?_) <;> intro pz hpz)
 | refine A_bld0 rfl ?_
 | (refine A_app rfl rfl rfl (by first | omega | (simp; done) | (simp; omega)) (by first | omega | (simp; done) | (simp; omega)) (by omega) ?_; intro pz) | (refine A_appN (enc := ic) rfl (by decide) rfl rfl (by first | omega | (simp; done) | (simp; omega)) (by omega) ?_; intro pz)
 | refine A_chk1 rfl rfl rfl ?_ | refine A_chk2 rfl rfl rfl rfl ?_ | refine A_chk3 rfl rfl rfl rfl rfl ?_ | refine A_chk4 rfl rfl rfl rfl rfl rfl ?_ | refine A_chkI rfl (by assumption) rfl (by simp) ?_
 | refine A_ret rfl (by exact (RP.t rfl (RP.t rfl RP.nil))) ?_)
      refine A_round rfl [q, pa, pb, po] (len_ys - (i + 1)) (by omega) ?_
      exact ⟨i + 1, n + 1, rfl, rfl, rfl, by omega, by simp only [dif]; rw [if_neg he]; omega⟩
  obtain rfl : len_ys = i := by omega
  subst hn
  repeat' (first
 | refine A_go rfl ?_ | refine A_ifT rfl rfl ?_ | refine A_ifF rfl rfl ?_
 | refine A_offP rfl rfl ?_ | refine A_offH rfl rfl ?_ | refine A_off0 rfl rfl ?_
 | refine A_add rfl rfl rfl (by omega) ?_
 | ((first | refine A_lt rfl rfl rfl ?_ ?_ | refine A_gt rfl rfl rfl ?_ ?_ | refine A_ne rfl rfl rfl ?_ ?_) <;> intro hc <;> try first | contradiction | (exfalso; omega) | exact absurd rfl hc)
 | refine A_idxN1 rfl rfl rfl (by omega) ?_ | refine A_idx1 rfl rfl rfl (by omega) ?_
 | (refine A_callM rfl rfl (fun s H => c_rstep (ys := runR st re xs ys k) (hv := v1) (hr := g1)) ?_; rintro _ _ ⟨pz, rfl, rfl⟩) | (refine A_callM0 rfl rfl (fun s H => c_rstep (ys := runR st re xs ys k) (hv := v1) (hr := g1)) ?_; rintro _ _ ⟨pz, rfl, rfl⟩)
 | (refine A_callM rfl rfl (fun s H => c_rstep (ys := runR st re xs zs k) (hv := v1) (hr := g2)) ?_; rintro _ _ ⟨pz, rfl, rfl⟩) | (refine A_callM0 rfl rfl (fun s H => c_rstep (ys := runR st re xs zs k) (hv := v1) (hr := g2)) ?_; rintro _ _ ⟨pz, rfl, rfl⟩)
 | refine A_p (by rfl) rfl ?_
 | refine A_ldI rfl (by first | omega | (simp; done) | (simp; omega)) rfl ?_ | refine A_ldB rfl (by first | omega | (simp; done) | (simp; omega)) rfl ?_ | refine A_ld rfl (by rfl) rfl ?_
 | refine A_ldW rfl (by simp) rfl ?_
 | ((first | refine A_box rfl rfl ?_ | refine A_boxC rfl rfl ?_ | refine A_bld1 rfl rfl ?_ | refine A_bld2 rfl rfl rfl ?_ | refine A_bld4 rfl rfl rfl rfl rfl ?_) <;> intro pz hpz)
 | refine A_bld0 rfl ?_
 | (refine A_app rfl rfl rfl (by first | omega | (simp; done) | (simp; omega)) (by first | omega | (simp; done) | (simp; omega)) (by omega) ?_; intro pz) | (refine A_appN (enc := ic) rfl (by decide) rfl rfl (by first | omega | (simp; done) | (simp; omega)) (by omega) ?_; intro pz)
 | refine A_chk1 rfl rfl rfl ?_ | refine A_chk2 rfl rfl rfl rfl ?_ | refine A_chk3 rfl rfl rfl rfl rfl ?_ | refine A_chk4 rfl rfl rfl rfl rfl rfl ?_ | refine A_chkI rfl (by assumption) rfl (by simp) ?_
 | refine A_ret rfl (by exact (RP.t rfl (RP.t rfl RP.nil))) ?_)
  · obtain rfl : T = k := by omega
    rw [hds]
    exact R_ints hP (by simp) (by omega)
  refine A_roundX rfl ⟨T + 1 - (k + 1), [(q, .rw 30 3 [ic st, ic re, .sl id_xs off_xs len_xs]), (_, ints (runR st re xs ys (k + 1))), (_, ints (runR st re xs zs (k + 1))), (_, ints (dmgs st re xs ys zs (k + 1)))], by omega, ⟨k + 1, _, _, _, rfl, rfl, rfl, by omega⟩, ?_⟩
  rw [hds, runR, runR]
  exact inferInstance
end Go.Proofs.Ytafdjnhlhepibaa
