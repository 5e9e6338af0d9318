/- The runs of two fields that are the same. -/
import Derived.Test.YtlhidckolillaaaXlifeD
import Derived.Test.YtlhidckolillaaaFB
namespace Go.Proofs.Ytlhidckolillaaa
open Go Go.RowKit
set_option linter.unusedVariables false
set_option linter.unusedSimpArgs false
set_option maxRecDepth 100000
set_option maxHeartbeats 8000000
-- impl.areWorkers
def L63 : AFun := ⟨5, [.t 2],
 (.seq (.ops false [⟨(some 2), .mv (.k (bv false)), none, []⟩])
 (.seq (.ops false [⟨(some 3), .mv (.t 0), none, []⟩,
   ⟨(some 4), .call (.f 53) [(.t 3), (.k (iv 1)), (.k (iv 8))], none, []⟩,
   ⟨(some 2), .mv (.t 4), none, []⟩])
 .ret))⟩
theorem code63 : acode Try.prog hints 63 = some L63 := by kernel_rfl

-- impl.FieldsShared
def L28 : AFun := ⟨53, [.t 10, .t 11],
 (.seq (.ops false [⟨(some 5), .box 39 (.t 0), none, []⟩,
   ⟨(some 10), .mv (.k (.c (.sl 0 0 0))), none, []⟩,
   ⟨(some 11), .mv (.k (bv false)), none, []⟩])
 (.seq (.seq (.ops false [⟨(some 17), .mv (.t 1), none, []⟩,
    ⟨(some 18), .len false (.t 17), none, []⟩,
    ⟨(some 19), .bin .lss (.t 18) (.k (iv 1)), none, []⟩,
    ⟨(some 20), .mv (.t 19), none, []⟩,
    ⟨(some 21), .mv (.t 1), (some (20, false)), []⟩,
    ⟨(some 22), .len false (.t 21), (some (20, false)), []⟩,
    ⟨(some 23), .bin .gtr (.t 22) (.k (iv 16)), (some (20, false)), []⟩,
    ⟨(some 24), .pick (.t 20) (.k (bv true)) (.t 23), none, []⟩,
    ⟨(some 25), .mv (.t 24), none, []⟩,
    ⟨(some 26), .mv (.t 4), (some (25, false)), []⟩,
    ⟨(some 27), .call (.f 63) [(.t 26)], (some (25, false)), []⟩,
    ⟨(some 28), .un .not (.t 27), (some (25, false)), []⟩,
    ⟨(some 29), .pick (.t 25) (.k (bv true)) (.t 28), none, []⟩])
  (.cond (.t 29) (.seq (.ops false [⟨(some 10), .mv (.k (.c (.sl 0 0 0))), none, []⟩,
     ⟨(some 11), .mv (.k (bv false)), none, []⟩])
   .ret)
   .skip))
 (.seq (.ops false [⟨(some 30), .buildS 26 3 0 [.int .i64 0, .int .i64 0, .sl 0 0 0] [], none, []⟩,
   ⟨(some 12), .mv (.t 30), none, []⟩])
 (.seq (.seq (.ops false [⟨(some 31), .mv (.t 1), none, []⟩,
    ⟨(some 32), .len false (.t 31), none, []⟩,
    ⟨(some 33), .mv (.k (iv 0)), none, []⟩])
  (.block 0 (.loop [2, 3, 5, 12, 31, 32, 33] (.seq (.ops false [⟨(some 34), .bin .lss (.t 33) (.t 32), none, []⟩])
    (.seq (.cond (.t 34) .skip
      (.exit 0))
    (.seq (.block 1 (.seq (.ops false [⟨(some 35), .idxA 3 (.t 31) (.t 33), none, []⟩,
        ⟨(some 36), .load true 3 (.t 35), none, []⟩,
        ⟨(some 14), .alloc 26 [.int .i64 0, .int .i64 0, .sl 0 0 0], none, []⟩,
        ⟨none, .store 3 (.t 14) (.t 36), none, []⟩])
      (.seq (.ops false [⟨(some 38), .load true 2 (.t 5), none, []⟩,
        ⟨(some 39), .load true 3 (.t 14), none, []⟩,
        ⟨(some 40), .mv (.t 2), none, []⟩,
        ⟨(some 41), .mv (.t 3), none, []⟩,
        ⟨(some 42), .call (.f 20) [(.t 38), (.t 39), (.t 40), (.t 41)], none, []⟩,
        ⟨(some 37), .mv (.t 42), none, []⟩,
        ⟨(some 43), .ext (.t 37) 0, none, []⟩,
        ⟨(some 44), .ext (.t 37) 1, none, []⟩,
        ⟨(some 15), .alloc 26 [.int .i64 0, .int .i64 0, .sl 0 0 0], none, []⟩,
        ⟨none, .store 3 (.t 15) (.t 43), none, []⟩,
        ⟨(some 16), .mv (.t 44), none, []⟩])
      (.seq (.seq (.ops false [⟨(some 45), .mv (.t 16), none, []⟩,
         ⟨(some 46), .un .not (.t 45), none, []⟩])
       (.cond (.t 46) (.seq (.ops false [⟨(some 10), .mv (.k (.c (.sl 0 0 0))), none, []⟩,
          ⟨(some 11), .mv (.k (bv false)), none, []⟩])
        .ret)
        .skip))
      (.ops false [⟨(some 47), .mv (.t 12), none, []⟩,
       ⟨(some 48), .load true 3 (.t 15), none, []⟩,
       ⟨(some 49), .buildS 26 3 1 [.int .i64 0, .int .i64 0, .sl 0 0 0] [(0, 3, (.t 48))], none, []⟩,
       ⟨(some 50), .append 26 3 40 (.t 47) (.t 49), none, []⟩,
       ⟨(some 12), .mv (.t 50), none, []⟩])))))
    (.ops false [⟨(some 51), .bin .add (.t 33) (.k (iv 1)), none, []⟩,
     ⟨(some 33), .mv (.t 51), none, []⟩])))))))
 (.seq (.ops false [⟨(some 52), .mv (.t 12), none, []⟩,
   ⟨(some 10), .mv (.t 52), none, []⟩,
   ⟨(some 11), .mv (.k (bv true)), none, []⟩])
 .ret)))))⟩
theorem code28 : acode Try.prog hints 28 = some L28 := by kernel_rfl


theorem c_areWork {s : St} [Wf s] {n : Int} : FnB 63 [iv n] s (1 ≤ n ∧ n ≤ 8) := by
  refine F_start code63 ?_
  repeat' (first
 | refine A_go rfl ?_ | refine A_ifT rfl rfl ?_ | refine A_ifF rfl rfl ?_
 | (refine A_callB rfl rfl (fun s H => c_within) ?_ ?_ <;> intro hc <;> try first | contradiction | (exfalso; omega) | exact absurd rfl hc | exact absurd (And.intro rfl rfl) hc | exact absurd (And.intro rfl (And.intro rfl rfl)) hc | exact absurd (Eq.trans (by assumption) (Eq.symm (by assumption))) hc)
 | refine A_p (by rfl) rfl ?_
 | refine A_ret1 rfl (by exact (RP.t rfl RP.nil)) ?_)
  · exact R_t hc
  · exact R_f hc
theorem c_runOk {s : St} [Wf s] {R C n : Nat} {st : Int} {t : Bool} {ys : List Int} {id_bo off_bo len_bo : Nat} {bo : List Int} [h_bo : ArgE ic s id_bo off_bo bo] (hl_bo : bo.length = len_bo := by first | rfl | simp | omega | (simp; omega)) {id_sy off_sy len_sy : Nat} {sy : List Int} [h_sy : ArgE ic s id_sy off_sy sy] (hl_sy : sy.length = len_sy := by first | rfl | simp | omega | (simp; omega)) {id_xs off_xs len_xs : Nat} {xs : List Int} [h_xs : ArgE ic s id_xs off_xs xs] (hl_xs : xs.length = len_xs := by first | rfl | simp | omega | (simp; omega)) (hr : lifeN bo sy R C t xs n = ys) (hp : LifeP bo sy R C xs) (hst : st = n) (hn : n ≤ 512 := by omega) (hb : len_bo ≤ 2000000 ∧ len_sy ≤ 2000000 ∧ len_xs ≤ 2000000 := by omega) :
    Fn [] 20 [.agg [.sl id_bo off_bo len_bo, .sl id_sy off_sy len_sy], .agg [ic R, ic C, .sl id_xs off_xs len_xs], bv t, iv st] s fun V N => ∃ p, V = .tup [.agg (fld R C p (R * C)), .c (.bool true)] ∧ N = [(p, ints ys)] := by
  subst hst
  refine (c_implRunLife (r := R) (c := C) (t := t) (steps := n) (bo := bo) (sy := sy) (xs := xs)).mono fun V N k => ?_
  have hl := (lifeN_pl (bo := bo) (sy := sy) (t := t) hp.2 n).len
  obtain ⟨p, h1, h2⟩ := fr_fld ⟨hp, by omega⟩ k
  simp only [Int.toNat_natCast] at h1 h2
  rw [hl] at h1
  rw [hr] at h2
  exact ⟨p, h1, h2⟩
theorem c_shared2 {s : St} [Wf s] {R C n pl : Nat} {st wk : Int} {t : Bool} {ys : List Int} {id_bo off_bo len_bo : Nat} {bo : List Int} [h_bo : ArgE ic s id_bo off_bo bo] (hl_bo : bo.length = len_bo := by first | rfl | simp | omega | (simp; omega)) {id_sy off_sy len_sy : Nat} {sy : List Int} [h_sy : ArgE ic s id_sy off_sy sy] (hl_sy : sy.length = len_sy := by first | rfl | simp | omega | (simp; omega)) {id_xs off_xs len_xs : Nat} {xs : List Int} [h_xs : ArgE ic s id_xs off_xs xs] (hl_xs : xs.length = len_xs := by first | rfl | simp | omega | (simp; omega)) [hl : Ref s pl [ic R, ic C, .sl id_xs off_xs len_xs, ic R, ic C, .sl id_xs off_xs len_xs]] (hr : lifeN bo sy R C t xs n = ys) (hp : LifeP bo sy R C xs) (hst : st = n) (hn : n ≤ 512) (hw : 1 ≤ wk ∧ wk ≤ 8) (hb : len_bo ≤ 2000000 ∧ len_sy ≤ 2000000 ∧ len_xs ≤ 2000000 := by omega) :
    Fn [] 28 [.agg [.sl id_bo off_bo len_bo, .sl id_sy off_sy len_sy], .c (.sl pl 0 2), bv t, iv st, iv wk] s fun V N => ∃ po pa pb, V = .tup [.c (.sl po 0 2), .c (.bool true)] ∧ N = [(po, .rw 26 3 (fld R C pa (R * C) ++ fld R C pb (R * C))), (pb, ints ys), (pa, ints ys)] := by
  refine F_start code28 ?_
  repeat' (first
 | refine A_go rfl ?_ | refine A_ifT rfl rfl ?_ | refine A_ifF rfl rfl ?_
 | refine A_offP rfl rfl ?_ | refine A_offH rfl rfl ?_ | refine A_off0 rfl rfl ?_
 | refine A_add rfl rfl rfl (by omega) ?_
 | ((first | refine A_lt rfl rfl rfl ?_ ?_ | refine A_gt rfl rfl rfl ?_ ?_) <;> intro hc <;> try first | contradiction | (exfalso; omega) | exact absurd rfl hc)
 | refine A_idxN1 rfl rfl rfl (by omega) ?_ | refine A_idx1 rfl rfl rfl (by omega) ?_
 | (refine A_callB rfl rfl (fun s H => c_areWork) ?_ ?_ <;> intro hc <;> try first | contradiction | (exfalso; omega) | exact absurd rfl hc | exact absurd (And.intro rfl rfl) hc | exact absurd (And.intro rfl (And.intro rfl rfl)) hc | exact absurd (Eq.trans (by assumption) (Eq.symm (by assumption))) hc)
 | refine A_p (by rfl) rfl ?_
 | refine A_ldW rfl (by simp) rfl ?_
 | refine A_stW rfl rfl (by simp) rfl ?_
 | ((first | refine A_alloc rfl ?_ | refine A_box rfl rfl ?_ | refine A_boxC rfl rfl ?_ | refine A_bld1 rfl rfl ?_ | refine A_bld2 rfl rfl rfl ?_ | refine A_bld4 rfl rfl rfl rfl rfl ?_) <;> intro pz hpz)
 | refine A_bld0 rfl ?_
 | (refine A_app rfl rfl rfl (by first | omega | (simp; done) | (simp; omega)) (by first | omega | (simp; done) | (simp; omega)) (by omega) ?_; intro pz) | (refine A_appN (enc := ic) rfl (by decide) rfl rfl (by first | omega | (simp; done) | (simp; omega)) (by omega) ?_; intro pz)
 | refine A_ret rfl (by exact (RP.t rfl (RP.t rfl RP.nil))) ?_)
  refine A_unroll rfl ?_
  repeat' (first
 | refine A_go rfl ?_ | refine A_ifT rfl rfl ?_ | refine A_ifF rfl rfl ?_
 | refine A_offP rfl rfl ?_ | refine A_offH rfl rfl ?_ | refine A_off0 rfl rfl ?_
 | refine A_add rfl rfl rfl (by omega) ?_
 | ((first | refine A_lt rfl rfl rfl ?_ ?_ | refine A_gt rfl rfl rfl ?_ ?_) <;> intro hc <;> try first | contradiction | (exfalso; omega) | exact absurd rfl hc)
 | refine A_idxN1 rfl rfl rfl (by omega) ?_ | refine A_idx1 rfl rfl rfl (by omega) ?_
 | refine A_idxN rfl rfl rfl (by omega) ?_
 | refine A_ldA (ys := [ic R, ic C, .sl id_xs off_xs len_xs]) rfl (by simp) rfl rfl ?_
 | (refine A_callM rfl rfl (fun s H => c_runOk (bo := bo) (sy := sy) (xs := xs) (hr := hr) (hp := hp) (hst := hst)) ?_; rintro _ _ ⟨pz, rfl, rfl⟩) | (refine A_callM0 rfl rfl (fun s H => c_runOk (bo := bo) (sy := sy) (xs := xs) (hr := hr) (hp := hp) (hst := hst)) ?_; rintro _ _ ⟨pz, rfl, rfl⟩)
 | (refine A_bldC (by decide) (show fillV _ _ _ = some (fld R C _ (R * C)) from rfl) rfl ?_ <;> intro pz hpz)
 | (refine A_appCN rfl (by decide) rfl rfl rfl (by decide) (by decide) ?_ <;> intro pz)
 | refine A_p (by rfl) rfl ?_
 | refine A_ldW rfl (by simp) rfl ?_
 | refine A_stW rfl rfl (by simp) rfl ?_
 | ((first | refine A_alloc rfl ?_ | refine A_box rfl rfl ?_ | refine A_boxC rfl rfl ?_ | refine A_bld1 rfl rfl ?_ | refine A_bld2 rfl rfl rfl ?_ | refine A_bld4 rfl rfl rfl rfl rfl ?_) <;> intro pz hpz)
 | refine A_bld0 rfl ?_
 | (refine A_app rfl rfl rfl (by first | omega | (simp; done) | (simp; omega)) (by first | omega | (simp; done) | (simp; omega)) (by omega) ?_; intro pz) | (refine A_appN (enc := ic) rfl (by decide) rfl rfl (by first | omega | (simp; done) | (simp; omega)) (by omega) ?_; intro pz)
 | refine A_ret rfl (by exact (RP.t rfl (RP.t rfl RP.nil))) ?_)
  obtain ⟨po, hEq⟩ : ∃ p, p = pz := ⟨_, rfl⟩; subst hEq
  obtain ⟨pt, hEq⟩ : ∃ p, p = pz := ⟨_, rfl⟩; subst hEq
  obtain ⟨p15, hEq⟩ : ∃ p, p = pz := ⟨_, rfl⟩; subst hEq
  obtain ⟨pa, hEq⟩ : ∃ p, p = pz := ⟨_, rfl⟩; subst hEq
  obtain ⟨p14, hEq⟩ : ∃ p, p = pz := ⟨_, rfl⟩; subst hEq
  obtain ⟨pw, hEq⟩ : ∃ p, p = pz := ⟨_, rfl⟩; subst hEq
  refine A_subL (L' := [(po, .rw 26 3 (fld R C pa (R * C))), (pa, ints ys), (pw, .rw 39 2 [.sl id_bo off_bo len_bo, .sl id_sy off_sy len_sy])]) ?_
  refine A_unroll rfl ?_
  repeat' (first
 | refine A_go rfl ?_ | refine A_ifT rfl rfl ?_ | refine A_ifF rfl rfl ?_
 | refine A_offP rfl rfl ?_ | refine A_offH rfl rfl ?_ | refine A_off0 rfl rfl ?_
 | refine A_add rfl rfl rfl (by omega) ?_
 | ((first | refine A_lt rfl rfl rfl ?_ ?_ | refine A_gt rfl rfl rfl ?_ ?_) <;> intro hc <;> try first | contradiction | (exfalso; omega) | exact absurd rfl hc)
 | refine A_idxN1 rfl rfl rfl (by omega) ?_ | refine A_idx1 rfl rfl rfl (by omega) ?_
 | refine A_idxN rfl rfl rfl (by omega) ?_
 | refine A_ldA (ys := [ic R, ic C, .sl id_xs off_xs len_xs]) rfl (by simp) rfl rfl ?_
 | (refine A_callM rfl rfl (fun s H => c_runOk (bo := bo) (sy := sy) (xs := xs) (hr := hr) (hp := hp) (hst := hst)) ?_; rintro _ _ ⟨pz, rfl, rfl⟩) | (refine A_callM0 rfl rfl (fun s H => c_runOk (bo := bo) (sy := sy) (xs := xs) (hr := hr) (hp := hp) (hst := hst)) ?_; rintro _ _ ⟨pz, rfl, rfl⟩)
 | (refine A_bldC (by decide) (show fillV _ _ _ = some (fld R C _ (R * C)) from rfl) rfl ?_ <;> intro pz hpz)
 | (refine A_appC rfl rfl rfl rfl rfl (by decide) (by decide) ?_ <;> intro pz)
 | refine A_p (by rfl) rfl ?_
 | refine A_ldW rfl (by simp) rfl ?_
 | refine A_stW rfl rfl (by simp) rfl ?_
 | ((first | refine A_alloc rfl ?_ | refine A_box rfl rfl ?_ | refine A_boxC rfl rfl ?_ | refine A_bld1 rfl rfl ?_ | refine A_bld2 rfl rfl rfl ?_ | refine A_bld4 rfl rfl rfl rfl rfl ?_) <;> intro pz hpz)
 | refine A_bld0 rfl ?_
 | (refine A_app rfl rfl rfl (by first | omega | (simp; done) | (simp; omega)) (by first | omega | (simp; done) | (simp; omega)) (by omega) ?_; intro pz) | (refine A_appN (enc := ic) rfl (by decide) rfl rfl (by first | omega | (simp; done) | (simp; omega)) (by omega) ?_; intro pz)
 | refine A_ret rfl (by exact (RP.t rfl (RP.t rfl RP.nil))) ?_)
  obtain ⟨po2, hEq⟩ : ∃ p, p = pz := ⟨_, rfl⟩; subst hEq
  obtain ⟨pt2, hEq⟩ : ∃ p, p = pz := ⟨_, rfl⟩; subst hEq
  obtain ⟨p152, hEq⟩ : ∃ p, p = pz := ⟨_, rfl⟩; subst hEq
  obtain ⟨pb, hEq⟩ : ∃ p, p = pz := ⟨_, rfl⟩; subst hEq
  refine A_subL (L' := [(po2, .rw 26 3 (fld R C pa (R * C) ++ fld R C pb (R * C))), (pb, ints ys), (pa, ints ys)]) ?_
  refine A_unroll rfl ?_
  repeat' (first
 | refine A_go rfl ?_ | refine A_ifT rfl rfl ?_ | refine A_ifF rfl rfl ?_
 | refine A_offP rfl rfl ?_ | refine A_offH rfl rfl ?_ | refine A_off0 rfl rfl ?_
 | refine A_add rfl rfl rfl (by omega) ?_
 | ((first | refine A_lt rfl rfl rfl ?_ ?_ | refine A_gt rfl rfl rfl ?_ ?_) <;> intro hc <;> try first | contradiction | (exfalso; omega) | exact absurd rfl hc)
 | refine A_idxN1 rfl rfl rfl (by omega) ?_ | refine A_idx1 rfl rfl rfl (by omega) ?_
 | refine A_p (by rfl) rfl ?_
 | refine A_ldW rfl (by simp) rfl ?_
 | refine A_stW rfl rfl (by simp) rfl ?_
 | ((first | refine A_alloc rfl ?_ | refine A_box rfl rfl ?_ | refine A_boxC rfl rfl ?_ | refine A_bld1 rfl rfl ?_ | refine A_bld2 rfl rfl rfl ?_ | refine A_bld4 rfl rfl rfl rfl rfl ?_) <;> intro pz hpz)
 | refine A_bld0 rfl ?_
 | (refine A_app rfl rfl rfl (by first | omega | (simp; done) | (simp; omega)) (by first | omega | (simp; done) | (simp; omega)) (by omega) ?_; intro pz) | (refine A_appN (enc := ic) rfl (by decide) rfl rfl (by first | omega | (simp; done) | (simp; omega)) (by omega) ?_; intro pz)
 | refine A_ret rfl (by exact (RP.t rfl (RP.t rfl RP.nil))) ?_)
  exact R_s ⟨po2, pa, pb, rfl, rfl⟩

end Go.Proofs.Ytlhidckolillaaa
