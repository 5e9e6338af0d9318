/- All rings that lead to one. -/
import Derived.Test.YtlmbgaoeplffkaaXbackB
import Derived.Test.YtlmbgaoeplffkaaXfillR
import Derived.Test.YtlmbgaoeplffkaaFB
namespace Go.Proofs.Ytlmbgaoeplffkaa
open Go Go.RowKit
set_option linter.unusedVariables false
set_option linter.unusedSimpArgs false
set_option maxRecDepth 100000
set_option maxHeartbeats 8000000
-- impl.AllBack$1
def L36 : AFun := ⟨9, [.t 3],
 (.seq (.ops false [⟨(some 3), .mv (.k (bv false)), none, []⟩])
 (.seq (.ops true [⟨(some 5), .mv (.t 0), none, []⟩,
   ⟨(some 6), .call (.f 37) [(.t 5)], none, []⟩,
   ⟨(some 4), .load false 1 (.t 1), none, [0]⟩,
   ⟨(some 7), .buildS 25 1 1 [.sl 0 0 0] [(0, 1, (.t 6))], none, []⟩,
   ⟨(some 8), .append 25 1 24 (.t 4) (.t 7), none, []⟩,
   ⟨none, .store 1 (.t 1) (.t 8), none, []⟩])
 (.seq (.ops false [⟨(some 3), .mv (.k (bv true)), none, []⟩])
 .ret)))⟩
theorem code36 : acode Try.prog hints 36 = some L36 := by kernel_rfl

-- impl.AllBack
def L11 : AFun := ⟨23, [.t 4, .t 5],
 (.seq (.ops false [⟨(some 2), .box 27 (.t 0), none, []⟩,
   ⟨(some 4), .mv (.k (.c (.sl 0 0 0))), none, []⟩,
   ⟨(some 5), .mv (.k (bv false)), none, []⟩])
 (.seq (.seq (.ops false [⟨(some 7), .load true 3 (.t 2), none, []⟩,
    ⟨(some 8), .mv (.t 1), none, []⟩,
    ⟨(some 9), .call (.f 33) [(.t 7), (.t 8)], none, []⟩,
    ⟨(some 10), .un .not (.t 9), none, []⟩,
    ⟨(some 11), .mv (.t 10), none, []⟩,
    ⟨(some 12), .load true 3 (.t 2), (some (11, false)), []⟩,
    ⟨(some 13), .mv (.t 1), (some (11, false)), []⟩,
    ⟨(some 14), .call (.f 34) [(.t 12), (.t 13)], (some (11, false)), []⟩,
    ⟨(some 15), .bin .gtr (.t 14) (.k (iv 256)), (some (11, false)), []⟩,
    ⟨(some 16), .pick (.t 11) (.k (bv true)) (.t 15), none, []⟩])
  (.cond (.t 16) (.seq (.ops false [⟨(some 4), .mv (.k (.c (.sl 0 0 0))), none, []⟩,
     ⟨(some 5), .mv (.k (bv false)), none, []⟩])
   .ret)
   .skip))
 (.seq (.ops false [⟨(some 17), .buildS 25 1 0 [.sl 0 0 0] [], none, []⟩,
   ⟨(some 6), .alloc 32 [.sl 0 0 0], none, []⟩,
   ⟨none, .store 1 (.t 6) (.t 17), none, []⟩])
 (.seq (.ops false [⟨(some 18), .load true 3 (.t 2), none, []⟩,
   ⟨(some 19), .mv (.t 1), none, []⟩,
   ⟨(some 20), .mkFn 36 [(.t 6)], none, []⟩,
   ⟨(some 21), .call (.f 35) [(.t 18), (.t 19), (.t 20)], none, []⟩])
 (.seq (.ops false [⟨(some 22), .load false 1 (.t 6), none, []⟩,
   ⟨(some 4), .mv (.t 22), none, []⟩,
   ⟨(some 5), .mv (.k (bv true)), none, []⟩])
 .ret)))))⟩
theorem code11 : acode Try.prog hints 11 = some L11 := by kernel_rfl


abbrev AbP (st re : Int) (xs to : List Int) : Prop := BackP st re xs to ∧ cbkR st re xs to ≤ 256
def AbE (po : Nat) (acc : List (List Int)) (K : Objs) : Prop := ∃ p zs, K = (po, .rw 32 1 [.sl p 0 zs.length]) :: (p, orow zs) :: mobs zs ∧ zs.map Row.xs = acc ∧ RowsOk zs
theorem c_ab1 {s1 : St} {po n id : Nat} {acc : List (List Int)} {y : List Int} {K : Objs} (hO : Own (K.map Prod.fst) s1 s1 K) (hE : AbE po acc K) (ha : ArgE ic s1 id 0 y) (hy : y.length = n) (hni : NotIn id (K.map Prod.fst)) (hn : n ≤ 64) (hacc : acc.length < 1000) : Fn (K.map Prod.fst) 36 [.c (.sl id 0 n), .c (.ptr po 0)] s1 fun r K' => r = bv true ∧ AbE po (acc ++ [y]) K' := by
  obtain ⟨p, zs, rfl, hm, hok⟩ := hE
  haveI : Wf s1 := ⟨hO.wf⟩
  have hzl : zs.length < 1000 := by rw [← hm] at hacc; simpa using hacc
  refine F_startB code36 hO ?_
  repeat' (first
 | refine A_go rfl ?_ | refine A_ifT rfl rfl ?_ | refine A_ifF rfl rfl ?_
 | (refine A_callM rfl rfl (fun s H => c_clone (xs := y)) ?_; rintro _ _ ⟨pz, rfl, rfl⟩) | (refine A_callM0 rfl rfl (fun s H => c_clone (xs := y)) ?_; rintro _ _ ⟨pz, rfl, rfl⟩)
 | (refine A_bld1 (enc := rc) (a := ⟨_, 0, _, y⟩) rfl rfl ?_ <;> intro pz hpz)
 | (refine A_app (enc := rc) rfl rfl rfl rfl rfl (by omega) ?_ <;> intro pz)
 | refine A_p (by rfl) rfl ?_
 | refine A_ldI rfl (by first | omega | (simp; done) | (simp; omega)) rfl ?_ | refine A_ldB rfl (by first | omega | (simp; done) | (simp; omega)) rfl ?_ | refine A_ld rfl (by rfl) rfl ?_
 | refine A_st rfl rfl rfl ?_ | refine A_stE rfl rfl (by first | omega | (simp; done) | (simp; omega)) rfl ?_
 | ((first | refine A_bld1 rfl rfl ?_ | refine A_bld2 rfl rfl rfl ?_ | refine A_bld4 rfl rfl rfl rfl rfl ?_) <;> intro pz hpz)
 | refine A_bld0 rfl ?_
 | (refine A_app rfl rfl rfl (by first | omega | (simp; done) | (simp; omega)) (by first | omega | (simp; done) | (simp; omega)) (by omega) ?_; intro pz) | (refine A_appN (enc := ic) rfl (by decide) rfl rfl (by first | omega | (simp; done) | (simp; omega)) (by omega) ?_; intro pz)
 | refine A_chk1 rfl rfl rfl ?_ | refine A_chk2 rfl rfl rfl rfl ?_ | refine A_chk3 rfl rfl rfl rfl rfl ?_ | refine A_chk4 rfl rfl rfl rfl rfl rfl ?_ | refine A_chkI rfl (by assumption) rfl (by simp) ?_
 | refine A_ret1 rfl (by exact (RP.t rfl RP.nil)) ?_)
  rename_i p1 p2
  refine ⟨(po, .rw 32 1 [.sl pz 0 (zs.length + 1)]) :: (pz, orow (zs ++ [⟨p1, 0, n, y⟩])) :: (mobs zs ++ [(p1, ints y)]), ⟨rfl, pz, zs ++ [⟨p1, 0, n, y⟩], by rw [mobs_snoc, List.length_append]; rfl, by rw [List.map_append, hm]; rfl, hok.append (.one hy.symm)⟩, ?_⟩
  simp only [List.cons_append, List.nil_append]
  exact Sub.trans (.ofPerm (.cons _ (.cons _ (List.perm_append_comm (l₁ := [(p1, ints y)]))))) (inferInstance : Sub ((po, .rw 32 1 [.sl pz 0 (zs.length + 1)]) :: (pz, orow (zs ++ [⟨p1, 0, n, y⟩])) :: (p1, ints y) :: mobs zs) _)
theorem fwd_slen {st re : Int} {xs to : List Int} {zs : List Row} (hm : zs.map Row.xs = fwdL st re xs to) (hl : to.length ≤ 16) (hz : zs.length ≤ 1000) : slen zs ≤ 2000000 ∧ zs.length ≤ 2000000 := by
  have h := slen_le (zs := zs) (b := 16) fun z hz => by
    have h1 : z.xs ∈ fwdL st re xs to := by rw [← hm]; exact List.mem_map.2 ⟨z, hz, rfl⟩
    have := (allD_mem.1 (List.mem_filter.1 h1).1).2
    omega
  omega
theorem c_implAllBack {s : St} [Wf s] {st re : Int} {id_xs off_xs len_xs : Nat} {xs : List Int} [h_xs : ArgE ic s id_xs off_xs xs] (hl_xs : xs.length = len_xs := by first | rfl | simp | omega | (simp; omega)) {id_to off_to len_to : Nat} {to : List Int} [h_to : ArgE ic s id_to off_to to] (hl_to : to.length = len_to := by first | rfl | simp | omega | (simp; omega)) (hb : len_xs ≤ 2000000 ∧ len_to ≤ 2000000 := by omega) :
    Fn [] 11 [.agg [ic st, ic re, .sl id_xs off_xs len_xs], .c (.sl id_to off_to len_to)] s fun R N => ∃ p zs, R = .tup [.c (.sl p 0 zs.length), .c (.bool (tt (AbP st re xs to)))] ∧ Fact' (RowsOk zs) ∧ MatOut (AbP st re xs to) (fwdL st re xs to) p zs N := by
  refine F_start code11 ?_
  by_cases hp : BackP st re xs to
  case neg =>
    repeat' (first
 | refine A_go rfl ?_ | refine A_ifT rfl rfl ?_ | refine A_ifF rfl rfl ?_
 | refine A_offP rfl rfl ?_ | refine A_offH rfl rfl ?_ | refine A_off0 rfl rfl ?_
 | ((first | refine A_gt rfl rfl rfl ?_ ?_) <;> intro hc <;> try first | contradiction | (exfalso; omega) | exact absurd rfl hc)
 | (refine A_callB rfl rfl (fun s H => c_backRing (ys := to)) ?_ ?_ <;> intro hc <;> try first | contradiction | (exfalso; omega) | exact absurd rfl hc | exact absurd (And.intro rfl rfl) hc | exact absurd (And.intro rfl (And.intro rfl rfl)) hc | exact absurd (Eq.trans (by assumption) (Eq.symm (by assumption))) hc)
 | refine A_p (by rfl) rfl ?_
 | refine A_ldI rfl (by first | omega | (simp; done) | (simp; omega)) rfl ?_ | refine A_ldB rfl (by first | omega | (simp; done) | (simp; omega)) rfl ?_ | refine A_ld rfl (by rfl) rfl ?_
 | refine A_ldW rfl (by simp) rfl ?_
 | refine A_st rfl rfl rfl ?_ | refine A_stE rfl rfl (by first | omega | (simp; done) | (simp; omega)) rfl ?_
 | ((first | refine A_alloc rfl ?_ | refine A_box rfl rfl ?_ | refine A_boxC rfl rfl ?_ | refine A_bld1 rfl rfl ?_ | refine A_bld2 rfl rfl rfl ?_ | refine A_bld4 rfl rfl rfl rfl rfl ?_) <;> intro pz hpz)
 | refine A_bld0 rfl ?_
 | refine A_ret rfl (by exact (RP.t rfl (RP.t rfl RP.nil))) ?_)
    exact R_matN fun h => hp h.1
  obtain ⟨S, w, E, rfl, hS, hw, hw1, hE, hl, hEb, hdg⟩ := hp.1.1.nat
  have hv := hp.1.1
  have hto := hp.1.2
  have hn := hp.2
  have hre := hv.2.1
  have hwn : w ≤ to.length := by omega
  have hcl : cbk S E xs (labI re to) = cbk S E xs to := by
    obtain ⟨k, hk⟩ : ∃ k : Nat, re = k := ⟨re.toNat, by omega⟩
    rw [hk, cbk_lab hEb.1 (by omega) (by omega) (by omega)]
  have hcr : cbkR S re xs to = cbk S E xs (labI re to) := by
    rw [hcl, cbkR, Int.toNat_natCast, show (2 * re).toNat = w - 1 by omega, ← hE]
  have hfl := fwdL_len hv hto hE hw hwn
  by_cases h256 : cbk S E xs (labI re to) ≤ 256
  case neg =>
    repeat' (first
 | refine A_go rfl ?_ | refine A_ifT rfl rfl ?_ | refine A_ifF rfl rfl ?_
 | refine A_offP rfl rfl ?_ | refine A_offH rfl rfl ?_ | refine A_off0 rfl rfl ?_
 | ((first | refine A_gt rfl rfl rfl ?_ ?_) <;> intro hc <;> try first | contradiction | (exfalso; omega) | exact absurd rfl hc)
 | (refine A_callB rfl rfl (fun s H => c_backRing (ys := to)) ?_ ?_ <;> intro hc <;> try first | contradiction | (exfalso; omega) | exact absurd rfl hc | exact absurd (And.intro rfl rfl) hc | exact absurd (And.intro rfl (And.intro rfl rfl)) hc | exact absurd (Eq.trans (by assumption) (Eq.symm (by assumption))) hc)
 | refine A_callV rfl rfl (fun s H => c_countBack (ys := to) (hE := hE) (hl := hl)) ?_
 | refine A_p (by rfl) rfl ?_
 | refine A_ldI rfl (by first | omega | (simp; done) | (simp; omega)) rfl ?_ | refine A_ldB rfl (by first | omega | (simp; done) | (simp; omega)) rfl ?_ | refine A_ld rfl (by rfl) rfl ?_
 | refine A_ldW rfl (by simp) rfl ?_
 | refine A_st rfl rfl rfl ?_ | refine A_stE rfl rfl (by first | omega | (simp; done) | (simp; omega)) rfl ?_
 | ((first | refine A_alloc rfl ?_ | refine A_box rfl rfl ?_ | refine A_boxC rfl rfl ?_ | refine A_bld1 rfl rfl ?_ | refine A_bld2 rfl rfl rfl ?_ | refine A_bld4 rfl rfl rfl rfl rfl ?_) <;> intro pz hpz)
 | refine A_bld0 rfl ?_
 | refine A_ret rfl (by exact (RP.t rfl (RP.t rfl RP.nil))) ?_)
    exact R_matN fun h => h256 (by rw [← hcr]; exact h.2)
  have hval : putA S E w xs (labI re to) len_to E = fwdL S re xs to := by
    have h := putA_all (S := S) (E := E) (w := w) (xs := xs) (lab := labI re to)
    rw [labI_len, hl_to] at h
    rw [h, ← hl_to]; exact backL_eq hv hto hE hw hwn
  have hlen : (fwdL S re xs to).length ≤ 256 := by omega
  repeat' (first
 | refine A_go rfl ?_ | refine A_ifT rfl rfl ?_ | refine A_ifF rfl rfl ?_
 | refine A_offP rfl rfl ?_ | refine A_offH rfl rfl ?_ | refine A_off0 rfl rfl ?_
 | ((first | refine A_gt rfl rfl rfl ?_ ?_) <;> intro hc <;> try first | contradiction | (exfalso; omega) | exact absurd rfl hc)
 | (refine A_callB rfl rfl (fun s H => c_backRing (ys := to)) ?_ ?_ <;> intro hc <;> try first | contradiction | (exfalso; omega) | exact absurd rfl hc | exact absurd (And.intro rfl rfl) hc | exact absurd (And.intro rfl (And.intro rfl rfl)) hc | exact absurd (Eq.trans (by assumption) (Eq.symm (by assumption))) hc)
 | refine A_callV rfl rfl (fun s H => c_countBack (ys := to) (hE := hE) (hl := hl)) ?_
 | refine A_p (by rfl) rfl ?_
 | refine A_ldI rfl (by first | omega | (simp; done) | (simp; omega)) rfl ?_ | refine A_ldB rfl (by first | omega | (simp; done) | (simp; omega)) rfl ?_ | refine A_ld rfl (by rfl) rfl ?_
 | refine A_ldW rfl (by simp) rfl ?_
 | refine A_st rfl rfl rfl ?_ | refine A_stE rfl rfl (by first | omega | (simp; done) | (simp; omega)) rfl ?_
 | ((first | refine A_alloc rfl ?_ | refine A_box rfl rfl ?_ | refine A_boxC rfl rfl ?_ | refine A_bld1 rfl rfl ?_ | refine A_bld2 rfl rfl rfl ?_ | refine A_bld4 rfl rfl rfl rfl rfl ?_) <;> intro pz hpz)
 | refine A_bld0 rfl ?_
 | refine A_ret rfl (by exact (RP.t rfl (RP.t rfl RP.nil))) ?_)
  obtain ⟨po, hEq⟩ : ∃ p, p = pz := ⟨_, rfl⟩; subst hEq
  obtain ⟨q, hEq⟩ : ∃ p, p = pz := ⟨_, rfl⟩; subst hEq
  refine A_subL (L' := [(q, .rw 27 3 [ic S, ic re, .sl id_xs off_xs len_xs]), (po, .rw 32 1 [.sl 1 0 0]), (1, orow [])]) (hs := (inferInstance : Sub [(q, .rw 27 3 [ic S, ic re, .sl id_xs off_xs len_xs]), (po, .rw 32 1 [.sl 1 0 0]), (1, .rw 25 1 [])] _)) ?_
  refine A_callI (M := [(q, .rw 27 3 [ic S, ic re, .sl id_xs off_xs len_xs])]) (N := [(po, .rw 32 1 [.sl 1 0 0]), (1, orow [])]) (P := fun _ N => AbE po (fwdL S re xs to) N) rfl rfl rfl (fun s' H K => ?_) ?_
  · haveI : Wf s' := ⟨K.wf⟩
    haveI : NotIn id_xs ([(po, AObj.rw 32 1 [.sl 1 0 0]), (1, orow [])].map Prod.fst) := notInLent H h_xs.lt NotIn.nil
    haveI : NotIn id_to ([(po, AObj.rw 32 1 [.sl 1 0 0]), (1, orow [])].map Prod.fst) := notInLent H h_to.lt NotIn.nil
    have h := c_back (re := re) (hw := ⟨hw, hw1⟩) (w := w) (fdo := 36) (caps := [(po, 0)]) true 256 (AbE po) (xs := xs) (to := to) (id_xs := id_xs) (off_xs := off_xs) (id_to := id_to) (off_to := off_to) (hl_xs := hl_xs) (hl_to := hl_to) (hO := K) (hdo := fun acc y id s1 K hG hO hE ha hy hni => c_ab1 hO hE ha hy hni (by omega) (by omega)) (h0 := ⟨1, [], rfl, rfl, fun z hz => by cases hz⟩) (hG := by rw [hval]; exact hlen) (hE := hE) (hl := hl)
    rw [hval] at h; exact h
  rintro r N ⟨p, zs, rfl, hm, hok⟩
  have hzl : zs.length ≤ 256 := by
    have := congrArg List.length hm
    rw [List.length_map] at this; omega
  simp only [List.cons_append]
  repeat' (first
 | refine A_go rfl ?_ | refine A_ifT rfl rfl ?_ | refine A_ifF rfl rfl ?_
 | refine A_offP rfl rfl ?_ | refine A_offH rfl rfl ?_ | refine A_off0 rfl rfl ?_
 | ((first | refine A_gt rfl rfl rfl ?_ ?_) <;> intro hc <;> try first | contradiction | (exfalso; omega) | exact absurd rfl hc)
 | refine A_p (by rfl) rfl ?_
 | refine A_ldI rfl (by first | omega | (simp; done) | (simp; omega)) rfl ?_ | refine A_ldB rfl (by first | omega | (simp; done) | (simp; omega)) rfl ?_ | refine A_ld rfl (by rfl) rfl ?_
 | refine A_ldW rfl (by simp) rfl ?_
 | refine A_st rfl rfl rfl ?_ | refine A_stE rfl rfl (by first | omega | (simp; done) | (simp; omega)) rfl ?_
 | ((first | refine A_alloc rfl ?_ | refine A_box rfl rfl ?_ | refine A_boxC rfl rfl ?_ | refine A_bld1 rfl rfl ?_ | refine A_bld2 rfl rfl rfl ?_ | refine A_bld4 rfl rfl rfl rfl rfl ?_) <;> intro pz hpz)
 | refine A_bld0 rfl ?_
 | refine A_ret rfl (by exact (RP.t rfl (RP.t rfl RP.nil))) ?_)
  exact R_mat (P := AbP S re xs to) (yss := fwdL S re xs to) ⟨hp, by rw [hcr]; exact h256⟩ hok hm (fwd_slen hm (by omega) (by omega)) rfl inferInstance
end Go.Proofs.Ytlmbgaoeplffkaa
