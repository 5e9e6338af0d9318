/- A function is called for all rings that lead to one. -/
import Derived.Test.YtlmbgaoeplffkaaXbackQ
import Derived.Test.YtlmbgaoeplffkaaXcback
import Derived.Test.YtlmbgaoeplffkaaXlend
import Derived.Test.YtlmbgaoeplffkaaXpart
import Derived.Test.YtlmbgaoeplffkaaFB
namespace Go.Proofs.Ytlmbgaoeplffkaa
open Go Go.RowKit
set_option linter.unusedVariables false
set_option linter.unusedSimpArgs false
set_option maxRecDepth 100000
set_option maxHeartbeats 8000000
-- (impl.Rule).back$1
def L64 : AFun := ⟨71, [.t 10],
 (.seq (.ops false [⟨(some 10), .mv (.k (bv false)), none, []⟩])
 (.seq (.seq (.ops false [⟨(some 15), .mv (.t 0), none, []⟩,
    ⟨(some 16), .load false 1 (.t 2), none, []⟩,
    ⟨(some 17), .len false (.t 16), none, []⟩,
    ⟨(some 18), .bin .eql (.t 15) (.t 17), none, []⟩])
  (.cond (.t 18) (.seq (.ops true [⟨(some 19), .load false 1 (.t 3), none, []⟩,
     ⟨(some 20), .load false 1 (.t 4), none, []⟩,
     ⟨(some 21), .load false 1 (.t 2), none, []⟩,
     ⟨(some 22), .len false (.t 21), none, []⟩,
     ⟨(some 23), .slice 1 (.t 20) none (some (.t 22)), none, []⟩,
     ⟨(some 24), .call (.t 19) [(.t 23)], none, []⟩,
     ⟨(some 10), .mv (.t 24), none, []⟩])
   .ret)
   .skip))
 (.seq (.seq (.ops false [⟨(some 25), .fieldA 0 (.t 5), none, []⟩,
    ⟨(some 26), .load false 1 (.t 25), none, []⟩,
    ⟨(some 27), .mv (.k (iv 0)), none, []⟩])
  (.block 0 (.loop [0, 1, 2, 4, 5, 6, 7, 26, 27] (.seq (.ops false [⟨(some 28), .bin .lss (.t 27) (.t 26), none, []⟩])
    (.seq (.cond (.t 28) .skip
      (.exit 0))
    (.seq (.block 1 (.seq (.ops false [⟨(some 29), .mv (.t 27), none, []⟩,
        ⟨(some 11), .mv (.t 29), none, []⟩])
      (.seq (.ops false [⟨(some 31), .load true 3 (.t 5), none, []⟩,
        ⟨(some 32), .mv (.t 1), none, []⟩,
        ⟨(some 33), .mv (.t 11), none, []⟩,
        ⟨(some 34), .call (.f 45) [(.t 31), (.t 32), (.t 33)], none, []⟩,
        ⟨(some 30), .mv (.t 34), none, []⟩,
        ⟨(some 35), .ext (.t 30) 0, none, []⟩,
        ⟨(some 36), .ext (.t 30) 1, none, []⟩,
        ⟨(some 12), .mv (.t 35), none, []⟩,
        ⟨(some 13), .mv (.t 36), none, []⟩])
      (.seq (.seq (.ops false [⟨(some 37), .mv (.t 13), none, []⟩,
         ⟨(some 38), .load true 3 (.t 5), none, []⟩,
         ⟨(some 39), .load false 1 (.t 2), none, []⟩,
         ⟨(some 40), .mv (.t 0), none, []⟩,
         ⟨(some 41), .call (.f 62) [(.t 38), (.t 39), (.t 40)], none, []⟩,
         ⟨(some 42), .bin .neq (.t 37) (.t 41), none, []⟩,
         ⟨(some 43), .mv (.t 42), none, []⟩,
         ⟨(some 44), .load false 1 (.t 6), (some (43, false)), []⟩,
         ⟨(some 45), .mv (.t 0), (some (43, false)), []⟩,
         ⟨(some 46), .bin .add (.t 45) (.k (iv 1)), (some (43, false)), []⟩,
         ⟨(some 47), .idxA 1 (.t 44) (.t 46), (some (43, false)), []⟩,
         ⟨(some 48), .load false 1 (.t 47), (some (43, false)), []⟩,
         ⟨(some 49), .mv (.t 12), (some (43, false)), []⟩,
         ⟨(some 50), .idxA 1 (.t 48) (.t 49), (some (43, false)), []⟩,
         ⟨(some 51), .load false 1 (.t 50), (some (43, false)), []⟩,
         ⟨(some 52), .un .not (.t 51), (some (43, false)), []⟩,
         ⟨(some 53), .pick (.t 43) (.k (bv true)) (.t 52), none, []⟩])
       (.cond (.t 53) (.exit 1)
        .skip))
      (.seq (.ops false [⟨(some 54), .load false 1 (.t 4), none, []⟩,
        ⟨(some 55), .mv (.t 11), none, []⟩,
        ⟨(some 56), .buildS 2 1 1 [.int .i64 0] [(0, 1, (.t 55))], none, []⟩,
        ⟨(some 57), .append 2 1 8 (.t 54) (.t 56), none, []⟩,
        ⟨none, .store 1 (.t 4) (.t 57), none, []⟩])
      (.seq (.ops false [⟨(some 58), .load false 1 (.t 7), none, []⟩,
        ⟨(some 59), .mv (.t 0), none, []⟩,
        ⟨(some 60), .bin .add (.t 59) (.k (iv 1)), none, []⟩,
        ⟨(some 61), .mv (.t 12), none, []⟩,
        ⟨(some 62), .call (.t 58) [(.t 60), (.t 61)], none, []⟩,
        ⟨(some 14), .mv (.t 62), none, []⟩])
      (.seq (.ops false [⟨(some 63), .load false 1 (.t 4), none, []⟩,
        ⟨(some 64), .load false 1 (.t 4), none, []⟩,
        ⟨(some 65), .len false (.t 64), none, []⟩,
        ⟨(some 66), .bin .sub (.t 65) (.k (iv 1)), none, []⟩,
        ⟨(some 67), .slice 1 (.t 63) none (some (.t 66)), none, []⟩,
        ⟨none, .store 1 (.t 4) (.t 67), none, []⟩])
      (.seq (.ops false [⟨(some 68), .mv (.t 14), none, []⟩,
        ⟨(some 69), .un .not (.t 68), none, []⟩])
      (.cond (.t 69) (.seq (.ops false [⟨(some 10), .mv (.k (bv false)), none, []⟩])
       .ret)
       .skip)))))))))
    (.ops false [⟨(some 70), .bin .add (.t 27) (.k (iv 1)), none, []⟩,
     ⟨(some 27), .mv (.t 70), none, []⟩])))))))
 (.seq (.ops false [⟨(some 10), .mv (.k (bv true)), none, []⟩])
 .ret))))⟩
theorem code64 : acode Try.prog hints 64 = some L64 := by kernel_rfl


theorem ArgE.pre2 {α : Type} {enc : α → AC} {s : St} {id off : Nat} {xs : List α} (h : ArgE enc s id off xs) {n : Nat} (hn : n ≤ xs.length) : ArgE enc s id off (xs.take n) := by
  rcases Nat.eq_zero_or_pos n with rfl | h0
  · refine ⟨h.lt, ?_⟩
    have hs := h.src
    simp only [srcCells, List.take_zero, List.length_nil, List.map_nil] at hs ⊢
    by_cases h01 : id = 0 ∨ id = 1
    · simp [h01]
    · rw [if_neg h01] at hs ⊢
      simp only [cellsAt, Option.bind_eq_some_iff, cut] at hs ⊢
      obtain ⟨cs, h1, h2⟩ := hs
      refine ⟨cs, h1, ?_⟩
      split at h2
      · rw [if_pos (by omega)]; simp
      · cases h2
  · have := h.part (a := 0) (n := n) (by omega) h0
    rwa [Nat.add_zero, List.drop_zero] at this
abbrev cE (E : Nat) (i : Nat) : AC := .sl i 0 E
theorem A_ldE {α : Type} {enc : α → AC} {B : List Nat} {b : St} {L : Objs} {l : List AStep} {hist : List Objs} {fr : Frm} {kk : KK} {d : Nat} {g : Option (Nat × Bool)} {n : Nat} {x : Opd} {q off i : Nat} {xs : List α} (dflt : α) (hx : ev fr x = some (.c (.ptr q (off + i)))) [hl : LookE enc B b L q off xs] (hi : i < xs.length) (hg : gon fr g = some true) (h : At B b L l hist ((d, .c (enc (xs.getD i dflt))) :: fr) kk) :
    At B b L (⟨some d, .load false n x, g, []⟩ :: l) hist fr kk :=
  .same (fun s hs K H h => O_load hx hg ((hl.h s H).rd (getD_some dflt hi)) h) h
theorem notInApp {B : List Nat} {b s : St} {M N : Objs} {q : Nat} (H : Own B b s (M ++ N)) (h : ∃ o, (q, o) ∈ M) : NotIn q (N.map Prod.fst) := by
  refine ⟨?_⟩
  by_cases h1 : q ≤ 1
  · exact .inr h1
  · refine .inl fun hm => ?_
    obtain ⟨o, ho⟩ := h
    obtain ⟨⟨p, o'⟩, hp, rfl⟩ := List.mem_map.1 hm
    obtain ⟨i, hi⟩ := List.mem_iff_getElem?.1 ho
    obtain ⟨j, hj⟩ := List.mem_iff_getElem?.1 hp
    have hlt := (List.getElem?_eq_some_iff.1 hi).1
    exact H.inj i (M.length + j) _ _ _ _ (by rw [List.getElem?_append_left hlt]; exact hi) (by rw [List.getElem?_append_right (by omega)]; simpa using hj) (by omega) (by simp only at h1 ⊢; omega) rfl
theorem subSwap {M N : Objs} : Sub (M ++ N) (N ++ M) := ⟨fun B b s H => H.swap, fun j q o h => by
  have hlt := (List.getElem?_eq_some_iff.1 h).1
  rw [List.length_append] at hlt
  rw [List.getElem?_append] at h
  split at h
  · exact .inr ⟨N.length + j, o, by rw [List.getElem?_append_right (by omega)]; simpa using h⟩
  · exact .inr ⟨j - M.length, o, by rw [List.getElem?_append_left (by omega)]; exact h⟩⟩
/-- What 'put' reads. -/
structure PutEnv (s : St) (ids : List Nat) (pr pd pb pq pc pp pcan idt offt n id_xs off_xs len_xs fdo S E a : Nat) (re : Int) (caps : List (Nat × Nat)) (to xs lab : List Int) (zs : List Nat) : Prop where
  r1 : Ref s pr [.sl idt offt n]
  r2 : Ref s pd [.fn fdo caps]
  r3 : Ref s pq [ic S, ic re, .sl id_xs off_xs len_xs]
  r4 : Ref s pc [.sl pcan 0 (n + 1)]
  r5 : Ref s pp [.fn 64 [(pr, 0), (pd, 0), (pb, 0), (pq, 0), (pc, 0), (pp, 0)]]
  a1 : ArgE ic s idt offt to
  a2 : ArgE ic s id_xs off_xs xs
  a3 : ArgE (cE E) s pcan 0 zs
  a4 : ∀ k, k ≤ n → ArgE bc s (zs.getD k 0) 0 (canL S E xs a (lab.drop k))
  n1 : NotIn pr ids
  n2 : NotIn pd ids
  n3 : NotIn pq ids
  n4 : NotIn pc ids
  n5 : NotIn pp ids
  n6 : NotIn idt ids
  n7 : NotIn id_xs ids
  n8 : NotIn pcan ids
  n9 : ∀ k, k ≤ n → NotIn (zs.getD k 0) ids
  zl : zs.length = n + 1
theorem PutEnv.next {s s' : St} {ids : List Nat} {M N : Objs} {pr pd pb pq pc pp pcan idt offt n id_xs off_xs len_xs fdo S E a : Nat} {re : Int} {caps : List (Nat × Nat)} {to xs lab : List Int} {zs : List Nat} (h : PutEnv s ids pr pd pb pq pc pp pcan idt offt n id_xs off_xs len_xs fdo S E a re caps to xs lab zs) (H : Own ids s s' (M ++ N)) :
    PutEnv s' (N.map Prod.fst) pr pd pb pq pc pp pcan idt offt n id_xs off_xs len_xs fdo S E a re caps to xs lab zs :=
  ⟨refBase (h := h.r1) (k := h.n1), refBase (h := h.r2) (k := h.n2), refBase (h := h.r3) (k := h.n3), refBase (h := h.r4) (k := h.n4), refBase (h := h.r5) (k := h.n5),
   argBase (h := h.a1) (k := h.n6), argBase (h := h.a2) (k := h.n7), argBase (h := h.a3) (k := h.n8), fun k hk => argBase (h := h.a4 k hk) (k := h.n9 k hk),
   notInLent H h.r1.lt h.n1.h, notInLent H h.r2.lt h.n2.h, notInLent H h.r3.lt h.n3.h, notInLent H h.r4.lt h.n4.h, notInLent H h.r5.lt h.n5.h, notInLent H h.a1.lt h.n6.h, notInLent H h.a2.lt h.n7.h, notInLent H h.a3.lt h.n8.h, fun k hk => notInLent H (h.a4 k hk).lt (h.n9 k hk).h, h.zl⟩
abbrev PutN (pb p len : Nat) (cs : List Int) (K : Objs) : Objs := (pb, .rw 25 1 [.sl p 0 len]) :: (p, ints cs) :: K
theorem tk_ok {g : Bool} {l : List (List Int)} (h : g = true ∨ l = []) : tk g l = l := by
  rcases h with rfl | rfl
  · rfl
  · cases g <;> rfl
theorem c_put {S E w n a id_xs off_xs len_xs idt offt fdo : Nat} {re : Int} {xs to : List Int} {caps : List (Nat × Nat)} {pr pd pb pq pc pp pcan : Nat} {zs : List Nat} (g : Bool) (G : Nat) (Enc : List (List Int) → Objs → Prop)
    (hdo : ∀ (acc : List (List Int)) (y : List Int) (id : Nat) (s1 : St) (K : Objs), acc.length < G → Own (K.map Prod.fst) s1 s1 K → Enc acc K → ArgE ic s1 id 0 y → y.length = n → NotIn id (K.map Prod.fst) → Fn (K.map Prod.fst) fdo ([.c (.sl id 0 n)] ++ caps.map fun p => AV.c (.ptr p.1 p.2)) s1 fun r K' => r = bv g ∧ Enc (acc ++ [y]) K')
    (hE : E = S ^ (w - 1)) (hl : xs.length = E * S) (hlx : xs.length = len_xs) (hto : to.length = n) (hS : 2 ≤ S ∧ S ≤ 3) (hw : 2 * re + 1 = w ∧ 1 ≤ w ∧ w ≤ 5) (hEb : 1 ≤ E ∧ E ≤ 81) (hn : 1 ≤ n ∧ n ≤ 16) (hre : 0 ≤ re ∧ re ≤ 2) :
    ∀ (ls : List Int) {s : St} [Wf s] {at_ len u p : Nat} {cs pre : List Int} {K : Objs} {acc : List (List Int)} (hO : Own ((PutN pb p len cs K).map Prod.fst) s s (PutN pb p len cs K)) (env : PutEnv s ((PutN pb p len cs K).map Prod.fst) pr pd pb pq pc pp pcan idt offt n id_xs off_xs len_xs fdo S E a re caps to xs (labI re to) zs)
      (hlen : len = w - 1 + at_) (hls : (labI re to).drop at_ = ls) (hat : at_ + ls.length = n) (hu : u < E) (hcl : len ≤ cs.length) (hcs : cs.take len = pre) (hEnc : Enc acc K) (hcan : (canL S E xs a ls).getD u false = true) (hG : acc.length + (putL S E xs a n ls u pre).length ≤ G),
    Fn ((PutN pb p len cs K).map Prod.fst) 64 [iv at_, iv u, .c (.ptr pr 0), .c (.ptr pd 0), .c (.ptr pb 0), .c (.ptr pq 0), .c (.ptr pc 0), .c (.ptr pp 0)] s fun R N' => ∃ p' cs' K', R = bv (g || (putL S E xs a n ls u pre).isEmpty) ∧ N' = PutN pb p' len cs' K' ∧ len ≤ cs'.length ∧ cs'.take len = pre ∧ Enc (acc ++ tk g (putL S E xs a n ls u pre)) K'
  | [], s, _, at_, len, u, p, cs, pre, K, acc, hO, env, hlen, hls, hat, hu, hcl, hcs, hEnc, hcan, hG => by
    have := env.r1; have := env.r2; have := env.r3; have := env.r4; have := env.r5
    have := env.n1; have := env.n2; have := env.n3; have := env.n4; have := env.n5
    have hat2 : at_ = n := by simpa using hat
    subst hat2
    have hua := can_end hu hcan
    have hpl : putL S E xs a at_ [] u pre = [pre.take at_] := by rw [putL, if_pos hua]
    refine F_startB code64 hO ?_
    repeat' (first
 | refine A_go rfl ?_ | refine A_ifT rfl rfl ?_ | refine A_ifF rfl rfl ?_
 | refine A_offP rfl rfl ?_ | refine A_offH rfl rfl ?_ | refine A_off0 rfl rfl ?_
 | refine A_add rfl rfl rfl (by omega) ?_ | refine A_sub rfl rfl rfl (by omega) ?_
 | ((first | refine A_lt rfl rfl rfl ?_ ?_ | refine A_eq rfl rfl rfl ?_ ?_ | refine A_ne rfl rfl rfl ?_ ?_) <;> intro hc <;> try first | contradiction | (exfalso; omega) | exact absurd rfl hc)
 | refine A_idxN1 rfl rfl rfl (by omega) ?_ | refine A_idx1 rfl rfl rfl (by omega) ?_
 | refine A_slTo rfl rfl rfl (by omega) ?_
 | simp only [Int.toNat_natCast]
 | refine A_fld rfl rfl ?_ | refine A_p (by rfl) rfl ?_
 | refine A_ldI rfl (by first | omega | (simp; done) | (simp; omega)) rfl ?_ | refine A_ldB rfl (by first | omega | (simp; done) | (simp; omega)) rfl ?_ | refine A_ld rfl (by rfl) rfl ?_
 | refine A_ldW rfl (by simp) rfl ?_
 | refine A_st rfl rfl rfl ?_ | refine A_stE rfl rfl (by first | omega | (simp; done) | (simp; omega)) rfl ?_
 | ((first | refine A_bld1 rfl rfl ?_ | refine A_bld2 rfl rfl rfl ?_ | refine A_bld4 rfl rfl rfl rfl rfl ?_) <;> intro pz hpz)
 | refine A_bld0 rfl ?_
 | (refine A_app rfl rfl rfl (by first | omega | (simp; done) | (simp; omega)) (by first | omega | (simp; done) | (simp; omega)) (by omega) ?_; intro pz) | (refine A_appN (enc := ic) rfl (by decide) rfl rfl (by first | omega | (simp; done) | (simp; omega)) (by omega) ?_; intro pz)
 | refine A_ret1 rfl (by exact (RP.t rfl RP.nil)) ?_)
    refine A_callI (M := [(pb, .rw 25 1 [.sl p 0 len]), (p, ints cs)]) (N := K) (P := fun r K' => r = bv g ∧ Enc (acc ++ [pre.take at_]) K') rfl rfl rfl (fun s' H K1 => ?_) ?_
    · have hA : ArgE ic s' p 0 cs := inferInstance
      have hA2 : ArgE ic s' p 0 (pre.take at_) := by
        have := hA.pre2 (n := at_) (by omega)
        rw [← hcs, List.take_take, Nat.min_eq_left (by omega)]; exact this
      exact hdo acc (pre.take at_) p s' K (by rw [hpl] at hG; simp at hG; omega) K1 hEnc hA2 (by rw [← hcs]; simp; omega) (notInApp H ⟨ints cs, by simp⟩)
    rintro r K' ⟨rfl, hK'⟩
    repeat' (first
 | refine A_go rfl ?_ | refine A_ifT rfl rfl ?_ | refine A_ifF rfl rfl ?_
 | refine A_offP rfl rfl ?_ | refine A_offH rfl rfl ?_ | refine A_off0 rfl rfl ?_
 | refine A_add rfl rfl rfl (by omega) ?_ | refine A_sub rfl rfl rfl (by omega) ?_
 | ((first | refine A_lt rfl rfl rfl ?_ ?_ | refine A_eq rfl rfl rfl ?_ ?_ | refine A_ne rfl rfl rfl ?_ ?_) <;> intro hc <;> try first | contradiction | (exfalso; omega) | exact absurd rfl hc)
 | refine A_idxN1 rfl rfl rfl (by omega) ?_ | refine A_idx1 rfl rfl rfl (by omega) ?_
 | refine A_fld rfl rfl ?_ | refine A_p (by rfl) rfl ?_
 | refine A_ldI rfl (by first | omega | (simp; done) | (simp; omega)) rfl ?_ | refine A_ldB rfl (by first | omega | (simp; done) | (simp; omega)) rfl ?_ | refine A_ld rfl (by rfl) rfl ?_
 | refine A_ldW rfl (by simp) rfl ?_
 | refine A_st rfl rfl rfl ?_ | refine A_stE rfl rfl (by first | omega | (simp; done) | (simp; omega)) rfl ?_
 | ((first | refine A_bld1 rfl rfl ?_ | refine A_bld2 rfl rfl rfl ?_ | refine A_bld4 rfl rfl rfl rfl rfl ?_) <;> intro pz hpz)
 | refine A_bld0 rfl ?_
 | (refine A_app rfl rfl rfl (by first | omega | (simp; done) | (simp; omega)) (by first | omega | (simp; done) | (simp; omega)) (by omega) ?_; intro pz) | (refine A_appN (enc := ic) rfl (by decide) rfl rfl (by first | omega | (simp; done) | (simp; omega)) (by omega) ?_; intro pz)
 | refine A_ret1 rfl (by exact (RP.t rfl RP.nil)) ?_)
    exact ⟨_, ⟨p, cs, K', by rw [hpl]; simp, rfl, hcl, hcs, by rw [hpl]; cases g <;> exact hK'⟩, subSwap (M := [_, _])⟩
  | l :: ls, s, _, at_, len, u, p, cs, pre, K, acc, hO, env, hlen, hls, hat, hu, hcl, hcs, hEnc, hcan, hG => by
    have := env.r1; have := env.r2; have := env.r3; have := env.r4; have := env.r5
    have := env.n1; have := env.n2; have := env.n3; have := env.n4; have := env.n5
    have := env.a1; have := env.a2; have := env.a3
    have := env.n6; have := env.n7; have := env.n8
    have hat2 : at_ + ls.length + 1 = n := by rw [← hat, List.length_cons]; omega
    have hlab : (labI re to).getD at_ 0 = l := by
      have h : ((labI re to).drop at_)[0]? = (labI re to)[at_]? := by rw [List.getElem?_drop]; rfl
      rw [List.getD_eq_getElem?_getD, ← h, hls]; rfl
    have hls2 : (labI re to).drop (at_ + 1) = ls := by rw [← List.drop_drop, hls]; rfl
    have hA4 := env.a4 (at_ + 1) (by omega)
    have hN4 := env.n9 (at_ + 1) (by omega)
    rw [hls2] at hA4
    have hzl := env.zl
    have eat : (at_ : Int) + 1 = ((at_ + 1 : Nat) : Int) := by push_cast; rfl
    have hput : putL S E xs a n (l :: ls) u pre = putD S E xs a n l ls u pre S := by rw [putL, putD]
    have hprl : pre.length = len := by rw [← hcs]; simp; omega
    have hcl3 := canL_len (S := S) (E := E) (xs := xs) (a := a) ls
    refine F_startB code64 hO ?_
    repeat' (first
 | refine A_go rfl ?_ | refine A_ifT rfl rfl ?_ | refine A_ifF rfl rfl ?_
 | refine A_offP rfl rfl ?_ | refine A_offH rfl rfl ?_ | refine A_off0 rfl rfl ?_
 | refine A_add rfl rfl rfl (by omega) ?_ | refine A_sub rfl rfl rfl (by omega) ?_
 | ((first | refine A_lt rfl rfl rfl ?_ ?_ | refine A_eq rfl rfl rfl ?_ ?_ | refine A_ne rfl rfl rfl ?_ ?_) <;> intro hc <;> try first | contradiction | (exfalso; omega) | exact absurd rfl hc)
 | refine A_idxN1 rfl rfl rfl (by omega) ?_ | refine A_idx1 rfl rfl rfl (by omega) ?_
 | refine A_fld rfl rfl ?_ | refine A_p (by rfl) rfl ?_
 | refine A_ldI rfl (by first | omega | (simp; done) | (simp; omega)) rfl ?_ | refine A_ldB rfl (by first | omega | (simp; done) | (simp; omega)) rfl ?_ | refine A_ld rfl (by rfl) rfl ?_
 | refine A_ldW rfl (by simp) rfl ?_
 | refine A_st rfl rfl rfl ?_ | refine A_stE rfl rfl (by first | omega | (simp; done) | (simp; omega)) rfl ?_
 | ((first | refine A_bld1 rfl rfl ?_ | refine A_bld2 rfl rfl rfl ?_ | refine A_bld4 rfl rfl rfl rfl rfl ?_) <;> intro pz hpz)
 | refine A_bld0 rfl ?_
 | (refine A_app rfl rfl rfl (by first | omega | (simp; done) | (simp; omega)) (by first | omega | (simp; done) | (simp; omega)) (by omega) ?_; intro pz) | (refine A_appN (enc := ic) rfl (by decide) rfl rfl (by first | omega | (simp; done) | (simp; omega)) (by omega) ?_; intro pz)
 | refine A_ret1 rfl (by exact (RP.t rfl RP.nil)) ?_)
    refine A_loopX rfl (fun m fr L => ∃ (d p : Nat) (cs : List Int) (K : Objs), m = S - d ∧ fr = [(0, iv at_), (1, iv u), (2, .c (.ptr pr 0)), (4, .c (.ptr pb 0)), (5, .c (.ptr pq 0)), (6, .c (.ptr pc 0)), (7, .c (.ptr pp 0)), (26, iv S), (27, iv d)] ∧ L = PutN pb p len cs K ∧ d ≤ S ∧ len ≤ cs.length ∧ cs.take len = pre ∧ (g = true ∨ putD S E xs a n l ls u pre d = []) ∧ Enc (acc ++ putD S E xs a n l ls u pre d) K) (n := S) ⟨_, ⟨0, p, cs, K, rfl, rfl, rfl, by omega, hcl, hcs, .inr rfl, by rw [putD, List.range_zero, List.flatMap_nil, List.append_nil]; exact hEnc⟩, inferInstance⟩ ?_
    rintro m fr L ⟨d, p1, cs1, K1, rfl, rfl, rfl, hd, hcl1, hcs1, hg1, hE1⟩
    by_cases hd' : d < S
    case neg =>
      obtain rfl : S = d := by omega
      repeat' (first
 | refine A_go rfl ?_ | refine A_ifT rfl rfl ?_ | refine A_ifF rfl rfl ?_
 | refine A_offP rfl rfl ?_ | refine A_offH rfl rfl ?_ | refine A_off0 rfl rfl ?_
 | refine A_add rfl rfl rfl (by omega) ?_ | refine A_sub rfl rfl rfl (by omega) ?_
 | ((first | refine A_lt rfl rfl rfl ?_ ?_ | refine A_eq rfl rfl rfl ?_ ?_ | refine A_ne rfl rfl rfl ?_ ?_) <;> intro hc <;> try first | contradiction | (exfalso; omega) | exact absurd rfl hc)
 | refine A_idxN1 rfl rfl rfl (by omega) ?_ | refine A_idx1 rfl rfl rfl (by omega) ?_
 | refine A_fld rfl rfl ?_ | refine A_p (by rfl) rfl ?_
 | refine A_ldI rfl (by first | omega | (simp; done) | (simp; omega)) rfl ?_ | refine A_ldB rfl (by first | omega | (simp; done) | (simp; omega)) rfl ?_ | refine A_ld rfl (by rfl) rfl ?_
 | refine A_ldW rfl (by simp) rfl ?_
 | refine A_st rfl rfl rfl ?_ | refine A_stE rfl rfl (by first | omega | (simp; done) | (simp; omega)) rfl ?_
 | ((first | refine A_bld1 rfl rfl ?_ | refine A_bld2 rfl rfl rfl ?_ | refine A_bld4 rfl rfl rfl rfl rfl ?_) <;> intro pz hpz)
 | refine A_bld0 rfl ?_
 | (refine A_app rfl rfl rfl (by first | omega | (simp; done) | (simp; omega)) (by first | omega | (simp; done) | (simp; omega)) (by omega) ?_; intro pz) | (refine A_appN (enc := ic) rfl (by decide) rfl rfl (by first | omega | (simp; done) | (simp; omega)) (by omega) ?_; intro pz)
 | refine A_ret1 rfl (by exact (RP.t rfl RP.nil)) ?_)
      refine ⟨_, ⟨p1, cs1, K1, ?_, rfl, hcl1, hcs1, ?_⟩, inferInstance⟩
      · rw [hput]
        rcases hg1 with rfl | h
        · rfl
        · rw [h]; simp
      · rw [hput, tk_ok hg1]; exact hE1
    obtain ⟨c, hce⟩ : ∃ c, (u * S + d) % E = c := ⟨_, rfl⟩
    have hcE : c < E := by rw [← hce]; exact mod_in hEb.1
    by_cases hlb : xs.getD (u * S + d) 0 = l
    case neg =>
      have hst : putD S E xs a n l ls u pre (d + 1) = putD S E xs a n l ls u pre d := by rw [putD_succ, if_neg hlb, List.append_nil]
      repeat' (first
 | refine A_go rfl ?_ | refine A_ifT rfl rfl ?_ | refine A_ifF rfl rfl ?_
 | refine A_offP rfl rfl ?_ | refine A_offH rfl rfl ?_ | refine A_off0 rfl rfl ?_
 | refine A_add rfl rfl rfl (by omega) ?_ | refine A_sub rfl rfl rfl (by omega) ?_
 | ((first | refine A_lt rfl rfl rfl ?_ ?_ | refine A_eq rfl rfl rfl ?_ ?_ | refine A_ne rfl rfl rfl ?_ ?_) <;> intro hc <;> try first | contradiction | (exfalso; omega) | exact absurd rfl hc)
 | refine A_idxN1 rfl rfl rfl (by omega) ?_ | refine A_idx1 rfl rfl rfl (by omega) ?_
 | simp only [eat, hce, hlab]
 | refine A_callV rfl rfl (fun s H => c_way (a := u) (d := d) (hE := hE) (hl := hl)) ?_
 | refine A_callV rfl rfl (fun s H => c_label (ys := to) (at_ := at_)) ?_
 | refine A_fld rfl rfl ?_ | refine A_p (by rfl) rfl ?_
 | refine A_ldI rfl (by first | omega | (simp; done) | (simp; omega)) rfl ?_ | refine A_ldB rfl (by first | omega | (simp; done) | (simp; omega)) rfl ?_ | refine A_ld rfl (by rfl) rfl ?_
 | refine A_ldW rfl (by simp) rfl ?_
 | refine A_st rfl rfl rfl ?_ | refine A_stE rfl rfl (by first | omega | (simp; done) | (simp; omega)) rfl ?_
 | ((first | refine A_bld1 rfl rfl ?_ | refine A_bld2 rfl rfl rfl ?_ | refine A_bld4 rfl rfl rfl rfl rfl ?_) <;> intro pz hpz)
 | refine A_bld0 rfl ?_
 | (refine A_app rfl rfl rfl (by first | omega | (simp; done) | (simp; omega)) (by first | omega | (simp; done) | (simp; omega)) (by omega) ?_; intro pz) | (refine A_appN (enc := ic) rfl (by decide) rfl rfl (by first | omega | (simp; done) | (simp; omega)) (by omega) ?_; intro pz)
 | refine A_ret1 rfl (by exact (RP.t rfl RP.nil)) ?_)
      refine A_roundX rfl ⟨S - (d + 1), PutN pb p1 len cs1 K1, by omega, ⟨d + 1, p1, cs1, K1, rfl, rfl, rfl, by omega, hcl1, hcs1, by rw [hst]; exact hg1, by rw [hst]; exact hE1⟩, inferInstance⟩
    have hst : putD S E xs a n l ls u pre (d + 1) = putD S E xs a n l ls u pre d ++ putL S E xs a n ls c (pre ++ [((d : Nat) : Int)]) := by rw [putD_succ, if_pos hlb, hce]
    cases hcn : (canL S E xs a ls).getD c false with
    | false =>
      have hno := can_no (S := S) (n := n) hEb.1 ls c (pre ++ [((d : Nat) : Int)]) hcE hcn
      rw [hno, List.append_nil] at hst
      repeat' (first
 | refine A_go rfl ?_ | refine A_ifT rfl rfl ?_ | refine A_ifF rfl rfl ?_
 | refine A_offP rfl rfl ?_ | refine A_offH rfl rfl ?_ | refine A_off0 rfl rfl ?_
 | refine A_add rfl rfl rfl (by omega) ?_ | refine A_sub rfl rfl rfl (by omega) ?_
 | ((first | refine A_lt rfl rfl rfl ?_ ?_ | refine A_eq rfl rfl rfl ?_ ?_ | refine A_ne rfl rfl rfl ?_ ?_) <;> intro hc <;> try first | contradiction | (exfalso; omega) | exact absurd rfl hc)
 | refine A_idxN1 rfl rfl rfl (by omega) ?_ | refine A_idx1 rfl rfl rfl (by omega) ?_
 | simp only [eat, hce, hlab, hcn, Int.toNat_natCast]
 | refine A_callV rfl rfl (fun s H => c_way (a := u) (d := d) (hE := hE) (hl := hl)) ?_
 | refine A_callV rfl rfl (fun s H => c_label (ys := to) (at_ := at_)) ?_
 | refine A_ldE (enc := cE E) 0 rfl (by omega) rfl ?_
 | refine A_fld rfl rfl ?_ | refine A_p (by rfl) rfl ?_
 | refine A_ldI rfl (by first | omega | (simp; done) | (simp; omega)) rfl ?_ | refine A_ldB rfl (by first | omega | (simp; done) | (simp; omega)) rfl ?_ | refine A_ld rfl (by rfl) rfl ?_
 | refine A_ldW rfl (by simp) rfl ?_
 | refine A_st rfl rfl rfl ?_ | refine A_stE rfl rfl (by first | omega | (simp; done) | (simp; omega)) rfl ?_
 | ((first | refine A_bld1 rfl rfl ?_ | refine A_bld2 rfl rfl rfl ?_ | refine A_bld4 rfl rfl rfl rfl rfl ?_) <;> intro pz hpz)
 | refine A_bld0 rfl ?_
 | (refine A_app rfl rfl rfl (by first | omega | (simp; done) | (simp; omega)) (by first | omega | (simp; done) | (simp; omega)) (by omega) ?_; intro pz) | (refine A_appN (enc := ic) rfl (by decide) rfl rfl (by first | omega | (simp; done) | (simp; omega)) (by omega) ?_; intro pz)
 | refine A_ret1 rfl (by exact (RP.t rfl RP.nil)) ?_)
      refine A_roundX rfl ⟨S - (d + 1), PutN pb p1 len cs1 K1, by omega, ⟨d + 1, p1, cs1, K1, rfl, rfl, rfl, by omega, hcl1, hcs1, by rw [hst]; exact hg1, by rw [hst]; exact hE1⟩, inferInstance⟩
    | true =>
      repeat' (first
 | refine A_go rfl ?_ | refine A_ifT rfl rfl ?_ | refine A_ifF rfl rfl ?_
 | refine A_offP rfl rfl ?_ | refine A_offH rfl rfl ?_ | refine A_off0 rfl rfl ?_
 | refine A_add rfl rfl rfl (by omega) ?_ | refine A_sub rfl rfl rfl (by omega) ?_
 | ((first | refine A_lt rfl rfl rfl ?_ ?_ | refine A_eq rfl rfl rfl ?_ ?_ | refine A_ne rfl rfl rfl ?_ ?_) <;> intro hc <;> try first | contradiction | (exfalso; omega) | exact absurd rfl hc)
 | refine A_idxN1 rfl rfl rfl (by omega) ?_ | refine A_idx1 rfl rfl rfl (by omega) ?_
 | simp only [eat, hce, hlab, hcn, Int.toNat_natCast]
 | refine A_callV rfl rfl (fun s H => c_way (a := u) (d := d) (hE := hE) (hl := hl)) ?_
 | refine A_callV rfl rfl (fun s H => c_label (ys := to) (at_ := at_)) ?_
 | refine A_ldE (enc := cE E) 0 rfl (by omega) rfl ?_
 | (refine A_appT rfl rfl rfl (by omega) (by simp) (by omega) ?_ <;> intro pz)
 | refine A_fld rfl rfl ?_ | refine A_p (by rfl) rfl ?_
 | refine A_ldI rfl (by first | omega | (simp; done) | (simp; omega)) rfl ?_ | refine A_ldB rfl (by first | omega | (simp; done) | (simp; omega)) rfl ?_ | refine A_ld rfl (by rfl) rfl ?_
 | refine A_ldW rfl (by simp) rfl ?_
 | refine A_st rfl rfl rfl ?_ | refine A_stE rfl rfl (by first | omega | (simp; done) | (simp; omega)) rfl ?_
 | ((first | refine A_bld1 rfl rfl ?_ | refine A_bld2 rfl rfl rfl ?_ | refine A_bld4 rfl rfl rfl rfl rfl ?_) <;> intro pz hpz)
 | refine A_bld0 rfl ?_
 | (refine A_app rfl rfl rfl (by first | omega | (simp; done) | (simp; omega)) (by first | omega | (simp; done) | (simp; omega)) (by omega) ?_; intro pz) | (refine A_appN (enc := ic) rfl (by decide) rfl rfl (by first | omega | (simp; done) | (simp; omega)) (by omega) ?_; intro pz)
 | refine A_ret1 rfl (by exact (RP.t rfl RP.nil)) ?_)
      obtain ⟨p2, hEq⟩ : ∃ p, p = pz := ⟨_, rfl⟩; subst hEq
      refine A_subL (L' := PutN pb p2 (len + 1) (cs1.take len ++ [((d : Nat) : Int)]) K1) ?_
      have hcl2 : len + 1 ≤ (cs1.take len ++ [((d : Nat) : Int)]).length := by simp; omega
      have hcs2 : (cs1.take len ++ [((d : Nat) : Int)]).take (len + 1) = pre ++ [((d : Nat) : Int)] := by
        rw [List.take_of_length_le (by simp; omega), hcs1]
      have elen : (((len + 1 : Nat) : Int) - 1).toNat = len := by omega
      refine A_callI (M := []) (N := PutN pb p2 (len + 1) (cs1.take len ++ [((d : Nat) : Int)]) K1) (P := fun R N' => ∃ p' cs' K', R = bv (g || (putL S E xs a n ls c (pre ++ [((d : Nat) : Int)])).isEmpty) ∧ N' = PutN pb p' (len + 1) cs' K' ∧ len + 1 ≤ cs'.length ∧ cs'.take (len + 1) = pre ++ [((d : Nat) : Int)] ∧ Enc ((acc ++ putD S E xs a n l ls u pre d) ++ tk g (putL S E xs a n ls c (pre ++ [((d : Nat) : Int)]))) K') rfl rfl rfl (fun s' H K2 => ?_) ?_
      · haveI : Wf s' := ⟨K2.wf⟩
        have hGd := putD_len (S := S) (E := E) (a := a) (n := n) (u := u) (xs := xs) (ls := ls) (pre := pre) (l := l) (show d + 1 ≤ S by omega)
        rw [hst, List.length_append, ← hput] at hGd
        exact c_put g G Enc hdo hE hl hlx hto hS hw hEb hn hre ls (at_ := at_ + 1) K2 (env.next H) (by omega) hls2 (by omega) hcE hcl2 hcs2 hE1 hcn (by rw [List.length_append]; omega)
      rintro r N' ⟨p3, cs3, K3, rfl, rfl, h1, h2, h3⟩
      simp only [List.append_nil]
      have hcs3 : cs3.take len = pre := by
        have h := congrArg (List.take len) h2
        rw [List.take_take, Nat.min_eq_left (by omega), List.take_append_of_le_length (by omega)] at h
        rw [h]
        exact List.take_of_length_le (by omega)
      cases hgo : (g || (putL S E xs a n ls c (pre ++ [((d : Nat) : Int)])).isEmpty) with
      | true =>
        have hg2 : g = true ∨ putL S E xs a n ls c (pre ++ [((d : Nat) : Int)]) = [] := by
          rcases Bool.or_eq_true_iff.1 hgo with h | h
          · exact .inl h
          · exact .inr (List.isEmpty_iff.1 h)
        rw [tk_ok hg2] at h3
        repeat' (first
 | refine A_go rfl ?_ | refine A_ifT rfl rfl ?_ | refine A_ifF rfl rfl ?_
 | refine A_offP rfl rfl ?_ | refine A_offH rfl rfl ?_ | refine A_off0 rfl rfl ?_
 | refine A_add rfl rfl rfl (by omega) ?_ | refine A_sub rfl rfl rfl (by omega) ?_
 | ((first | refine A_lt rfl rfl rfl ?_ ?_ | refine A_eq rfl rfl rfl ?_ ?_ | refine A_ne rfl rfl rfl ?_ ?_) <;> intro hc <;> try first | contradiction | (exfalso; omega) | exact absurd rfl hc)
 | refine A_idxN1 rfl rfl rfl (by omega) ?_ | refine A_idx1 rfl rfl rfl (by omega) ?_
 | refine A_slTo rfl rfl rfl (by omega) ?_
 | simp only [elen]
 | refine A_fld rfl rfl ?_ | refine A_p (by rfl) rfl ?_
 | refine A_ldI rfl (by first | omega | (simp; done) | (simp; omega)) rfl ?_ | refine A_ldB rfl (by first | omega | (simp; done) | (simp; omega)) rfl ?_ | refine A_ld rfl (by rfl) rfl ?_
 | refine A_ldW rfl (by simp) rfl ?_
 | refine A_st rfl rfl rfl ?_ | refine A_stE rfl rfl (by first | omega | (simp; done) | (simp; omega)) rfl ?_
 | ((first | refine A_bld1 rfl rfl ?_ | refine A_bld2 rfl rfl rfl ?_ | refine A_bld4 rfl rfl rfl rfl rfl ?_) <;> intro pz hpz)
 | refine A_bld0 rfl ?_
 | (refine A_app rfl rfl rfl (by first | omega | (simp; done) | (simp; omega)) (by first | omega | (simp; done) | (simp; omega)) (by omega) ?_; intro pz) | (refine A_appN (enc := ic) rfl (by decide) rfl rfl (by first | omega | (simp; done) | (simp; omega)) (by omega) ?_; intro pz)
 | refine A_ret1 rfl (by exact (RP.t rfl RP.nil)) ?_)
        refine A_roundX rfl ⟨S - (d + 1), PutN pb p3 len cs3 K3, by omega, ⟨d + 1, p3, cs3, K3, rfl, rfl, rfl, by omega, by omega, hcs3, ?_, ?_⟩, inferInstance⟩
        · rw [hst]
          rcases hg1 with h | h
          · exact .inl h
          · exact hg2.imp id fun k => by rw [h, k]; rfl
        · rw [hst, ← List.append_assoc]; exact h3
      | false =>
        obtain ⟨hgf, hne⟩ := Bool.or_eq_false_iff.1 hgo
        have hp0 := hg1.resolve_left (by rw [hgf]; simp)
        have hne2 : putL S E xs a n ls c (pre ++ [((d : Nat) : Int)]) ≠ [] := fun h => by rw [h] at hne; cases hne
        obtain ⟨r, hr⟩ := range_cut (m := d + 1) (n := S) (by omega)
        rw [List.range_succ] at hr
        have hD : putD S E xs a n l ls u pre S = ((List.range d ++ [d]) ++ r).flatMap fun (d : Nat) => if xs.getD (u * S + d) 0 = l then putL S E xs a n ls ((u * S + d) % E) (pre ++ [((d : Nat) : Int)]) else [] := by rw [putD, hr]
        have h1' : ([d].flatMap fun (d : Nat) => if xs.getD (u * S + d) 0 = l then putL S E xs a n ls ((u * S + d) % E) (pre ++ [((d : Nat) : Int)]) else []) = putL S E xs a n ls c (pre ++ [((d : Nat) : Int)]) := by
          simp only [List.flatMap_cons, List.flatMap_nil, List.append_nil]
          rw [if_pos hlb, hce]
        obtain ⟨k1, k2⟩ := tk_cut (r := r) (b := [d]) hp0 (by rw [h1']; exact hne2)
        rw [← hD] at k1 k2
        rw [h1'] at k1
        rw [hp0, List.append_nil, hgf] at h3
        repeat' (first
 | refine A_go rfl ?_ | refine A_ifT rfl rfl ?_ | refine A_ifF rfl rfl ?_
 | refine A_offP rfl rfl ?_ | refine A_offH rfl rfl ?_ | refine A_off0 rfl rfl ?_
 | refine A_add rfl rfl rfl (by omega) ?_ | refine A_sub rfl rfl rfl (by omega) ?_
 | ((first | refine A_lt rfl rfl rfl ?_ ?_ | refine A_eq rfl rfl rfl ?_ ?_ | refine A_ne rfl rfl rfl ?_ ?_) <;> intro hc <;> try first | contradiction | (exfalso; omega) | exact absurd rfl hc)
 | refine A_idxN1 rfl rfl rfl (by omega) ?_ | refine A_idx1 rfl rfl rfl (by omega) ?_
 | refine A_slTo rfl rfl rfl (by omega) ?_
 | simp only [elen]
 | refine A_fld rfl rfl ?_ | refine A_p (by rfl) rfl ?_
 | refine A_ldI rfl (by first | omega | (simp; done) | (simp; omega)) rfl ?_ | refine A_ldB rfl (by first | omega | (simp; done) | (simp; omega)) rfl ?_ | refine A_ld rfl (by rfl) rfl ?_
 | refine A_ldW rfl (by simp) rfl ?_
 | refine A_st rfl rfl rfl ?_ | refine A_stE rfl rfl (by first | omega | (simp; done) | (simp; omega)) rfl ?_
 | ((first | refine A_bld1 rfl rfl ?_ | refine A_bld2 rfl rfl rfl ?_ | refine A_bld4 rfl rfl rfl rfl rfl ?_) <;> intro pz hpz)
 | refine A_bld0 rfl ?_
 | (refine A_app rfl rfl rfl (by first | omega | (simp; done) | (simp; omega)) (by first | omega | (simp; done) | (simp; omega)) (by omega) ?_; intro pz) | (refine A_appN (enc := ic) rfl (by decide) rfl rfl (by first | omega | (simp; done) | (simp; omega)) (by omega) ?_; intro pz)
 | refine A_ret1 rfl (by exact (RP.t rfl RP.nil)) ?_)
        refine ⟨_, ⟨p3, cs3, K3, ?_, rfl, by omega, hcs3, ?_⟩, inferInstance⟩
        · rw [hput, hgf]
          cases hx : putD S E xs a n l ls u pre S with
          | nil => exact absurd hx k2
          | cons _ _ => rfl
        · rw [hput, hgf]
          show Enc (acc ++ (putD S E xs a n l ls u pre S).take 1) K3
          rw [k1]; exact h3

end Go.Proofs.Ytlmbgaoeplffkaa
