/- When what moves comes again: the program. -/
import Derived.Test.YtlhidckolillaaaXlives
import Derived.Test.YtlhidckolillaaaXmoveds
import Derived.Test.YtlhidckolillaaaXpartsK
import Derived.Test.YtlhidckolillaaaXlend
import Derived.Test.YtlhidckolillaaaXsameField
import Derived.Test.YtlhidckolillaaaXcount
import Derived.Test.YtlhidckolillaaaFB
namespace Go.Proofs.Ytlhidckolillaaa
open Go Go.RowKit
set_option linter.unusedVariables false
set_option linter.unusedSimpArgs false
set_option maxRecDepth 100000
set_option maxHeartbeats 8000000
-- impl.MoveOf
def L30 : AFun := ⟨59, [.t 6, .t 7, .t 8, .t 9],
 (.seq (.ops false [⟨(some 3), .box 39 (.t 0), none, []⟩,
   ⟨(some 4), .box 26 (.t 1), none, []⟩,
   ⟨(some 6), .mv (.k (iv 0)), none, []⟩,
   ⟨(some 7), .mv (.k (iv 0)), none, []⟩,
   ⟨(some 8), .mv (.k (iv 0)), none, []⟩,
   ⟨(some 9), .mv (.k (bv false)), none, []⟩])
 (.seq (.seq (.ops false [⟨(some 14), .load true 2 (.t 3), none, []⟩,
    ⟨(some 15), .load true 3 (.t 4), none, []⟩,
    ⟨(some 16), .buildS 26 3 1 [.int .i64 0, .int .i64 0, .sl 0 0 0] [(0, 3, (.t 15))], none, []⟩,
    ⟨(some 17), .call (.f 52) [(.t 14), (.t 16)], none, []⟩,
    ⟨(some 18), .un .not (.t 17), none, []⟩,
    ⟨(some 19), .mv (.t 18), none, []⟩,
    ⟨(some 20), .mv (.t 2), (some (19, false)), []⟩,
    ⟨(some 21), .call (.f 53) [(.t 20), (.k (iv 1)), (.k (iv 512))], (some (19, false)), []⟩,
    ⟨(some 22), .un .not (.t 21), (some (19, false)), []⟩,
    ⟨(some 23), .pick (.t 19) (.k (bv true)) (.t 22), none, []⟩])
  (.cond (.t 23) (.seq (.ops false [⟨(some 6), .mv (.k (iv 0)), none, []⟩,
     ⟨(some 7), .mv (.k (iv 0)), none, []⟩,
     ⟨(some 8), .mv (.k (iv 0)), none, []⟩,
     ⟨(some 9), .mv (.k (bv false)), none, []⟩])
   .ret)
   .skip))
 (.seq (.ops false [⟨(some 24), .load true 3 (.t 4), none, []⟩,
   ⟨(some 10), .alloc 26 [.int .i64 0, .int .i64 0, .sl 0 0 0], none, []⟩,
   ⟨none, .store 3 (.t 10) (.t 24), none, []⟩])
 (.seq (.seq (.ops false [⟨(some 11), .mv (.k (iv 1)), none, []⟩])
  (.block 0 (.loop [2, 3, 4, 10, 11] (.seq (.seq (.ops false [⟨(some 25), .mv (.t 11), none, []⟩,
       ⟨(some 26), .mv (.t 2), none, []⟩,
       ⟨(some 27), .bin .leq (.t 25) (.t 26), none, []⟩])
     (.cond (.t 27) .skip
      (.exit 0)))
    (.seq (.block 1 (.seq (.ops false [⟨(some 30), .load true 2 (.t 3), none, []⟩,
        ⟨(some 31), .load true 3 (.t 10), none, []⟩,
        ⟨(some 32), .call (.f 62) [(.t 30), (.t 31), (.k (bv true))], none, []⟩,
        ⟨none, .store 3 (.t 10) (.t 32), none, []⟩])
      (.seq (.seq (.ops true [⟨(some 33), .load true 3 (.t 10), none, []⟩,
         ⟨(some 34), .call (.f 66) [(.t 33), (.k (iv 1))], none, []⟩,
         ⟨(some 35), .load true 3 (.t 4), none, [0]⟩,
         ⟨(some 36), .call (.f 66) [(.t 35), (.k (iv 1))], none, []⟩,
         ⟨(some 37), .bin .neq (.t 34) (.t 36), none, []⟩])
       (.cond (.t 37) (.exit 1)
        .skip))
      (.seq (.ops false [⟨(some 38), .fieldA 0 (.t 4), none, []⟩,
        ⟨(some 39), .load false 1 (.t 38), none, []⟩,
        ⟨(some 40), .mv (.k (iv 0)), none, []⟩])
      (.block 2 (.loop [2, 3, 4, 10, 11, 39, 40] (.seq (.ops false [⟨(some 41), .bin .lss (.t 40) (.t 39), none, []⟩])
        (.seq (.cond (.t 41) .skip
          (.exit 2))
        (.seq (.block 3 (.seq (.ops false [⟨(some 42), .mv (.t 40), none, []⟩,
            ⟨(some 12), .mv (.t 42), none, []⟩])
          (.seq (.ops false [⟨(some 43), .fieldA 1 (.t 4), none, []⟩,
            ⟨(some 44), .load false 1 (.t 43), none, []⟩,
            ⟨(some 45), .mv (.k (iv 0)), none, []⟩])
          (.block 4 (.loop [2, 3, 4, 10, 11, 12, 39, 40, 44, 45] (.seq (.ops false [⟨(some 46), .bin .lss (.t 45) (.t 44), none, []⟩])
            (.seq (.cond (.t 46) .skip
              (.exit 4))
            (.seq (.block 5 (.seq (.ops false [⟨(some 47), .mv (.t 45), none, []⟩,
                ⟨(some 13), .mv (.t 47), none, []⟩])
              (.seq (.ops true [⟨(some 49), .load true 3 (.t 4), none, []⟩,
                ⟨(some 50), .mv (.t 12), none, []⟩,
                ⟨(some 51), .mv (.t 13), none, []⟩,
                ⟨(some 52), .call (.f 61) [(.t 49), (.t 50), (.t 51)], none, []⟩,
                ⟨(some 48), .load true 3 (.t 10), none, [0]⟩,
                ⟨(some 53), .call (.f 24) [(.t 48), (.t 52)], none, []⟩])
              (.cond (.t 53) (.seq (.ops false [⟨(some 54), .mv (.t 11), none, []⟩,
                 ⟨(some 55), .mv (.t 12), none, []⟩,
                 ⟨(some 56), .mv (.t 13), none, []⟩,
                 ⟨(some 6), .mv (.t 54), none, []⟩,
                 ⟨(some 7), .mv (.t 55), none, []⟩,
                 ⟨(some 8), .mv (.t 56), none, []⟩,
                 ⟨(some 9), .mv (.k (bv true)), none, []⟩])
               .ret)
               .skip))))
            (.ops false [⟨(some 57), .bin .add (.t 45) (.k (iv 1)), none, []⟩,
             ⟨(some 45), .mv (.t 57), none, []⟩])))))))))
        (.ops false [⟨(some 58), .bin .add (.t 40) (.k (iv 1)), none, []⟩,
         ⟨(some 40), .mv (.t 58), none, []⟩]))))))))))
    (.ops false [⟨(some 28), .mv (.t 11), none, []⟩,
     ⟨(some 29), .bin .add (.t 28) (.k (iv 1)), none, []⟩,
     ⟨(some 11), .mv (.t 29), none, []⟩]))))))
 (.seq (.ops false [⟨(some 6), .mv (.k (iv 0)), none, []⟩,
   ⟨(some 7), .mv (.k (iv 0)), none, []⟩,
   ⟨(some 8), .mv (.k (iv 0)), none, []⟩,
   ⟨(some 9), .mv (.k (bv false)), none, []⟩])
 .ret)))))⟩
theorem code30 : acode Try.prog hints 30 = some L30 := by kernel_rfl


/-- What is known of when and where a field comes again. -/
def NoM (bo sy : List Int) (R C : Nat) (xs : List Int) (m : Nat) : Prop := ∀ a b : Nat, a < R → b < C → lifeN bo sy R C true xs m ≠ shif R C xs a b
def MvP (bo sy : List Int) (R C most : Nat) (xs : List Int) (V : AV) : Prop :=
  (∃ n i k : Nat, V = .tup [.c (ic n), .c (ic i), .c (ic k), .c (.bool true)] ∧ (1 ≤ n ∧ n ≤ most) ∧ (i < R ∧ k < C) ∧ lifeN bo sy R C true xs n = shif R C xs i k ∧ (∀ m, 1 ≤ m → m < n → NoM bo sy R C xs m) ∧ ∀ a b : Nat, a < R → b < C → (a < i ∨ (a = i ∧ b < k)) → lifeN bo sy R C true xs n ≠ shif R C xs a b) ∨
  (V = .tup [.c (ic 0), .c (ic 0), .c (ic 0), .c (.bool false)] ∧ ∀ m, 1 ≤ m → m ≤ most → NoM bo sy R C xs m)
abbrev MvX : ACode := bodyX (blc3 (tlc 3 (L30).body))
abbrev MvF (most p3 p4 p10 n : Nat) : Frm := [(2, iv most), (3, .c (.ptr p3 0)), (4, .c (.ptr p4 0)), (10, .c (.ptr p10 0)), (11, iv n)]
theorem A_hist {B : List Nat} {b : St} {L : Objs} {hist : List Objs} {fr : Frm} {k : KK} (h : At B b L [] [] fr k) : At B b L [] hist fr k :=
  .nil fun s H => by
    obtain ⟨fr', s', e, c⟩ := (h.ok s [] H .nil).ex
    cases e; exact c
theorem mv_0 {s : St} [Wf s] {L : Objs} {most p3 p4 p10 n : Nat} (hn : n ≤ most) {k : KK} (hk : ∀ {w25 w26 w27 : AV}, At [] s L [] [] ((27, w27) :: (26, w26) :: (25, w25) :: MvF most p3 p4 p10 n) k) :
    At [] s L [] [] (MvF most p3 p4 p10 n) (.thn (headX (blc3 (tlc 3 (L30).body))) k) := by
  repeat' (first
 | refine A_go rfl ?_ | refine A_ifT rfl rfl ?_ | refine A_ifF rfl rfl ?_ | refine A_offP rfl rfl ?_ | refine A_offH rfl rfl ?_ | refine A_off0 rfl rfl ?_
 | refine A_add rfl rfl rfl (by omega) ?_ | refine A_sub rfl rfl rfl (by omega) ?_ | refine A_mul rfl rfl rfl (by omega) ?_ | refine A_rem rfl rfl rfl (by omega) ?_ | refine A_remT rfl rfl rfl (by omega) ?_ | refine A_quo rfl rfl rfl (by omega) ?_
 | ((first | refine A_lt rfl rfl rfl ?_ ?_ | refine A_le rfl rfl rfl ?_ ?_ | refine A_gt rfl rfl rfl ?_ ?_ | refine A_ge rfl rfl rfl ?_ ?_ | refine A_eq rfl rfl rfl ?_ ?_ | refine A_ne rfl rfl rfl ?_ ?_ | refine A_beq rfl rfl rfl ?_ ?_) <;> intro hc <;> try first | contradiction | (exfalso; omega) | exact absurd rfl hc)
 | refine A_idxN1 rfl rfl rfl (by omega) ?_ | refine A_idx1 rfl rfl rfl (by omega) ?_ | refine A_idxArr1 rfl rfl rfl (by omega) ?_
 | refine A_fld rfl rfl ?_ | refine A_mk3 rfl rfl rfl rfl ?_ | refine A_mk23 rfl rfl rfl ?_ | refine A_mk2 rfl rfl rfl ?_ | refine A_mk13 rfl rfl ?_ | refine A_p (by rfl) rfl ?_
 | refine A_ldI rfl (by first | omega | (simp; done) | (simp; omega)) rfl ?_ | refine A_ldB rfl (by first | omega | (simp; done) | (simp; omega)) rfl ?_ | refine A_ld rfl (by rfl) rfl ?_ | refine A_ldW rfl (by simp) rfl ?_
 | refine A_st rfl rfl rfl ?_ | refine A_stW rfl rfl (by simp) rfl ?_ | refine A_stE rfl rfl (by first | omega | (simp; done) | (simp; omega)) rfl ?_
 | ((first | refine A_alloc rfl ?_ | refine A_box rfl rfl ?_ | refine A_boxC rfl rfl ?_ | refine A_makeN rfl rfl rfl (by omega) ?_ | refine A_make rfl rfl rfl (by omega) ?_ | refine A_bld1 rfl rfl ?_ | refine A_bld2 rfl rfl rfl ?_ | refine A_bld4 rfl rfl rfl rfl rfl ?_) <;> intro pz hpz)
 | refine A_bld0 rfl ?_ | (refine A_app rfl rfl rfl (by first | omega | (simp; done) | (simp; omega)) (by first | omega | (simp; done) | (simp; omega)) (by omega) ?_; intro pz) | (refine A_appN (enc := ic) rfl (by decide) rfl rfl (by first | omega | (simp; done) | (simp; omega)) (by omega) ?_; intro pz)
 | refine A_chk1 rfl rfl rfl ?_ | refine A_chk2 rfl rfl rfl rfl ?_ | refine A_chk3 rfl rfl rfl rfl rfl ?_ | refine A_chk4 rfl rfl rfl rfl rfl rfl ?_ | refine A_chkI rfl (by assumption) rfl (by simp) ?_
 | refine A_ret1 rfl (by first | exact (RP.t rfl RP.nil) | exact (RP.c rfl inferInstance rfl (by simp) RP.nil)) ?_ | refine A_ret rfl (by first | exact (RP.t rfl (RP.t rfl RP.nil)) | exact (RP.c rfl inferInstance rfl (by simp) (RP.t rfl RP.nil)) | exact (RP.t rfl (RP.t rfl (RP.t rfl RP.nil))) | exact (RP.c rfl inferInstance rfl (by simp) (RP.t rfl (RP.t rfl RP.nil))) | exact (RP.c rfl inferInstance rfl (by simp) (RP.t rfl (RP.t rfl (RP.t rfl (RP.t rfl RP.nil)))))) ?_ | refine A_ret0 rfl ?_)
  all_goals (refine A_skipK ?_; exact hk)
theorem mv_1 {s : St} [Wf s] {R C most p3 p4 p10 qid qoff n : Nat} {Q : Objs} {zs : List Int} {id_bo off_bo len_bo : Nat} {bo : List Int} [h_bo : ArgE ic s id_bo off_bo bo] (hl_bo : bo.length = len_bo := by first | rfl | simp | omega | (simp; omega)) {id_sy off_sy len_sy : Nat} {sy : List Int} [h_sy : ArgE ic s id_sy off_sy sy] (hl_sy : sy.length = len_sy := by first | rfl | simp | omega | (simp; omega)) {id_xs off_xs len_xs : Nat} {xs : List Int} [h_xs : ArgE ic s id_xs off_xs xs] (hl_xs : xs.length = len_xs := by first | rfl | simp | omega | (simp; omega)) (hQ : (Q = [] ∧ qid = id_xs ∧ qoff = off_xs ∧ zs = xs) ∨ (Q = [(qid, ints zs)] ∧ qoff = 0)) (hz : PL R C zs) (hb : len_bo ≤ 2000000 ∧ len_sy ≤ 2000000) {w25 w26 w27 : AV} {k : KK}
    (hk : ∀ {w30 w31 w32 : AV} {pz : Nat}, At [] s [(p3, .rw 39 2 [.sl id_bo off_bo len_bo, .sl id_sy off_sy len_sy]), (p4, .rw 26 3 [ic R, ic C, .sl id_xs off_xs len_xs]), (p10, .rw 26 3 (fld R C pz (R * C))), (pz, ints (mk R C (lifeV bo sy zs R C true)))] [] [] ((32, w32) :: (31, w31) :: (30, w30) :: (27, w27) :: (26, w26) :: (25, w25) :: MvF most p3 p4 p10 n) k) :
    At [] s ((p3, .rw 39 2 [.sl id_bo off_bo len_bo, .sl id_sy off_sy len_sy]) :: (p4, .rw 26 3 [ic R, ic C, .sl id_xs off_xs len_xs]) :: (p10, .rw 26 3 [ic R, ic C, .sl qid qoff (R * C)]) :: Q) [] [] ((27, w27) :: (26, w26) :: (25, w25) :: MvF most p3 p4 p10 n) (.thn (hdc MvX) k) := by
  have hzl := hz.len
  rcases hQ with ⟨rfl, rfl, rfl, rfl⟩ | ⟨rfl, rfl⟩
  · repeat' (first
 | refine A_go rfl ?_ | refine A_ifT rfl rfl ?_ | refine A_ifF rfl rfl ?_ | refine A_offP rfl rfl ?_ | refine A_offH rfl rfl ?_ | refine A_off0 rfl rfl ?_
 | refine A_add rfl rfl rfl (by omega) ?_ | refine A_sub rfl rfl rfl (by omega) ?_ | refine A_mul rfl rfl rfl (by omega) ?_ | refine A_rem rfl rfl rfl (by omega) ?_ | refine A_remT rfl rfl rfl (by omega) ?_ | refine A_quo rfl rfl rfl (by omega) ?_
 | ((first | refine A_lt rfl rfl rfl ?_ ?_ | refine A_le rfl rfl rfl ?_ ?_ | refine A_gt rfl rfl rfl ?_ ?_ | refine A_ge rfl rfl rfl ?_ ?_ | refine A_eq rfl rfl rfl ?_ ?_ | refine A_ne rfl rfl rfl ?_ ?_ | refine A_beq rfl rfl rfl ?_ ?_) <;> intro hc <;> try first | contradiction | (exfalso; omega) | exact absurd rfl hc)
 | refine A_idxN1 rfl rfl rfl (by omega) ?_ | refine A_idx1 rfl rfl rfl (by omega) ?_ | refine A_idxArr1 rfl rfl rfl (by omega) ?_
 | (refine A_callM rfl rfl (fun s H => c_lstep (bo := bo) (sy := sy) (xs := zs) (hl_xs := by omega) (hp := hz)) ?_; rintro _ _ ⟨pz, rfl, rfl⟩) | (refine A_callM0 rfl rfl (fun s H => c_lstep (bo := bo) (sy := sy) (xs := zs) (hl_xs := by omega) (hp := hz)) ?_; rintro _ _ ⟨pz, rfl, rfl⟩)
 | refine A_fld rfl rfl ?_ | refine A_mk3 rfl rfl rfl rfl ?_ | refine A_mk23 rfl rfl rfl ?_ | refine A_mk2 rfl rfl rfl ?_ | refine A_mk13 rfl rfl ?_ | refine A_p (by rfl) rfl ?_
 | refine A_ldI rfl (by first | omega | (simp; done) | (simp; omega)) rfl ?_ | refine A_ldB rfl (by first | omega | (simp; done) | (simp; omega)) rfl ?_ | refine A_ld rfl (by rfl) rfl ?_ | refine A_ldW rfl (by simp) rfl ?_
 | refine A_st rfl rfl rfl ?_ | refine A_stW rfl rfl (by simp) rfl ?_ | refine A_stE rfl rfl (by first | omega | (simp; done) | (simp; omega)) rfl ?_
 | ((first | refine A_alloc rfl ?_ | refine A_box rfl rfl ?_ | refine A_boxC rfl rfl ?_ | refine A_makeN rfl rfl rfl (by omega) ?_ | refine A_make rfl rfl rfl (by omega) ?_ | refine A_bld1 rfl rfl ?_ | refine A_bld2 rfl rfl rfl ?_ | refine A_bld4 rfl rfl rfl rfl rfl ?_) <;> intro pz hpz)
 | refine A_bld0 rfl ?_ | (refine A_app rfl rfl rfl (by first | omega | (simp; done) | (simp; omega)) (by first | omega | (simp; done) | (simp; omega)) (by omega) ?_; intro pz) | (refine A_appN (enc := ic) rfl (by decide) rfl rfl (by first | omega | (simp; done) | (simp; omega)) (by omega) ?_; intro pz)
 | refine A_chk1 rfl rfl rfl ?_ | refine A_chk2 rfl rfl rfl rfl ?_ | refine A_chk3 rfl rfl rfl rfl rfl ?_ | refine A_chk4 rfl rfl rfl rfl rfl rfl ?_ | refine A_chkI rfl (by assumption) rfl (by simp) ?_
 | refine A_ret1 rfl (by first | exact (RP.t rfl RP.nil) | exact (RP.c rfl inferInstance rfl (by simp) RP.nil)) ?_ | refine A_ret rfl (by first | exact (RP.t rfl (RP.t rfl RP.nil)) | exact (RP.c rfl inferInstance rfl (by simp) (RP.t rfl RP.nil)) | exact (RP.t rfl (RP.t rfl (RP.t rfl RP.nil))) | exact (RP.c rfl inferInstance rfl (by simp) (RP.t rfl (RP.t rfl RP.nil))) | exact (RP.c rfl inferInstance rfl (by simp) (RP.t rfl (RP.t rfl (RP.t rfl (RP.t rfl RP.nil)))))) ?_ | refine A_ret0 rfl ?_)
    refine A_subL (L' := [(p3, .rw 39 2 [.sl id_bo off_bo len_bo, .sl id_sy off_sy len_sy]), (p4, .rw 26 3 [ic R, ic C, .sl qid qoff len_xs]), (p10, .rw 26 3 (fld R C pz (R * C))), (pz, ints (mk R C (lifeV bo sy zs R C true)))]) ?_
    exact A_hist hk
  · repeat' (first
 | refine A_go rfl ?_ | refine A_ifT rfl rfl ?_ | refine A_ifF rfl rfl ?_ | refine A_offP rfl rfl ?_ | refine A_offH rfl rfl ?_ | refine A_off0 rfl rfl ?_
 | refine A_add rfl rfl rfl (by omega) ?_ | refine A_sub rfl rfl rfl (by omega) ?_ | refine A_mul rfl rfl rfl (by omega) ?_ | refine A_rem rfl rfl rfl (by omega) ?_ | refine A_remT rfl rfl rfl (by omega) ?_ | refine A_quo rfl rfl rfl (by omega) ?_
 | ((first | refine A_lt rfl rfl rfl ?_ ?_ | refine A_le rfl rfl rfl ?_ ?_ | refine A_gt rfl rfl rfl ?_ ?_ | refine A_ge rfl rfl rfl ?_ ?_ | refine A_eq rfl rfl rfl ?_ ?_ | refine A_ne rfl rfl rfl ?_ ?_ | refine A_beq rfl rfl rfl ?_ ?_) <;> intro hc <;> try first | contradiction | (exfalso; omega) | exact absurd rfl hc)
 | refine A_idxN1 rfl rfl rfl (by omega) ?_ | refine A_idx1 rfl rfl rfl (by omega) ?_ | refine A_idxArr1 rfl rfl rfl (by omega) ?_
 | (refine A_callM rfl rfl (fun s H => c_lstep (bo := bo) (sy := sy) (xs := zs) (hl_xs := by omega) (hp := hz)) ?_; rintro _ _ ⟨pz, rfl, rfl⟩) | (refine A_callM0 rfl rfl (fun s H => c_lstep (bo := bo) (sy := sy) (xs := zs) (hl_xs := by omega) (hp := hz)) ?_; rintro _ _ ⟨pz, rfl, rfl⟩)
 | refine A_fld rfl rfl ?_ | refine A_mk3 rfl rfl rfl rfl ?_ | refine A_mk23 rfl rfl rfl ?_ | refine A_mk2 rfl rfl rfl ?_ | refine A_mk13 rfl rfl ?_ | refine A_p (by rfl) rfl ?_
 | refine A_ldI rfl (by first | omega | (simp; done) | (simp; omega)) rfl ?_ | refine A_ldB rfl (by first | omega | (simp; done) | (simp; omega)) rfl ?_ | refine A_ld rfl (by rfl) rfl ?_ | refine A_ldW rfl (by simp) rfl ?_
 | refine A_st rfl rfl rfl ?_ | refine A_stW rfl rfl (by simp) rfl ?_ | refine A_stE rfl rfl (by first | omega | (simp; done) | (simp; omega)) rfl ?_
 | ((first | refine A_alloc rfl ?_ | refine A_box rfl rfl ?_ | refine A_boxC rfl rfl ?_ | refine A_makeN rfl rfl rfl (by omega) ?_ | refine A_make rfl rfl rfl (by omega) ?_ | refine A_bld1 rfl rfl ?_ | refine A_bld2 rfl rfl rfl ?_ | refine A_bld4 rfl rfl rfl rfl rfl ?_) <;> intro pz hpz)
 | refine A_bld0 rfl ?_ | (refine A_app rfl rfl rfl (by first | omega | (simp; done) | (simp; omega)) (by first | omega | (simp; done) | (simp; omega)) (by omega) ?_; intro pz) | (refine A_appN (enc := ic) rfl (by decide) rfl rfl (by first | omega | (simp; done) | (simp; omega)) (by omega) ?_; intro pz)
 | refine A_chk1 rfl rfl rfl ?_ | refine A_chk2 rfl rfl rfl rfl ?_ | refine A_chk3 rfl rfl rfl rfl rfl ?_ | refine A_chk4 rfl rfl rfl rfl rfl rfl ?_ | refine A_chkI rfl (by assumption) rfl (by simp) ?_
 | refine A_ret1 rfl (by first | exact (RP.t rfl RP.nil) | exact (RP.c rfl inferInstance rfl (by simp) RP.nil)) ?_ | refine A_ret rfl (by first | exact (RP.t rfl (RP.t rfl RP.nil)) | exact (RP.c rfl inferInstance rfl (by simp) (RP.t rfl RP.nil)) | exact (RP.t rfl (RP.t rfl (RP.t rfl RP.nil))) | exact (RP.c rfl inferInstance rfl (by simp) (RP.t rfl (RP.t rfl RP.nil))) | exact (RP.c rfl inferInstance rfl (by simp) (RP.t rfl (RP.t rfl (RP.t rfl (RP.t rfl RP.nil)))))) ?_ | refine A_ret0 rfl ?_)
    refine A_subL (L' := [(p3, .rw 39 2 [.sl id_bo off_bo len_bo, .sl id_sy off_sy len_sy]), (p4, .rw 26 3 [ic R, ic C, .sl id_xs off_xs len_xs]), (p10, .rw 26 3 (fld R C pz (R * C))), (pz, ints (mk R C (lifeV bo sy zs R C true)))]) ?_
    exact A_hist hk
theorem c_movOk {s : St} [Wf s] {R C most : Nat} {id_bo off_bo len_bo : Nat} {bo : List Int} [h_bo : ArgE ic s id_bo off_bo bo] (hl_bo : bo.length = len_bo := by first | rfl | simp | omega | (simp; omega)) {id_sy off_sy len_sy : Nat} {sy : List Int} [h_sy : ArgE ic s id_sy off_sy sy] (hl_sy : sy.length = len_sy := by first | rfl | simp | omega | (simp; omega)) {id_xs off_xs len_xs : Nat} {xs : List Int} [h_xs : ArgE ic s id_xs off_xs xs] (hl_xs : xs.length = len_xs := by first | rfl | simp | omega | (simp; omega)) (hp : LifeP bo sy R C xs) (hm : 1 ≤ most ∧ most ≤ 512) (hb : len_bo ≤ 2000000 ∧ len_sy ≤ 2000000 ∧ len_xs ≤ 2000000 := by omega) :
    Fn [] 30 [.agg [.sl id_bo off_bo len_bo, .sl id_sy off_sy len_sy], .agg [ic R, ic C, .sl id_xs off_xs len_xs], iv most] s fun V N => MvP bo sy R C most xs V ∧ N = [] := by
  have hl : len_xs = R * C := by rw [← hl_xs]; exact hp.2.len
  obtain ⟨R', C', e1, e2, g1, g2, g3, g4⟩ := hp.2.1.nat
  obtain rfl : R = R' := by omega
  obtain rfl : C = C' := by omega
  subst hl
  refine F_start code30 ?_
  repeat' (first
 | refine A_go rfl ?_ | refine A_ifT rfl rfl ?_ | refine A_ifF rfl rfl ?_
 | refine A_offP rfl rfl ?_ | refine A_offH rfl rfl ?_ | refine A_off0 rfl rfl ?_
 | refine A_add rfl rfl rfl (by omega) ?_
 | ((first | refine A_lt rfl rfl rfl ?_ ?_ | refine A_le rfl rfl rfl ?_ ?_ | refine A_ne rfl rfl rfl ?_ ?_) <;> intro hc <;> try first | contradiction | (exfalso; omega) | exact absurd rfl hc)
 | (refine A_bldC (by decide) rfl rfl ?_ <;> intro pz hpz)
 | (refine A_callB rfl rfl (fun s H => c_lives (bo := bo) (sy := sy) (xs := xs)) ?_ ?_ <;> intro hc <;> try first | contradiction | (exfalso; omega) | exact absurd rfl hc | exact absurd (And.intro rfl rfl) hc | exact absurd (And.intro rfl (And.intro rfl rfl)) hc | exact absurd (Eq.trans (by assumption) (Eq.symm (by assumption))) hc)
 | (refine A_callB rfl rfl (fun s H => c_within) ?_ ?_ <;> intro hc <;> try first | contradiction | (exfalso; omega) | exact absurd rfl hc | exact absurd (And.intro rfl rfl) hc | exact absurd (And.intro rfl (And.intro rfl rfl)) hc | exact absurd (Eq.trans (by assumption) (Eq.symm (by assumption))) hc)
 | refine A_fld rfl rfl ?_ | refine A_p (by rfl) rfl ?_
 | refine A_ldI rfl (by first | omega | (simp; done) | (simp; omega)) rfl ?_ | refine A_ldB rfl (by first | omega | (simp; done) | (simp; omega)) rfl ?_ | refine A_ld rfl (by rfl) rfl ?_
 | refine A_ldW rfl (by simp) rfl ?_
 | refine A_stW rfl rfl (by simp) rfl ?_
 | ((first | refine A_alloc rfl ?_ | refine A_box rfl rfl ?_ | refine A_boxC rfl rfl ?_ | refine A_bld1 rfl rfl ?_ | refine A_bld2 rfl rfl rfl ?_ | refine A_bld4 rfl rfl rfl rfl rfl ?_) <;> intro pz hpz)
 | refine A_bld0 rfl ?_
 | refine A_chk1 rfl rfl rfl ?_ | refine A_chk2 rfl rfl rfl rfl ?_ | refine A_chk3 rfl rfl rfl rfl rfl ?_ | refine A_chk4 rfl rfl rfl rfl rfl rfl ?_ | refine A_chkI rfl (by assumption) rfl (by simp) ?_
 | refine A_ret rfl (by exact (RP.t rfl (RP.t rfl (RP.t rfl (RP.t rfl RP.nil))))) ?_)
  obtain ⟨p10, hEq⟩ : ∃ p, p = pz := ⟨_, rfl⟩; subst hEq
  obtain ⟨psl, hEq⟩ : ∃ p, p = pz := ⟨_, rfl⟩; subst hEq
  obtain ⟨p4, hEq⟩ : ∃ p, p = pz := ⟨_, rfl⟩; subst hEq
  obtain ⟨p3, hEq⟩ : ∃ p, p = pz := ⟨_, rfl⟩; subst hEq
  refine A_loopX rfl (fun m fr L => ∃ (n qid qoff : Nat) (Q : Objs), m = most + 1 - n ∧ fr = MvF most p3 p4 p10 n ∧ L = (p3, .rw 39 2 [.sl id_bo off_bo len_bo, .sl id_sy off_sy len_sy]) :: (p4, .rw 26 3 [ic R, ic C, .sl id_xs off_xs (R * C)]) :: (p10, .rw 26 3 [ic R, ic C, .sl qid qoff (R * C)]) :: Q ∧ 1 ≤ n ∧ n ≤ most + 1 ∧ ((Q = [] ∧ qid = id_xs ∧ qoff = off_xs ∧ lifeN bo sy R C true xs (n - 1) = xs) ∨ (Q = [(qid, ints (lifeN bo sy R C true xs (n - 1)))] ∧ qoff = 0)) ∧ ∀ m, 1 ≤ m → m < n → NoM bo sy R C xs m) (n := most) ⟨[(p3, .rw 39 2 [.sl id_bo off_bo len_bo, .sl id_sy off_sy len_sy]), (p4, .rw 26 3 [ic R, ic C, .sl id_xs off_xs (R * C)]), (p10, .rw 26 3 [ic R, ic C, .sl id_xs off_xs (R * C)])], ⟨1, id_xs, off_xs, [], by omega, rfl, rfl, by omega, by omega, .inl ⟨rfl, rfl, rfl, rfl⟩, fun m h1 h2 => by omega⟩, inferInstance⟩ ?_
  rintro m fr L ⟨n, qid, qoff, Q, rfl, rfl, rfl, hn1, hn, hQ, hno⟩
  by_cases hn' : n ≤ most
  case neg =>
    repeat' (first
 | refine A_go rfl ?_ | refine A_ifT rfl rfl ?_ | refine A_ifF rfl rfl ?_
 | refine A_offP rfl rfl ?_ | refine A_offH rfl rfl ?_ | refine A_off0 rfl rfl ?_
 | refine A_add rfl rfl rfl (by omega) ?_
 | ((first | refine A_lt rfl rfl rfl ?_ ?_ | refine A_le rfl rfl rfl ?_ ?_ | refine A_ne rfl rfl rfl ?_ ?_) <;> intro hc <;> try first | contradiction | (exfalso; omega) | exact absurd rfl hc)
 | refine A_fld rfl rfl ?_ | refine A_p (by rfl) rfl ?_
 | refine A_ldI rfl (by first | omega | (simp; done) | (simp; omega)) rfl ?_ | refine A_ldB rfl (by first | omega | (simp; done) | (simp; omega)) rfl ?_ | refine A_ld rfl (by rfl) rfl ?_
 | refine A_ldW rfl (by simp) rfl ?_
 | refine A_stW rfl rfl (by simp) rfl ?_
 | ((first | refine A_alloc rfl ?_ | refine A_box rfl rfl ?_ | refine A_boxC rfl rfl ?_ | refine A_bld1 rfl rfl ?_ | refine A_bld2 rfl rfl rfl ?_ | refine A_bld4 rfl rfl rfl rfl rfl ?_) <;> intro pz hpz)
 | refine A_bld0 rfl ?_
 | refine A_chk1 rfl rfl rfl ?_ | refine A_chk2 rfl rfl rfl rfl ?_ | refine A_chk3 rfl rfl rfl rfl rfl ?_ | refine A_chk4 rfl rfl rfl rfl rfl rfl ?_ | refine A_chkI rfl (by assumption) rfl (by simp) ?_
 | refine A_ret rfl (by exact (RP.t rfl (RP.t rfl (RP.t rfl (RP.t rfl RP.nil))))) ?_)
    exact R_s ⟨.inr ⟨rfl, fun m h1 h2 => hno m h1 (by omega)⟩, rfl⟩
  have hz : PL R C (lifeN bo sy R C true xs (n - 1)) := lifeN_pl hp.2 (n - 1)
  have hstep : mk R C (lifeV bo sy (lifeN bo sy R C true xs (n - 1)) R C true) = lifeN bo sy R C true xs n := by
    obtain ⟨j, rfl⟩ : ∃ j, n = j + 1 := ⟨n - 1, by omega⟩
    rfl
  have hzn : PL R C (lifeN bo sy R C true xs n) := lifeN_pl hp.2 n
  refine A_seqK ?_
  refine mv_0 hn' ?_
  intros
  refine A_seqK (A_blkK (A_seqK ?_))
  refine mv_1 (bo := bo) (sy := sy) (xs := xs) (hQ := hQ) (hz := hz) (hb := ⟨hb.1, hb.2.1⟩) (hk := ?_)
  intro _ _ _ pY
  rw [hstep]
  generalize hY : lifeN bo sy R C true xs n = Y at *
  have hYl := hzn.len
  have hxl := hp.2.len
  have hnx : (¬ cnt Y 1 (R * C) = cnt xs 1 (R * C) ∨ NoM bo sy R C xs n) → ∀ m, 1 ≤ m → m < n + 1 → NoM bo sy R C xs m := fun h m h1 h2 => by
    by_cases e : m = n
    · subst e
      rcases h with h | h
      · intro a b ha hb2 q
        rw [hY] at q
        exact h (by rw [q, cnt_shif hxl (by omega) (by omega)])
      · exact h
    · exact hno m h1 (by omega)
  by_cases hcn : cnt Y 1 (R * C) = cnt xs 1 (R * C)
  case neg =>
    repeat' (first
 | refine A_go rfl ?_ | refine A_ifT rfl rfl ?_ | refine A_ifF rfl rfl ?_
 | refine A_offP rfl rfl ?_ | refine A_offH rfl rfl ?_ | refine A_off0 rfl rfl ?_
 | refine A_add rfl rfl rfl (by omega) ?_
 | ((first | refine A_lt rfl rfl rfl ?_ ?_ | refine A_le rfl rfl rfl ?_ ?_ | refine A_ne rfl rfl rfl ?_ ?_) <;> intro hc <;> try first | contradiction | (exfalso; omega) | exact absurd rfl hc)
 | refine A_callV rfl rfl (fun s H => c_count (xs := Y)) ?_
 | refine A_callV rfl rfl (fun s H => c_count (xs := xs)) ?_
 | refine A_fld rfl rfl ?_ | refine A_p (by rfl) rfl ?_
 | refine A_ldI rfl (by first | omega | (simp; done) | (simp; omega)) rfl ?_ | refine A_ldB rfl (by first | omega | (simp; done) | (simp; omega)) rfl ?_ | refine A_ld rfl (by rfl) rfl ?_
 | refine A_ldW rfl (by simp) rfl ?_
 | refine A_stW rfl rfl (by simp) rfl ?_
 | ((first | refine A_alloc rfl ?_ | refine A_box rfl rfl ?_ | refine A_boxC rfl rfl ?_ | refine A_bld1 rfl rfl ?_ | refine A_bld2 rfl rfl rfl ?_ | refine A_bld4 rfl rfl rfl rfl rfl ?_) <;> intro pz hpz)
 | refine A_bld0 rfl ?_
 | refine A_chk1 rfl rfl rfl ?_ | refine A_chk2 rfl rfl rfl rfl ?_ | refine A_chk3 rfl rfl rfl rfl rfl ?_ | refine A_chk4 rfl rfl rfl rfl rfl rfl ?_ | refine A_chkI rfl (by assumption) rfl (by simp) ?_
 | refine A_ret rfl (by exact (RP.t rfl (RP.t rfl (RP.t rfl (RP.t rfl RP.nil))))) ?_)
    refine A_roundX rfl ⟨most + 1 - (n + 1), (p3, .rw 39 2 [.sl id_bo off_bo len_bo, .sl id_sy off_sy len_sy]) :: (p4, .rw 26 3 [ic R, ic C, .sl id_xs off_xs (R * C)]) :: (p10, .rw 26 3 [ic R, ic C, .sl pY 0 (R * C)]) :: [(pY, ints Y)], by omega, ⟨n + 1, pY, 0, [(pY, ints Y)], rfl, rfl, rfl, by omega, by omega, .inr ⟨by rw [show n + 1 - 1 = n by omega, hY], rfl⟩, hnx (.inl hcn)⟩, inferInstance⟩
  repeat' (first
 | refine A_go rfl ?_ | refine A_ifT rfl rfl ?_ | refine A_ifF rfl rfl ?_
 | refine A_offP rfl rfl ?_ | refine A_offH rfl rfl ?_ | refine A_off0 rfl rfl ?_
 | refine A_add rfl rfl rfl (by omega) ?_
 | ((first | refine A_lt rfl rfl rfl ?_ ?_ | refine A_le rfl rfl rfl ?_ ?_ | refine A_ne rfl rfl rfl ?_ ?_) <;> intro hc <;> try first | contradiction | (exfalso; omega) | exact absurd rfl hc)
 | refine A_callV rfl rfl (fun s H => c_count (xs := Y)) ?_
 | refine A_callV rfl rfl (fun s H => c_count (xs := xs)) ?_
 | refine A_fld rfl rfl ?_ | refine A_p (by rfl) rfl ?_
 | refine A_ldI rfl (by first | omega | (simp; done) | (simp; omega)) rfl ?_ | refine A_ldB rfl (by first | omega | (simp; done) | (simp; omega)) rfl ?_ | refine A_ld rfl (by rfl) rfl ?_
 | refine A_ldW rfl (by simp) rfl ?_
 | refine A_stW rfl rfl (by simp) rfl ?_
 | ((first | refine A_alloc rfl ?_ | refine A_box rfl rfl ?_ | refine A_boxC rfl rfl ?_ | refine A_bld1 rfl rfl ?_ | refine A_bld2 rfl rfl rfl ?_ | refine A_bld4 rfl rfl rfl rfl rfl ?_) <;> intro pz hpz)
 | refine A_bld0 rfl ?_
 | refine A_chk1 rfl rfl rfl ?_ | refine A_chk2 rfl rfl rfl rfl ?_ | refine A_chk3 rfl rfl rfl rfl rfl ?_ | refine A_chk4 rfl rfl rfl rfl rfl rfl ?_ | refine A_chkI rfl (by assumption) rfl (by simp) ?_
 | refine A_ret rfl (by exact (RP.t rfl (RP.t rfl (RP.t rfl (RP.t rfl RP.nil))))) ?_)
  refine A_loop rfl [p3, p4, p10, pY] (fun m fr L => ∃ (i : Nat), m = R - i ∧ fr = [(2, iv most), (3, .c (.ptr p3 0)), (4, .c (.ptr p4 0)), (10, .c (.ptr p10 0)), (11, iv n), (39, iv R), (40, iv i)] ∧ L = [(p3, .rw 39 2 [.sl id_bo off_bo len_bo, .sl id_sy off_sy len_sy]), (p4, .rw 26 3 [ic R, ic C, .sl id_xs off_xs (R * C)]), (p10, .rw 26 3 (fld R C pY (R * C))), (pY, ints Y)] ∧ i ≤ R ∧ ∀ a b : Nat, a < i → b < C → Y ≠ shif R C xs a b) R ⟨0, rfl, rfl, rfl, by omega, fun a b h => by omega⟩ ?_
  rintro m fr L ⟨i, rfl, rfl, rfl, hi, hni⟩
  by_cases hi' : i < R
  case neg =>
    obtain rfl : R = i := by omega
    repeat' (first
 | refine A_go rfl ?_ | refine A_ifT rfl rfl ?_ | refine A_ifF rfl rfl ?_
 | refine A_offP rfl rfl ?_ | refine A_offH rfl rfl ?_ | refine A_off0 rfl rfl ?_
 | refine A_add rfl rfl rfl (by omega) ?_
 | ((first | refine A_lt rfl rfl rfl ?_ ?_ | refine A_le rfl rfl rfl ?_ ?_ | refine A_ne rfl rfl rfl ?_ ?_) <;> intro hc <;> try first | contradiction | (exfalso; omega) | exact absurd rfl hc)
 | refine A_fld rfl rfl ?_ | refine A_p (by rfl) rfl ?_
 | refine A_ldI rfl (by first | omega | (simp; done) | (simp; omega)) rfl ?_ | refine A_ldB rfl (by first | omega | (simp; done) | (simp; omega)) rfl ?_ | refine A_ld rfl (by rfl) rfl ?_
 | refine A_ldW rfl (by simp) rfl ?_
 | refine A_stW rfl rfl (by simp) rfl ?_
 | ((first | refine A_alloc rfl ?_ | refine A_box rfl rfl ?_ | refine A_boxC rfl rfl ?_ | refine A_bld1 rfl rfl ?_ | refine A_bld2 rfl rfl rfl ?_ | refine A_bld4 rfl rfl rfl rfl rfl ?_) <;> intro pz hpz)
 | refine A_bld0 rfl ?_
 | refine A_chk1 rfl rfl rfl ?_ | refine A_chk2 rfl rfl rfl rfl ?_ | refine A_chk3 rfl rfl rfl rfl rfl ?_ | refine A_chk4 rfl rfl rfl rfl rfl rfl ?_ | refine A_chkI rfl (by assumption) rfl (by simp) ?_
 | refine A_ret rfl (by exact (RP.t rfl (RP.t rfl (RP.t rfl (RP.t rfl RP.nil))))) ?_)
    refine A_roundX rfl ⟨most + 1 - (n + 1), (p3, .rw 39 2 [.sl id_bo off_bo len_bo, .sl id_sy off_sy len_sy]) :: (p4, .rw 26 3 [ic R, ic C, .sl id_xs off_xs (R * C)]) :: (p10, .rw 26 3 [ic R, ic C, .sl pY 0 (R * C)]) :: [(pY, ints Y)], by omega, ⟨n + 1, pY, 0, [(pY, ints Y)], rfl, rfl, rfl, by omega, by omega, .inr ⟨by rw [show n + 1 - 1 = n by omega, hY], rfl⟩, hnx (.inr fun a b ha hb2 q => hni a b ha hb2 (by rw [← hY]; exact q))⟩, inferInstance⟩
  repeat' (first
 | refine A_go rfl ?_ | refine A_ifT rfl rfl ?_ | refine A_ifF rfl rfl ?_
 | refine A_offP rfl rfl ?_ | refine A_offH rfl rfl ?_ | refine A_off0 rfl rfl ?_
 | refine A_add rfl rfl rfl (by omega) ?_
 | ((first | refine A_lt rfl rfl rfl ?_ ?_ | refine A_le rfl rfl rfl ?_ ?_ | refine A_ne rfl rfl rfl ?_ ?_) <;> intro hc <;> try first | contradiction | (exfalso; omega) | exact absurd rfl hc)
 | refine A_fld rfl rfl ?_ | refine A_p (by rfl) rfl ?_
 | refine A_ldI rfl (by first | omega | (simp; done) | (simp; omega)) rfl ?_ | refine A_ldB rfl (by first | omega | (simp; done) | (simp; omega)) rfl ?_ | refine A_ld rfl (by rfl) rfl ?_
 | refine A_ldW rfl (by simp) rfl ?_
 | refine A_stW rfl rfl (by simp) rfl ?_
 | ((first | refine A_alloc rfl ?_ | refine A_box rfl rfl ?_ | refine A_boxC rfl rfl ?_ | refine A_bld1 rfl rfl ?_ | refine A_bld2 rfl rfl rfl ?_ | refine A_bld4 rfl rfl rfl rfl rfl ?_) <;> intro pz hpz)
 | refine A_bld0 rfl ?_
 | refine A_chk1 rfl rfl rfl ?_ | refine A_chk2 rfl rfl rfl rfl ?_ | refine A_chk3 rfl rfl rfl rfl rfl ?_ | refine A_chk4 rfl rfl rfl rfl rfl rfl ?_ | refine A_chkI rfl (by assumption) rfl (by simp) ?_
 | refine A_ret rfl (by exact (RP.t rfl (RP.t rfl (RP.t rfl (RP.t rfl RP.nil))))) ?_)
  refine A_loop rfl [p3, p4, p10, pY] (fun m fr L => ∃ (k : Nat), m = C - k ∧ fr = [(2, iv most), (3, .c (.ptr p3 0)), (4, .c (.ptr p4 0)), (10, .c (.ptr p10 0)), (11, iv n), (12, iv i), (39, iv R), (40, iv i), (44, iv C), (45, iv k)] ∧ L = [(p3, .rw 39 2 [.sl id_bo off_bo len_bo, .sl id_sy off_sy len_sy]), (p4, .rw 26 3 [ic R, ic C, .sl id_xs off_xs (R * C)]), (p10, .rw 26 3 (fld R C pY (R * C))), (pY, ints Y)] ∧ k ≤ C ∧ ∀ b : Nat, b < k → Y ≠ shif R C xs i b) C ⟨0, rfl, rfl, rfl, by omega, fun b h => by omega⟩ ?_
  rintro m fr L ⟨k, rfl, rfl, rfl, hk, hnk⟩
  by_cases hk' : k < C
  case neg =>
    obtain rfl : C = k := by omega
    repeat' (first
 | refine A_go rfl ?_ | refine A_ifT rfl rfl ?_ | refine A_ifF rfl rfl ?_
 | refine A_offP rfl rfl ?_ | refine A_offH rfl rfl ?_ | refine A_off0 rfl rfl ?_
 | refine A_add rfl rfl rfl (by omega) ?_
 | ((first | refine A_lt rfl rfl rfl ?_ ?_ | refine A_le rfl rfl rfl ?_ ?_ | refine A_ne rfl rfl rfl ?_ ?_) <;> intro hc <;> try first | contradiction | (exfalso; omega) | exact absurd rfl hc)
 | refine A_fld rfl rfl ?_ | refine A_p (by rfl) rfl ?_
 | refine A_ldI rfl (by first | omega | (simp; done) | (simp; omega)) rfl ?_ | refine A_ldB rfl (by first | omega | (simp; done) | (simp; omega)) rfl ?_ | refine A_ld rfl (by rfl) rfl ?_
 | refine A_ldW rfl (by simp) rfl ?_
 | refine A_stW rfl rfl (by simp) rfl ?_
 | ((first | refine A_alloc rfl ?_ | refine A_box rfl rfl ?_ | refine A_boxC rfl rfl ?_ | refine A_bld1 rfl rfl ?_ | refine A_bld2 rfl rfl rfl ?_ | refine A_bld4 rfl rfl rfl rfl rfl ?_) <;> intro pz hpz)
 | refine A_bld0 rfl ?_
 | refine A_chk1 rfl rfl rfl ?_ | refine A_chk2 rfl rfl rfl rfl ?_ | refine A_chk3 rfl rfl rfl rfl rfl ?_ | refine A_chk4 rfl rfl rfl rfl rfl rfl ?_ | refine A_chkI rfl (by assumption) rfl (by simp) ?_
 | refine A_ret rfl (by exact (RP.t rfl (RP.t rfl (RP.t rfl (RP.t rfl RP.nil))))) ?_)
    refine A_round rfl [p3, p4, p10, pY] (R - (i + 1)) (by omega) ?_
    refine ⟨i + 1, rfl, rfl, rfl, by omega, fun a b ha hb2 => ?_⟩
    by_cases e : a = i
    · subst e; exact hnk b hb2
    · exact hni a b (by omega) hb2
  have hsl : (mk R C (shG xs R C i k)).length = R * C := by simp
  by_cases hq : Y = mk R C (shG xs R C i k)
  · have hq3 : (R : Int) = R ∧ (C : Int) = C ∧ Y = mk R C (shG xs R C i k) := ⟨rfl, rfl, hq⟩
    repeat' (first
 | refine A_go rfl ?_ | refine A_ifT rfl rfl ?_ | refine A_ifF rfl rfl ?_
 | refine A_offP rfl rfl ?_ | refine A_offH rfl rfl ?_ | refine A_off0 rfl rfl ?_
 | refine A_add rfl rfl rfl (by omega) ?_
 | ((first | refine A_lt rfl rfl rfl ?_ ?_ | refine A_le rfl rfl rfl ?_ ?_ | refine A_ne rfl rfl rfl ?_ ?_) <;> intro hc <;> try first | contradiction | (exfalso; omega) | exact absurd rfl hc)
 | (refine A_callM rfl rfl (fun s H => c_shifted (xs := xs) (hv := hp.2.1)) ?_; rintro _ _ ⟨pz, rfl, rfl⟩) | (refine A_callM0 rfl rfl (fun s H => c_shifted (xs := xs) (hv := hp.2.1)) ?_; rintro _ _ ⟨pz, rfl, rfl⟩)
 | (refine A_callB rfl rfl (fun s H => c_implSameField (xs := Y) (ys := mk R C (shG xs R C i k))) ?_ ?_ <;> intro hc <;> try first | contradiction | (exfalso; omega) | exact absurd rfl hc | exact absurd (And.intro rfl rfl) hc | exact absurd (And.intro rfl (And.intro rfl rfl)) hc | exact absurd (Eq.trans (by assumption) (Eq.symm (by assumption))) hc)
 | refine A_fld rfl rfl ?_ | refine A_p (by rfl) rfl ?_
 | refine A_ldI rfl (by first | omega | (simp; done) | (simp; omega)) rfl ?_ | refine A_ldB rfl (by first | omega | (simp; done) | (simp; omega)) rfl ?_ | refine A_ld rfl (by rfl) rfl ?_
 | refine A_ldW rfl (by simp) rfl ?_
 | refine A_stW rfl rfl (by simp) rfl ?_
 | ((first | refine A_alloc rfl ?_ | refine A_box rfl rfl ?_ | refine A_boxC rfl rfl ?_ | refine A_bld1 rfl rfl ?_ | refine A_bld2 rfl rfl rfl ?_ | refine A_bld4 rfl rfl rfl rfl rfl ?_) <;> intro pz hpz)
 | refine A_bld0 rfl ?_
 | refine A_chk1 rfl rfl rfl ?_ | refine A_chk2 rfl rfl rfl rfl ?_ | refine A_chk3 rfl rfl rfl rfl rfl ?_ | refine A_chk4 rfl rfl rfl rfl rfl rfl ?_ | refine A_chkI rfl (by assumption) rfl (by simp) ?_
 | refine A_ret rfl (by exact (RP.t rfl (RP.t rfl (RP.t rfl (RP.t rfl RP.nil))))) ?_)
    refine R_s ⟨.inl ⟨n, i, k, rfl, ⟨hn1, hn'⟩, ⟨hi', hk'⟩, by rw [hY]; exact hq, hno, fun a b ha hb2 h => ?_⟩, rfl⟩
    rw [hY]
    rcases h with h | ⟨rfl, h⟩
    · exact hni a b h hb2
    · exact hnk b h
  · have hq3 : ¬ ((R : Int) = R ∧ (C : Int) = C ∧ Y = mk R C (shG xs R C i k)) := fun h => hq h.2.2
    repeat' (first
 | refine A_go rfl ?_ | refine A_ifT rfl rfl ?_ | refine A_ifF rfl rfl ?_
 | refine A_offP rfl rfl ?_ | refine A_offH rfl rfl ?_ | refine A_off0 rfl rfl ?_
 | refine A_add rfl rfl rfl (by omega) ?_
 | ((first | refine A_lt rfl rfl rfl ?_ ?_ | refine A_le rfl rfl rfl ?_ ?_ | refine A_ne rfl rfl rfl ?_ ?_) <;> intro hc <;> try first | contradiction | (exfalso; omega) | exact absurd rfl hc)
 | (refine A_callM rfl rfl (fun s H => c_shifted (xs := xs) (hv := hp.2.1)) ?_; rintro _ _ ⟨pz, rfl, rfl⟩) | (refine A_callM0 rfl rfl (fun s H => c_shifted (xs := xs) (hv := hp.2.1)) ?_; rintro _ _ ⟨pz, rfl, rfl⟩)
 | (refine A_callB rfl rfl (fun s H => c_implSameField (xs := Y) (ys := mk R C (shG xs R C i k))) ?_ ?_ <;> intro hc <;> try first | contradiction | (exfalso; omega) | exact absurd rfl hc | exact absurd (And.intro rfl rfl) hc | exact absurd (And.intro rfl (And.intro rfl rfl)) hc | exact absurd (Eq.trans (by assumption) (Eq.symm (by assumption))) hc)
 | refine A_fld rfl rfl ?_ | refine A_p (by rfl) rfl ?_
 | refine A_ldI rfl (by first | omega | (simp; done) | (simp; omega)) rfl ?_ | refine A_ldB rfl (by first | omega | (simp; done) | (simp; omega)) rfl ?_ | refine A_ld rfl (by rfl) rfl ?_
 | refine A_ldW rfl (by simp) rfl ?_
 | refine A_stW rfl rfl (by simp) rfl ?_
 | ((first | refine A_alloc rfl ?_ | refine A_box rfl rfl ?_ | refine A_boxC rfl rfl ?_ | refine A_bld1 rfl rfl ?_ | refine A_bld2 rfl rfl rfl ?_ | refine A_bld4 rfl rfl rfl rfl rfl ?_) <;> intro pz hpz)
 | refine A_bld0 rfl ?_
 | refine A_chk1 rfl rfl rfl ?_ | refine A_chk2 rfl rfl rfl rfl ?_ | refine A_chk3 rfl rfl rfl rfl rfl ?_ | refine A_chk4 rfl rfl rfl rfl rfl rfl ?_ | refine A_chkI rfl (by assumption) rfl (by simp) ?_
 | refine A_ret rfl (by exact (RP.t rfl (RP.t rfl (RP.t rfl (RP.t rfl RP.nil))))) ?_)
    refine A_round rfl [p3, p4, p10, pY] (C - (k + 1)) (by omega) ?_
    refine ⟨k + 1, rfl, rfl, rfl, by omega, fun b hb2 => ?_⟩
    by_cases e : b = k
    · subst e; exact hq
    · exact hnk b (by omega)

end Go.Proofs.Ytlhidckolillaaa
