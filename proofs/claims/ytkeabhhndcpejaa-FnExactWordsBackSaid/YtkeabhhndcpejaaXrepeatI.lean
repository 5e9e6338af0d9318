/- What slices.Repeat does with a list of one number. -/
import Derived.Test.YtkeabhhndcpejaaXpart
import Derived.Test.YtkeabhhndcpejaaFB
namespace Go.Proofs.Ytkeabhhndcpejaa
open Go Go.RowKit
set_option linter.unusedVariables false
set_option linter.unusedSimpArgs false
set_option maxRecDepth 100000
set_option maxHeartbeats 8000000
-- math/bits.Mul
def L111 : AFun := ⟨30, [.t 4, .t 5],
 (.seq (.ops false [⟨(some 4), .mv (.k (.c (.int .u64 0))), none, []⟩,
   ⟨(some 5), .mv (.k (.c (.int .u64 0))), none, []⟩])
 (.seq (.cond (.k (bv false)) (.seq (.ops false [⟨(some 11), .mv (.t 0), none, []⟩,
     ⟨(some 12), .conv .u32 (.t 11), none, []⟩,
     ⟨(some 13), .mv (.t 1), none, []⟩,
     ⟨(some 14), .conv .u32 (.t 13), none, []⟩,
     ⟨(some 15), .call (.f 125) [(.t 12), (.t 14)], none, []⟩,
     ⟨(some 10), .mv (.t 15), none, []⟩,
     ⟨(some 16), .ext (.t 10) 0, none, []⟩,
     ⟨(some 17), .ext (.t 10) 1, none, []⟩,
     ⟨(some 6), .mv (.t 16), none, []⟩,
     ⟨(some 7), .mv (.t 17), none, []⟩])
   (.seq (.ops false [⟨(some 18), .mv (.t 6), none, []⟩,
     ⟨(some 19), .conv .u64 (.t 18), none, []⟩,
     ⟨(some 20), .mv (.t 7), none, []⟩,
     ⟨(some 21), .conv .u64 (.t 20), none, []⟩,
     ⟨(some 4), .mv (.t 19), none, []⟩,
     ⟨(some 5), .mv (.t 21), none, []⟩])
   .ret))
   .skip)
 (.seq (.ops false [⟨(some 23), .mv (.t 0), none, []⟩,
   ⟨(some 24), .mv (.t 1), none, []⟩,
   ⟨(some 25), .call (.f 126) [(.t 23), (.t 24)], none, []⟩,
   ⟨(some 22), .mv (.t 25), none, []⟩,
   ⟨(some 26), .ext (.t 22) 0, none, []⟩,
   ⟨(some 27), .ext (.t 22) 1, none, []⟩,
   ⟨(some 8), .mv (.t 26), none, []⟩,
   ⟨(some 9), .mv (.t 27), none, []⟩])
 (.seq (.ops false [⟨(some 28), .mv (.t 8), none, []⟩,
   ⟨(some 29), .mv (.t 9), none, []⟩,
   ⟨(some 4), .mv (.t 28), none, []⟩,
   ⟨(some 5), .mv (.t 29), none, []⟩])
 .ret))))⟩
theorem code111 : acode Try.prog hints 111 = some L111 := by kernel_rfl

-- math/bits.Mul64
def L126 : AFun := ⟨51, [.t 4, .t 5],
 (.seq (.ops false [⟨(some 4), .mv (.k (.c (.int .u64 0))), none, []⟩,
   ⟨(some 5), .mv (.k (.c (.int .u64 0))), none, []⟩])
 (.seq (.ops false [⟨(some 14), .mv (.t 0), none, []⟩,
   ⟨(some 15), .bin .and (.t 14) (.k (.c (.int .u64 4294967295))), none, []⟩,
   ⟨(some 6), .mv (.t 15), none, []⟩])
 (.seq (.ops false [⟨(some 16), .mv (.t 0), none, []⟩,
   ⟨(some 17), .bin .shr (.t 16) (.k (.c (.int .u64 32))), none, []⟩,
   ⟨(some 7), .mv (.t 17), none, []⟩])
 (.seq (.ops false [⟨(some 18), .mv (.t 1), none, []⟩,
   ⟨(some 19), .bin .and (.t 18) (.k (.c (.int .u64 4294967295))), none, []⟩,
   ⟨(some 8), .mv (.t 19), none, []⟩])
 (.seq (.ops false [⟨(some 20), .mv (.t 1), none, []⟩,
   ⟨(some 21), .bin .shr (.t 20) (.k (.c (.int .u64 32))), none, []⟩,
   ⟨(some 9), .mv (.t 21), none, []⟩])
 (.seq (.ops false [⟨(some 22), .mv (.t 6), none, []⟩,
   ⟨(some 23), .mv (.t 8), none, []⟩,
   ⟨(some 24), .bin .mul (.t 22) (.t 23), none, []⟩,
   ⟨(some 10), .mv (.t 24), none, []⟩])
 (.seq (.ops false [⟨(some 25), .mv (.t 7), none, []⟩,
   ⟨(some 26), .mv (.t 8), none, []⟩,
   ⟨(some 27), .bin .mul (.t 25) (.t 26), none, []⟩,
   ⟨(some 28), .mv (.t 10), none, []⟩,
   ⟨(some 29), .bin .shr (.t 28) (.k (.c (.int .u64 32))), none, []⟩,
   ⟨(some 30), .bin .add (.t 27) (.t 29), none, []⟩,
   ⟨(some 11), .mv (.t 30), none, []⟩])
 (.seq (.ops false [⟨(some 31), .mv (.t 11), none, []⟩,
   ⟨(some 32), .bin .and (.t 31) (.k (.c (.int .u64 4294967295))), none, []⟩,
   ⟨(some 12), .mv (.t 32), none, []⟩])
 (.seq (.ops false [⟨(some 33), .mv (.t 11), none, []⟩,
   ⟨(some 34), .bin .shr (.t 33) (.k (.c (.int .u64 32))), none, []⟩,
   ⟨(some 13), .mv (.t 34), none, []⟩])
 (.seq (.ops false [⟨(some 35), .mv (.t 12), none, []⟩,
   ⟨(some 36), .mv (.t 6), none, []⟩,
   ⟨(some 37), .mv (.t 9), none, []⟩,
   ⟨(some 38), .bin .mul (.t 36) (.t 37), none, []⟩,
   ⟨(some 39), .bin .add (.t 35) (.t 38), none, []⟩,
   ⟨(some 12), .mv (.t 39), none, []⟩])
 (.seq (.ops false [⟨(some 40), .mv (.t 7), none, []⟩,
   ⟨(some 41), .mv (.t 9), none, []⟩,
   ⟨(some 42), .bin .mul (.t 40) (.t 41), none, []⟩,
   ⟨(some 43), .mv (.t 13), none, []⟩,
   ⟨(some 44), .bin .add (.t 42) (.t 43), none, []⟩,
   ⟨(some 45), .mv (.t 12), none, []⟩,
   ⟨(some 46), .bin .shr (.t 45) (.k (.c (.int .u64 32))), none, []⟩,
   ⟨(some 47), .bin .add (.t 44) (.t 46), none, []⟩,
   ⟨(some 4), .mv (.t 47), none, []⟩])
 (.seq (.ops false [⟨(some 48), .mv (.t 0), none, []⟩,
   ⟨(some 49), .mv (.t 1), none, []⟩,
   ⟨(some 50), .bin .mul (.t 48) (.t 49), none, []⟩,
   ⟨(some 5), .mv (.t 50), none, []⟩])
 .ret))))))))))))⟩
theorem code126 : acode Try.prog hints 126 = some L126 := by kernel_rfl

-- slices.Repeat[[]int64,int64]
def L67 : AFun := ⟨48, [.t 4],
 (.seq (.ops false [⟨(some 4), .mv (.k (.c (.sl 0 0 0))), none, []⟩])
 (.seq (.seq (.ops false [⟨(some 9), .mv (.t 1), none, []⟩,
    ⟨(some 10), .bin .lss (.t 9) (.k (iv 0)), none, []⟩])
  (.cond (.t 10) (.ops false [⟨(some 11), .bad, none, []⟩,
    ⟨none, .bad, none, []⟩])
   .skip))
 (.seq (.ops false [⟨(some 13), .mv (.t 0), none, []⟩,
   ⟨(some 14), .len false (.t 13), none, []⟩,
   ⟨(some 15), .conv .u64 (.t 14), none, []⟩,
   ⟨(some 16), .mv (.t 1), none, []⟩,
   ⟨(some 17), .conv .u64 (.t 16), none, []⟩,
   ⟨(some 18), .call (.f 111) [(.t 15), (.t 17)], none, []⟩,
   ⟨(some 12), .mv (.t 18), none, []⟩,
   ⟨(some 19), .ext (.t 12) 0, none, []⟩,
   ⟨(some 20), .ext (.t 12) 1, none, []⟩,
   ⟨(some 5), .mv (.t 19), none, []⟩,
   ⟨(some 6), .mv (.t 20), none, []⟩])
 (.seq (.seq (.ops false [⟨(some 21), .mv (.t 5), none, []⟩,
    ⟨(some 22), .bin .gtr (.t 21) (.k (.c (.int .u64 0))), none, []⟩,
    ⟨(some 23), .mv (.t 22), none, []⟩,
    ⟨(some 24), .mv (.t 6), (some (23, false)), []⟩,
    ⟨(some 25), .bin .gtr (.t 24) (.k (.c (.int .u64 9223372036854775807))), (some (23, false)), []⟩,
    ⟨(some 26), .pick (.t 23) (.k (bv true)) (.t 25), none, []⟩])
  (.cond (.t 26) (.ops false [⟨(some 27), .bad, none, []⟩,
    ⟨none, .bad, none, []⟩])
   .skip))
 (.seq (.ops false [⟨(some 28), .mv (.t 6), none, []⟩,
   ⟨(some 29), .conv .i64 (.t 28), none, []⟩,
   ⟨(some 30), .makeS 2 1 8 [.int .i64 0] (.t 29) (.t 29), none, []⟩,
   ⟨(some 7), .mv (.t 30), none, []⟩])
 (.seq (.ops false [⟨(some 31), .mv (.t 7), none, []⟩,
   ⟨(some 32), .mv (.t 0), none, []⟩,
   ⟨(some 33), .copy 1 (.t 31) (.t 32), none, []⟩,
   ⟨(some 8), .mv (.t 33), none, []⟩])
 (.seq (.block 0 (.loop [7, 8] (.seq (.seq (.ops false [⟨(some 34), .mv (.t 8), none, []⟩,
       ⟨(some 35), .mv (.t 7), none, []⟩,
       ⟨(some 36), .len false (.t 35), none, []⟩,
       ⟨(some 37), .bin .lss (.t 34) (.t 36), none, []⟩])
     (.cond (.t 37) .skip
      (.exit 0)))
    (.block 1 (.ops true [⟨(some 39), .mv (.t 7), none, []⟩,
      ⟨(some 40), .mv (.t 8), none, []⟩,
      ⟨(some 41), .slice 1 (.t 39) (some (.t 40)) none, none, []⟩,
      ⟨(some 42), .mv (.t 7), none, []⟩,
      ⟨(some 43), .mv (.t 8), none, []⟩,
      ⟨(some 44), .slice 1 (.t 42) none (some (.t 43)), none, []⟩,
      ⟨(some 45), .copy 1 (.t 41) (.t 44), none, []⟩,
      ⟨(some 38), .mv (.t 8), none, []⟩,
      ⟨(some 46), .bin .add (.t 38) (.t 45), none, []⟩,
      ⟨(some 8), .mv (.t 46), none, []⟩])))))
 (.seq (.ops false [⟨(some 47), .mv (.t 7), none, []⟩,
   ⟨(some 4), .mv (.t 47), none, []⟩])
 .ret))))))))⟩
theorem code67 : acode Try.prog hints 67 = some L67 := by kernel_rfl


theorem c_bitsMul64 {s : St} [Wf s] {y : Int} (hy : y = 1 ∨ y = 4 ∨ y = 9 ∨ y = 16 ∨ y = 81) : FnV 126 [.c (.int .u64 1), .c (.int .u64 y)] s (.tup [.c (.int .u64 0), .c (.int .u64 y)]) := by
  rcases hy with rfl | rfl | rfl | rfl | rfl
  all_goals
    refine F_start code126 ?_
    repeat' (first
 | refine A_go rfl ?_ | refine A_ifT rfl rfl ?_ | refine A_ifF rfl rfl ?_ | refine A_offP rfl rfl ?_ | refine A_offH rfl rfl ?_ | refine A_off0 rfl rfl ?_
 | refine A_add rfl rfl rfl (by omega) ?_ | refine A_sub rfl rfl rfl (by omega) ?_ | refine A_mul rfl rfl rfl (by omega) ?_ | refine A_rem rfl rfl rfl (by omega) ?_ | refine A_remT rfl rfl rfl (by omega) ?_ | refine A_quo rfl rfl rfl (by omega) ?_
 | ((first | refine A_lt rfl rfl rfl ?_ ?_ | refine A_le rfl rfl rfl ?_ ?_ | refine A_gt rfl rfl rfl ?_ ?_ | refine A_ge rfl rfl rfl ?_ ?_ | refine A_eq rfl rfl rfl ?_ ?_ | refine A_ne rfl rfl rfl ?_ ?_ | refine A_beq rfl rfl rfl ?_ ?_) <;> intro hc <;> try first | contradiction | (exfalso; omega) | exact absurd rfl hc)
 | refine A_idxN1 rfl rfl rfl (by omega) ?_ | refine A_idx1 rfl rfl rfl (by omega) ?_ | refine A_idxArr1 rfl rfl rfl (by omega) ?_
 | refine A_fld rfl rfl ?_ | refine A_mk3 rfl rfl rfl rfl ?_ | refine A_mk23 rfl rfl rfl ?_ | refine A_mk2 rfl rfl rfl ?_ | refine A_p (by rfl) rfl ?_
 | refine A_ldI rfl (by first | omega | (simp; done) | (simp; omega)) rfl ?_ | refine A_ldB rfl (by first | omega | (simp; done) | (simp; omega)) rfl ?_ | refine A_ld rfl (by rfl) rfl ?_ | refine A_ldW rfl (by simp) rfl ?_
 | refine A_st rfl rfl rfl ?_ | refine A_stW rfl rfl (by simp) rfl ?_ | refine A_stE rfl rfl (by first | omega | (simp; done) | (simp; omega)) rfl ?_
 | ((first | refine A_alloc rfl ?_ | refine A_box rfl rfl ?_ | refine A_boxC rfl rfl ?_ | refine A_makeN rfl rfl rfl (by omega) ?_ | refine A_make rfl rfl rfl (by omega) ?_ | refine A_bld1 rfl rfl ?_ | refine A_bld2 rfl rfl rfl ?_ | refine A_bld4 rfl rfl rfl rfl rfl ?_) <;> intro pz hpz)
 | refine A_bld0 rfl ?_ | (refine A_app rfl rfl rfl (by first | omega | (simp; done) | (simp; omega)) (by first | omega | (simp; done) | (simp; omega)) (by omega) ?_; intro pz) | (refine A_appN (enc := ic) rfl (by decide) rfl rfl (by first | omega | (simp; done) | (simp; omega)) (by omega) ?_; intro pz)
 | refine A_chk1 rfl rfl rfl ?_ | refine A_chk2 rfl rfl rfl rfl ?_ | refine A_chk3 rfl rfl rfl rfl rfl ?_ | refine A_chk4 rfl rfl rfl rfl rfl rfl ?_ | refine A_chkI rfl (by assumption) rfl (by simp) ?_
 | refine A_ret1 rfl (by first | exact (RP.t rfl RP.nil) | exact (RP.c rfl inferInstance rfl (by simp) RP.nil)) ?_ | refine A_ret rfl (by first | exact (RP.t rfl (RP.t rfl RP.nil)) | exact (RP.c rfl inferInstance rfl (by simp) (RP.t rfl RP.nil)) | exact (RP.t rfl (RP.t rfl (RP.t rfl RP.nil))) | exact (RP.c rfl inferInstance rfl (by simp) (RP.t rfl (RP.t rfl RP.nil))) | exact (RP.c rfl inferInstance rfl (by simp) (RP.t rfl (RP.t rfl (RP.t rfl (RP.t rfl RP.nil)))))) ?_ | refine A_ret0 rfl ?_)
    exact R_v rfl
theorem c_bitsMul {s : St} [Wf s] {y : Int} (hy : y = 1 ∨ y = 4 ∨ y = 9 ∨ y = 16 ∨ y = 81) : FnV 111 [.c (.int .u64 1), .c (.int .u64 y)] s (.tup [.c (.int .u64 0), .c (.int .u64 y)]) := by
  refine F_start code111 ?_
  repeat' (first
 | refine A_go rfl ?_ | refine A_ifT rfl rfl ?_ | refine A_ifF rfl rfl ?_ | refine A_offP rfl rfl ?_ | refine A_offH rfl rfl ?_ | refine A_off0 rfl rfl ?_
 | refine A_add rfl rfl rfl (by omega) ?_ | refine A_sub rfl rfl rfl (by omega) ?_ | refine A_mul rfl rfl rfl (by omega) ?_ | refine A_rem rfl rfl rfl (by omega) ?_ | refine A_remT rfl rfl rfl (by omega) ?_ | refine A_quo rfl rfl rfl (by omega) ?_
 | ((first | refine A_lt rfl rfl rfl ?_ ?_ | refine A_le rfl rfl rfl ?_ ?_ | refine A_gt rfl rfl rfl ?_ ?_ | refine A_ge rfl rfl rfl ?_ ?_ | refine A_eq rfl rfl rfl ?_ ?_ | refine A_ne rfl rfl rfl ?_ ?_ | refine A_beq rfl rfl rfl ?_ ?_) <;> intro hc <;> try first | contradiction | (exfalso; omega) | exact absurd rfl hc)
 | refine A_idxN1 rfl rfl rfl (by omega) ?_ | refine A_idx1 rfl rfl rfl (by omega) ?_ | refine A_idxArr1 rfl rfl rfl (by omega) ?_
 | refine A_callV rfl rfl (fun s H => c_bitsMul64 hy) ?_
 | refine A_fld rfl rfl ?_ | refine A_mk3 rfl rfl rfl rfl ?_ | refine A_mk23 rfl rfl rfl ?_ | refine A_mk2 rfl rfl rfl ?_ | refine A_p (by rfl) rfl ?_
 | refine A_ldI rfl (by first | omega | (simp; done) | (simp; omega)) rfl ?_ | refine A_ldB rfl (by first | omega | (simp; done) | (simp; omega)) rfl ?_ | refine A_ld rfl (by rfl) rfl ?_ | refine A_ldW rfl (by simp) rfl ?_
 | refine A_st rfl rfl rfl ?_ | refine A_stW rfl rfl (by simp) rfl ?_ | refine A_stE rfl rfl (by first | omega | (simp; done) | (simp; omega)) rfl ?_
 | ((first | refine A_alloc rfl ?_ | refine A_box rfl rfl ?_ | refine A_boxC rfl rfl ?_ | refine A_makeN rfl rfl rfl (by omega) ?_ | refine A_make rfl rfl rfl (by omega) ?_ | refine A_bld1 rfl rfl ?_ | refine A_bld2 rfl rfl rfl ?_ | refine A_bld4 rfl rfl rfl rfl rfl ?_) <;> intro pz hpz)
 | refine A_bld0 rfl ?_ | (refine A_app rfl rfl rfl (by first | omega | (simp; done) | (simp; omega)) (by first | omega | (simp; done) | (simp; omega)) (by omega) ?_; intro pz) | (refine A_appN (enc := ic) rfl (by decide) rfl rfl (by first | omega | (simp; done) | (simp; omega)) (by omega) ?_; intro pz)
 | refine A_chk1 rfl rfl rfl ?_ | refine A_chk2 rfl rfl rfl rfl ?_ | refine A_chk3 rfl rfl rfl rfl rfl ?_ | refine A_chk4 rfl rfl rfl rfl rfl rfl ?_ | refine A_chkI rfl (by assumption) rfl (by simp) ?_
 | refine A_ret1 rfl (by first | exact (RP.t rfl RP.nil) | exact (RP.c rfl inferInstance rfl (by simp) RP.nil)) ?_ | refine A_ret rfl (by first | exact (RP.t rfl (RP.t rfl RP.nil)) | exact (RP.c rfl inferInstance rfl (by simp) (RP.t rfl RP.nil)) | exact (RP.t rfl (RP.t rfl (RP.t rfl RP.nil))) | exact (RP.c rfl inferInstance rfl (by simp) (RP.t rfl (RP.t rfl RP.nil))) | exact (RP.c rfl inferInstance rfl (by simp) (RP.t rfl (RP.t rfl (RP.t rfl (RP.t rfl RP.nil)))))) ?_ | refine A_ret0 rfl ?_)
  exact R_v rfl
theorem A_copyE {B : List Nat} {b : St} {L L' : Objs} {l : List AStep} {hist : List Objs} {fr : Frm} {kk : KK} {d : Nat} {chk : List Nat} {g : Option (Nat × Bool)} {α : Type} {enc : α → AC} {t p off m id off2 k : Nat} {xs news : List α} {x y : Opd} (c : Nat) (hx : ev fr x = some (.c (.sl p off m))) (hy : ev fr y = some (.c (.sl id off2 k))) (hg : gon fr g = some true) [hh : Has L p (.rw t 1 (xs.map enc))]
    (hn : ∀ s, Own B b s L → ArgE enc s id off2 news) (hc : c = min k m ∧ news.length = c ∧ off + c ≤ xs.length ∧ 0 < c) [hu : Upd L p (.rw t 1 ((xs.take off ++ news ++ xs.drop (off + c)).map enc)) (.rw t 1 (xs.map enc)) L']
    (h : At B b L' l (hist ++ [L]) ((d, iv (c : Int)) :: fr) kk) : At B b L (⟨some d, .copy 1 x y, g, chk⟩ :: l) hist fr kk := by
  refine ⟨fun s hs H Hh => ?_⟩
  obtain ⟨i, hi, rfl⟩ := hu.ex
  obtain ⟨h1, h2, h3, h4⟩ := hc
  obtain ⟨g1, g2, g3, g4⟩ := (H.obj i p _ hi).resolve_right (fun h => by
    obtain ⟨_, t, e, he⟩ := h
    simp at he
    have := he.2.2; rw [this] at h3; simp at h3; omega)
  have hns := (hn s H).src
  rw [h2] at hns
  refine O_h (h' := upd s.h p (.rw t 1 ((xs.take off ++ news ++ xs.drop (off + c)).map enc))) (n' := s.n) ?_ hg (h.ok _ _ (H.put hi g2 _) (hist_snoc H Hh))
  simp only [evH, hx, hy, Option.bind_some, asSl]
  rw [if_neg (by omega), ← h1]
  simp only [hns, Option.bind_some, g4]
  rw [if_pos ⟨by simp; omega, by simp; omega⟩]
  simp [splice, h2]
  omega
theorem c_repeat {s : St} [Wf s] {id E : Nat} [hx : ArgE ic s id 0 [1]] (hE : E = 1 ∨ E = 4 ∨ E = 9 ∨ E = 16 ∨ E = 81) : Fn [] 67 [.c (.sl id 0 1), iv E] s fun r N => ∃ p, r = .c (.sl p 0 E) ∧ N = [(p, ints (List.replicate E 1))] := by
  refine F_start code67 ?_
  repeat' (first
 | refine A_go rfl ?_ | refine A_ifT rfl rfl ?_ | refine A_ifF rfl rfl ?_ | refine A_offP rfl rfl ?_ | refine A_offH rfl rfl ?_ | refine A_off0 rfl rfl ?_
 | refine A_add rfl rfl rfl (by omega) ?_ | refine A_sub rfl rfl rfl (by omega) ?_ | refine A_mul rfl rfl rfl (by omega) ?_ | refine A_rem rfl rfl rfl (by omega) ?_ | refine A_remT rfl rfl rfl (by omega) ?_ | refine A_quo rfl rfl rfl (by omega) ?_
 | ((first | refine A_lt rfl rfl rfl ?_ ?_ | refine A_le rfl rfl rfl ?_ ?_ | refine A_gt rfl rfl rfl ?_ ?_ | refine A_ge rfl rfl rfl ?_ ?_ | refine A_eq rfl rfl rfl ?_ ?_ | refine A_ne rfl rfl rfl ?_ ?_ | refine A_beq rfl rfl rfl ?_ ?_) <;> intro hc <;> try first | contradiction | (exfalso; omega) | exact absurd rfl hc)
 | refine A_idxN1 rfl rfl rfl (by omega) ?_ | refine A_idx1 rfl rfl rfl (by omega) ?_ | refine A_idxArr1 rfl rfl rfl (by omega) ?_
 | refine A_convU rfl rfl (by omega) ?_
 | refine A_convI rfl rfl (by omega) ?_
 | refine A_callV rfl rfl (fun s H => c_bitsMul (by omega)) ?_
 | refine A_copyE (news := [1]) 1 rfl rfl rfl (fun s H => inferInstance) (by simp <;> omega) ?_
 | refine A_fld rfl rfl ?_ | refine A_mk3 rfl rfl rfl rfl ?_ | refine A_mk23 rfl rfl rfl ?_ | refine A_mk2 rfl rfl rfl ?_ | refine A_p (by rfl) rfl ?_
 | refine A_ldI rfl (by first | omega | (simp; done) | (simp; omega)) rfl ?_ | refine A_ldB rfl (by first | omega | (simp; done) | (simp; omega)) rfl ?_ | refine A_ld rfl (by rfl) rfl ?_ | refine A_ldW rfl (by simp) rfl ?_
 | refine A_st rfl rfl rfl ?_ | refine A_stW rfl rfl (by simp) rfl ?_ | refine A_stE rfl rfl (by first | omega | (simp; done) | (simp; omega)) rfl ?_
 | ((first | refine A_alloc rfl ?_ | refine A_box rfl rfl ?_ | refine A_boxC rfl rfl ?_ | refine A_makeN rfl rfl rfl (by omega) ?_ | refine A_make rfl rfl rfl (by omega) ?_ | refine A_bld1 rfl rfl ?_ | refine A_bld2 rfl rfl rfl ?_ | refine A_bld4 rfl rfl rfl rfl rfl ?_) <;> intro pz hpz)
 | refine A_bld0 rfl ?_ | (refine A_app rfl rfl rfl (by first | omega | (simp; done) | (simp; omega)) (by first | omega | (simp; done) | (simp; omega)) (by omega) ?_; intro pz) | (refine A_appN (enc := ic) rfl (by decide) rfl rfl (by first | omega | (simp; done) | (simp; omega)) (by omega) ?_; intro pz)
 | refine A_chk1 rfl rfl rfl ?_ | refine A_chk2 rfl rfl rfl rfl ?_ | refine A_chk3 rfl rfl rfl rfl rfl ?_ | refine A_chk4 rfl rfl rfl rfl rfl rfl ?_ | refine A_chkI rfl (by assumption) rfl (by simp) ?_
 | refine A_ret1 rfl (by first | exact (RP.t rfl RP.nil) | exact (RP.c rfl inferInstance rfl (by simp) RP.nil)) ?_ | refine A_ret rfl (by first | exact (RP.t rfl (RP.t rfl RP.nil)) | exact (RP.c rfl inferInstance rfl (by simp) (RP.t rfl RP.nil)) | exact (RP.t rfl (RP.t rfl (RP.t rfl RP.nil))) | exact (RP.c rfl inferInstance rfl (by simp) (RP.t rfl (RP.t rfl RP.nil))) | exact (RP.c rfl inferInstance rfl (by simp) (RP.t rfl (RP.t rfl (RP.t rfl (RP.t rfl RP.nil)))))) ?_ | refine A_ret0 rfl ?_)
  refine A_loop rfl [pz] (fun m fr L => ∃ (n : Nat), m = E - n ∧ fr = [(7, .c (.sl pz 0 E)), (8, iv n)] ∧ L = [(pz, ints (List.replicate n 1 ++ List.replicate (E - n) 0))] ∧ 1 ≤ n ∧ n ≤ E) (E - 1) ⟨1, rfl, rfl, by simp [List.drop_replicate], by omega, by omega⟩ ?_
  rintro m fr L ⟨n, rfl, rfl, rfl, h1, h2⟩
  by_cases hn : n < E
  · have hfl : (List.replicate n (1 : Int) ++ List.replicate (E - n) 0).length = E := by simp; omega
    obtain ⟨c, hc⟩ : ∃ c, min n (E - n) = c := ⟨_, rfl⟩
    have hpre : ((List.replicate n (1 : Int) ++ List.replicate (E - n) 0).drop 0).take c = List.replicate c 1 := by
      rw [List.drop_zero, List.take_append_of_le_length (by simp; omega), List.take_replicate, Nat.min_eq_left (by omega)]
    repeat' (first
 | refine A_go rfl ?_ | refine A_ifT rfl rfl ?_ | refine A_ifF rfl rfl ?_ | refine A_offP rfl rfl ?_ | refine A_offH rfl rfl ?_ | refine A_off0 rfl rfl ?_
 | refine A_add rfl rfl rfl (by omega) ?_ | refine A_sub rfl rfl rfl (by omega) ?_ | refine A_mul rfl rfl rfl (by omega) ?_ | refine A_rem rfl rfl rfl (by omega) ?_ | refine A_remT rfl rfl rfl (by omega) ?_ | refine A_quo rfl rfl rfl (by omega) ?_
 | ((first | refine A_lt rfl rfl rfl ?_ ?_ | refine A_le rfl rfl rfl ?_ ?_ | refine A_gt rfl rfl rfl ?_ ?_ | refine A_ge rfl rfl rfl ?_ ?_ | refine A_eq rfl rfl rfl ?_ ?_ | refine A_ne rfl rfl rfl ?_ ?_ | refine A_beq rfl rfl rfl ?_ ?_) <;> intro hc <;> try first | contradiction | (exfalso; omega) | exact absurd rfl hc)
 | refine A_idxN1 rfl rfl rfl (by omega) ?_ | refine A_idx1 rfl rfl rfl (by omega) ?_ | refine A_idxArr1 rfl rfl rfl (by omega) ?_
 | refine A_slFrom rfl rfl rfl (by omega) ?_
 | refine A_slTo rfl rfl rfl (by omega) ?_
 | refine A_fld rfl rfl ?_ | refine A_mk3 rfl rfl rfl rfl ?_ | refine A_mk23 rfl rfl rfl ?_ | refine A_mk2 rfl rfl rfl ?_ | refine A_p (by rfl) rfl ?_
 | refine A_ldI rfl (by first | omega | (simp; done) | (simp; omega)) rfl ?_ | refine A_ldB rfl (by first | omega | (simp; done) | (simp; omega)) rfl ?_ | refine A_ld rfl (by rfl) rfl ?_ | refine A_ldW rfl (by simp) rfl ?_
 | refine A_st rfl rfl rfl ?_ | refine A_stW rfl rfl (by simp) rfl ?_ | refine A_stE rfl rfl (by first | omega | (simp; done) | (simp; omega)) rfl ?_
 | ((first | refine A_alloc rfl ?_ | refine A_box rfl rfl ?_ | refine A_boxC rfl rfl ?_ | refine A_makeN rfl rfl rfl (by omega) ?_ | refine A_make rfl rfl rfl (by omega) ?_ | refine A_bld1 rfl rfl ?_ | refine A_bld2 rfl rfl rfl ?_ | refine A_bld4 rfl rfl rfl rfl rfl ?_) <;> intro pz hpz)
 | refine A_bld0 rfl ?_ | (refine A_app rfl rfl rfl (by first | omega | (simp; done) | (simp; omega)) (by first | omega | (simp; done) | (simp; omega)) (by omega) ?_; intro pz) | (refine A_appN (enc := ic) rfl (by decide) rfl rfl (by first | omega | (simp; done) | (simp; omega)) (by omega) ?_; intro pz)
 | refine A_chk1 rfl rfl rfl ?_ | refine A_chk2 rfl rfl rfl rfl ?_ | refine A_chk3 rfl rfl rfl rfl rfl ?_ | refine A_chk4 rfl rfl rfl rfl rfl rfl ?_ | refine A_chkI rfl (by assumption) rfl (by simp) ?_
 | refine A_ret1 rfl (by first | exact (RP.t rfl RP.nil) | exact (RP.c rfl inferInstance rfl (by simp) RP.nil)) ?_ | refine A_ret rfl (by first | exact (RP.t rfl (RP.t rfl RP.nil)) | exact (RP.c rfl inferInstance rfl (by simp) (RP.t rfl RP.nil)) | exact (RP.t rfl (RP.t rfl (RP.t rfl RP.nil))) | exact (RP.c rfl inferInstance rfl (by simp) (RP.t rfl (RP.t rfl RP.nil))) | exact (RP.c rfl inferInstance rfl (by simp) (RP.t rfl (RP.t rfl (RP.t rfl (RP.t rfl RP.nil)))))) ?_ | refine A_ret0 rfl ?_)
    refine A_copyE (news := List.replicate c 1) c rfl rfl rfl (fun s H => ?_) ⟨by simp; omega, by simp, by simp; omega, by omega⟩ ?_
    · have h := (inferInstance : ArgE ic s pz 0 (List.replicate n (1 : Int) ++ List.replicate (E - n) 0)).part (a := 0) (n := c) (by omega) (by omega)
      rw [hpre] at h; exact h
    repeat' (first
 | refine A_go rfl ?_ | refine A_ifT rfl rfl ?_ | refine A_ifF rfl rfl ?_ | refine A_offP rfl rfl ?_ | refine A_offH rfl rfl ?_ | refine A_off0 rfl rfl ?_
 | refine A_add rfl rfl rfl (by omega) ?_ | refine A_sub rfl rfl rfl (by omega) ?_ | refine A_mul rfl rfl rfl (by omega) ?_ | refine A_rem rfl rfl rfl (by omega) ?_ | refine A_remT rfl rfl rfl (by omega) ?_ | refine A_quo rfl rfl rfl (by omega) ?_
 | ((first | refine A_lt rfl rfl rfl ?_ ?_ | refine A_le rfl rfl rfl ?_ ?_ | refine A_gt rfl rfl rfl ?_ ?_ | refine A_ge rfl rfl rfl ?_ ?_ | refine A_eq rfl rfl rfl ?_ ?_ | refine A_ne rfl rfl rfl ?_ ?_ | refine A_beq rfl rfl rfl ?_ ?_) <;> intro hc <;> try first | contradiction | (exfalso; omega) | exact absurd rfl hc)
 | refine A_idxN1 rfl rfl rfl (by omega) ?_ | refine A_idx1 rfl rfl rfl (by omega) ?_ | refine A_idxArr1 rfl rfl rfl (by omega) ?_
 | refine A_fld rfl rfl ?_ | refine A_mk3 rfl rfl rfl rfl ?_ | refine A_mk23 rfl rfl rfl ?_ | refine A_mk2 rfl rfl rfl ?_ | refine A_p (by rfl) rfl ?_
 | refine A_ldI rfl (by first | omega | (simp; done) | (simp; omega)) rfl ?_ | refine A_ldB rfl (by first | omega | (simp; done) | (simp; omega)) rfl ?_ | refine A_ld rfl (by rfl) rfl ?_ | refine A_ldW rfl (by simp) rfl ?_
 | refine A_st rfl rfl rfl ?_ | refine A_stW rfl rfl (by simp) rfl ?_ | refine A_stE rfl rfl (by first | omega | (simp; done) | (simp; omega)) rfl ?_
 | ((first | refine A_alloc rfl ?_ | refine A_box rfl rfl ?_ | refine A_boxC rfl rfl ?_ | refine A_makeN rfl rfl rfl (by omega) ?_ | refine A_make rfl rfl rfl (by omega) ?_ | refine A_bld1 rfl rfl ?_ | refine A_bld2 rfl rfl rfl ?_ | refine A_bld4 rfl rfl rfl rfl rfl ?_) <;> intro pz hpz)
 | refine A_bld0 rfl ?_ | (refine A_app rfl rfl rfl (by first | omega | (simp; done) | (simp; omega)) (by first | omega | (simp; done) | (simp; omega)) (by omega) ?_; intro pz) | (refine A_appN (enc := ic) rfl (by decide) rfl rfl (by first | omega | (simp; done) | (simp; omega)) (by omega) ?_; intro pz)
 | refine A_chk1 rfl rfl rfl ?_ | refine A_chk2 rfl rfl rfl rfl ?_ | refine A_chk3 rfl rfl rfl rfl rfl ?_ | refine A_chk4 rfl rfl rfl rfl rfl rfl ?_ | refine A_chkI rfl (by assumption) rfl (by simp) ?_
 | refine A_ret1 rfl (by first | exact (RP.t rfl RP.nil) | exact (RP.c rfl inferInstance rfl (by simp) RP.nil)) ?_ | refine A_ret rfl (by first | exact (RP.t rfl (RP.t rfl RP.nil)) | exact (RP.c rfl inferInstance rfl (by simp) (RP.t rfl RP.nil)) | exact (RP.t rfl (RP.t rfl (RP.t rfl RP.nil))) | exact (RP.c rfl inferInstance rfl (by simp) (RP.t rfl (RP.t rfl RP.nil))) | exact (RP.c rfl inferInstance rfl (by simp) (RP.t rfl (RP.t rfl (RP.t rfl (RP.t rfl RP.nil)))))) ?_ | refine A_ret0 rfl ?_)
    refine A_round rfl [pz] (E - (n + c)) (by omega) ?_
    refine ⟨n + c, rfl, rfl, ?_, by omega, by omega⟩
    have e0 : 0 + (n : Int).toNat * 1 = n := by omega
    rw [e0]
    congr 3
    rw [List.take_left' (by simp), List.replicate_append_replicate]
    congr 1
    rw [← List.drop_drop, List.drop_left' (by simp), List.drop_replicate, show E - n - c = E - (n + c) by omega]
  · obtain rfl : E = n := by omega
    repeat' (first
 | refine A_go rfl ?_ | refine A_ifT rfl rfl ?_ | refine A_ifF rfl rfl ?_ | refine A_offP rfl rfl ?_ | refine A_offH rfl rfl ?_ | refine A_off0 rfl rfl ?_
 | refine A_add rfl rfl rfl (by omega) ?_ | refine A_sub rfl rfl rfl (by omega) ?_ | refine A_mul rfl rfl rfl (by omega) ?_ | refine A_rem rfl rfl rfl (by omega) ?_ | refine A_remT rfl rfl rfl (by omega) ?_ | refine A_quo rfl rfl rfl (by omega) ?_
 | ((first | refine A_lt rfl rfl rfl ?_ ?_ | refine A_le rfl rfl rfl ?_ ?_ | refine A_gt rfl rfl rfl ?_ ?_ | refine A_ge rfl rfl rfl ?_ ?_ | refine A_eq rfl rfl rfl ?_ ?_ | refine A_ne rfl rfl rfl ?_ ?_ | refine A_beq rfl rfl rfl ?_ ?_) <;> intro hc <;> try first | contradiction | (exfalso; omega) | exact absurd rfl hc)
 | refine A_idxN1 rfl rfl rfl (by omega) ?_ | refine A_idx1 rfl rfl rfl (by omega) ?_ | refine A_idxArr1 rfl rfl rfl (by omega) ?_
 | refine A_fld rfl rfl ?_ | refine A_mk3 rfl rfl rfl rfl ?_ | refine A_mk23 rfl rfl rfl ?_ | refine A_mk2 rfl rfl rfl ?_ | refine A_p (by rfl) rfl ?_
 | refine A_ldI rfl (by first | omega | (simp; done) | (simp; omega)) rfl ?_ | refine A_ldB rfl (by first | omega | (simp; done) | (simp; omega)) rfl ?_ | refine A_ld rfl (by rfl) rfl ?_ | refine A_ldW rfl (by simp) rfl ?_
 | refine A_st rfl rfl rfl ?_ | refine A_stW rfl rfl (by simp) rfl ?_ | refine A_stE rfl rfl (by first | omega | (simp; done) | (simp; omega)) rfl ?_
 | ((first | refine A_alloc rfl ?_ | refine A_box rfl rfl ?_ | refine A_boxC rfl rfl ?_ | refine A_makeN rfl rfl rfl (by omega) ?_ | refine A_make rfl rfl rfl (by omega) ?_ | refine A_bld1 rfl rfl ?_ | refine A_bld2 rfl rfl rfl ?_ | refine A_bld4 rfl rfl rfl rfl rfl ?_) <;> intro pz hpz)
 | refine A_bld0 rfl ?_ | (refine A_app rfl rfl rfl (by first | omega | (simp; done) | (simp; omega)) (by first | omega | (simp; done) | (simp; omega)) (by omega) ?_; intro pz) | (refine A_appN (enc := ic) rfl (by decide) rfl rfl (by first | omega | (simp; done) | (simp; omega)) (by omega) ?_; intro pz)
 | refine A_chk1 rfl rfl rfl ?_ | refine A_chk2 rfl rfl rfl rfl ?_ | refine A_chk3 rfl rfl rfl rfl rfl ?_ | refine A_chk4 rfl rfl rfl rfl rfl rfl ?_ | refine A_chkI rfl (by assumption) rfl (by simp) ?_
 | refine A_ret1 rfl (by first | exact (RP.t rfl RP.nil) | exact (RP.c rfl inferInstance rfl (by simp) RP.nil)) ?_ | refine A_ret rfl (by first | exact (RP.t rfl (RP.t rfl RP.nil)) | exact (RP.c rfl inferInstance rfl (by simp) (RP.t rfl RP.nil)) | exact (RP.t rfl (RP.t rfl (RP.t rfl RP.nil))) | exact (RP.c rfl inferInstance rfl (by simp) (RP.t rfl (RP.t rfl RP.nil))) | exact (RP.c rfl inferInstance rfl (by simp) (RP.t rfl (RP.t rfl (RP.t rfl (RP.t rfl RP.nil)))))) ?_ | refine A_ret0 rfl ?_)
    rw [Nat.sub_self, List.replicate_zero, List.append_nil]
    exact R_s ⟨pz, rfl, rfl⟩

end Go.Proofs.Ytkeabhhndcpejaa
