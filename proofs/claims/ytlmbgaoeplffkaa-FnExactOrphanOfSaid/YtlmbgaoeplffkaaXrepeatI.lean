/- What slices.Repeat does with a list of one number. -/
import Derived.Test.YtlmbgaoeplffkaaXpart
import Derived.Test.YtlmbgaoeplffkaaFB
namespace Go.Proofs.Ytlmbgaoeplffkaa
open Go Go.RowKit
set_option linter.unusedVariables false
set_option linter.unusedSimpArgs false
set_option maxRecDepth 100000
set_option maxHeartbeats 8000000
-- math/bits.Mul
def L76 : AFun := ⟨30, [.t 4, .t 5],
 (.seq (.ops false [⟨(some 4), .mv (.k (.c (.int .u64 0))), none, []⟩,
   ⟨(some 5), .mv (.k (.c (.int .u64 0))), none, []⟩])
 (.seq (.cond (.k (bv false)) (.seq (.ops false [⟨(some 11), .mv (.t 0), none, []⟩,
     ⟨(some 12), .conv .u32 (.t 11), none, []⟩,
     ⟨(some 13), .mv (.t 1), none, []⟩,
     ⟨(some 14), .conv .u32 (.t 13), none, []⟩,
     ⟨(some 15), .call (.f 91) [(.t 12), (.t 14)], none, []⟩,
     ⟨(some 10), .mv (.t 15), none, []⟩,
     ⟨(some 16), .ext (.t 10) 0, none, []⟩,
     ⟨(some 17), .ext (.t 10) 1, none, []⟩,
     ⟨(some 6), .mv (.t 16), none, []⟩,
     ⟨(some 7), .mv (.t 17), none, []⟩])
   (.seq (.ops false [⟨(some 18), .mv (.t 6), none, []⟩,
     ⟨(some 19), .conv .u64 (.t 18), none, []⟩,
     ⟨(some 20), .mv (.t 7), none, []⟩,
     ⟨(some 21), .conv .u64 (.t 20), none, []⟩,
     ⟨(some 4), .mv (.t 19), none, []⟩,
     ⟨(some 5), .mv (.t 21), none, []⟩])
   .ret))
   .skip)
 (.seq (.ops false [⟨(some 23), .mv (.t 0), none, []⟩,
   ⟨(some 24), .mv (.t 1), none, []⟩,
   ⟨(some 25), .call (.f 92) [(.t 23), (.t 24)], none, []⟩,
   ⟨(some 22), .mv (.t 25), none, []⟩,
   ⟨(some 26), .ext (.t 22) 0, none, []⟩,
   ⟨(some 27), .ext (.t 22) 1, none, []⟩,
   ⟨(some 8), .mv (.t 26), none, []⟩,
   ⟨(some 9), .mv (.t 27), none, []⟩])
 (.seq (.ops false [⟨(some 28), .mv (.t 8), none, []⟩,
   ⟨(some 29), .mv (.t 9), none, []⟩,
   ⟨(some 4), .mv (.t 28), none, []⟩,
   ⟨(some 5), .mv (.t 29), none, []⟩])
 .ret))))⟩
theorem code76 : acode Try.prog hints 76 = some L76 := by kernel_rfl

-- math/bits.Mul64
def L92 : AFun := ⟨51, [.t 4, .t 5],
 (.seq (.ops false [⟨(some 4), .mv (.k (.c (.int .u64 0))), none, []⟩,
   ⟨(some 5), .mv (.k (.c (.int .u64 0))), none, []⟩])
 (.seq (.ops false [⟨(some 14), .mv (.t 0), none, []⟩,
   ⟨(some 15), .bin .and (.t 14) (.k (.c (.int .u64 4294967295))), none, []⟩,
   ⟨(some 6), .mv (.t 15), none, []⟩])
 (.seq (.ops false [⟨(some 16), .mv (.t 0), none, []⟩,
   ⟨(some 17), .bin .shr (.t 16) (.k (.c (.int .u64 32))), none, []⟩,
   ⟨(some 7), .mv (.t 17), none, []⟩])
 (.seq (.ops false [⟨(some 18), .mv (.t 1), none, []⟩,
   ⟨(some 19), .bin .and (.t 18) (.k (.c (.int .u64 4294967295))), none, []⟩,
   ⟨(some 8), .mv (.t 19), none, []⟩])
 (.seq (.ops false [⟨(some 20), .mv (.t 1), none, []⟩,
   ⟨(some 21), .bin .shr (.t 20) (.k (.c (.int .u64 32))), none, []⟩,
   ⟨(some 9), .mv (.t 21), none, []⟩])
 (.seq (.ops false [⟨(some 22), .mv (.t 6), none, []⟩,
   ⟨(some 23), .mv (.t 8), none, []⟩,
   ⟨(some 24), .bin .mul (.t 22) (.t 23), none, []⟩,
   ⟨(some 10), .mv (.t 24), none, []⟩])
 (.seq (.ops false [⟨(some 25), .mv (.t 7), none, []⟩,
   ⟨(some 26), .mv (.t 8), none, []⟩,
   ⟨(some 27), .bin .mul (.t 25) (.t 26), none, []⟩,
   ⟨(some 28), .mv (.t 10), none, []⟩,
   ⟨(some 29), .bin .shr (.t 28) (.k (.c (.int .u64 32))), none, []⟩,
   ⟨(some 30), .bin .add (.t 27) (.t 29), none, []⟩,
   ⟨(some 11), .mv (.t 30), none, []⟩])
 (.seq (.ops false [⟨(some 31), .mv (.t 11), none, []⟩,
   ⟨(some 32), .bin .and (.t 31) (.k (.c (.int .u64 4294967295))), none, []⟩,
   ⟨(some 12), .mv (.t 32), none, []⟩])
 (.seq (.ops false [⟨(some 33), .mv (.t 11), none, []⟩,
   ⟨(some 34), .bin .shr (.t 33) (.k (.c (.int .u64 32))), none, []⟩,
   ⟨(some 13), .mv (.t 34), none, []⟩])
 (.seq (.ops false [⟨(some 35), .mv (.t 12), none, []⟩,
   ⟨(some 36), .mv (.t 6), none, []⟩,
   ⟨(some 37), .mv (.t 9), none, []⟩,
   ⟨(some 38), .bin .mul (.t 36) (.t 37), none, []⟩,
   ⟨(some 39), .bin .add (.t 35) (.t 38), none, []⟩,
   ⟨(some 12), .mv (.t 39), none, []⟩])
 (.seq (.ops false [⟨(some 40), .mv (.t 7), none, []⟩,
   ⟨(some 41), .mv (.t 9), none, []⟩,
   ⟨(some 42), .bin .mul (.t 40) (.t 41), none, []⟩,
   ⟨(some 43), .mv (.t 13), none, []⟩,
   ⟨(some 44), .bin .add (.t 42) (.t 43), none, []⟩,
   ⟨(some 45), .mv (.t 12), none, []⟩,
   ⟨(some 46), .bin .shr (.t 45) (.k (.c (.int .u64 32))), none, []⟩,
   ⟨(some 47), .bin .add (.t 44) (.t 46), none, []⟩,
   ⟨(some 4), .mv (.t 47), none, []⟩])
 (.seq (.ops false [⟨(some 48), .mv (.t 0), none, []⟩,
   ⟨(some 49), .mv (.t 1), none, []⟩,
   ⟨(some 50), .bin .mul (.t 48) (.t 49), none, []⟩,
   ⟨(some 5), .mv (.t 50), none, []⟩])
 .ret))))))))))))⟩
theorem code92 : acode Try.prog hints 92 = some L92 := by kernel_rfl


theorem c_bitsMul64 {s : St} [Wf s] {y : Int} (hy : y = 1 ∨ y = 4 ∨ y = 9 ∨ y = 16 ∨ y = 81) : FnV 92 [.c (.int .u64 1), .c (.int .u64 y)] s (.tup [.c (.int .u64 0), .c (.int .u64 y)]) := by
  rcases hy with rfl | rfl | rfl | rfl | rfl
  all_goals
    refine F_start code92 ?_
    repeat' (first
 | refine A_go rfl ?_ | refine A_ifT rfl rfl ?_ | refine A_ifF rfl rfl ?_
 | refine A_add rfl rfl rfl (by omega) ?_ | refine A_mul rfl rfl rfl (by omega) ?_
 | refine A_p (by rfl) rfl ?_
 | refine A_ret rfl (by exact (RP.t rfl (RP.t rfl RP.nil))) ?_)
    exact R_v rfl
theorem c_bitsMul {s : St} [Wf s] {y : Int} (hy : y = 1 ∨ y = 4 ∨ y = 9 ∨ y = 16 ∨ y = 81) : FnV 76 [.c (.int .u64 1), .c (.int .u64 y)] s (.tup [.c (.int .u64 0), .c (.int .u64 y)]) := by
  refine F_start code76 ?_
  repeat' (first
 | refine A_go rfl ?_ | refine A_ifT rfl rfl ?_ | refine A_ifF rfl rfl ?_
 | refine A_callV rfl rfl (fun s H => c_bitsMul64 hy) ?_
 | refine A_p (by rfl) rfl ?_
 | refine A_ret rfl (by exact (RP.t rfl (RP.t rfl RP.nil))) ?_)
  exact R_v rfl
theorem A_copyE {B : List Nat} {b : St} {L L' : Objs} {l : List AStep} {hist : List Objs} {fr : Frm} {kk : KK} {d : Nat} {chk : List Nat} {g : Option (Nat × Bool)} {α : Type} {enc : α → AC} {t p off m id off2 k : Nat} {xs news : List α} {x y : Opd} (c : Nat) (hx : ev fr x = some (.c (.sl p off m))) (hy : ev fr y = some (.c (.sl id off2 k))) (hg : gon fr g = some true) [hh : Has L p (.rw t 1 (xs.map enc))]
    (hn : ∀ s, Own B b s L → ArgE enc s id off2 news) (hc : c = min k m ∧ news.length = c ∧ off + c ≤ xs.length ∧ 0 < c) [hu : Upd L p (.rw t 1 ((xs.take off ++ news ++ xs.drop (off + c)).map enc)) (.rw t 1 (xs.map enc)) L']
    (h : At B b L' l (hist ++ [L]) ((d, iv (c : Int)) :: fr) kk) : At B b L (⟨some d, .copy 1 x y, g, chk⟩ :: l) hist fr kk := by
  refine ⟨fun s hs H Hh => ?_⟩
  obtain ⟨i, hi, rfl⟩ := hu.ex
  obtain ⟨h1, h2, h3, h4⟩ := hc
  obtain ⟨g1, g2, g3, g4⟩ := (H.obj i p _ hi).resolve_right (fun h => by
    obtain ⟨_, t, e, he⟩ := h
    simp at he
    have := he.2.2; rw [this] at h3; simp at h3; omega)
  have hns := (hn s H).src
  rw [h2] at hns
  refine O_h (h' := upd s.h p (.rw t 1 ((xs.take off ++ news ++ xs.drop (off + c)).map enc))) (n' := s.n) ?_ hg (h.ok _ _ (H.put hi g2 _) (hist_snoc H Hh))
  simp only [evH, hx, hy, Option.bind_some, asSl]
  rw [if_neg (by omega), ← h1]
  simp only [hns, Option.bind_some, g4]
  rw [if_pos ⟨by simp; omega, by simp; omega⟩]
  simp [splice, h2]
  omega
end Go.Proofs.Ytlmbgaoeplffkaa
