/- Copies. -/
import Derived.Test.YtlmbgaoeplffkaaXtoInts
import Derived.Test.YtlmbgaoeplffkaaFB
namespace Go.Proofs.Ytlmbgaoeplffkaa
open Go Go.RowKit
set_option linter.unusedVariables false
set_option linter.unusedSimpArgs false
set_option maxRecDepth 100000
set_option maxHeartbeats 8000000
-- slices.Clone[[]int64,int64]
def L37 : AFun := ⟨8, [.t 2],
 (.seq (.ops false [⟨(some 2), .mv (.k (.c (.sl 0 0 0))), none, []⟩])
 (.seq (.seq (.ops false [⟨(some 3), .mv (.t 0), none, []⟩,
    ⟨(some 4), .isNil false (.t 3), none, []⟩])
  (.cond (.t 4) (.seq (.ops false [⟨(some 2), .mv (.k (.c (.sl 0 0 0))), none, []⟩])
   .ret)
   .skip))
 (.seq (.ops false [⟨(some 5), .buildS 2 1 0 [.int .i64 0] [], none, []⟩,
   ⟨(some 6), .mv (.t 0), none, []⟩,
   ⟨(some 7), .append 2 1 8 (.t 5) (.t 6), none, []⟩,
   ⟨(some 2), .mv (.t 7), none, []⟩])
 .ret)))⟩
theorem code37 : acode Try.prog hints 37 = some L37 := by kernel_rfl


theorem c_clone {s : St} [Wf s] {id_xs off_xs len_xs : Nat} {xs : List Int} [h_xs : ArgE ic s id_xs off_xs xs] (hl_xs : xs.length = len_xs := by first | rfl | simp | omega | (simp; omega)) (hb : len_xs ≤ 2000000 := by omega) : Fn [] 37 [.c (.sl id_xs off_xs len_xs)] s fun r N => ∃ p, r = .c (.sl p 0 len_xs) ∧ N = [(p, ints xs)] := by
  refine F_start code37 ?_
  repeat' (first
 | refine A_go rfl ?_ | refine A_ifT rfl rfl ?_ | refine A_ifF rfl rfl ?_
 | (refine A_ifB rfl rfl ?_ ?_ <;> intro hc)
 | refine A_p (by rfl) rfl ?_
 | ((first | refine A_bld1 rfl rfl ?_ | refine A_bld2 rfl rfl rfl ?_ | refine A_bld4 rfl rfl rfl rfl rfl ?_) <;> intro pz hpz)
 | refine A_bld0 rfl ?_
 | (refine A_app rfl rfl rfl (by first | omega | (simp; done) | (simp; omega)) (by first | omega | (simp; done) | (simp; omega)) (by omega) ?_; intro pz) | (refine A_appN (enc := ic) rfl (by decide) rfl rfl (by first | omega | (simp; done) | (simp; omega)) (by omega) ?_; intro pz)
 | refine A_ret1 rfl (by exact (RP.t rfl RP.nil)) ?_)
  · have h0 : id_xs = 0 := by simpa using hc
    have hx := h_xs.src
    rw [h0] at hx
    obtain rfl : xs = [] := by
      cases xs with
      | nil => rfl
      | cons a l => simp [srcCells] at hx
    obtain rfl : len_xs = 0 := by simpa using hl_xs.symm
    exact R_s ⟨_, rfl, rfl⟩
  · exact R_s ⟨_, rfl, rfl⟩

end Go.Proofs.Ytlmbgaoeplffkaa
