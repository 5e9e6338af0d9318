/- The law FnExactIsStill holds for every input. -/
import Derived.Test.YthdmbgcnkdegmaaRows
import Derived.Test.YthdmbgcnkdegmaaFB
import Derived.Test.YthdmbgcnkdegmaaXFnExactIsStill
import Derived.WalkKit
import Derived.ProofKit
import Derived.OpenShut
import Derived.ChangeOld
import Derived.Below
import Derived.Lib.SmallJoins
import Derived.Laws.Cover2
namespace Go.Proofs.Ythdmbgcnkdegmaa.fnExactIsStill
open Go Go.ChangeShapes Go.WideShapes Go.ChangeAt Go.RowKit
set_option linter.unusedVariables false
set_option linter.unusedSimpArgs false
theorem own : ownKnob Try.prog.godebug = none := by kernel_rfl
theorem laidOut : laidOutB Try.prog = true := by kernel_rfl
set_option maxRecDepth 100000 in
theorem lifted (os : Os) (started : os.Started) (H : Type) (enc : TypeId × Value → H) :
    ReturnsInHanded {} Try.checked os 8 .any (Rows.fnExactIsStillSpec.pre6 enc Try.prog Try.f8 Rows.fnExactIsStillRow.domain false) (Rows.fnExactIsStillSpec.post enc Try.prog Try.f8 false true false false) := by
  refine returnsInHanded_of_change (C := Try.checked) own started (by kernel_rfl) Try.func8
    (ChangeSpec.witness6 (enc := enc) (C := Try.checked) false ⟨#[], #[.agg #[.slice none 0 0, .slice none 0 0], .agg #[.int .i64 0, .int .i64 0, .slice none 0 0], .bool false], []⟩ 8 (by kernel_rfl) (by kernel_rfl) (by kernel_rfl) (by kernel_rfl)) ?_
  intro W base args ds gs before hval0 hW hcnd _
  have hval : ∀ (j : Nat) t v, Try.f8.params[j]? = some t → args[j]? = some v → Value.okWide Try.prog W .any base t v := hval0
  have hW' := hW
  obtain ⟨p, q, hA0, hV, rfl, hfz, hnd⟩ := hW
  have hA : DataW.TrodAll enc Try.prog W 0 (fun _ => true) true Try.f8.params.toList args.toList ds p := hA0
  rw [Try.params8] at hA hval
  obtain ⟨v0, vs0, d0, ds0, p0, q0, hargs, rfl, rfl, h0, r0⟩ := trodAll_cons hA
  obtain ⟨v1, vs1, d1, ds1, p1, q1, rfl, rfl, rfl, h1, r1⟩ := trodAll_cons r0
  obtain ⟨v2, vs2, d2, ds2, p2, q2, rfl, rfl, rfl, h2, r2⟩ := trodAll_cons r1
  obtain ⟨rfl, rfl, rfl⟩ := trodAll_nil r2
  obtain rfl : args = #[v0, v1, v2] := by cases args; simp_all
  obtain ⟨rfl, rfl⟩ := trodVars_none hV
  have k0 := h0
  have lt0 : ∀ x ∈ p0, x.block < W.heap.size := by obtain ⟨m, hm⟩ := k0; exact DataW.trod_lt m _ _ _ hm
  obtain ⟨v0_0, v0_1, y0_0, y0_1, n0, rfl, hd0, hp0, f0_0, f0_1⟩ := Go.Joins.open_agg2 Try.underlying44 (by kernel_rfl) (by kernel_rfl) (hval 0 44 v0 rfl rfl) h0
  obtain ⟨a0_0, len0_0, cap0_0, z0_0, rfl, w0_0⟩ := ints_of Try.underlying22 Try.underlying2 (by kernel_rfl) f0_0
  obtain ⟨ρ0, s0, x0_0, e0, k_0, w_0, m0, c0_0, r_0_0, b0_0, n_0_0, l_0_0⟩ := add_row (Sim0 W) St0.wf w0_0
  obtain ⟨a0_1, len0_1, cap0_1, z0_1, rfl, w0_1⟩ := ints_of Try.underlying22 Try.underlying2 (by kernel_rfl) f0_1
  obtain ⟨ρ1, s1, x0_1, e1, k_1, w_1, m1, c0_1, r_0_1, b0_1, n_0_1, l_0_1⟩ := add_row m0 w_0 w0_1
  have k1 := h1
  have lt1 : ∀ x ∈ p1, x.block < W.heap.size := by obtain ⟨m, hm⟩ := k1; exact DataW.trod_lt m _ _ _ hm
  obtain ⟨v1_0, v1_1, v1_2, y1_0, y1_1, y1_2, n1, rfl, hd1, hp1, f1_0, f1_1, f1_2⟩ := Go.Joins.open_agg3 Try.underlying24 (by kernel_rfl) (by kernel_rfl) (hval 1 24 v1 rfl rfl) h1
  obtain ⟨a1_0, rfl, w1_0⟩ := int_of Try.underlying2 f1_0
  obtain ⟨a1_1, rfl, w1_1⟩ := int_of Try.underlying2 f1_1
  obtain ⟨a1_2, len1_2, cap1_2, z1_2, rfl, w1_2⟩ := ints_of Try.underlying22 Try.underlying2 (by kernel_rfl) f1_2
  obtain ⟨ρ2, s2, x1_2, e2, k_2, w_2, m2, c1_2, r_1_2, b1_2, n_1_2, l_1_2⟩ := add_row m1 w_1 w1_2
  obtain ⟨a2, rfl, rfl, rfl⟩ := open_bool Try.underlying4 (hval 2 4 v2 rfl rfl) h2
  clear hA0 hval0
  have hx : All2 (VRel ρ2) [.agg [.sl x0_0 0 len0_0, .sl x0_1 0 len0_1], .agg [.int .i64 a1_0, .int .i64 a1_1, .sl x1_2 0 len1_2], .c (.bool a2)] [.agg #[.slice a0_0 len0_0 cap0_0, .slice a0_1 len0_1 cap0_1], .agg #[.int .i64 a1_0, .int .i64 a1_1, .slice a1_2 len1_2 cap1_2], .bool a2] := (.cons (.p (.agg (.cons ((c0_0.mono e1).mono e2) (.cons (c0_1.mono e2) .nil)))) (.cons (.p (.agg (.cons (.int _ _) (.cons (.int _ _) (.cons c1_2 .nil))))) (.cons (.p (.c (.bool _))) .nil)))
  haveI : Wf s2 := ⟨w_2⟩
  refine (law_calls m2 w_2 hx (c_FnExactIsStill ((r_0_0.keep k_1).keep k_2) n_0_0 (all64 b0_0) l_0_0 (r_0_1.keep k_2) n_0_1 (all64 b0_1) l_0_1 (wf64 w1_0) (wf64 w1_1) r_1_2 n_1_2 (all64 b1_2) l_1_2)).mono fun e W' ⟨he, bel⟩ => ?_
  subst he
  exact ⟨_, rfl, _, _, _, [], _, [], hW', trodAll_mk1 (shut_bool Try.underlying4 _), (trodAll_cons_mk (Below.trod laidOut (by kernel_rfl) (of_decide_eq_true (by kernel_rfl)) k0 bel lt0) (trodAll_cons_mk (Below.trod laidOut (by kernel_rfl) (of_decide_eq_true (by kernel_rfl)) k1 bel lt1) (trodAll_cons_mk (shut_bool Try.underlying4 _) trodAll_mk0))), rfl, bel.frame _, fun h => by cases h⟩
theorem over : Rows.fnExactIsStillRow.holds Try.pinned (OpenSpec.ofChange Rows.fnExactIsStillSpec) :=
  OpenClaim.holds_of_wide 8 Try.f8 rfl rfl rfl rfl rfl rfl rfl ⟨rfl, rfl, rfl, rfl, rfl⟩ rfl rfl rfl rfl rfl (by kernel_rfl) Try.func8 (by kernel_rfl)
    (of_decide_eq_true (by kernel_rfl)) (by unfold Func.isWrapper; first | (rw [if_pos (by decide +kernel)]; kernel_rfl) | (rw [if_neg (by decide +kernel)]; exact ⟨rfl, rfl⟩))
    (fun os started H enc _ => lifted os started H enc)
theorem proved : Rows.FnExactIsStillSaid := over
#print axioms proved
end Go.Proofs.Ythdmbgcnkdegmaa.fnExactIsStill
namespace Go.Proofs.Ythdmbgcnkdegmaa
/-- The row, under a short name, for the claim. -/
theorem fnExactIsStill_holds : Rows.FnExactIsStillSaid := fnExactIsStill.proved
end Go.Proofs.Ythdmbgcnkdegmaa
