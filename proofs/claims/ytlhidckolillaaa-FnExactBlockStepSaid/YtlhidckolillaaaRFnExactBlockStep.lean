/- The law FnExactBlockStep holds for every input. -/
import Derived.Test.YtlhidckolillaaaRows
import Derived.Test.YtlhidckolillaaaFB
import Derived.Test.YtlhidckolillaaaXFnExactBlockStep
import Derived.WalkKit
import Derived.ProofKit
import Derived.OpenShut
import Derived.ChangeOld
import Derived.Below
import Derived.Lib.SmallJoins
import Derived.Laws.Cover2
namespace Go.Proofs.Ytlhidckolillaaa.fnExactBlockStep
open Go Go.ChangeShapes Go.WideShapes Go.ChangeAt Go.RowKit
set_option linter.unusedVariables false
set_option linter.unusedSimpArgs false
theorem own : ownKnob Try.prog.godebug = none := by kernel_rfl
theorem laidOut : laidOutB Try.prog = true := by kernel_rfl
set_option maxRecDepth 100000 in
theorem lifted (os : Os) (started : os.Started) (H : Type) (enc : TypeId × Value → H) :
    ReturnsInHanded {} Try.checked os 3 .any (Rows.fnExactBlockStepSpec.pre6 enc Try.prog Try.f3 Rows.fnExactBlockStepRow.domain false) (Rows.fnExactBlockStepSpec.post enc Try.prog Try.f3 false true false false) := by
  refine returnsInHanded_of_change (C := Try.checked) own started (by kernel_rfl) Try.func3
    (ChangeSpec.witness6 (enc := enc) (C := Try.checked) false ⟨#[], #[.agg #[.int .i64 0, .int .i64 0, .slice none 0 0], .slice none 0 0, .bool false], []⟩ 8 (by kernel_rfl) (by kernel_rfl) (by kernel_rfl) (by kernel_rfl)) ?_
  intro W base args ds gs before hval0 hW hcnd _
  have hval : ∀ (j : Nat) t v, Try.f3.params[j]? = some t → args[j]? = some v → Value.okWide Try.prog W .any base t v := hval0
  have hW' := hW
  obtain ⟨p, q, hA0, hV, rfl, hfz, hnd⟩ := hW
  have hA : DataW.TrodAll enc Try.prog W 0 (fun _ => true) true Try.f3.params.toList args.toList ds p := hA0
  rw [Try.params3] at hA hval
  obtain ⟨v0, vs0, d0, ds0, p0, q0, hargs, rfl, rfl, h0, r0⟩ := trodAll_cons hA
  obtain ⟨v1, vs1, d1, ds1, p1, q1, rfl, rfl, rfl, h1, r1⟩ := trodAll_cons r0
  obtain ⟨v2, vs2, d2, ds2, p2, q2, rfl, rfl, rfl, h2, r2⟩ := trodAll_cons r1
  obtain ⟨rfl, rfl, rfl⟩ := trodAll_nil r2
  obtain rfl : args = #[v0, v1, v2] := by cases args; simp_all
  obtain ⟨rfl, rfl⟩ := trodVars_none hV
  have k0 := h0
  have lt0 : ∀ x ∈ p0, x.block < W.heap.size := by obtain ⟨m, hm⟩ := k0; exact DataW.trod_lt m _ _ _ hm
  obtain ⟨v0_0, v0_1, v0_2, y0_0, y0_1, y0_2, n0, rfl, hd0, hp0, f0_0, f0_1, f0_2⟩ := Go.Joins.open_agg3 Try.underlying24 (by kernel_rfl) (by kernel_rfl) (hval 0 24 v0 rfl rfl) h0
  obtain ⟨a0_0, rfl, w0_0⟩ := int_of Try.underlying2 f0_0
  obtain ⟨a0_1, rfl, w0_1⟩ := int_of Try.underlying2 f0_1
  obtain ⟨a0_2, len0_2, cap0_2, z0_2, rfl, w0_2⟩ := ints_of Try.underlying22 Try.underlying2 (by kernel_rfl) f0_2
  obtain ⟨ρ0, s0, x0_2, e0, k_0, w_0, m0, c0_2, r_0_2, b0_2, n_0_2, l_0_2⟩ := add_row (Sim0 W) St0.wf w0_2
  obtain ⟨a1, len1, cap1, rfl⟩ := okWide_slice Try.underlying22 (hval 1 22 v1 rfl rfl)
  have k1 := h1
  have lt1 : ∀ x ∈ p1, x.block < W.heap.size := by obtain ⟨m, hm⟩ := k1; exact DataW.trod_lt m _ _ _ hm
  obtain ⟨z1, w1⟩ : ∃ zs, IsRow .i64 W a1 len1 cap1 zs := by
    obtain ⟨fuel, hf⟩ := h1
    exact row_of Try.underlying22 Try.underlying2 (by kernel_rfl) hf
  obtain ⟨ρ1, s1, x1, e1, k_1, w_1, m1, c1, r_1, b1, n_1, l_1⟩ := add_row m0 w_0 w1
  obtain ⟨a2, rfl, rfl, rfl⟩ := open_bool Try.underlying4 (hval 2 4 v2 rfl rfl) h2
  clear hA0 hval0
  have hx : All2 (VRel ρ1) [.agg [.int .i64 a0_0, .int .i64 a0_1, .sl x0_2 0 len0_2], .c (.sl x1 0 len1), .c (.bool a2)] [.agg #[.int .i64 a0_0, .int .i64 a0_1, .slice a0_2 len0_2 cap0_2], .slice a1 len1 cap1, .bool a2] := (.cons (.p (.agg (.cons (.int _ _) (.cons (.int _ _) (.cons (c0_2.mono e1) .nil))))) (.cons (.p (.c c1)) (.cons (.p (.c (.bool _))) .nil)))
  haveI : Wf s1 := ⟨w_1⟩
  refine (law_calls m1 w_1 hx (c_FnExactBlockStep (wf64 w0_0) (wf64 w0_1) (r_0_2.keep k_1) n_0_2 (all64 b0_2) l_0_2 r_1 n_1 (all64 b1) l_1)).mono fun e W' ⟨he, bel⟩ => ?_
  subst he
  exact ⟨_, rfl, _, _, _, [], _, [], hW', trodAll_mk1 (shut_bool Try.underlying4 _), (trodAll_cons_mk (Below.trod laidOut (by kernel_rfl) (of_decide_eq_true (by kernel_rfl)) k0 bel lt0) (trodAll_cons_mk (Below.trod laidOut (by kernel_rfl) (of_decide_eq_true (by kernel_rfl)) k1 bel lt1) (trodAll_cons_mk (shut_bool Try.underlying4 _) trodAll_mk0))), rfl, bel.frame _, fun h => by cases h⟩
theorem over : Rows.fnExactBlockStepRow.holds Try.pinned (OpenSpec.ofChange Rows.fnExactBlockStepSpec) :=
  OpenClaim.holds_of_wide 3 Try.f3 rfl rfl rfl rfl rfl rfl rfl ⟨rfl, rfl, rfl, rfl, rfl⟩ rfl rfl rfl rfl rfl (by kernel_rfl) Try.func3 (by kernel_rfl)
    (of_decide_eq_true (by kernel_rfl)) (by unfold Func.isWrapper; first | (rw [if_pos (by decide +kernel)]; kernel_rfl) | (rw [if_neg (by decide +kernel)]; exact ⟨rfl, rfl⟩))
    (fun os started H enc _ => lifted os started H enc)
theorem proved : Rows.FnExactBlockStepSaid := over
#print axioms proved
end Go.Proofs.Ytlhidckolillaaa.fnExactBlockStep
namespace Go.Proofs.Ytlhidckolillaaa
/-- The row, under a short name, for the claim. -/
theorem fnExactBlockStep_holds : Rows.FnExactBlockStepSaid := fnExactBlockStep.proved
end Go.Proofs.Ytlhidckolillaaa
