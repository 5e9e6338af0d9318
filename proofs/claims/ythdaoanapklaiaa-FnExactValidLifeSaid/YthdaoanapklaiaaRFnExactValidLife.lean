/- The law FnExactValidLife holds for every input. -/
import Derived.Test.YthdaoanapklaiaaRows
import Derived.Test.YthdaoanapklaiaaFB
import Derived.Test.YthdaoanapklaiaaXFnExactValidLife
import Derived.WalkKit
import Derived.ProofKit
import Derived.OpenShut
import Derived.ChangeOld
import Derived.Below
import Derived.Lib.SmallJoins
import Derived.Laws.Cover2
namespace Go.Proofs.Ythdaoanapklaiaa.fnExactValidLife
open Go Go.ChangeShapes Go.WideShapes Go.ChangeAt Go.RowKit
set_option linter.unusedVariables false
set_option linter.unusedSimpArgs false
theorem own : ownKnob Try.prog.godebug = none := by kernel_rfl
theorem laidOut : laidOutB Try.prog = true := by kernel_rfl
set_option maxRecDepth 100000 in
theorem lifted (os : Os) (started : os.Started) (H : Type) (enc : TypeId × Value → H) :
    ReturnsInHanded {} Try.checked os 7 .any (Rows.fnExactValidLifeSpec.pre6 enc Try.prog Try.f7 Rows.fnExactValidLifeRow.domain false) (Rows.fnExactValidLifeSpec.post enc Try.prog Try.f7 false true false false) := by
  refine returnsInHanded_of_change (C := Try.checked) own started (by kernel_rfl) Try.func7
    (ChangeSpec.witness6 (enc := enc) (C := Try.checked) false ⟨#[], #[.agg #[.slice none 0 0, .slice none 0 0]], []⟩ 8 (by kernel_rfl) (by kernel_rfl) (by kernel_rfl) (by kernel_rfl)) ?_
  intro W base args ds gs before hval0 hW hcnd _
  have hval : ∀ (j : Nat) t v, Try.f7.params[j]? = some t → args[j]? = some v → Value.okWide Try.prog W .any base t v := hval0
  have hW' := hW
  obtain ⟨p, q, hA0, hV, rfl, hfz, hnd⟩ := hW
  have hA : DataW.TrodAll enc Try.prog W 0 (fun _ => true) true Try.f7.params.toList args.toList ds p := hA0
  rw [Try.params7] at hA hval
  obtain ⟨v0, vs0, d0, ds0, p0, q0, hargs, rfl, rfl, h0, r0⟩ := trodAll_cons hA
  obtain ⟨rfl, rfl, rfl⟩ := trodAll_nil r0
  obtain rfl : args = #[v0] := by cases args; simp_all
  obtain ⟨rfl, rfl⟩ := trodVars_none hV
  have k0 := h0
  have lt0 : ∀ x ∈ p0, x.block < W.heap.size := by obtain ⟨m, hm⟩ := k0; exact DataW.trod_lt m _ _ _ hm
  obtain ⟨v0_0, v0_1, y0_0, y0_1, n0, rfl, hd0, hp0, f0_0, f0_1⟩ := Go.Joins.open_agg2 Try.underlying27 (by kernel_rfl) (by kernel_rfl) (hval 0 27 v0 rfl rfl) h0
  obtain ⟨a0_0, len0_0, cap0_0, z0_0, rfl, w0_0⟩ := ints_of Try.underlying22 Try.underlying2 (by kernel_rfl) f0_0
  obtain ⟨ρ0, s0, x0_0, e0, k_0, w_0, m0, c0_0, r_0_0, b0_0, n_0_0, l_0_0⟩ := add_row (Sim0 W) St0.wf w0_0
  obtain ⟨a0_1, len0_1, cap0_1, z0_1, rfl, w0_1⟩ := ints_of Try.underlying22 Try.underlying2 (by kernel_rfl) f0_1
  obtain ⟨ρ1, s1, x0_1, e1, k_1, w_1, m1, c0_1, r_0_1, b0_1, n_0_1, l_0_1⟩ := add_row m0 w_0 w0_1
  clear hA0 hval0
  have hx : All2 (VRel ρ1) [.agg [.sl x0_0 0 len0_0, .sl x0_1 0 len0_1]] [.agg #[.slice a0_0 len0_0 cap0_0, .slice a0_1 len0_1 cap0_1]] := (.cons (.p (.agg (.cons (c0_0.mono e1) (.cons c0_1 .nil)))) .nil)
  haveI : Wf s1 := ⟨w_1⟩
  refine (law_calls m1 w_1 hx (c_FnExactValidLife (r_0_0.keep k_1) n_0_0 (all64 b0_0) l_0_0 r_0_1 n_0_1 (all64 b0_1) l_0_1)).mono fun e W' ⟨he, bel⟩ => ?_
  subst he
  exact ⟨_, rfl, _, _, _, [], _, [], hW', trodAll_mk1 (shut_bool Try.underlying4 _), (trodAll_cons_mk (Below.trod laidOut (by kernel_rfl) (of_decide_eq_true (by kernel_rfl)) k0 bel lt0) trodAll_mk0), rfl, bel.frame _, fun h => by cases h⟩
theorem over : Rows.fnExactValidLifeRow.holds Try.pinned (OpenSpec.ofChange Rows.fnExactValidLifeSpec) :=
  OpenClaim.holds_of_wide 7 Try.f7 rfl rfl rfl rfl rfl rfl rfl ⟨rfl, rfl, rfl, rfl, rfl⟩ rfl rfl rfl rfl rfl (by kernel_rfl) Try.func7 (by kernel_rfl)
    (of_decide_eq_true (by kernel_rfl)) (by unfold Func.isWrapper; first | (rw [if_pos (by decide +kernel)]; kernel_rfl) | (rw [if_neg (by decide +kernel)]; exact ⟨rfl, rfl⟩))
    (fun os started H enc _ => lifted os started H enc)
theorem proved : Rows.FnExactValidLifeSaid := over
#print axioms proved
end Go.Proofs.Ythdaoanapklaiaa.fnExactValidLife
namespace Go.Proofs.Ythdaoanapklaiaa
/-- The row, under a short name, for the claim. -/
theorem fnExactValidLife_holds : Rows.FnExactValidLifeSaid := fnExactValidLife.proved
end Go.Proofs.Ythdaoanapklaiaa
