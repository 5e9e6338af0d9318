/- The law FnExactOrphanOf holds for every input. -/
import Derived.Test.YtlmbgaoeplffkaaRows
import Derived.Test.YtlmbgaoeplffkaaFB
import Derived.Test.YtlmbgaoeplffkaaXFnExactOrphanOf
import Derived.WalkKit
import Derived.ProofKit
import Derived.OpenShut
import Derived.ChangeOld
import Derived.Below
import Derived.Lib.SmallJoins
import Derived.Laws.Cover2
namespace Go.Proofs.Ytlmbgaoeplffkaa.fnExactOrphanOf
open Go Go.ChangeShapes Go.WideShapes Go.ChangeAt Go.RowKit
set_option linter.unusedVariables false
set_option linter.unusedSimpArgs false
theorem own : ownKnob Try.prog.godebug = none := by kernel_rfl
theorem laidOut : laidOutB Try.prog = true := by kernel_rfl
set_option maxRecDepth 100000 in
theorem lifted (os : Os) (started : os.Started) (H : Type) (enc : TypeId × Value → H) :
    ReturnsInHanded {} Try.checked os 4 .any (Rows.fnExactOrphanOfSpec.pre6 enc Try.prog Try.f4 Rows.fnExactOrphanOfRow.domain false) (Rows.fnExactOrphanOfSpec.post enc Try.prog Try.f4 false true false false) := by
  refine returnsInHanded_of_change (C := Try.checked) own started (by kernel_rfl) Try.func4
    (ChangeSpec.witness6 (enc := enc) (C := Try.checked) false ⟨#[], #[.agg #[.int .i64 0, .int .i64 0, .slice none 0 0], .int .i64 0], []⟩ 8 (by kernel_rfl) (by kernel_rfl) (by kernel_rfl) (by kernel_rfl)) ?_
  intro W base args ds gs before hval0 hW hcnd _
  have hval : ∀ (j : Nat) t v, Try.f4.params[j]? = some t → args[j]? = some v → Value.okWide Try.prog W .any base t v := hval0
  have hW' := hW
  obtain ⟨p, q, hA0, hV, rfl, hfz, hnd⟩ := hW
  have hA : DataW.TrodAll enc Try.prog W 0 (fun _ => true) true Try.f4.params.toList args.toList ds p := hA0
  rw [Try.params4] at hA hval
  obtain ⟨v0, vs0, d0, ds0, p0, q0, hargs, rfl, rfl, h0, r0⟩ := trodAll_cons hA
  obtain ⟨v1, vs1, d1, ds1, p1, q1, rfl, rfl, rfl, h1, r1⟩ := trodAll_cons r0
  obtain ⟨rfl, rfl, rfl⟩ := trodAll_nil r1
  obtain rfl : args = #[v0, v1] := by cases args; simp_all
  obtain ⟨rfl, rfl⟩ := trodVars_none hV
  have k0 := h0
  have lt0 : ∀ x ∈ p0, x.block < W.heap.size := by obtain ⟨m, hm⟩ := k0; exact DataW.trod_lt m _ _ _ hm
  obtain ⟨v0_0, v0_1, v0_2, y0_0, y0_1, y0_2, n0, rfl, hd0, hp0, f0_0, f0_1, f0_2⟩ := Go.Joins.open_agg3 Try.underlying41 (by kernel_rfl) (by kernel_rfl) (hval 0 41 v0 rfl rfl) h0
  obtain ⟨a0_0, rfl, w0_0⟩ := int_of Try.underlying2 f0_0
  obtain ⟨a0_1, rfl, w0_1⟩ := int_of Try.underlying2 f0_1
  obtain ⟨a0_2, len0_2, cap0_2, z0_2, rfl, w0_2⟩ := ints_of Try.underlying25 Try.underlying2 (by kernel_rfl) f0_2
  obtain ⟨ρ0, s0, x0_2, e0, k_0, w_0, m0, c0_2, r_0_2, b0_2, n_0_2, l_0_2⟩ := add_row (Sim0 W) St0.wf w0_2
  obtain ⟨a1, rfl, rfl, rfl, w1⟩ := open_int Try.underlying2 (hval 1 2 v1 rfl rfl) h1
  clear hA0 hval0
  have hx : All2 (VRel ρ0) [.agg [.int .i64 a0_0, .int .i64 a0_1, .sl x0_2 0 len0_2], .c (.int .i64 a1)] [.agg #[.int .i64 a0_0, .int .i64 a0_1, .slice a0_2 len0_2 cap0_2], .int .i64 a1] := (.cons (.p (.agg (.cons (.int _ _) (.cons (.int _ _) (.cons c0_2 .nil))))) (.cons (.p (.c (.int _ _))) .nil))
  haveI : Wf s0 := ⟨w_0⟩
  refine (law_calls m0 w_0 hx (c_FnExactOrphanOf (wf64 w0_0) (wf64 w0_1) r_0_2 n_0_2 (all64 b0_2) l_0_2 (wf64 w1))).mono fun e W' ⟨he, bel⟩ => ?_
  subst he
  exact ⟨_, rfl, _, _, _, [], _, [], hW', trodAll_mk1 (shut_bool Try.underlying4 _), (trodAll_cons_mk (Below.trod laidOut (by kernel_rfl) (of_decide_eq_true (by kernel_rfl)) k0 bel lt0) (trodAll_cons_mk (shut_int Try.underlying2 w1) trodAll_mk0)), rfl, bel.frame _, fun h => by cases h⟩
theorem over : Rows.fnExactOrphanOfRow.holds Try.pinned (OpenSpec.ofChange Rows.fnExactOrphanOfSpec) :=
  OpenClaim.holds_of_wide 4 Try.f4 rfl rfl rfl rfl rfl rfl rfl ⟨rfl, rfl, rfl, rfl, rfl⟩ rfl rfl rfl rfl rfl (by kernel_rfl) Try.func4 (by kernel_rfl)
    (of_decide_eq_true (by kernel_rfl)) (by unfold Func.isWrapper; first | (rw [if_pos (by decide +kernel)]; kernel_rfl) | (rw [if_neg (by decide +kernel)]; exact ⟨rfl, rfl⟩))
    (fun os started H enc _ => lifted os started H enc)
theorem proved : Rows.FnExactOrphanOfSaid := over
#print axioms proved
end Go.Proofs.Ytlmbgaoeplffkaa.fnExactOrphanOf
namespace Go.Proofs.Ytlmbgaoeplffkaa
/-- The row, under a short name, for the claim. -/
theorem fnExactOrphanOf_holds : Rows.FnExactOrphanOfSaid := fnExactOrphanOf.proved
end Go.Proofs.Ytlmbgaoeplffkaa
