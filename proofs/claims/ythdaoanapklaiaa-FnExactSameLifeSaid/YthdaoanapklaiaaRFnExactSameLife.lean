/- The law FnExactSameLife holds for every input. -/
import Derived.Test.YthdaoanapklaiaaRows
import Derived.Test.YthdaoanapklaiaaFB
import Derived.Test.YthdaoanapklaiaaXFnExactSameLife
import Derived.WalkKit
import Derived.ProofKit
import Derived.OpenShut
import Derived.ChangeOld
import Derived.Below
import Derived.Lib.SmallJoins
import Derived.Laws.Cover2
namespace Go.Proofs.Ythdaoanapklaiaa.fnExactSameLife
open Go Go.ChangeShapes Go.WideShapes Go.ChangeAt Go.RowKit
set_option linter.unusedVariables false
set_option linter.unusedSimpArgs false
theorem own : ownKnob Try.prog.godebug = none := by kernel_rfl
theorem laidOut : laidOutB Try.prog = true := by kernel_rfl
set_option maxRecDepth 100000 in
theorem lifted (os : Os) (started : os.Started) (H : Type) (enc : TypeId × Value → H) :
    ReturnsInHanded {} Try.checked os 4 .any (Rows.fnExactSameLifeSpec.pre6 enc Try.prog Try.f4 Rows.fnExactSameLifeRow.domain false) (Rows.fnExactSameLifeSpec.post enc Try.prog Try.f4 false true false false) := by
  refine returnsInHanded_of_change (C := Try.checked) own started (by kernel_rfl) Try.func4
    (ChangeSpec.witness6 (enc := enc) (C := Try.checked) false ⟨#[], #[.agg #[.slice none 0 0, .slice none 0 0], .agg #[.slice none 0 0, .slice none 0 0]], []⟩ 8 (by kernel_rfl) (by kernel_rfl) (by kernel_rfl) (by kernel_rfl)) ?_
  intro W base args ds gs before hval0 hW hcnd _
  have hval : ∀ (j : Nat) t v, Try.f4.params[j]? = some t → args[j]? = some v → Value.okWide Try.prog W .any base t v := hval0
  have hW' := hW
  obtain ⟨p, q, hA0, hV, rfl, hfz, hnd⟩ := hW
  have hA : DataW.TrodAll enc Try.prog W 0 (fun _ => true) true Try.f4.params.toList args.toList ds p := hA0
  rw [Try.params4] at hA hval
  obtain ⟨v0, vs0, d0, ds0, p0, q0, hargs, rfl, rfl, h0, r0⟩ := trodAll_cons hA
  obtain ⟨v1, vs1, d1, ds1, p1, q1, rfl, rfl, rfl, h1, r1⟩ := trodAll_cons r0
  obtain ⟨rfl, rfl, rfl⟩ := trodAll_nil r1
  obtain rfl : args = #[v0, v1] := by cases args; simp_all
  obtain ⟨rfl, rfl⟩ := trodVars_none hV
  have k0 := h0
  have lt0 : ∀ x ∈ p0, x.block < W.heap.size := by obtain ⟨m, hm⟩ := k0; exact DataW.trod_lt m _ _ _ hm
  obtain ⟨v0_0, v0_1, y0_0, y0_1, n0, rfl, hd0, hp0, f0_0, f0_1⟩ := Go.Joins.open_agg2 Try.underlying27 (by kernel_rfl) (by kernel_rfl) (hval 0 27 v0 rfl rfl) h0
  obtain ⟨a0_0, len0_0, cap0_0, z0_0, rfl, w0_0⟩ := ints_of Try.underlying22 Try.underlying2 (by kernel_rfl) f0_0
  obtain ⟨ρ0, s0, x0_0, e0, k_0, w_0, m0, c0_0, r_0_0, b0_0, n_0_0, l_0_0⟩ := add_row (Sim0 W) St0.wf w0_0
  obtain ⟨a0_1, len0_1, cap0_1, z0_1, rfl, w0_1⟩ := ints_of Try.underlying22 Try.underlying2 (by kernel_rfl) f0_1
  obtain ⟨ρ1, s1, x0_1, e1, k_1, w_1, m1, c0_1, r_0_1, b0_1, n_0_1, l_0_1⟩ := add_row m0 w_0 w0_1
  have k1 := h1
  have lt1 : ∀ x ∈ p1, x.block < W.heap.size := by obtain ⟨m, hm⟩ := k1; exact DataW.trod_lt m _ _ _ hm
  obtain ⟨v1_0, v1_1, y1_0, y1_1, n1, rfl, hd1, hp1, f1_0, f1_1⟩ := Go.Joins.open_agg2 Try.underlying27 (by kernel_rfl) (by kernel_rfl) (hval 1 27 v1 rfl rfl) h1
  obtain ⟨a1_0, len1_0, cap1_0, z1_0, rfl, w1_0⟩ := ints_of Try.underlying22 Try.underlying2 (by kernel_rfl) f1_0
  obtain ⟨ρ2, s2, x1_0, e2, k_2, w_2, m2, c1_0, r_1_0, b1_0, n_1_0, l_1_0⟩ := add_row m1 w_1 w1_0
  obtain ⟨a1_1, len1_1, cap1_1, z1_1, rfl, w1_1⟩ := ints_of Try.underlying22 Try.underlying2 (by kernel_rfl) f1_1
  obtain ⟨ρ3, s3, x1_1, e3, k_3, w_3, m3, c1_1, r_1_1, b1_1, n_1_1, l_1_1⟩ := add_row m2 w_2 w1_1
  clear hA0 hval0
  have hx : All2 (VRel ρ3) [.agg [.sl x0_0 0 len0_0, .sl x0_1 0 len0_1], .agg [.sl x1_0 0 len1_0, .sl x1_1 0 len1_1]] [.agg #[.slice a0_0 len0_0 cap0_0, .slice a0_1 len0_1 cap0_1], .agg #[.slice a1_0 len1_0 cap1_0, .slice a1_1 len1_1 cap1_1]] := (.cons (.p (.agg (.cons (((c0_0.mono e1).mono e2).mono e3) (.cons ((c0_1.mono e2).mono e3) .nil)))) (.cons (.p (.agg (.cons (c1_0.mono e3) (.cons c1_1 .nil)))) .nil))
  haveI : Wf s3 := ⟨w_3⟩
  refine (law_calls m3 w_3 hx (c_FnExactSameLife (((r_0_0.keep k_1).keep k_2).keep k_3) n_0_0 (all64 b0_0) l_0_0 ((r_0_1.keep k_2).keep k_3) n_0_1 (all64 b0_1) l_0_1 (r_1_0.keep k_3) n_1_0 (all64 b1_0) l_1_0 r_1_1 n_1_1 (all64 b1_1) l_1_1)).mono fun e W' ⟨he, bel⟩ => ?_
  subst he
  exact ⟨_, rfl, _, _, _, [], _, [], hW', trodAll_mk1 (shut_bool Try.underlying4 _), (trodAll_cons_mk (Below.trod laidOut (by kernel_rfl) (of_decide_eq_true (by kernel_rfl)) k0 bel lt0) (trodAll_cons_mk (Below.trod laidOut (by kernel_rfl) (of_decide_eq_true (by kernel_rfl)) k1 bel lt1) trodAll_mk0)), rfl, bel.frame _, fun h => by cases h⟩
theorem over : Rows.fnExactSameLifeRow.holds Try.pinned (OpenSpec.ofChange Rows.fnExactSameLifeSpec) :=
  OpenClaim.holds_of_wide 4 Try.f4 rfl rfl rfl rfl rfl rfl rfl ⟨rfl, rfl, rfl, rfl, rfl⟩ rfl rfl rfl rfl rfl (by kernel_rfl) Try.func4 (by kernel_rfl)
    (of_decide_eq_true (by kernel_rfl)) (by unfold Func.isWrapper; first | (rw [if_pos (by decide +kernel)]; kernel_rfl) | (rw [if_neg (by decide +kernel)]; exact ⟨rfl, rfl⟩))
    (fun os started H enc _ => lifted os started H enc)
theorem proved : Rows.FnExactSameLifeSaid := over
#print axioms proved
end Go.Proofs.Ythdaoanapklaiaa.fnExactSameLife
namespace Go.Proofs.Ythdaoanapklaiaa
/-- The row, under a short name, for the claim. -/
theorem fnExactSameLife_holds : Rows.FnExactSameLifeSaid := fnExactSameLife.proved
end Go.Proofs.Ythdaoanapklaiaa
