/-
  No cell of these rows narrows 'for every input' (looked for: loops, veiled, ifaces, maps, wideKeys, modest, calm, conditions, laid).
  DERIVED. THE GIVEN ROWS OF THIS SEAT. 3 by the template 'for every input the law returns true; each argument reads behind the call as it read before'; 0 by the template 'total and deterministic' (their statements: YtlhidckolillaaaTotals.lean).
  GIVEN WITH THE SEED: the statements are not yours to turn. If you find one false, say at which input.
  Laid BY PROGRAM, IN A SANDBOX (cutbox-rows.mjs): the forced cells as the released guide's own fill.sh prints them over the translation e338038c5116638b… (all of the seat's roots in one cut). By AI agents, Wed Nov 11 2026. No macro, syntax, notation, axiom, sorry.
-/
import Derived.Test.YtlhidckolillaaaChecked
import GoSem.Claim
import GoSem.ClaimJoined
import GoSem.ClaimMapViews
import Derived.JoinedTies
import Derived.KernelRfl
namespace Go.Proofs.Ytlhidckolillaaa
/- THE CELL 'sum', in the pinned program and in every row, IS THE sha256 OF THE DUMP (.gsa) THAT YtlhidckolillaaaProg.lean LOADS. Nothing in Lean hashes anything: it is a label: what it is worth is what the hold of that sum in a sandbox is worth. -/
noncomputable def Try.pinned : Pinned := { name := "ytlhidckolillaaa", sum := "e338038c5116638b710a43ad2630b18b1a6c2865ed1640b6220997912d85c102", checked := Try.checked }
namespace Rows
def none {H : Type} : Left H := { results := [], args := [] }

/-- 'laws.FnExactBlockStep': WHATEVER THE INPUT: true; the input reads as it did. -/
def fnExactBlockStepSpec : ChangeSpec := { name := "fnExactBlockStep", fn := fun _ => fun
  | [d1, d2, d3] => { results := [.lit (.bool true)], args := [d1, d2, d3] }
  | _ => none }
def fnExactBlockStepRow : OpenClaim := { program := "ytlhidckolillaaa", sum := "e338038c5116638b710a43ad2630b18b1a6c2865ed1640b6220997912d85c102", func := "loop.example/g01381/laws.FnExactBlockStep", spec := "fnExactBlockStep", unfollowed := true, recurses := true, apart := false }
def FnExactBlockStepSaid : Prop := fnExactBlockStepRow.holds Try.pinned (OpenSpec.ofChange fnExactBlockStepSpec)

/-- ITS FALSE NEIGHBOUR: 'it returns false'. Refute it at one input. -/
def fnExactBlockStepWrong : ChangeSpec := { name := "fnExactBlockStep", fn := fun _ => fun
  | [d1, d2, d3] => { results := [.lit (.bool false)], args := [d1, d2, d3] }
  | _ => none }
def FnExactBlockStepWrongFalsely : Prop := fnExactBlockStepRow.holds Try.pinned (OpenSpec.ofChange fnExactBlockStepWrong)

/-- 'laws.FnLivesMoved': WHATEVER THE INPUT: true; the input reads as it did. -/
def fnLivesMovedSpec : ChangeSpec := { name := "fnLivesMoved", fn := fun _ => fun
  | [d1, d2] => { results := [.lit (.bool true)], args := [d1, d2] }
  | _ => none }
def fnLivesMovedRow : OpenClaim := { program := "ytlhidckolillaaa", sum := "e338038c5116638b710a43ad2630b18b1a6c2865ed1640b6220997912d85c102", func := "loop.example/g01381/laws.FnLivesMoved", spec := "fnLivesMoved", unfollowed := true, recurses := true, apart := false }
def FnLivesMovedSaid : Prop := fnLivesMovedRow.holds Try.pinned (OpenSpec.ofChange fnLivesMovedSpec)

/-- ITS FALSE NEIGHBOUR: 'it returns false'. Refute it at one input. -/
def fnLivesMovedWrong : ChangeSpec := { name := "fnLivesMoved", fn := fun _ => fun
  | [d1, d2] => { results := [.lit (.bool false)], args := [d1, d2] }
  | _ => none }
def FnLivesMovedWrongFalsely : Prop := fnLivesMovedRow.holds Try.pinned (OpenSpec.ofChange fnLivesMovedWrong)

/-- 'laws.FnBlocks': WHATEVER THE INPUT: true; the input reads as it did. -/
def fnBlocksSpec : ChangeSpec := { name := "fnBlocks", fn := fun _ => fun
  | [d1, d2] => { results := [.lit (.bool true)], args := [d1, d2] }
  | _ => none }
def fnBlocksRow : OpenClaim := { program := "ytlhidckolillaaa", sum := "e338038c5116638b710a43ad2630b18b1a6c2865ed1640b6220997912d85c102", func := "loop.example/g01381/laws.FnBlocks", spec := "fnBlocks", unfollowed := true, recurses := true, apart := false }
def FnBlocksSaid : Prop := fnBlocksRow.holds Try.pinned (OpenSpec.ofChange fnBlocksSpec)

/-- ITS FALSE NEIGHBOUR: 'it returns false'. Refute it at one input. -/
def fnBlocksWrong : ChangeSpec := { name := "fnBlocks", fn := fun _ => fun
  | [d1, d2] => { results := [.lit (.bool false)], args := [d1, d2] }
  | _ => none }
def FnBlocksWrongFalsely : Prop := fnBlocksRow.holds Try.pinned (OpenSpec.ofChange fnBlocksWrong)

/- THE SECOND FORM. 'bulk': how many values and letters a reading holds, each counted each time it is reached (what is shared counts as often as it is met; a slice's spare places count too). A statement '..UptoSaid' is the law's where the arguments, and the package variables that the reading takes, are together of bulk at most 1048576: NARROWER than '..Said'. Prove '..Said' where nothing that the law and all that it calls make is longer than what came in: it says more and counts as full. Else prove '..UptoSaid'. A law counts once. -/
mutual
def uptoBulk {H : Type} : DataW H → Nat
  | .lit (.string bytes) => bytes.length + 1
  | .lit _ => 1
  | .nil => 1
  | .ptr d => uptoBulk d + 1
  | .slice elems spare => uptoBulkAll elems + uptoBulkAll spare + 1
  | .agg parts => uptoBulkAll parts + 1
  | .iface _ d => uptoBulk d + 1
  | .map entries => uptoBulkEntries entries + 1
  | .held _ => 1
def uptoBulkAll {H : Type} : List (DataW H) → Nat
  | [] => 0
  | d :: r => uptoBulk d + uptoBulkAll r
def uptoBulkEntries {H : Type} : List (Lit × DataW H) → Nat
  | [] => 0
  | x :: r => uptoBulkEntry x + uptoBulkEntries r
def uptoBulkEntry {H : Type} : Lit × DataW H → Nat
  | (.string bytes, d) => bytes.length + uptoBulk d + 1
  | (_, d) => uptoBulk d + 1
 end
def uptoSmall : (H : Type) → List (DataW H) → Bool := fun _ ds => decide (uptoBulkAll ds ≤ 1048576)
def OpenSpec.upto (s : _root_.Go.ChangeSpec) : _root_.Go.OpenSpec := { _root_.Go.OpenSpec.ofChange s with cond := some uptoSmall }

/-- 'laws.FnExactBlockStep', WHERE WHAT IT READS IS OF BULK AT MOST 1048576: true; the input reads as it did. -/
def fnExactBlockStepUptoRow : OpenClaim := { program := "ytlhidckolillaaa", sum := "e338038c5116638b710a43ad2630b18b1a6c2865ed1640b6220997912d85c102", func := "loop.example/g01381/laws.FnExactBlockStep", spec := "fnExactBlockStep", unfollowed := true, recurses := true, apart := false, narrowed := true }
def FnExactBlockStepUptoSaid : Prop := fnExactBlockStepUptoRow.holds Try.pinned (OpenSpec.upto fnExactBlockStepSpec)

/-- 'laws.FnLivesMoved', WHERE WHAT IT READS IS OF BULK AT MOST 1048576: true; the input reads as it did. -/
def fnLivesMovedUptoRow : OpenClaim := { program := "ytlhidckolillaaa", sum := "e338038c5116638b710a43ad2630b18b1a6c2865ed1640b6220997912d85c102", func := "loop.example/g01381/laws.FnLivesMoved", spec := "fnLivesMoved", unfollowed := true, recurses := true, apart := false, narrowed := true }
def FnLivesMovedUptoSaid : Prop := fnLivesMovedUptoRow.holds Try.pinned (OpenSpec.upto fnLivesMovedSpec)

/-- 'laws.FnBlocks', WHERE WHAT IT READS IS OF BULK AT MOST 1048576: true; the input reads as it did. -/
def fnBlocksUptoRow : OpenClaim := { program := "ytlhidckolillaaa", sum := "e338038c5116638b710a43ad2630b18b1a6c2865ed1640b6220997912d85c102", func := "loop.example/g01381/laws.FnBlocks", spec := "fnBlocks", unfollowed := true, recurses := true, apart := false, narrowed := true }
def FnBlocksUptoSaid : Prop := fnBlocksUptoRow.holds Try.pinned (OpenSpec.upto fnBlocksSpec)

end Rows
end Go.Proofs.Ytlhidckolillaaa
