/-
  No cell of these rows narrows 'for every input' (looked for: loops, veiled, ifaces, maps, wideKeys, modest, calm, conditions, laid).
  DERIVED. THE GIVEN ROWS OF THIS SEAT. 12 by the template 'for every input the law returns true; each argument reads behind the call as it read before'; 0 by the template 'total and deterministic' (their statements: YtblidekcilkcjaaTotals.lean).
  GIVEN WITH THE SEED: the statements are not yours to turn. If you find one false, say at which input.
  Laid BY PROGRAM, IN A SANDBOX (cutbox-rows.mjs): the forced cells as the released guide's own fill.sh prints them over the translation e87c61419e9fb0f4… (all of the seat's roots in one cut). By AI agents, Wed Nov 11 2026. No macro, syntax, notation, axiom, sorry.
-/
import Derived.Test.YtblidekcilkcjaaChecked
import GoSem.Claim
import GoSem.ClaimJoined
import GoSem.ClaimMapViews
import Derived.JoinedTies
import Derived.KernelRfl
namespace Go.Proofs.Ytblidekcilkcjaa
/- THE CELL 'sum', in the pinned program and in every row, IS THE sha256 OF THE DUMP (.gsa) THAT YtblidekcilkcjaaProg.lean LOADS. Nothing in Lean hashes anything: it is a label: what it is worth is what the hold of that sum in a sandbox is worth. -/
noncomputable def Try.pinned : Pinned := { name := "ytblidekcilkcjaa", sum := "e87c61419e9fb0f4ab58aca4963e90d335d9ebb6d47782469ae6bb29ecf19905", checked := Try.checked }
namespace Rows
def none {H : Type} : Left H := { results := [], args := [] }

/-- 'laws.FnExactDrawField': WHATEVER THE INPUT: true; the input reads as it did. -/
def fnExactDrawFieldSpec : ChangeSpec := { name := "fnExactDrawField", fn := fun _ => fun
  | [d1, d2, d3, d4] => { results := [.lit (.bool true)], args := [d1, d2, d3, d4] }
  | _ => none }
def fnExactDrawFieldRow : OpenClaim := { program := "ytblidekcilkcjaa", sum := "e87c61419e9fb0f4ab58aca4963e90d335d9ebb6d47782469ae6bb29ecf19905", func := "loop.example/g01381/laws.FnExactDrawField", spec := "fnExactDrawField", unfollowed := true, recurses := true, apart := false }
def FnExactDrawFieldSaid : Prop := fnExactDrawFieldRow.holds Try.pinned (OpenSpec.ofChange fnExactDrawFieldSpec)

/-- ITS FALSE NEIGHBOUR: 'it returns false'. Refute it at one input. -/
def fnExactDrawFieldWrong : ChangeSpec := { name := "fnExactDrawField", fn := fun _ => fun
  | [d1, d2, d3, d4] => { results := [.lit (.bool false)], args := [d1, d2, d3, d4] }
  | _ => none }
def FnExactDrawFieldWrongFalsely : Prop := fnExactDrawFieldRow.holds Try.pinned (OpenSpec.ofChange fnExactDrawFieldWrong)

/-- 'laws.FnExactCountCells': WHATEVER THE INPUT: true; the input reads as it did. -/
def fnExactCountCellsSpec : ChangeSpec := { name := "fnExactCountCells", fn := fun _ => fun
  | [d1, d2] => { results := [.lit (.bool true)], args := [d1, d2] }
  | _ => none }
def fnExactCountCellsRow : OpenClaim := { program := "ytblidekcilkcjaa", sum := "e87c61419e9fb0f4ab58aca4963e90d335d9ebb6d47782469ae6bb29ecf19905", func := "loop.example/g01381/laws.FnExactCountCells", spec := "fnExactCountCells", apart := false }
def FnExactCountCellsSaid : Prop := fnExactCountCellsRow.holds Try.pinned (OpenSpec.ofChange fnExactCountCellsSpec)

/-- ITS FALSE NEIGHBOUR: 'it returns false'. Refute it at one input. -/
def fnExactCountCellsWrong : ChangeSpec := { name := "fnExactCountCells", fn := fun _ => fun
  | [d1, d2] => { results := [.lit (.bool false)], args := [d1, d2] }
  | _ => none }
def FnExactCountCellsWrongFalsely : Prop := fnExactCountCellsRow.holds Try.pinned (OpenSpec.ofChange fnExactCountCellsWrong)

/-- 'laws.FnExactCellsApart': WHATEVER THE INPUT: true; the input reads as it did. -/
def fnExactCellsApartSpec : ChangeSpec := { name := "fnExactCellsApart", fn := fun _ => fun
  | [d1, d2] => { results := [.lit (.bool true)], args := [d1, d2] }
  | _ => none }
def fnExactCellsApartRow : OpenClaim := { program := "ytblidekcilkcjaa", sum := "e87c61419e9fb0f4ab58aca4963e90d335d9ebb6d47782469ae6bb29ecf19905", func := "loop.example/g01381/laws.FnExactCellsApart", spec := "fnExactCellsApart", apart := false }
def FnExactCellsApartSaid : Prop := fnExactCellsApartRow.holds Try.pinned (OpenSpec.ofChange fnExactCellsApartSpec)

/-- ITS FALSE NEIGHBOUR: 'it returns false'. Refute it at one input. -/
def fnExactCellsApartWrong : ChangeSpec := { name := "fnExactCellsApart", fn := fun _ => fun
  | [d1, d2] => { results := [.lit (.bool false)], args := [d1, d2] }
  | _ => none }
def FnExactCellsApartWrongFalsely : Prop := fnExactCellsApartRow.holds Try.pinned (OpenSpec.ofChange fnExactCellsApartWrong)

/-- 'laws.FnExactMirrorField': WHATEVER THE INPUT: true; the input reads as it did. -/
def fnExactMirrorFieldSpec : ChangeSpec := { name := "fnExactMirrorField", fn := fun _ => fun
  | [d] => { results := [.lit (.bool true)], args := [d] }
  | _ => none }
def fnExactMirrorFieldRow : OpenClaim := { program := "ytblidekcilkcjaa", sum := "e87c61419e9fb0f4ab58aca4963e90d335d9ebb6d47782469ae6bb29ecf19905", func := "loop.example/g01381/laws.FnExactMirrorField", spec := "fnExactMirrorField", unfollowed := true, recurses := true, apart := false }
def FnExactMirrorFieldSaid : Prop := fnExactMirrorFieldRow.holds Try.pinned (OpenSpec.ofChange fnExactMirrorFieldSpec)

/-- ITS FALSE NEIGHBOUR: 'it returns false'. Refute it at one input. -/
def fnExactMirrorFieldWrong : ChangeSpec := { name := "fnExactMirrorField", fn := fun _ => fun
  | [d] => { results := [.lit (.bool false)], args := [d] }
  | _ => none }
def FnExactMirrorFieldWrongFalsely : Prop := fnExactMirrorFieldRow.holds Try.pinned (OpenSpec.ofChange fnExactMirrorFieldWrong)

/-- 'laws.FnExactTurnField': WHATEVER THE INPUT: true; the input reads as it did. -/
def fnExactTurnFieldSpec : ChangeSpec := { name := "fnExactTurnField", fn := fun _ => fun
  | [d] => { results := [.lit (.bool true)], args := [d] }
  | _ => none }
def fnExactTurnFieldRow : OpenClaim := { program := "ytblidekcilkcjaa", sum := "e87c61419e9fb0f4ab58aca4963e90d335d9ebb6d47782469ae6bb29ecf19905", func := "loop.example/g01381/laws.FnExactTurnField", spec := "fnExactTurnField", unfollowed := true, recurses := true, apart := false }
def FnExactTurnFieldSaid : Prop := fnExactTurnFieldRow.holds Try.pinned (OpenSpec.ofChange fnExactTurnFieldSpec)

/-- ITS FALSE NEIGHBOUR: 'it returns false'. Refute it at one input. -/
def fnExactTurnFieldWrong : ChangeSpec := { name := "fnExactTurnField", fn := fun _ => fun
  | [d] => { results := [.lit (.bool false)], args := [d] }
  | _ => none }
def FnExactTurnFieldWrongFalsely : Prop := fnExactTurnFieldRow.holds Try.pinned (OpenSpec.ofChange fnExactTurnFieldWrong)

/-- 'laws.FnExactCutField': WHATEVER THE INPUT: true; the input reads as it did. -/
def fnExactCutFieldSpec : ChangeSpec := { name := "fnExactCutField", fn := fun _ => fun
  | [d1, d2, d3, d4, d5] => { results := [.lit (.bool true)], args := [d1, d2, d3, d4, d5] }
  | _ => none }
def fnExactCutFieldRow : OpenClaim := { program := "ytblidekcilkcjaa", sum := "e87c61419e9fb0f4ab58aca4963e90d335d9ebb6d47782469ae6bb29ecf19905", func := "loop.example/g01381/laws.FnExactCutField", spec := "fnExactCutField", unfollowed := true, recurses := true, apart := false }
def FnExactCutFieldSaid : Prop := fnExactCutFieldRow.holds Try.pinned (OpenSpec.ofChange fnExactCutFieldSpec)

/-- ITS FALSE NEIGHBOUR: 'it returns false'. Refute it at one input. -/
def fnExactCutFieldWrong : ChangeSpec := { name := "fnExactCutField", fn := fun _ => fun
  | [d1, d2, d3, d4, d5] => { results := [.lit (.bool false)], args := [d1, d2, d3, d4, d5] }
  | _ => none }
def FnExactCutFieldWrongFalsely : Prop := fnExactCutFieldRow.holds Try.pinned (OpenSpec.ofChange fnExactCutFieldWrong)

/-- 'laws.FnExactPasteField': WHATEVER THE INPUT: true; the input reads as it did. -/
def fnExactPasteFieldSpec : ChangeSpec := { name := "fnExactPasteField", fn := fun _ => fun
  | [d1, d2, d3, d4] => { results := [.lit (.bool true)], args := [d1, d2, d3, d4] }
  | _ => none }
def fnExactPasteFieldRow : OpenClaim := { program := "ytblidekcilkcjaa", sum := "e87c61419e9fb0f4ab58aca4963e90d335d9ebb6d47782469ae6bb29ecf19905", func := "loop.example/g01381/laws.FnExactPasteField", spec := "fnExactPasteField", unfollowed := true, recurses := true, apart := false }
def FnExactPasteFieldSaid : Prop := fnExactPasteFieldRow.holds Try.pinned (OpenSpec.ofChange fnExactPasteFieldSpec)

/-- ITS FALSE NEIGHBOUR: 'it returns false'. Refute it at one input. -/
def fnExactPasteFieldWrong : ChangeSpec := { name := "fnExactPasteField", fn := fun _ => fun
  | [d1, d2, d3, d4] => { results := [.lit (.bool false)], args := [d1, d2, d3, d4] }
  | _ => none }
def FnExactPasteFieldWrongFalsely : Prop := fnExactPasteFieldRow.holds Try.pinned (OpenSpec.ofChange fnExactPasteFieldWrong)

/-- 'laws.FnExactShiftField': WHATEVER THE INPUT: true; the input reads as it did. -/
def fnExactShiftFieldSpec : ChangeSpec := { name := "fnExactShiftField", fn := fun _ => fun
  | [d1, d2, d3] => { results := [.lit (.bool true)], args := [d1, d2, d3] }
  | _ => none }
def fnExactShiftFieldRow : OpenClaim := { program := "ytblidekcilkcjaa", sum := "e87c61419e9fb0f4ab58aca4963e90d335d9ebb6d47782469ae6bb29ecf19905", func := "loop.example/g01381/laws.FnExactShiftField", spec := "fnExactShiftField", unfollowed := true, recurses := true, apart := false }
def FnExactShiftFieldSaid : Prop := fnExactShiftFieldRow.holds Try.pinned (OpenSpec.ofChange fnExactShiftFieldSpec)

/-- ITS FALSE NEIGHBOUR: 'it returns false'. Refute it at one input. -/
def fnExactShiftFieldWrong : ChangeSpec := { name := "fnExactShiftField", fn := fun _ => fun
  | [d1, d2, d3] => { results := [.lit (.bool false)], args := [d1, d2, d3] }
  | _ => none }
def FnExactShiftFieldWrongFalsely : Prop := fnExactShiftFieldRow.holds Try.pinned (OpenSpec.ofChange fnExactShiftFieldWrong)

/-- 'laws.FnExactRunAnt': WHATEVER THE INPUT: true; the input reads as it did. -/
def fnExactRunAntSpec : ChangeSpec := { name := "fnExactRunAnt", fn := fun _ => fun
  | [d1, d2, d3, d4, d5] => { results := [.lit (.bool true)], args := [d1, d2, d3, d4, d5] }
  | _ => none }
def fnExactRunAntRow : OpenClaim := { program := "ytblidekcilkcjaa", sum := "e87c61419e9fb0f4ab58aca4963e90d335d9ebb6d47782469ae6bb29ecf19905", func := "loop.example/g01381/laws.FnExactRunAnt", spec := "fnExactRunAnt", apart := false }
def FnExactRunAntSaid : Prop := fnExactRunAntRow.holds Try.pinned (OpenSpec.ofChange fnExactRunAntSpec)

/-- ITS FALSE NEIGHBOUR: 'it returns false'. Refute it at one input. -/
def fnExactRunAntWrong : ChangeSpec := { name := "fnExactRunAnt", fn := fun _ => fun
  | [d1, d2, d3, d4, d5] => { results := [.lit (.bool false)], args := [d1, d2, d3, d4, d5] }
  | _ => none }
def FnExactRunAntWrongFalsely : Prop := fnExactRunAntRow.holds Try.pinned (OpenSpec.ofChange fnExactRunAntWrong)

/-- 'laws.FnExactClustersOf': WHATEVER THE INPUT: true; the input reads as it did. -/
def fnExactClustersOfSpec : ChangeSpec := { name := "fnExactClustersOf", fn := fun _ => fun
  | [d] => { results := [.lit (.bool true)], args := [d] }
  | _ => none }
def fnExactClustersOfRow : OpenClaim := { program := "ytblidekcilkcjaa", sum := "e87c61419e9fb0f4ab58aca4963e90d335d9ebb6d47782469ae6bb29ecf19905", func := "loop.example/g01381/laws.FnExactClustersOf", spec := "fnExactClustersOf", unfollowed := true, recurses := true, apart := false }
def FnExactClustersOfSaid : Prop := fnExactClustersOfRow.holds Try.pinned (OpenSpec.ofChange fnExactClustersOfSpec)

/-- ITS FALSE NEIGHBOUR: 'it returns false'. Refute it at one input. -/
def fnExactClustersOfWrong : ChangeSpec := { name := "fnExactClustersOf", fn := fun _ => fun
  | [d] => { results := [.lit (.bool false)], args := [d] }
  | _ => none }
def FnExactClustersOfWrongFalsely : Prop := fnExactClustersOfRow.holds Try.pinned (OpenSpec.ofChange fnExactClustersOfWrong)

/-- 'laws.FnExactFireStep': WHATEVER THE INPUT: true; the input reads as it did. -/
def fnExactFireStepSpec : ChangeSpec := { name := "fnExactFireStep", fn := fun _ => fun
  | [d] => { results := [.lit (.bool true)], args := [d] }
  | _ => none }
def fnExactFireStepRow : OpenClaim := { program := "ytblidekcilkcjaa", sum := "e87c61419e9fb0f4ab58aca4963e90d335d9ebb6d47782469ae6bb29ecf19905", func := "loop.example/g01381/laws.FnExactFireStep", spec := "fnExactFireStep", unfollowed := true, recurses := true, apart := false }
def FnExactFireStepSaid : Prop := fnExactFireStepRow.holds Try.pinned (OpenSpec.ofChange fnExactFireStepSpec)

/-- ITS FALSE NEIGHBOUR: 'it returns false'. Refute it at one input. -/
def fnExactFireStepWrong : ChangeSpec := { name := "fnExactFireStep", fn := fun _ => fun
  | [d] => { results := [.lit (.bool false)], args := [d] }
  | _ => none }
def FnExactFireStepWrongFalsely : Prop := fnExactFireStepRow.holds Try.pinned (OpenSpec.ofChange fnExactFireStepWrong)

/-- 'laws.FnExactBlockStep': WHATEVER THE INPUT: true; the input reads as it did. -/
def fnExactBlockStepSpec : ChangeSpec := { name := "fnExactBlockStep", fn := fun _ => fun
  | [d1, d2, d3] => { results := [.lit (.bool true)], args := [d1, d2, d3] }
  | _ => none }
def fnExactBlockStepRow : OpenClaim := { program := "ytblidekcilkcjaa", sum := "e87c61419e9fb0f4ab58aca4963e90d335d9ebb6d47782469ae6bb29ecf19905", func := "loop.example/g01381/laws.FnExactBlockStep", spec := "fnExactBlockStep", unfollowed := true, recurses := true, apart := false }
def FnExactBlockStepSaid : Prop := fnExactBlockStepRow.holds Try.pinned (OpenSpec.ofChange fnExactBlockStepSpec)

/-- ITS FALSE NEIGHBOUR: 'it returns false'. Refute it at one input. -/
def fnExactBlockStepWrong : ChangeSpec := { name := "fnExactBlockStep", fn := fun _ => fun
  | [d1, d2, d3] => { results := [.lit (.bool false)], args := [d1, d2, d3] }
  | _ => none }
def FnExactBlockStepWrongFalsely : Prop := fnExactBlockStepRow.holds Try.pinned (OpenSpec.ofChange fnExactBlockStepWrong)

/- THE SECOND FORM. 'bulk': how many values and letters a reading holds, each counted each time it is reached (what is shared counts as often as it is met; a slice's spare places count too). A statement '..UptoSaid' is the law's where the arguments, and the package variables that the reading takes, are together of bulk at most 1048576: NARROWER than '..Said'. Prove '..Said' where nothing that the law and all that it calls make is longer than what came in: it says more and counts as full. Else prove '..UptoSaid'. A law counts once. -/
mutual
def uptoBulk {H : Type} : DataW H → Nat
  | .lit (.string bytes) => bytes.length + 1
  | .lit _ => 1
  | .nil => 1
  | .ptr d => uptoBulk d + 1
  | .slice elems spare => uptoBulkAll elems + uptoBulkAll spare + 1
  | .agg parts => uptoBulkAll parts + 1
  | .iface _ d => uptoBulk d + 1
  | .map entries => uptoBulkEntries entries + 1
  | .held _ => 1
def uptoBulkAll {H : Type} : List (DataW H) → Nat
  | [] => 0
  | d :: r => uptoBulk d + uptoBulkAll r
def uptoBulkEntries {H : Type} : List (Lit × DataW H) → Nat
  | [] => 0
  | x :: r => uptoBulkEntry x + uptoBulkEntries r
def uptoBulkEntry {H : Type} : Lit × DataW H → Nat
  | (.string bytes, d) => bytes.length + uptoBulk d + 1
  | (_, d) => uptoBulk d + 1
 end
def uptoSmall : (H : Type) → List (DataW H) → Bool := fun _ ds => decide (uptoBulkAll ds ≤ 1048576)
def OpenSpec.upto (s : _root_.Go.ChangeSpec) : _root_.Go.OpenSpec := { _root_.Go.OpenSpec.ofChange s with cond := some uptoSmall }

/-- 'laws.FnExactDrawField', WHERE WHAT IT READS IS OF BULK AT MOST 1048576: true; the input reads as it did. -/
def fnExactDrawFieldUptoRow : OpenClaim := { program := "ytblidekcilkcjaa", sum := "e87c61419e9fb0f4ab58aca4963e90d335d9ebb6d47782469ae6bb29ecf19905", func := "loop.example/g01381/laws.FnExactDrawField", spec := "fnExactDrawField", unfollowed := true, recurses := true, apart := false, narrowed := true }
def FnExactDrawFieldUptoSaid : Prop := fnExactDrawFieldUptoRow.holds Try.pinned (OpenSpec.upto fnExactDrawFieldSpec)

/-- 'laws.FnExactCountCells', WHERE WHAT IT READS IS OF BULK AT MOST 1048576: true; the input reads as it did. -/
def fnExactCountCellsUptoRow : OpenClaim := { program := "ytblidekcilkcjaa", sum := "e87c61419e9fb0f4ab58aca4963e90d335d9ebb6d47782469ae6bb29ecf19905", func := "loop.example/g01381/laws.FnExactCountCells", spec := "fnExactCountCells", apart := false, narrowed := true }
def FnExactCountCellsUptoSaid : Prop := fnExactCountCellsUptoRow.holds Try.pinned (OpenSpec.upto fnExactCountCellsSpec)

/-- 'laws.FnExactCellsApart', WHERE WHAT IT READS IS OF BULK AT MOST 1048576: true; the input reads as it did. -/
def fnExactCellsApartUptoRow : OpenClaim := { program := "ytblidekcilkcjaa", sum := "e87c61419e9fb0f4ab58aca4963e90d335d9ebb6d47782469ae6bb29ecf19905", func := "loop.example/g01381/laws.FnExactCellsApart", spec := "fnExactCellsApart", apart := false, narrowed := true }
def FnExactCellsApartUptoSaid : Prop := fnExactCellsApartUptoRow.holds Try.pinned (OpenSpec.upto fnExactCellsApartSpec)

/-- 'laws.FnExactMirrorField', WHERE WHAT IT READS IS OF BULK AT MOST 1048576: true; the input reads as it did. -/
def fnExactMirrorFieldUptoRow : OpenClaim := { program := "ytblidekcilkcjaa", sum := "e87c61419e9fb0f4ab58aca4963e90d335d9ebb6d47782469ae6bb29ecf19905", func := "loop.example/g01381/laws.FnExactMirrorField", spec := "fnExactMirrorField", unfollowed := true, recurses := true, apart := false, narrowed := true }
def FnExactMirrorFieldUptoSaid : Prop := fnExactMirrorFieldUptoRow.holds Try.pinned (OpenSpec.upto fnExactMirrorFieldSpec)

/-- 'laws.FnExactTurnField', WHERE WHAT IT READS IS OF BULK AT MOST 1048576: true; the input reads as it did. -/
def fnExactTurnFieldUptoRow : OpenClaim := { program := "ytblidekcilkcjaa", sum := "e87c61419e9fb0f4ab58aca4963e90d335d9ebb6d47782469ae6bb29ecf19905", func := "loop.example/g01381/laws.FnExactTurnField", spec := "fnExactTurnField", unfollowed := true, recurses := true, apart := false, narrowed := true }
def FnExactTurnFieldUptoSaid : Prop := fnExactTurnFieldUptoRow.holds Try.pinned (OpenSpec.upto fnExactTurnFieldSpec)

/-- 'laws.FnExactCutField', WHERE WHAT IT READS IS OF BULK AT MOST 1048576: true; the input reads as it did. -/
def fnExactCutFieldUptoRow : OpenClaim := { program := "ytblidekcilkcjaa", sum := "e87c61419e9fb0f4ab58aca4963e90d335d9ebb6d47782469ae6bb29ecf19905", func := "loop.example/g01381/laws.FnExactCutField", spec := "fnExactCutField", unfollowed := true, recurses := true, apart := false, narrowed := true }
def FnExactCutFieldUptoSaid : Prop := fnExactCutFieldUptoRow.holds Try.pinned (OpenSpec.upto fnExactCutFieldSpec)

/-- 'laws.FnExactPasteField', WHERE WHAT IT READS IS OF BULK AT MOST 1048576: true; the input reads as it did. -/
def fnExactPasteFieldUptoRow : OpenClaim := { program := "ytblidekcilkcjaa", sum := "e87c61419e9fb0f4ab58aca4963e90d335d9ebb6d47782469ae6bb29ecf19905", func := "loop.example/g01381/laws.FnExactPasteField", spec := "fnExactPasteField", unfollowed := true, recurses := true, apart := false, narrowed := true }
def FnExactPasteFieldUptoSaid : Prop := fnExactPasteFieldUptoRow.holds Try.pinned (OpenSpec.upto fnExactPasteFieldSpec)

/-- 'laws.FnExactShiftField', WHERE WHAT IT READS IS OF BULK AT MOST 1048576: true; the input reads as it did. -/
def fnExactShiftFieldUptoRow : OpenClaim := { program := "ytblidekcilkcjaa", sum := "e87c61419e9fb0f4ab58aca4963e90d335d9ebb6d47782469ae6bb29ecf19905", func := "loop.example/g01381/laws.FnExactShiftField", spec := "fnExactShiftField", unfollowed := true, recurses := true, apart := false, narrowed := true }
def FnExactShiftFieldUptoSaid : Prop := fnExactShiftFieldUptoRow.holds Try.pinned (OpenSpec.upto fnExactShiftFieldSpec)

/-- 'laws.FnExactRunAnt', WHERE WHAT IT READS IS OF BULK AT MOST 1048576: true; the input reads as it did. -/
def fnExactRunAntUptoRow : OpenClaim := { program := "ytblidekcilkcjaa", sum := "e87c61419e9fb0f4ab58aca4963e90d335d9ebb6d47782469ae6bb29ecf19905", func := "loop.example/g01381/laws.FnExactRunAnt", spec := "fnExactRunAnt", apart := false, narrowed := true }
def FnExactRunAntUptoSaid : Prop := fnExactRunAntUptoRow.holds Try.pinned (OpenSpec.upto fnExactRunAntSpec)

/-- 'laws.FnExactClustersOf', WHERE WHAT IT READS IS OF BULK AT MOST 1048576: true; the input reads as it did. -/
def fnExactClustersOfUptoRow : OpenClaim := { program := "ytblidekcilkcjaa", sum := "e87c61419e9fb0f4ab58aca4963e90d335d9ebb6d47782469ae6bb29ecf19905", func := "loop.example/g01381/laws.FnExactClustersOf", spec := "fnExactClustersOf", unfollowed := true, recurses := true, apart := false, narrowed := true }
def FnExactClustersOfUptoSaid : Prop := fnExactClustersOfUptoRow.holds Try.pinned (OpenSpec.upto fnExactClustersOfSpec)

/-- 'laws.FnExactFireStep', WHERE WHAT IT READS IS OF BULK AT MOST 1048576: true; the input reads as it did. -/
def fnExactFireStepUptoRow : OpenClaim := { program := "ytblidekcilkcjaa", sum := "e87c61419e9fb0f4ab58aca4963e90d335d9ebb6d47782469ae6bb29ecf19905", func := "loop.example/g01381/laws.FnExactFireStep", spec := "fnExactFireStep", unfollowed := true, recurses := true, apart := false, narrowed := true }
def FnExactFireStepUptoSaid : Prop := fnExactFireStepUptoRow.holds Try.pinned (OpenSpec.upto fnExactFireStepSpec)

/-- 'laws.FnExactBlockStep', WHERE WHAT IT READS IS OF BULK AT MOST 1048576: true; the input reads as it did. -/
def fnExactBlockStepUptoRow : OpenClaim := { program := "ytblidekcilkcjaa", sum := "e87c61419e9fb0f4ab58aca4963e90d335d9ebb6d47782469ae6bb29ecf19905", func := "loop.example/g01381/laws.FnExactBlockStep", spec := "fnExactBlockStep", unfollowed := true, recurses := true, apart := false, narrowed := true }
def FnExactBlockStepUptoSaid : Prop := fnExactBlockStepUptoRow.holds Try.pinned (OpenSpec.upto fnExactBlockStepSpec)

end Rows
end Go.Proofs.Ytblidekcilkcjaa
