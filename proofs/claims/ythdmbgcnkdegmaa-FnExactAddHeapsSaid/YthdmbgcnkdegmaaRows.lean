/-
  No cell of these rows narrows 'for every input' (looked for: loops, veiled, ifaces, maps, wideKeys, modest, calm, conditions, laid).
  DERIVED. THE GIVEN ROWS OF THIS SEAT. 12 by the template 'for every input the law returns true; each argument reads behind the call as it read before'; 0 by the template 'total and deterministic' (their statements: YthdmbgcnkdegmaaTotals.lean).
  GIVEN WITH THE SEED: the statements are not yours to turn. If you find one false, say at which input.
  Laid BY PROGRAM, IN A SANDBOX (cutbox-rows.mjs): the forced cells as the released guide's own fill.sh prints them over the translation 9ec110738d21d1c0… (all of the seat's roots in one cut). By AI agents, Wed Nov 11 2026. No macro, syntax, notation, axiom, sorry.
-/
import Derived.Test.YthdmbgcnkdegmaaChecked
import GoSem.Claim
import GoSem.ClaimJoined
import GoSem.ClaimMapViews
import Derived.JoinedTies
import Derived.KernelRfl
namespace Go.Proofs.Ythdmbgcnkdegmaa
/- THE CELL 'sum', in the pinned program and in every row, IS THE sha256 OF THE DUMP (.gsa) THAT YthdmbgcnkdegmaaProg.lean LOADS. Nothing in Lean hashes anything: it is a label: what it is worth is what the hold of that sum in a sandbox is worth. -/
noncomputable def Try.pinned : Pinned := { name := "ythdmbgcnkdegmaa", sum := "9ec110738d21d1c0c965329289173071b8f8b0bb91d531085ec43b2d31c1ca82", checked := Try.checked }
namespace Rows
def none {H : Type} : Left H := { results := [], args := [] }

/-- 'laws.FnExactSettleHeap': WHATEVER THE INPUT: true; the input reads as it did. -/
def fnExactSettleHeapSpec : ChangeSpec := { name := "fnExactSettleHeap", fn := fun _ => fun
  | [d] => { results := [.lit (.bool true)], args := [d] }
  | _ => none }
def fnExactSettleHeapRow : OpenClaim := { program := "ythdmbgcnkdegmaa", sum := "9ec110738d21d1c0c965329289173071b8f8b0bb91d531085ec43b2d31c1ca82", func := "loop.example/g01381/laws.FnExactSettleHeap", spec := "fnExactSettleHeap", unfollowed := true, recurses := true, apart := false }
def FnExactSettleHeapSaid : Prop := fnExactSettleHeapRow.holds Try.pinned (OpenSpec.ofChange fnExactSettleHeapSpec)

/-- ITS FALSE NEIGHBOUR: 'it returns false'. Refute it at one input. -/
def fnExactSettleHeapWrong : ChangeSpec := { name := "fnExactSettleHeap", fn := fun _ => fun
  | [d] => { results := [.lit (.bool false)], args := [d] }
  | _ => none }
def FnExactSettleHeapWrongFalsely : Prop := fnExactSettleHeapRow.holds Try.pinned (OpenSpec.ofChange fnExactSettleHeapWrong)

/-- 'laws.FnExactAddHeaps': WHATEVER THE INPUT: true; the input reads as it did. -/
def fnExactAddHeapsSpec : ChangeSpec := { name := "fnExactAddHeaps", fn := fun _ => fun
  | [d1, d2] => { results := [.lit (.bool true)], args := [d1, d2] }
  | _ => none }
def fnExactAddHeapsRow : OpenClaim := { program := "ythdmbgcnkdegmaa", sum := "9ec110738d21d1c0c965329289173071b8f8b0bb91d531085ec43b2d31c1ca82", func := "loop.example/g01381/laws.FnExactAddHeaps", spec := "fnExactAddHeaps", unfollowed := true, recurses := true, apart := false }
def FnExactAddHeapsSaid : Prop := fnExactAddHeapsRow.holds Try.pinned (OpenSpec.ofChange fnExactAddHeapsSpec)

/-- ITS FALSE NEIGHBOUR: 'it returns false'. Refute it at one input. -/
def fnExactAddHeapsWrong : ChangeSpec := { name := "fnExactAddHeaps", fn := fun _ => fun
  | [d1, d2] => { results := [.lit (.bool false)], args := [d1, d2] }
  | _ => none }
def FnExactAddHeapsWrongFalsely : Prop := fnExactAddHeapsRow.holds Try.pinned (OpenSpec.ofChange fnExactAddHeapsWrong)

/-- 'laws.FnExactBurnAll': WHATEVER THE INPUT: true; the input reads as it did. -/
def fnExactBurnAllSpec : ChangeSpec := { name := "fnExactBurnAll", fn := fun _ => fun
  | [d] => { results := [.lit (.bool true)], args := [d] }
  | _ => none }
def fnExactBurnAllRow : OpenClaim := { program := "ythdmbgcnkdegmaa", sum := "9ec110738d21d1c0c965329289173071b8f8b0bb91d531085ec43b2d31c1ca82", func := "loop.example/g01381/laws.FnExactBurnAll", spec := "fnExactBurnAll", unfollowed := true, recurses := true, apart := false }
def FnExactBurnAllSaid : Prop := fnExactBurnAllRow.holds Try.pinned (OpenSpec.ofChange fnExactBurnAllSpec)

/-- ITS FALSE NEIGHBOUR: 'it returns false'. Refute it at one input. -/
def fnExactBurnAllWrong : ChangeSpec := { name := "fnExactBurnAll", fn := fun _ => fun
  | [d] => { results := [.lit (.bool false)], args := [d] }
  | _ => none }
def FnExactBurnAllWrongFalsely : Prop := fnExactBurnAllRow.holds Try.pinned (OpenSpec.ofChange fnExactBurnAllWrong)

/-- 'laws.FnExactLeadsThrough': WHATEVER THE INPUT: true; the input reads as it did. -/
def fnExactLeadsThroughSpec : ChangeSpec := { name := "fnExactLeadsThrough", fn := fun _ => fun
  | [d] => { results := [.lit (.bool true)], args := [d] }
  | _ => none }
def fnExactLeadsThroughRow : OpenClaim := { program := "ythdmbgcnkdegmaa", sum := "9ec110738d21d1c0c965329289173071b8f8b0bb91d531085ec43b2d31c1ca82", func := "loop.example/g01381/laws.FnExactLeadsThrough", spec := "fnExactLeadsThrough", unfollowed := true, recurses := true, apart := false }
def FnExactLeadsThroughSaid : Prop := fnExactLeadsThroughRow.holds Try.pinned (OpenSpec.ofChange fnExactLeadsThroughSpec)

/-- ITS FALSE NEIGHBOUR: 'it returns false'. Refute it at one input. -/
def fnExactLeadsThroughWrong : ChangeSpec := { name := "fnExactLeadsThrough", fn := fun _ => fun
  | [d] => { results := [.lit (.bool false)], args := [d] }
  | _ => none }
def FnExactLeadsThroughWrongFalsely : Prop := fnExactLeadsThroughRow.holds Try.pinned (OpenSpec.ofChange fnExactLeadsThroughWrong)

/-- 'laws.FnExactCountThrough': WHATEVER THE INPUT: true; the input reads as it did. -/
def fnExactCountThroughSpec : ChangeSpec := { name := "fnExactCountThrough", fn := fun _ => fun
  | [d1, d2] => { results := [.lit (.bool true)], args := [d1, d2] }
  | _ => none }
def fnExactCountThroughRow : OpenClaim := { program := "ythdmbgcnkdegmaa", sum := "9ec110738d21d1c0c965329289173071b8f8b0bb91d531085ec43b2d31c1ca82", func := "loop.example/g01381/laws.FnExactCountThrough", spec := "fnExactCountThrough", unfollowed := true, recurses := true, apart := false }
def FnExactCountThroughSaid : Prop := fnExactCountThroughRow.holds Try.pinned (OpenSpec.ofChange fnExactCountThroughSpec)

/-- ITS FALSE NEIGHBOUR: 'it returns false'. Refute it at one input. -/
def fnExactCountThroughWrong : ChangeSpec := { name := "fnExactCountThrough", fn := fun _ => fun
  | [d1, d2] => { results := [.lit (.bool false)], args := [d1, d2] }
  | _ => none }
def FnExactCountThroughWrongFalsely : Prop := fnExactCountThroughRow.holds Try.pinned (OpenSpec.ofChange fnExactCountThroughWrong)

/-- 'laws.FnExactIsStill': WHATEVER THE INPUT: true; the input reads as it did. -/
def fnExactIsStillSpec : ChangeSpec := { name := "fnExactIsStill", fn := fun _ => fun
  | [d1, d2, d3] => { results := [.lit (.bool true)], args := [d1, d2, d3] }
  | _ => none }
def fnExactIsStillRow : OpenClaim := { program := "ythdmbgcnkdegmaa", sum := "9ec110738d21d1c0c965329289173071b8f8b0bb91d531085ec43b2d31c1ca82", func := "loop.example/g01381/laws.FnExactIsStill", spec := "fnExactIsStill", unfollowed := true, recurses := true, apart := false }
def FnExactIsStillSaid : Prop := fnExactIsStillRow.holds Try.pinned (OpenSpec.ofChange fnExactIsStillSpec)

/-- ITS FALSE NEIGHBOUR: 'it returns false'. Refute it at one input. -/
def fnExactIsStillWrong : ChangeSpec := { name := "fnExactIsStill", fn := fun _ => fun
  | [d1, d2, d3] => { results := [.lit (.bool false)], args := [d1, d2, d3] }
  | _ => none }
def FnExactIsStillWrongFalsely : Prop := fnExactIsStillRow.holds Try.pinned (OpenSpec.ofChange fnExactIsStillWrong)

/-- 'laws.FnExactStepLife': WHATEVER THE INPUT: true; the input reads as it did. -/
def fnExactStepLifeSpec : ChangeSpec := { name := "fnExactStepLife", fn := fun _ => fun
  | [d1, d2, d3] => { results := [.lit (.bool true)], args := [d1, d2, d3] }
  | _ => none }
def fnExactStepLifeRow : OpenClaim := { program := "ythdmbgcnkdegmaa", sum := "9ec110738d21d1c0c965329289173071b8f8b0bb91d531085ec43b2d31c1ca82", func := "loop.example/g01381/laws.FnExactStepLife", spec := "fnExactStepLife", unfollowed := true, recurses := true, apart := false }
def FnExactStepLifeSaid : Prop := fnExactStepLifeRow.holds Try.pinned (OpenSpec.ofChange fnExactStepLifeSpec)

/-- ITS FALSE NEIGHBOUR: 'it returns false'. Refute it at one input. -/
def fnExactStepLifeWrong : ChangeSpec := { name := "fnExactStepLife", fn := fun _ => fun
  | [d1, d2, d3] => { results := [.lit (.bool false)], args := [d1, d2, d3] }
  | _ => none }
def FnExactStepLifeWrongFalsely : Prop := fnExactStepLifeRow.holds Try.pinned (OpenSpec.ofChange fnExactStepLifeWrong)

/-- 'laws.FnFieldsMoved': WHATEVER THE INPUT: true; the input reads as it did. -/
def fnFieldsMovedSpec : ChangeSpec := { name := "fnFieldsMoved", fn := fun _ => fun
  | [d1, d2] => { results := [.lit (.bool true)], args := [d1, d2] }
  | _ => none }
def fnFieldsMovedRow : OpenClaim := { program := "ythdmbgcnkdegmaa", sum := "9ec110738d21d1c0c965329289173071b8f8b0bb91d531085ec43b2d31c1ca82", func := "loop.example/g01381/laws.FnFieldsMoved", spec := "fnFieldsMoved", unfollowed := true, recurses := true, apart := false }
def FnFieldsMovedSaid : Prop := fnFieldsMovedRow.holds Try.pinned (OpenSpec.ofChange fnFieldsMovedSpec)

/-- ITS FALSE NEIGHBOUR: 'it returns false'. Refute it at one input. -/
def fnFieldsMovedWrong : ChangeSpec := { name := "fnFieldsMoved", fn := fun _ => fun
  | [d1, d2] => { results := [.lit (.bool false)], args := [d1, d2] }
  | _ => none }
def FnFieldsMovedWrongFalsely : Prop := fnFieldsMovedRow.holds Try.pinned (OpenSpec.ofChange fnFieldsMovedWrong)

/-- 'laws.FnThrough': WHATEVER THE INPUT: true; the input reads as it did. -/
def fnThroughSpec : ChangeSpec := { name := "fnThrough", fn := fun _ => fun
  | [d1, d2] => { results := [.lit (.bool true)], args := [d1, d2] }
  | _ => none }
def fnThroughRow : OpenClaim := { program := "ythdmbgcnkdegmaa", sum := "9ec110738d21d1c0c965329289173071b8f8b0bb91d531085ec43b2d31c1ca82", func := "loop.example/g01381/laws.FnThrough", spec := "fnThrough", unfollowed := true, recurses := true, apart := false }
def FnThroughSaid : Prop := fnThroughRow.holds Try.pinned (OpenSpec.ofChange fnThroughSpec)

/-- ITS FALSE NEIGHBOUR: 'it returns false'. Refute it at one input. -/
def fnThroughWrong : ChangeSpec := { name := "fnThrough", fn := fun _ => fun
  | [d1, d2] => { results := [.lit (.bool false)], args := [d1, d2] }
  | _ => none }
def FnThroughWrongFalsely : Prop := fnThroughRow.holds Try.pinned (OpenSpec.ofChange fnThroughWrong)

/-- 'laws.FnHeaps': WHATEVER THE INPUT: true; the input reads as it did. -/
def fnHeapsSpec : ChangeSpec := { name := "fnHeaps", fn := fun _ => fun
  | [d1, d2] => { results := [.lit (.bool true)], args := [d1, d2] }
  | _ => none }
def fnHeapsRow : OpenClaim := { program := "ythdmbgcnkdegmaa", sum := "9ec110738d21d1c0c965329289173071b8f8b0bb91d531085ec43b2d31c1ca82", func := "loop.example/g01381/laws.FnHeaps", spec := "fnHeaps", unfollowed := true, recurses := true, apart := false }
def FnHeapsSaid : Prop := fnHeapsRow.holds Try.pinned (OpenSpec.ofChange fnHeapsSpec)

/-- ITS FALSE NEIGHBOUR: 'it returns false'. Refute it at one input. -/
def fnHeapsWrong : ChangeSpec := { name := "fnHeaps", fn := fun _ => fun
  | [d1, d2] => { results := [.lit (.bool false)], args := [d1, d2] }
  | _ => none }
def FnHeapsWrongFalsely : Prop := fnHeapsRow.holds Try.pinned (OpenSpec.ofChange fnHeapsWrong)

/-- 'laws.FnLivesMoved': WHATEVER THE INPUT: true; the input reads as it did. -/
def fnLivesMovedSpec : ChangeSpec := { name := "fnLivesMoved", fn := fun _ => fun
  | [d1, d2] => { results := [.lit (.bool true)], args := [d1, d2] }
  | _ => none }
def fnLivesMovedRow : OpenClaim := { program := "ythdmbgcnkdegmaa", sum := "9ec110738d21d1c0c965329289173071b8f8b0bb91d531085ec43b2d31c1ca82", func := "loop.example/g01381/laws.FnLivesMoved", spec := "fnLivesMoved", unfollowed := true, recurses := true, apart := false }
def FnLivesMovedSaid : Prop := fnLivesMovedRow.holds Try.pinned (OpenSpec.ofChange fnLivesMovedSpec)

/-- ITS FALSE NEIGHBOUR: 'it returns false'. Refute it at one input. -/
def fnLivesMovedWrong : ChangeSpec := { name := "fnLivesMoved", fn := fun _ => fun
  | [d1, d2] => { results := [.lit (.bool false)], args := [d1, d2] }
  | _ => none }
def FnLivesMovedWrongFalsely : Prop := fnLivesMovedRow.holds Try.pinned (OpenSpec.ofChange fnLivesMovedWrong)

/-- 'laws.FnBlocks': WHATEVER THE INPUT: true; the input reads as it did. -/
def fnBlocksSpec : ChangeSpec := { name := "fnBlocks", fn := fun _ => fun
  | [d1, d2] => { results := [.lit (.bool true)], args := [d1, d2] }
  | _ => none }
def fnBlocksRow : OpenClaim := { program := "ythdmbgcnkdegmaa", sum := "9ec110738d21d1c0c965329289173071b8f8b0bb91d531085ec43b2d31c1ca82", func := "loop.example/g01381/laws.FnBlocks", spec := "fnBlocks", unfollowed := true, recurses := true, apart := false }
def FnBlocksSaid : Prop := fnBlocksRow.holds Try.pinned (OpenSpec.ofChange fnBlocksSpec)

/-- ITS FALSE NEIGHBOUR: 'it returns false'. Refute it at one input. -/
def fnBlocksWrong : ChangeSpec := { name := "fnBlocks", fn := fun _ => fun
  | [d1, d2] => { results := [.lit (.bool false)], args := [d1, d2] }
  | _ => none }
def FnBlocksWrongFalsely : Prop := fnBlocksRow.holds Try.pinned (OpenSpec.ofChange fnBlocksWrong)

/- THE SECOND FORM. 'bulk': how many values and letters a reading holds, each counted each time it is reached (what is shared counts as often as it is met; a slice's spare places count too). A statement '..UptoSaid' is the law's where the arguments, and the package variables that the reading takes, are together of bulk at most 1048576: NARROWER than '..Said'. Prove '..Said' where nothing that the law and all that it calls make is longer than what came in: it says more and counts as full. Else prove '..UptoSaid'. A law counts once. -/
mutual
def uptoBulk {H : Type} : DataW H → Nat
  | .lit (.string bytes) => bytes.length + 1
  | .lit _ => 1
  | .nil => 1
  | .ptr d => uptoBulk d + 1
  | .slice elems spare => uptoBulkAll elems + uptoBulkAll spare + 1
  | .agg parts => uptoBulkAll parts + 1
  | .iface _ d => uptoBulk d + 1
  | .map entries => uptoBulkEntries entries + 1
  | .held _ => 1
def uptoBulkAll {H : Type} : List (DataW H) → Nat
  | [] => 0
  | d :: r => uptoBulk d + uptoBulkAll r
def uptoBulkEntries {H : Type} : List (Lit × DataW H) → Nat
  | [] => 0
  | x :: r => uptoBulkEntry x + uptoBulkEntries r
def uptoBulkEntry {H : Type} : Lit × DataW H → Nat
  | (.string bytes, d) => bytes.length + uptoBulk d + 1
  | (_, d) => uptoBulk d + 1
 end
def uptoSmall : (H : Type) → List (DataW H) → Bool := fun _ ds => decide (uptoBulkAll ds ≤ 1048576)
def OpenSpec.upto (s : _root_.Go.ChangeSpec) : _root_.Go.OpenSpec := { _root_.Go.OpenSpec.ofChange s with cond := some uptoSmall }

/-- 'laws.FnExactSettleHeap', WHERE WHAT IT READS IS OF BULK AT MOST 1048576: true; the input reads as it did. -/
def fnExactSettleHeapUptoRow : OpenClaim := { program := "ythdmbgcnkdegmaa", sum := "9ec110738d21d1c0c965329289173071b8f8b0bb91d531085ec43b2d31c1ca82", func := "loop.example/g01381/laws.FnExactSettleHeap", spec := "fnExactSettleHeap", unfollowed := true, recurses := true, apart := false, narrowed := true }
def FnExactSettleHeapUptoSaid : Prop := fnExactSettleHeapUptoRow.holds Try.pinned (OpenSpec.upto fnExactSettleHeapSpec)

/-- 'laws.FnExactAddHeaps', WHERE WHAT IT READS IS OF BULK AT MOST 1048576: true; the input reads as it did. -/
def fnExactAddHeapsUptoRow : OpenClaim := { program := "ythdmbgcnkdegmaa", sum := "9ec110738d21d1c0c965329289173071b8f8b0bb91d531085ec43b2d31c1ca82", func := "loop.example/g01381/laws.FnExactAddHeaps", spec := "fnExactAddHeaps", unfollowed := true, recurses := true, apart := false, narrowed := true }
def FnExactAddHeapsUptoSaid : Prop := fnExactAddHeapsUptoRow.holds Try.pinned (OpenSpec.upto fnExactAddHeapsSpec)

/-- 'laws.FnExactBurnAll', WHERE WHAT IT READS IS OF BULK AT MOST 1048576: true; the input reads as it did. -/
def fnExactBurnAllUptoRow : OpenClaim := { program := "ythdmbgcnkdegmaa", sum := "9ec110738d21d1c0c965329289173071b8f8b0bb91d531085ec43b2d31c1ca82", func := "loop.example/g01381/laws.FnExactBurnAll", spec := "fnExactBurnAll", unfollowed := true, recurses := true, apart := false, narrowed := true }
def FnExactBurnAllUptoSaid : Prop := fnExactBurnAllUptoRow.holds Try.pinned (OpenSpec.upto fnExactBurnAllSpec)

/-- 'laws.FnExactLeadsThrough', WHERE WHAT IT READS IS OF BULK AT MOST 1048576: true; the input reads as it did. -/
def fnExactLeadsThroughUptoRow : OpenClaim := { program := "ythdmbgcnkdegmaa", sum := "9ec110738d21d1c0c965329289173071b8f8b0bb91d531085ec43b2d31c1ca82", func := "loop.example/g01381/laws.FnExactLeadsThrough", spec := "fnExactLeadsThrough", unfollowed := true, recurses := true, apart := false, narrowed := true }
def FnExactLeadsThroughUptoSaid : Prop := fnExactLeadsThroughUptoRow.holds Try.pinned (OpenSpec.upto fnExactLeadsThroughSpec)

/-- 'laws.FnExactCountThrough', WHERE WHAT IT READS IS OF BULK AT MOST 1048576: true; the input reads as it did. -/
def fnExactCountThroughUptoRow : OpenClaim := { program := "ythdmbgcnkdegmaa", sum := "9ec110738d21d1c0c965329289173071b8f8b0bb91d531085ec43b2d31c1ca82", func := "loop.example/g01381/laws.FnExactCountThrough", spec := "fnExactCountThrough", unfollowed := true, recurses := true, apart := false, narrowed := true }
def FnExactCountThroughUptoSaid : Prop := fnExactCountThroughUptoRow.holds Try.pinned (OpenSpec.upto fnExactCountThroughSpec)

/-- 'laws.FnExactIsStill', WHERE WHAT IT READS IS OF BULK AT MOST 1048576: true; the input reads as it did. -/
def fnExactIsStillUptoRow : OpenClaim := { program := "ythdmbgcnkdegmaa", sum := "9ec110738d21d1c0c965329289173071b8f8b0bb91d531085ec43b2d31c1ca82", func := "loop.example/g01381/laws.FnExactIsStill", spec := "fnExactIsStill", unfollowed := true, recurses := true, apart := false, narrowed := true }
def FnExactIsStillUptoSaid : Prop := fnExactIsStillUptoRow.holds Try.pinned (OpenSpec.upto fnExactIsStillSpec)

/-- 'laws.FnExactStepLife', WHERE WHAT IT READS IS OF BULK AT MOST 1048576: true; the input reads as it did. -/
def fnExactStepLifeUptoRow : OpenClaim := { program := "ythdmbgcnkdegmaa", sum := "9ec110738d21d1c0c965329289173071b8f8b0bb91d531085ec43b2d31c1ca82", func := "loop.example/g01381/laws.FnExactStepLife", spec := "fnExactStepLife", unfollowed := true, recurses := true, apart := false, narrowed := true }
def FnExactStepLifeUptoSaid : Prop := fnExactStepLifeUptoRow.holds Try.pinned (OpenSpec.upto fnExactStepLifeSpec)

/-- 'laws.FnFieldsMoved', WHERE WHAT IT READS IS OF BULK AT MOST 1048576: true; the input reads as it did. -/
def fnFieldsMovedUptoRow : OpenClaim := { program := "ythdmbgcnkdegmaa", sum := "9ec110738d21d1c0c965329289173071b8f8b0bb91d531085ec43b2d31c1ca82", func := "loop.example/g01381/laws.FnFieldsMoved", spec := "fnFieldsMoved", unfollowed := true, recurses := true, apart := false, narrowed := true }
def FnFieldsMovedUptoSaid : Prop := fnFieldsMovedUptoRow.holds Try.pinned (OpenSpec.upto fnFieldsMovedSpec)

/-- 'laws.FnThrough', WHERE WHAT IT READS IS OF BULK AT MOST 1048576: true; the input reads as it did. -/
def fnThroughUptoRow : OpenClaim := { program := "ythdmbgcnkdegmaa", sum := "9ec110738d21d1c0c965329289173071b8f8b0bb91d531085ec43b2d31c1ca82", func := "loop.example/g01381/laws.FnThrough", spec := "fnThrough", unfollowed := true, recurses := true, apart := false, narrowed := true }
def FnThroughUptoSaid : Prop := fnThroughUptoRow.holds Try.pinned (OpenSpec.upto fnThroughSpec)

/-- 'laws.FnHeaps', WHERE WHAT IT READS IS OF BULK AT MOST 1048576: true; the input reads as it did. -/
def fnHeapsUptoRow : OpenClaim := { program := "ythdmbgcnkdegmaa", sum := "9ec110738d21d1c0c965329289173071b8f8b0bb91d531085ec43b2d31c1ca82", func := "loop.example/g01381/laws.FnHeaps", spec := "fnHeaps", unfollowed := true, recurses := true, apart := false, narrowed := true }
def FnHeapsUptoSaid : Prop := fnHeapsUptoRow.holds Try.pinned (OpenSpec.upto fnHeapsSpec)

/-- 'laws.FnLivesMoved', WHERE WHAT IT READS IS OF BULK AT MOST 1048576: true; the input reads as it did. -/
def fnLivesMovedUptoRow : OpenClaim := { program := "ythdmbgcnkdegmaa", sum := "9ec110738d21d1c0c965329289173071b8f8b0bb91d531085ec43b2d31c1ca82", func := "loop.example/g01381/laws.FnLivesMoved", spec := "fnLivesMoved", unfollowed := true, recurses := true, apart := false, narrowed := true }
def FnLivesMovedUptoSaid : Prop := fnLivesMovedUptoRow.holds Try.pinned (OpenSpec.upto fnLivesMovedSpec)

/-- 'laws.FnBlocks', WHERE WHAT IT READS IS OF BULK AT MOST 1048576: true; the input reads as it did. -/
def fnBlocksUptoRow : OpenClaim := { program := "ythdmbgcnkdegmaa", sum := "9ec110738d21d1c0c965329289173071b8f8b0bb91d531085ec43b2d31c1ca82", func := "loop.example/g01381/laws.FnBlocks", spec := "fnBlocks", unfollowed := true, recurses := true, apart := false, narrowed := true }
def FnBlocksUptoSaid : Prop := fnBlocksUptoRow.holds Try.pinned (OpenSpec.upto fnBlocksSpec)

end Rows
end Go.Proofs.Ythdmbgcnkdegmaa
