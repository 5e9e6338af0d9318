/-
  No cell of these rows narrows 'for every input' (looked for: loops, veiled, ifaces, maps, wideKeys, modest, calm, conditions, laid).
  DERIVED. THE GIVEN ROWS OF THIS SEAT. 5 by the template 'for every input the law returns true; each argument reads behind the call as it read before'; 0 by the template 'total and deterministic' (their statements: YtckobcjjbpnkcaaTotals.lean).
  GIVEN WITH THE SEED: the statements are not yours to turn. If you find one false, say at which input.
  Laid BY PROGRAM, IN A SANDBOX (cutbox-rows.mjs): the forced cells as the released guide's own fill.sh prints them over the translation 54f98dfdf7ab0f2f… (all of the seat's roots in one cut). By AI agents, Wed Nov 11 2026. No macro, syntax, notation, axiom, sorry.
-/
import Derived.Test.YtckobcjjbpnkcaaChecked
import GoSem.Claim
import GoSem.ClaimJoined
import GoSem.ClaimMapViews
import Derived.JoinedTies
import Derived.KernelRfl
namespace Go.Proofs.Ytckobcjjbpnkcaa
/- THE CELL 'sum', in the pinned program and in every row, IS THE sha256 OF THE DUMP (.gsa) THAT YtckobcjjbpnkcaaProg.lean LOADS. Nothing in Lean hashes anything: it is a label: what it is worth is what the hold of that sum in a sandbox is worth. -/
noncomputable def Try.pinned : Pinned := { name := "ytckobcjjbpnkcaa", sum := "54f98dfdf7ab0f2f994b162a6c73337d4079ab20894c53804994b4ed8b8702bb", checked := Try.checked }
namespace Rows
def none {H : Type} : Left H := { results := [], args := [] }

/-- 'laws.FnExactDrawField': WHATEVER THE INPUT: true; the input reads as it did. -/
def fnExactDrawFieldSpec : ChangeSpec := { name := "fnExactDrawField", fn := fun _ => fun
  | [d1, d2, d3, d4] => { results := [.lit (.bool true)], args := [d1, d2, d3, d4] }
  | _ => none }
def fnExactDrawFieldRow : OpenClaim := { program := "ytckobcjjbpnkcaa", sum := "54f98dfdf7ab0f2f994b162a6c73337d4079ab20894c53804994b4ed8b8702bb", func := "loop.example/g01381/laws.FnExactDrawField", spec := "fnExactDrawField", unfollowed := true, recurses := true, apart := false }
def FnExactDrawFieldSaid : Prop := fnExactDrawFieldRow.holds Try.pinned (OpenSpec.ofChange fnExactDrawFieldSpec)

/-- ITS FALSE NEIGHBOUR: 'it returns false'. Refute it at one input. -/
def fnExactDrawFieldWrong : ChangeSpec := { name := "fnExactDrawField", fn := fun _ => fun
  | [d1, d2, d3, d4] => { results := [.lit (.bool false)], args := [d1, d2, d3, d4] }
  | _ => none }
def FnExactDrawFieldWrongFalsely : Prop := fnExactDrawFieldRow.holds Try.pinned (OpenSpec.ofChange fnExactDrawFieldWrong)

/-- 'laws.FnExactCountThrough': WHATEVER THE INPUT: true; the input reads as it did. -/
def fnExactCountThroughSpec : ChangeSpec := { name := "fnExactCountThrough", fn := fun _ => fun
  | [d1, d2] => { results := [.lit (.bool true)], args := [d1, d2] }
  | _ => none }
def fnExactCountThroughRow : OpenClaim := { program := "ytckobcjjbpnkcaa", sum := "54f98dfdf7ab0f2f994b162a6c73337d4079ab20894c53804994b4ed8b8702bb", func := "loop.example/g01381/laws.FnExactCountThrough", spec := "fnExactCountThrough", unfollowed := true, recurses := true, apart := false }
def FnExactCountThroughSaid : Prop := fnExactCountThroughRow.holds Try.pinned (OpenSpec.ofChange fnExactCountThroughSpec)

/-- ITS FALSE NEIGHBOUR: 'it returns false'. Refute it at one input. -/
def fnExactCountThroughWrong : ChangeSpec := { name := "fnExactCountThrough", fn := fun _ => fun
  | [d1, d2] => { results := [.lit (.bool false)], args := [d1, d2] }
  | _ => none }
def FnExactCountThroughWrongFalsely : Prop := fnExactCountThroughRow.holds Try.pinned (OpenSpec.ofChange fnExactCountThroughWrong)

/-- 'laws.FnFieldsMoved': WHATEVER THE INPUT: true; the input reads as it did. -/
def fnFieldsMovedSpec : ChangeSpec := { name := "fnFieldsMoved", fn := fun _ => fun
  | [d1, d2] => { results := [.lit (.bool true)], args := [d1, d2] }
  | _ => none }
def fnFieldsMovedRow : OpenClaim := { program := "ytckobcjjbpnkcaa", sum := "54f98dfdf7ab0f2f994b162a6c73337d4079ab20894c53804994b4ed8b8702bb", func := "loop.example/g01381/laws.FnFieldsMoved", spec := "fnFieldsMoved", unfollowed := true, recurses := true, apart := false }
def FnFieldsMovedSaid : Prop := fnFieldsMovedRow.holds Try.pinned (OpenSpec.ofChange fnFieldsMovedSpec)

/-- ITS FALSE NEIGHBOUR: 'it returns false'. Refute it at one input. -/
def fnFieldsMovedWrong : ChangeSpec := { name := "fnFieldsMoved", fn := fun _ => fun
  | [d1, d2] => { results := [.lit (.bool false)], args := [d1, d2] }
  | _ => none }
def FnFieldsMovedWrongFalsely : Prop := fnFieldsMovedRow.holds Try.pinned (OpenSpec.ofChange fnFieldsMovedWrong)

/-- 'laws.FnThrough': WHATEVER THE INPUT: true; the input reads as it did. -/
def fnThroughSpec : ChangeSpec := { name := "fnThrough", fn := fun _ => fun
  | [d1, d2] => { results := [.lit (.bool true)], args := [d1, d2] }
  | _ => none }
def fnThroughRow : OpenClaim := { program := "ytckobcjjbpnkcaa", sum := "54f98dfdf7ab0f2f994b162a6c73337d4079ab20894c53804994b4ed8b8702bb", func := "loop.example/g01381/laws.FnThrough", spec := "fnThrough", unfollowed := true, recurses := true, apart := false }
def FnThroughSaid : Prop := fnThroughRow.holds Try.pinned (OpenSpec.ofChange fnThroughSpec)

/-- ITS FALSE NEIGHBOUR: 'it returns false'. Refute it at one input. -/
def fnThroughWrong : ChangeSpec := { name := "fnThrough", fn := fun _ => fun
  | [d1, d2] => { results := [.lit (.bool false)], args := [d1, d2] }
  | _ => none }
def FnThroughWrongFalsely : Prop := fnThroughRow.holds Try.pinned (OpenSpec.ofChange fnThroughWrong)

/-- 'laws.FnHeaps': WHATEVER THE INPUT: true; the input reads as it did. -/
def fnHeapsSpec : ChangeSpec := { name := "fnHeaps", fn := fun _ => fun
  | [d1, d2] => { results := [.lit (.bool true)], args := [d1, d2] }
  | _ => none }
def fnHeapsRow : OpenClaim := { program := "ytckobcjjbpnkcaa", sum := "54f98dfdf7ab0f2f994b162a6c73337d4079ab20894c53804994b4ed8b8702bb", func := "loop.example/g01381/laws.FnHeaps", spec := "fnHeaps", unfollowed := true, recurses := true, apart := false }
def FnHeapsSaid : Prop := fnHeapsRow.holds Try.pinned (OpenSpec.ofChange fnHeapsSpec)

/-- ITS FALSE NEIGHBOUR: 'it returns false'. Refute it at one input. -/
def fnHeapsWrong : ChangeSpec := { name := "fnHeaps", fn := fun _ => fun
  | [d1, d2] => { results := [.lit (.bool false)], args := [d1, d2] }
  | _ => none }
def FnHeapsWrongFalsely : Prop := fnHeapsRow.holds Try.pinned (OpenSpec.ofChange fnHeapsWrong)

/- THE SECOND FORM. 'bulk': how many values and letters a reading holds, each counted each time it is reached (what is shared counts as often as it is met; a slice's spare places count too). A statement '..UptoSaid' is the law's where the arguments, and the package variables that the reading takes, are together of bulk at most 1048576: NARROWER than '..Said'. Prove '..Said' where nothing that the law and all that it calls make is longer than what came in: it says more and counts as full. Else prove '..UptoSaid'. A law counts once. -/
mutual
def uptoBulk {H : Type} : DataW H → Nat
  | .lit (.string bytes) => bytes.length + 1
  | .lit _ => 1
  | .nil => 1
  | .ptr d => uptoBulk d + 1
  | .slice elems spare => uptoBulkAll elems + uptoBulkAll spare + 1
  | .agg parts => uptoBulkAll parts + 1
  | .iface _ d => uptoBulk d + 1
  | .map entries => uptoBulkEntries entries + 1
  | .held _ => 1
def uptoBulkAll {H : Type} : List (DataW H) → Nat
  | [] => 0
  | d :: r => uptoBulk d + uptoBulkAll r
def uptoBulkEntries {H : Type} : List (Lit × DataW H) → Nat
  | [] => 0
  | x :: r => uptoBulkEntry x + uptoBulkEntries r
def uptoBulkEntry {H : Type} : Lit × DataW H → Nat
  | (.string bytes, d) => bytes.length + uptoBulk d + 1
  | (_, d) => uptoBulk d + 1
 end
def uptoSmall : (H : Type) → List (DataW H) → Bool := fun _ ds => decide (uptoBulkAll ds ≤ 1048576)
def OpenSpec.upto (s : _root_.Go.ChangeSpec) : _root_.Go.OpenSpec := { _root_.Go.OpenSpec.ofChange s with cond := some uptoSmall }

/-- 'laws.FnExactDrawField', WHERE WHAT IT READS IS OF BULK AT MOST 1048576: true; the input reads as it did. -/
def fnExactDrawFieldUptoRow : OpenClaim := { program := "ytckobcjjbpnkcaa", sum := "54f98dfdf7ab0f2f994b162a6c73337d4079ab20894c53804994b4ed8b8702bb", func := "loop.example/g01381/laws.FnExactDrawField", spec := "fnExactDrawField", unfollowed := true, recurses := true, apart := false, narrowed := true }
def FnExactDrawFieldUptoSaid : Prop := fnExactDrawFieldUptoRow.holds Try.pinned (OpenSpec.upto fnExactDrawFieldSpec)

/-- 'laws.FnExactCountThrough', WHERE WHAT IT READS IS OF BULK AT MOST 1048576: true; the input reads as it did. -/
def fnExactCountThroughUptoRow : OpenClaim := { program := "ytckobcjjbpnkcaa", sum := "54f98dfdf7ab0f2f994b162a6c73337d4079ab20894c53804994b4ed8b8702bb", func := "loop.example/g01381/laws.FnExactCountThrough", spec := "fnExactCountThrough", unfollowed := true, recurses := true, apart := false, narrowed := true }
def FnExactCountThroughUptoSaid : Prop := fnExactCountThroughUptoRow.holds Try.pinned (OpenSpec.upto fnExactCountThroughSpec)

/-- 'laws.FnFieldsMoved', WHERE WHAT IT READS IS OF BULK AT MOST 1048576: true; the input reads as it did. -/
def fnFieldsMovedUptoRow : OpenClaim := { program := "ytckobcjjbpnkcaa", sum := "54f98dfdf7ab0f2f994b162a6c73337d4079ab20894c53804994b4ed8b8702bb", func := "loop.example/g01381/laws.FnFieldsMoved", spec := "fnFieldsMoved", unfollowed := true, recurses := true, apart := false, narrowed := true }
def FnFieldsMovedUptoSaid : Prop := fnFieldsMovedUptoRow.holds Try.pinned (OpenSpec.upto fnFieldsMovedSpec)

/-- 'laws.FnThrough', WHERE WHAT IT READS IS OF BULK AT MOST 1048576: true; the input reads as it did. -/
def fnThroughUptoRow : OpenClaim := { program := "ytckobcjjbpnkcaa", sum := "54f98dfdf7ab0f2f994b162a6c73337d4079ab20894c53804994b4ed8b8702bb", func := "loop.example/g01381/laws.FnThrough", spec := "fnThrough", unfollowed := true, recurses := true, apart := false, narrowed := true }
def FnThroughUptoSaid : Prop := fnThroughUptoRow.holds Try.pinned (OpenSpec.upto fnThroughSpec)

/-- 'laws.FnHeaps', WHERE WHAT IT READS IS OF BULK AT MOST 1048576: true; the input reads as it did. -/
def fnHeapsUptoRow : OpenClaim := { program := "ytckobcjjbpnkcaa", sum := "54f98dfdf7ab0f2f994b162a6c73337d4079ab20894c53804994b4ed8b8702bb", func := "loop.example/g01381/laws.FnHeaps", spec := "fnHeaps", unfollowed := true, recurses := true, apart := false, narrowed := true }
def FnHeapsUptoSaid : Prop := fnHeapsUptoRow.holds Try.pinned (OpenSpec.upto fnHeapsSpec)

end Rows
end Go.Proofs.Ytckobcjjbpnkcaa
