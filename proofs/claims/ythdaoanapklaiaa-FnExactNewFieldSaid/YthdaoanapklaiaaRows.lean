/-
  No cell of these rows narrows 'for every input' (looked for: loops, veiled, ifaces, maps, wideKeys, modest, calm, conditions, laid).
  DERIVED. THE GIVEN ROWS OF THIS SEAT. 7 by the template 'for every input the law returns true; each argument reads behind the call as it read before'; 0 by the template 'total and deterministic' (their statements: YthdaoanapklaiaaTotals.lean).
  GIVEN WITH THE SEED: the statements are not yours to turn. If you find one false, say at which input.
  Laid BY PROGRAM, IN A SANDBOX (cutbox-rows.mjs): the forced cells as the released guide's own fill.sh prints them over the translation e8638453af7c907b… (all of the seat's roots in one cut). By AI agents, Wed Nov 11 2026. No macro, syntax, notation, axiom, sorry.
-/
import Derived.Test.YthdaoanapklaiaaChecked
import GoSem.Claim
import GoSem.ClaimJoined
import GoSem.ClaimMapViews
import Derived.JoinedTies
import Derived.KernelRfl
namespace Go.Proofs.Ythdaoanapklaiaa
/- THE CELL 'sum', in the pinned program and in every row, IS THE sha256 OF THE DUMP (.gsa) THAT YthdaoanapklaiaaProg.lean LOADS. Nothing in Lean hashes anything: it is a label: what it is worth is what the hold of that sum in a sandbox is worth. -/
noncomputable def Try.pinned : Pinned := { name := "ythdaoanapklaiaa", sum := "e8638453af7c907b63827f2d76ad1c14ea890f48eef4ce31d06400abaef464a1", checked := Try.checked }
namespace Rows
def none {H : Type} : Left H := { results := [], args := [] }

/-- 'laws.FnExactIsTurnTable': WHATEVER THE INPUT: true; the input reads as it did. -/
def fnExactIsTurnTableSpec : ChangeSpec := { name := "fnExactIsTurnTable", fn := fun _ => fun
  | [d] => { results := [.lit (.bool true)], args := [d] }
  | _ => none }
def fnExactIsTurnTableRow : OpenClaim := { program := "ythdaoanapklaiaa", sum := "e8638453af7c907b63827f2d76ad1c14ea890f48eef4ce31d06400abaef464a1", func := "loop.example/g01381/laws.FnExactIsTurnTable", spec := "fnExactIsTurnTable", apart := false }
def FnExactIsTurnTableSaid : Prop := fnExactIsTurnTableRow.holds Try.pinned (OpenSpec.ofChange fnExactIsTurnTableSpec)

/-- ITS FALSE NEIGHBOUR: 'it returns false'. Refute it at one input. -/
def fnExactIsTurnTableWrong : ChangeSpec := { name := "fnExactIsTurnTable", fn := fun _ => fun
  | [d] => { results := [.lit (.bool false)], args := [d] }
  | _ => none }
def FnExactIsTurnTableWrongFalsely : Prop := fnExactIsTurnTableRow.holds Try.pinned (OpenSpec.ofChange fnExactIsTurnTableWrong)

/-- 'laws.FnExactSameLife': WHATEVER THE INPUT: true; the input reads as it did. -/
def fnExactSameLifeSpec : ChangeSpec := { name := "fnExactSameLife", fn := fun _ => fun
  | [d1, d2] => { results := [.lit (.bool true)], args := [d1, d2] }
  | _ => none }
def fnExactSameLifeRow : OpenClaim := { program := "ythdaoanapklaiaa", sum := "e8638453af7c907b63827f2d76ad1c14ea890f48eef4ce31d06400abaef464a1", func := "loop.example/g01381/laws.FnExactSameLife", spec := "fnExactSameLife", apart := false }
def FnExactSameLifeSaid : Prop := fnExactSameLifeRow.holds Try.pinned (OpenSpec.ofChange fnExactSameLifeSpec)

/-- ITS FALSE NEIGHBOUR: 'it returns false'. Refute it at one input. -/
def fnExactSameLifeWrong : ChangeSpec := { name := "fnExactSameLife", fn := fun _ => fun
  | [d1, d2] => { results := [.lit (.bool false)], args := [d1, d2] }
  | _ => none }
def FnExactSameLifeWrongFalsely : Prop := fnExactSameLifeRow.holds Try.pinned (OpenSpec.ofChange fnExactSameLifeWrong)

/-- 'laws.FnExactSameField': WHATEVER THE INPUT: true; the input reads as it did. -/
def fnExactSameFieldSpec : ChangeSpec := { name := "fnExactSameField", fn := fun _ => fun
  | [d1, d2] => { results := [.lit (.bool true)], args := [d1, d2] }
  | _ => none }
def fnExactSameFieldRow : OpenClaim := { program := "ythdaoanapklaiaa", sum := "e8638453af7c907b63827f2d76ad1c14ea890f48eef4ce31d06400abaef464a1", func := "loop.example/g01381/laws.FnExactSameField", spec := "fnExactSameField", apart := false }
def FnExactSameFieldSaid : Prop := fnExactSameFieldRow.holds Try.pinned (OpenSpec.ofChange fnExactSameFieldSpec)

/-- ITS FALSE NEIGHBOUR: 'it returns false'. Refute it at one input. -/
def fnExactSameFieldWrong : ChangeSpec := { name := "fnExactSameField", fn := fun _ => fun
  | [d1, d2] => { results := [.lit (.bool false)], args := [d1, d2] }
  | _ => none }
def FnExactSameFieldWrongFalsely : Prop := fnExactSameFieldRow.holds Try.pinned (OpenSpec.ofChange fnExactSameFieldWrong)

/-- 'laws.FnExactNewField': WHATEVER THE INPUT: true; the input reads as it did. -/
def fnExactNewFieldSpec : ChangeSpec := { name := "fnExactNewField", fn := fun _ => fun
  | [d1, d2] => { results := [.lit (.bool true)], args := [d1, d2] }
  | _ => none }
def fnExactNewFieldRow : OpenClaim := { program := "ythdaoanapklaiaa", sum := "e8638453af7c907b63827f2d76ad1c14ea890f48eef4ce31d06400abaef464a1", func := "loop.example/g01381/laws.FnExactNewField", spec := "fnExactNewField", unfollowed := true, recurses := true, apart := false }
def FnExactNewFieldSaid : Prop := fnExactNewFieldRow.holds Try.pinned (OpenSpec.ofChange fnExactNewFieldSpec)

/-- ITS FALSE NEIGHBOUR: 'it returns false'. Refute it at one input. -/
def fnExactNewFieldWrong : ChangeSpec := { name := "fnExactNewField", fn := fun _ => fun
  | [d1, d2] => { results := [.lit (.bool false)], args := [d1, d2] }
  | _ => none }
def FnExactNewFieldWrongFalsely : Prop := fnExactNewFieldRow.holds Try.pinned (OpenSpec.ofChange fnExactNewFieldWrong)

/-- 'laws.FnExactValidLife': WHATEVER THE INPUT: true; the input reads as it did. -/
def fnExactValidLifeSpec : ChangeSpec := { name := "fnExactValidLife", fn := fun _ => fun
  | [d] => { results := [.lit (.bool true)], args := [d] }
  | _ => none }
def fnExactValidLifeRow : OpenClaim := { program := "ythdaoanapklaiaa", sum := "e8638453af7c907b63827f2d76ad1c14ea890f48eef4ce31d06400abaef464a1", func := "loop.example/g01381/laws.FnExactValidLife", spec := "fnExactValidLife", apart := false }
def FnExactValidLifeSaid : Prop := fnExactValidLifeRow.holds Try.pinned (OpenSpec.ofChange fnExactValidLifeSpec)

/-- ITS FALSE NEIGHBOUR: 'it returns false'. Refute it at one input. -/
def fnExactValidLifeWrong : ChangeSpec := { name := "fnExactValidLife", fn := fun _ => fun
  | [d] => { results := [.lit (.bool false)], args := [d] }
  | _ => none }
def FnExactValidLifeWrongFalsely : Prop := fnExactValidLifeRow.holds Try.pinned (OpenSpec.ofChange fnExactValidLifeWrong)

/-- 'laws.FnExactValidField': WHATEVER THE INPUT: true; the input reads as it did. -/
def fnExactValidFieldSpec : ChangeSpec := { name := "fnExactValidField", fn := fun _ => fun
  | [d] => { results := [.lit (.bool true)], args := [d] }
  | _ => none }
def fnExactValidFieldRow : OpenClaim := { program := "ythdaoanapklaiaa", sum := "e8638453af7c907b63827f2d76ad1c14ea890f48eef4ce31d06400abaef464a1", func := "loop.example/g01381/laws.FnExactValidField", spec := "fnExactValidField", apart := false }
def FnExactValidFieldSaid : Prop := fnExactValidFieldRow.holds Try.pinned (OpenSpec.ofChange fnExactValidFieldSpec)

/-- ITS FALSE NEIGHBOUR: 'it returns false'. Refute it at one input. -/
def fnExactValidFieldWrong : ChangeSpec := { name := "fnExactValidField", fn := fun _ => fun
  | [d] => { results := [.lit (.bool false)], args := [d] }
  | _ => none }
def FnExactValidFieldWrongFalsely : Prop := fnExactValidFieldRow.holds Try.pinned (OpenSpec.ofChange fnExactValidFieldWrong)

/-- 'laws.FnExactBackTable': WHATEVER THE INPUT: true; the input reads as it did. -/
def fnExactBackTableSpec : ChangeSpec := { name := "fnExactBackTable", fn := fun _ => fun
  | [d] => { results := [.lit (.bool true)], args := [d] }
  | _ => none }
def fnExactBackTableRow : OpenClaim := { program := "ythdaoanapklaiaa", sum := "e8638453af7c907b63827f2d76ad1c14ea890f48eef4ce31d06400abaef464a1", func := "loop.example/g01381/laws.FnExactBackTable", spec := "fnExactBackTable", apart := false }
def FnExactBackTableSaid : Prop := fnExactBackTableRow.holds Try.pinned (OpenSpec.ofChange fnExactBackTableSpec)

/-- ITS FALSE NEIGHBOUR: 'it returns false'. Refute it at one input. -/
def fnExactBackTableWrong : ChangeSpec := { name := "fnExactBackTable", fn := fun _ => fun
  | [d] => { results := [.lit (.bool false)], args := [d] }
  | _ => none }
def FnExactBackTableWrongFalsely : Prop := fnExactBackTableRow.holds Try.pinned (OpenSpec.ofChange fnExactBackTableWrong)

/- THE SECOND FORM. 'bulk': how many values and letters a reading holds, each counted each time it is reached (what is shared counts as often as it is met; a slice's spare places count too). A statement '..UptoSaid' is the law's where the arguments, and the package variables that the reading takes, are together of bulk at most 1048576: NARROWER than '..Said'. Prove '..Said' where nothing that the law and all that it calls make is longer than what came in: it says more and counts as full. Else prove '..UptoSaid'. A law counts once. -/
mutual
def uptoBulk {H : Type} : DataW H → Nat
  | .lit (.string bytes) => bytes.length + 1
  | .lit _ => 1
  | .nil => 1
  | .ptr d => uptoBulk d + 1
  | .slice elems spare => uptoBulkAll elems + uptoBulkAll spare + 1
  | .agg parts => uptoBulkAll parts + 1
  | .iface _ d => uptoBulk d + 1
  | .map entries => uptoBulkEntries entries + 1
  | .held _ => 1
def uptoBulkAll {H : Type} : List (DataW H) → Nat
  | [] => 0
  | d :: r => uptoBulk d + uptoBulkAll r
def uptoBulkEntries {H : Type} : List (Lit × DataW H) → Nat
  | [] => 0
  | x :: r => uptoBulkEntry x + uptoBulkEntries r
def uptoBulkEntry {H : Type} : Lit × DataW H → Nat
  | (.string bytes, d) => bytes.length + uptoBulk d + 1
  | (_, d) => uptoBulk d + 1
 end
def uptoSmall : (H : Type) → List (DataW H) → Bool := fun _ ds => decide (uptoBulkAll ds ≤ 1048576)
def OpenSpec.upto (s : _root_.Go.ChangeSpec) : _root_.Go.OpenSpec := { _root_.Go.OpenSpec.ofChange s with cond := some uptoSmall }

/-- 'laws.FnExactIsTurnTable', WHERE WHAT IT READS IS OF BULK AT MOST 1048576: true; the input reads as it did. -/
def fnExactIsTurnTableUptoRow : OpenClaim := { program := "ythdaoanapklaiaa", sum := "e8638453af7c907b63827f2d76ad1c14ea890f48eef4ce31d06400abaef464a1", func := "loop.example/g01381/laws.FnExactIsTurnTable", spec := "fnExactIsTurnTable", apart := false, narrowed := true }
def FnExactIsTurnTableUptoSaid : Prop := fnExactIsTurnTableUptoRow.holds Try.pinned (OpenSpec.upto fnExactIsTurnTableSpec)

/-- 'laws.FnExactSameLife', WHERE WHAT IT READS IS OF BULK AT MOST 1048576: true; the input reads as it did. -/
def fnExactSameLifeUptoRow : OpenClaim := { program := "ythdaoanapklaiaa", sum := "e8638453af7c907b63827f2d76ad1c14ea890f48eef4ce31d06400abaef464a1", func := "loop.example/g01381/laws.FnExactSameLife", spec := "fnExactSameLife", apart := false, narrowed := true }
def FnExactSameLifeUptoSaid : Prop := fnExactSameLifeUptoRow.holds Try.pinned (OpenSpec.upto fnExactSameLifeSpec)

/-- 'laws.FnExactSameField', WHERE WHAT IT READS IS OF BULK AT MOST 1048576: true; the input reads as it did. -/
def fnExactSameFieldUptoRow : OpenClaim := { program := "ythdaoanapklaiaa", sum := "e8638453af7c907b63827f2d76ad1c14ea890f48eef4ce31d06400abaef464a1", func := "loop.example/g01381/laws.FnExactSameField", spec := "fnExactSameField", apart := false, narrowed := true }
def FnExactSameFieldUptoSaid : Prop := fnExactSameFieldUptoRow.holds Try.pinned (OpenSpec.upto fnExactSameFieldSpec)

/-- 'laws.FnExactNewField', WHERE WHAT IT READS IS OF BULK AT MOST 1048576: true; the input reads as it did. -/
def fnExactNewFieldUptoRow : OpenClaim := { program := "ythdaoanapklaiaa", sum := "e8638453af7c907b63827f2d76ad1c14ea890f48eef4ce31d06400abaef464a1", func := "loop.example/g01381/laws.FnExactNewField", spec := "fnExactNewField", unfollowed := true, recurses := true, apart := false, narrowed := true }
def FnExactNewFieldUptoSaid : Prop := fnExactNewFieldUptoRow.holds Try.pinned (OpenSpec.upto fnExactNewFieldSpec)

/-- 'laws.FnExactValidLife', WHERE WHAT IT READS IS OF BULK AT MOST 1048576: true; the input reads as it did. -/
def fnExactValidLifeUptoRow : OpenClaim := { program := "ythdaoanapklaiaa", sum := "e8638453af7c907b63827f2d76ad1c14ea890f48eef4ce31d06400abaef464a1", func := "loop.example/g01381/laws.FnExactValidLife", spec := "fnExactValidLife", apart := false, narrowed := true }
def FnExactValidLifeUptoSaid : Prop := fnExactValidLifeUptoRow.holds Try.pinned (OpenSpec.upto fnExactValidLifeSpec)

/-- 'laws.FnExactValidField', WHERE WHAT IT READS IS OF BULK AT MOST 1048576: true; the input reads as it did. -/
def fnExactValidFieldUptoRow : OpenClaim := { program := "ythdaoanapklaiaa", sum := "e8638453af7c907b63827f2d76ad1c14ea890f48eef4ce31d06400abaef464a1", func := "loop.example/g01381/laws.FnExactValidField", spec := "fnExactValidField", apart := false, narrowed := true }
def FnExactValidFieldUptoSaid : Prop := fnExactValidFieldUptoRow.holds Try.pinned (OpenSpec.upto fnExactValidFieldSpec)

/-- 'laws.FnExactBackTable', WHERE WHAT IT READS IS OF BULK AT MOST 1048576: true; the input reads as it did. -/
def fnExactBackTableUptoRow : OpenClaim := { program := "ythdaoanapklaiaa", sum := "e8638453af7c907b63827f2d76ad1c14ea890f48eef4ce31d06400abaef464a1", func := "loop.example/g01381/laws.FnExactBackTable", spec := "fnExactBackTable", apart := false, narrowed := true }
def FnExactBackTableUptoSaid : Prop := fnExactBackTableUptoRow.holds Try.pinned (OpenSpec.upto fnExactBackTableSpec)

end Rows
end Go.Proofs.Ythdaoanapklaiaa
