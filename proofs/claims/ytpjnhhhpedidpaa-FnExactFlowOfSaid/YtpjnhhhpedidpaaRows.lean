/-
  No cell of these rows narrows 'for every input' (looked for: loops, veiled, ifaces, maps, wideKeys, modest, calm, conditions, laid).
  DERIVED. THE GIVEN ROWS OF THIS SEAT. 12 by the template 'for every input the law returns true; each argument reads behind the call as it read before'; 0 by the template 'total and deterministic' (their statements: YtpjnhhhpedidpaaTotals.lean).
  GIVEN WITH THE SEED: the statements are not yours to turn. If you find one false, say at which input.
  Laid BY PROGRAM, IN A SANDBOX (cutbox-rows.mjs): the forced cells as the released guide's own fill.sh prints them over the translation ff281ea3be6c4f00… (all of the seat's roots in one cut). By AI agents, Wed Nov 11 2026. No macro, syntax, notation, axiom, sorry.
-/
import Derived.Test.YtpjnhhhpedidpaaChecked
import GoSem.Claim
import GoSem.ClaimJoined
import GoSem.ClaimMapViews
import Derived.JoinedTies
import Derived.KernelRfl
namespace Go.Proofs.Ytpjnhhhpedidpaa
/- THE CELL 'sum', in the pinned program and in every row, IS THE sha256 OF THE DUMP (.gsa) THAT YtpjnhhhpedidpaaProg.lean LOADS. Nothing in Lean hashes anything: it is a label: what it is worth is what the hold of that sum in a sandbox is worth. -/
noncomputable def Try.pinned : Pinned := { name := "ytpjnhhhpedidpaa", sum := "ff281ea3be6c4f00919ef7c704adac30e35dfb102ba4841983b9edcc14d0bc95", checked := Try.checked }
namespace Rows
def none {H : Type} : Left H := { results := [], args := [] }

/-- 'laws.FnExactIsEvenRule': WHATEVER THE INPUT: true; the input reads as it did. -/
def fnExactIsEvenRuleSpec : ChangeSpec := { name := "fnExactIsEvenRule", fn := fun _ => fun
  | [d] => { results := [.lit (.bool true)], args := [d] }
  | _ => none }
def fnExactIsEvenRuleRow : OpenClaim := { program := "ytpjnhhhpedidpaa", sum := "ff281ea3be6c4f00919ef7c704adac30e35dfb102ba4841983b9edcc14d0bc95", func := "loop.example/g01381/laws.FnExactIsEvenRule", spec := "fnExactIsEvenRule", apart := false }
def FnExactIsEvenRuleSaid : Prop := fnExactIsEvenRuleRow.holds Try.pinned (OpenSpec.ofChange fnExactIsEvenRuleSpec)

/-- ITS FALSE NEIGHBOUR: 'it returns false'. Refute it at one input. -/
def fnExactIsEvenRuleWrong : ChangeSpec := { name := "fnExactIsEvenRule", fn := fun _ => fun
  | [d] => { results := [.lit (.bool false)], args := [d] }
  | _ => none }
def FnExactIsEvenRuleWrongFalsely : Prop := fnExactIsEvenRuleRow.holds Try.pinned (OpenSpec.ofChange fnExactIsEvenRuleWrong)

/-- 'laws.FnExactPairTable': WHATEVER THE INPUT: true; the input reads as it did. -/
def fnExactPairTableSpec : ChangeSpec := { name := "fnExactPairTable", fn := fun _ => fun
  | [d1, d2] => { results := [.lit (.bool true)], args := [d1, d2] }
  | _ => none }
def fnExactPairTableRow : OpenClaim := { program := "ytpjnhhhpedidpaa", sum := "ff281ea3be6c4f00919ef7c704adac30e35dfb102ba4841983b9edcc14d0bc95", func := "loop.example/g01381/laws.FnExactPairTable", spec := "fnExactPairTable", apart := false }
def FnExactPairTableSaid : Prop := fnExactPairTableRow.holds Try.pinned (OpenSpec.ofChange fnExactPairTableSpec)

/-- ITS FALSE NEIGHBOUR: 'it returns false'. Refute it at one input. -/
def fnExactPairTableWrong : ChangeSpec := { name := "fnExactPairTable", fn := fun _ => fun
  | [d1, d2] => { results := [.lit (.bool false)], args := [d1, d2] }
  | _ => none }
def FnExactPairTableWrongFalsely : Prop := fnExactPairTableRow.holds Try.pinned (OpenSpec.ofChange fnExactPairTableWrong)

/-- 'laws.FnExactKeepsSum': WHATEVER THE INPUT: true; the input reads as it did. -/
def fnExactKeepsSumSpec : ChangeSpec := { name := "fnExactKeepsSum", fn := fun _ => fun
  | [d] => { results := [.lit (.bool true)], args := [d] }
  | _ => none }
def fnExactKeepsSumRow : OpenClaim := { program := "ytpjnhhhpedidpaa", sum := "ff281ea3be6c4f00919ef7c704adac30e35dfb102ba4841983b9edcc14d0bc95", func := "loop.example/g01381/laws.FnExactKeepsSum", spec := "fnExactKeepsSum", apart := false }
def FnExactKeepsSumSaid : Prop := fnExactKeepsSumRow.holds Try.pinned (OpenSpec.ofChange fnExactKeepsSumSpec)

/-- ITS FALSE NEIGHBOUR: 'it returns false'. Refute it at one input. -/
def fnExactKeepsSumWrong : ChangeSpec := { name := "fnExactKeepsSum", fn := fun _ => fun
  | [d] => { results := [.lit (.bool false)], args := [d] }
  | _ => none }
def FnExactKeepsSumWrongFalsely : Prop := fnExactKeepsSumRow.holds Try.pinned (OpenSpec.ofChange fnExactKeepsSumWrong)

/-- 'laws.FnExactIsAdding': WHATEVER THE INPUT: true; the input reads as it did. -/
def fnExactIsAddingSpec : ChangeSpec := { name := "fnExactIsAdding", fn := fun _ => fun
  | [d] => { results := [.lit (.bool true)], args := [d] }
  | _ => none }
def fnExactIsAddingRow : OpenClaim := { program := "ytpjnhhhpedidpaa", sum := "ff281ea3be6c4f00919ef7c704adac30e35dfb102ba4841983b9edcc14d0bc95", func := "loop.example/g01381/laws.FnExactIsAdding", spec := "fnExactIsAdding", unfollowed := true, recurses := true, apart := false }
def FnExactIsAddingSaid : Prop := fnExactIsAddingRow.holds Try.pinned (OpenSpec.ofChange fnExactIsAddingSpec)

/-- ITS FALSE NEIGHBOUR: 'it returns false'. Refute it at one input. -/
def fnExactIsAddingWrong : ChangeSpec := { name := "fnExactIsAdding", fn := fun _ => fun
  | [d] => { results := [.lit (.bool false)], args := [d] }
  | _ => none }
def FnExactIsAddingWrongFalsely : Prop := fnExactIsAddingRow.holds Try.pinned (OpenSpec.ofChange fnExactIsAddingWrong)

/-- 'laws.FnExactAddingTerms': WHATEVER THE INPUT: true; the input reads as it did. -/
def fnExactAddingTermsSpec : ChangeSpec := { name := "fnExactAddingTerms", fn := fun _ => fun
  | [d] => { results := [.lit (.bool true)], args := [d] }
  | _ => none }
def fnExactAddingTermsRow : OpenClaim := { program := "ytpjnhhhpedidpaa", sum := "ff281ea3be6c4f00919ef7c704adac30e35dfb102ba4841983b9edcc14d0bc95", func := "loop.example/g01381/laws.FnExactAddingTerms", spec := "fnExactAddingTerms", unfollowed := true, recurses := true, apart := false }
def FnExactAddingTermsSaid : Prop := fnExactAddingTermsRow.holds Try.pinned (OpenSpec.ofChange fnExactAddingTermsSpec)

/-- ITS FALSE NEIGHBOUR: 'it returns false'. Refute it at one input. -/
def fnExactAddingTermsWrong : ChangeSpec := { name := "fnExactAddingTerms", fn := fun _ => fun
  | [d] => { results := [.lit (.bool false)], args := [d] }
  | _ => none }
def FnExactAddingTermsWrongFalsely : Prop := fnExactAddingTermsRow.holds Try.pinned (OpenSpec.ofChange fnExactAddingTermsWrong)

/-- 'laws.FnExactFlowOf': WHATEVER THE INPUT: true; the input reads as it did. -/
def fnExactFlowOfSpec : ChangeSpec := { name := "fnExactFlowOf", fn := fun _ => fun
  | [d] => { results := [.lit (.bool true)], args := [d] }
  | _ => none }
def fnExactFlowOfRow : OpenClaim := { program := "ytpjnhhhpedidpaa", sum := "ff281ea3be6c4f00919ef7c704adac30e35dfb102ba4841983b9edcc14d0bc95", func := "loop.example/g01381/laws.FnExactFlowOf", spec := "fnExactFlowOf", apart := false }
def FnExactFlowOfSaid : Prop := fnExactFlowOfRow.holds Try.pinned (OpenSpec.ofChange fnExactFlowOfSpec)

/-- ITS FALSE NEIGHBOUR: 'it returns false'. Refute it at one input. -/
def fnExactFlowOfWrong : ChangeSpec := { name := "fnExactFlowOf", fn := fun _ => fun
  | [d] => { results := [.lit (.bool false)], args := [d] }
  | _ => none }
def FnExactFlowOfWrongFalsely : Prop := fnExactFlowOfRow.holds Try.pinned (OpenSpec.ofChange fnExactFlowOfWrong)

/-- 'laws.FnExactAloneSteps': WHATEVER THE INPUT: true; the input reads as it did. -/
def fnExactAloneStepsSpec : ChangeSpec := { name := "fnExactAloneSteps", fn := fun _ => fun
  | [d1, d2, d3] => { results := [.lit (.bool true)], args := [d1, d2, d3] }
  | _ => none }
def fnExactAloneStepsRow : OpenClaim := { program := "ytpjnhhhpedidpaa", sum := "ff281ea3be6c4f00919ef7c704adac30e35dfb102ba4841983b9edcc14d0bc95", func := "loop.example/g01381/laws.FnExactAloneSteps", spec := "fnExactAloneSteps", unfollowed := true, recurses := true, apart := false }
def FnExactAloneStepsSaid : Prop := fnExactAloneStepsRow.holds Try.pinned (OpenSpec.ofChange fnExactAloneStepsSpec)

/-- ITS FALSE NEIGHBOUR: 'it returns false'. Refute it at one input. -/
def fnExactAloneStepsWrong : ChangeSpec := { name := "fnExactAloneSteps", fn := fun _ => fun
  | [d1, d2, d3] => { results := [.lit (.bool false)], args := [d1, d2, d3] }
  | _ => none }
def FnExactAloneStepsWrongFalsely : Prop := fnExactAloneStepsRow.holds Try.pinned (OpenSpec.ofChange fnExactAloneStepsWrong)

/-- 'laws.FnExactSecondStep': WHATEVER THE INPUT: true; the input reads as it did. -/
def fnExactSecondStepSpec : ChangeSpec := { name := "fnExactSecondStep", fn := fun _ => fun
  | [d1, d2, d3] => { results := [.lit (.bool true)], args := [d1, d2, d3] }
  | _ => none }
def fnExactSecondStepRow : OpenClaim := { program := "ytpjnhhhpedidpaa", sum := "ff281ea3be6c4f00919ef7c704adac30e35dfb102ba4841983b9edcc14d0bc95", func := "loop.example/g01381/laws.FnExactSecondStep", spec := "fnExactSecondStep", unfollowed := true, recurses := true, apart := false }
def FnExactSecondStepSaid : Prop := fnExactSecondStepRow.holds Try.pinned (OpenSpec.ofChange fnExactSecondStepSpec)

/-- ITS FALSE NEIGHBOUR: 'it returns false'. Refute it at one input. -/
def fnExactSecondStepWrong : ChangeSpec := { name := "fnExactSecondStep", fn := fun _ => fun
  | [d1, d2, d3] => { results := [.lit (.bool false)], args := [d1, d2, d3] }
  | _ => none }
def FnExactSecondStepWrongFalsely : Prop := fnExactSecondStepRow.holds Try.pinned (OpenSpec.ofChange fnExactSecondStepWrong)

/-- 'laws.FnExactStepRing': WHATEVER THE INPUT: true; the input reads as it did. -/
def fnExactStepRingSpec : ChangeSpec := { name := "fnExactStepRing", fn := fun _ => fun
  | [d1, d2] => { results := [.lit (.bool true)], args := [d1, d2] }
  | _ => none }
def fnExactStepRingRow : OpenClaim := { program := "ytpjnhhhpedidpaa", sum := "ff281ea3be6c4f00919ef7c704adac30e35dfb102ba4841983b9edcc14d0bc95", func := "loop.example/g01381/laws.FnExactStepRing", spec := "fnExactStepRing", unfollowed := true, recurses := true, apart := false }
def FnExactStepRingSaid : Prop := fnExactStepRingRow.holds Try.pinned (OpenSpec.ofChange fnExactStepRingSpec)

/-- ITS FALSE NEIGHBOUR: 'it returns false'. Refute it at one input. -/
def fnExactStepRingWrong : ChangeSpec := { name := "fnExactStepRing", fn := fun _ => fun
  | [d1, d2] => { results := [.lit (.bool false)], args := [d1, d2] }
  | _ => none }
def FnExactStepRingWrongFalsely : Prop := fnExactStepRingRow.holds Try.pinned (OpenSpec.ofChange fnExactStepRingWrong)

/-- 'laws.FnExactRunRing': WHATEVER THE INPUT: true; the input reads as it did. -/
def fnExactRunRingSpec : ChangeSpec := { name := "fnExactRunRing", fn := fun _ => fun
  | [d1, d2, d3] => { results := [.lit (.bool true)], args := [d1, d2, d3] }
  | _ => none }
def fnExactRunRingRow : OpenClaim := { program := "ytpjnhhhpedidpaa", sum := "ff281ea3be6c4f00919ef7c704adac30e35dfb102ba4841983b9edcc14d0bc95", func := "loop.example/g01381/laws.FnExactRunRing", spec := "fnExactRunRing", unfollowed := true, recurses := true, apart := false }
def FnExactRunRingSaid : Prop := fnExactRunRingRow.holds Try.pinned (OpenSpec.ofChange fnExactRunRingSpec)

/-- ITS FALSE NEIGHBOUR: 'it returns false'. Refute it at one input. -/
def fnExactRunRingWrong : ChangeSpec := { name := "fnExactRunRing", fn := fun _ => fun
  | [d1, d2, d3] => { results := [.lit (.bool false)], args := [d1, d2, d3] }
  | _ => none }
def FnExactRunRingWrongFalsely : Prop := fnExactRunRingRow.holds Try.pinned (OpenSpec.ofChange fnExactRunRingWrong)

/-- 'laws.FnExactCountBack': WHATEVER THE INPUT: true; the input reads as it did. -/
def fnExactCountBackSpec : ChangeSpec := { name := "fnExactCountBack", fn := fun _ => fun
  | [d1, d2] => { results := [.lit (.bool true)], args := [d1, d2] }
  | _ => none }
def fnExactCountBackRow : OpenClaim := { program := "ytpjnhhhpedidpaa", sum := "ff281ea3be6c4f00919ef7c704adac30e35dfb102ba4841983b9edcc14d0bc95", func := "loop.example/g01381/laws.FnExactCountBack", spec := "fnExactCountBack", unfollowed := true, recurses := true, apart := false }
def FnExactCountBackSaid : Prop := fnExactCountBackRow.holds Try.pinned (OpenSpec.ofChange fnExactCountBackSpec)

/-- ITS FALSE NEIGHBOUR: 'it returns false'. Refute it at one input. -/
def fnExactCountBackWrong : ChangeSpec := { name := "fnExactCountBack", fn := fun _ => fun
  | [d1, d2] => { results := [.lit (.bool false)], args := [d1, d2] }
  | _ => none }
def FnExactCountBackWrongFalsely : Prop := fnExactCountBackRow.holds Try.pinned (OpenSpec.ofChange fnExactCountBackWrong)

/-- 'laws.FnExactWordEntropy': WHATEVER THE INPUT: true; the input reads as it did. -/
def fnExactWordEntropySpec : ChangeSpec := { name := "fnExactWordEntropy", fn := fun _ => fun
  | [d1, d2, d3] => { results := [.lit (.bool true)], args := [d1, d2, d3] }
  | _ => none }
def fnExactWordEntropyRow : OpenClaim := { program := "ytpjnhhhpedidpaa", sum := "ff281ea3be6c4f00919ef7c704adac30e35dfb102ba4841983b9edcc14d0bc95", func := "loop.example/g01381/laws.FnExactWordEntropy", spec := "fnExactWordEntropy", inPlace := ["math.Float64frombits", "math.Float64bits"], apart := false }
def FnExactWordEntropySaid : Prop := fnExactWordEntropyRow.holds Try.pinned (OpenSpec.ofChange fnExactWordEntropySpec)

/-- ITS FALSE NEIGHBOUR: 'it returns false'. Refute it at one input. -/
def fnExactWordEntropyWrong : ChangeSpec := { name := "fnExactWordEntropy", fn := fun _ => fun
  | [d1, d2, d3] => { results := [.lit (.bool false)], args := [d1, d2, d3] }
  | _ => none }
def FnExactWordEntropyWrongFalsely : Prop := fnExactWordEntropyRow.holds Try.pinned (OpenSpec.ofChange fnExactWordEntropyWrong)

/- THE SECOND FORM. 'bulk': how many values and letters a reading holds, each counted each time it is reached (what is shared counts as often as it is met; a slice's spare places count too). A statement '..UptoSaid' is the law's where the arguments, and the package variables that the reading takes, are together of bulk at most 1048576: NARROWER than '..Said'. Prove '..Said' where nothing that the law and all that it calls make is longer than what came in: it says more and counts as full. Else prove '..UptoSaid'. A law counts once. -/
mutual
def uptoBulk {H : Type} : DataW H → Nat
  | .lit (.string bytes) => bytes.length + 1
  | .lit _ => 1
  | .nil => 1
  | .ptr d => uptoBulk d + 1
  | .slice elems spare => uptoBulkAll elems + uptoBulkAll spare + 1
  | .agg parts => uptoBulkAll parts + 1
  | .iface _ d => uptoBulk d + 1
  | .map entries => uptoBulkEntries entries + 1
  | .held _ => 1
def uptoBulkAll {H : Type} : List (DataW H) → Nat
  | [] => 0
  | d :: r => uptoBulk d + uptoBulkAll r
def uptoBulkEntries {H : Type} : List (Lit × DataW H) → Nat
  | [] => 0
  | x :: r => uptoBulkEntry x + uptoBulkEntries r
def uptoBulkEntry {H : Type} : Lit × DataW H → Nat
  | (.string bytes, d) => bytes.length + uptoBulk d + 1
  | (_, d) => uptoBulk d + 1
 end
def uptoSmall : (H : Type) → List (DataW H) → Bool := fun _ ds => decide (uptoBulkAll ds ≤ 1048576)
def OpenSpec.upto (s : _root_.Go.ChangeSpec) : _root_.Go.OpenSpec := { _root_.Go.OpenSpec.ofChange s with cond := some uptoSmall }

/-- 'laws.FnExactIsEvenRule', WHERE WHAT IT READS IS OF BULK AT MOST 1048576: true; the input reads as it did. -/
def fnExactIsEvenRuleUptoRow : OpenClaim := { program := "ytpjnhhhpedidpaa", sum := "ff281ea3be6c4f00919ef7c704adac30e35dfb102ba4841983b9edcc14d0bc95", func := "loop.example/g01381/laws.FnExactIsEvenRule", spec := "fnExactIsEvenRule", apart := false, narrowed := true }
def FnExactIsEvenRuleUptoSaid : Prop := fnExactIsEvenRuleUptoRow.holds Try.pinned (OpenSpec.upto fnExactIsEvenRuleSpec)

/-- 'laws.FnExactPairTable', WHERE WHAT IT READS IS OF BULK AT MOST 1048576: true; the input reads as it did. -/
def fnExactPairTableUptoRow : OpenClaim := { program := "ytpjnhhhpedidpaa", sum := "ff281ea3be6c4f00919ef7c704adac30e35dfb102ba4841983b9edcc14d0bc95", func := "loop.example/g01381/laws.FnExactPairTable", spec := "fnExactPairTable", apart := false, narrowed := true }
def FnExactPairTableUptoSaid : Prop := fnExactPairTableUptoRow.holds Try.pinned (OpenSpec.upto fnExactPairTableSpec)

/-- 'laws.FnExactKeepsSum', WHERE WHAT IT READS IS OF BULK AT MOST 1048576: true; the input reads as it did. -/
def fnExactKeepsSumUptoRow : OpenClaim := { program := "ytpjnhhhpedidpaa", sum := "ff281ea3be6c4f00919ef7c704adac30e35dfb102ba4841983b9edcc14d0bc95", func := "loop.example/g01381/laws.FnExactKeepsSum", spec := "fnExactKeepsSum", apart := false, narrowed := true }
def FnExactKeepsSumUptoSaid : Prop := fnExactKeepsSumUptoRow.holds Try.pinned (OpenSpec.upto fnExactKeepsSumSpec)

/-- 'laws.FnExactIsAdding', WHERE WHAT IT READS IS OF BULK AT MOST 1048576: true; the input reads as it did. -/
def fnExactIsAddingUptoRow : OpenClaim := { program := "ytpjnhhhpedidpaa", sum := "ff281ea3be6c4f00919ef7c704adac30e35dfb102ba4841983b9edcc14d0bc95", func := "loop.example/g01381/laws.FnExactIsAdding", spec := "fnExactIsAdding", unfollowed := true, recurses := true, apart := false, narrowed := true }
def FnExactIsAddingUptoSaid : Prop := fnExactIsAddingUptoRow.holds Try.pinned (OpenSpec.upto fnExactIsAddingSpec)

/-- 'laws.FnExactAddingTerms', WHERE WHAT IT READS IS OF BULK AT MOST 1048576: true; the input reads as it did. -/
def fnExactAddingTermsUptoRow : OpenClaim := { program := "ytpjnhhhpedidpaa", sum := "ff281ea3be6c4f00919ef7c704adac30e35dfb102ba4841983b9edcc14d0bc95", func := "loop.example/g01381/laws.FnExactAddingTerms", spec := "fnExactAddingTerms", unfollowed := true, recurses := true, apart := false, narrowed := true }
def FnExactAddingTermsUptoSaid : Prop := fnExactAddingTermsUptoRow.holds Try.pinned (OpenSpec.upto fnExactAddingTermsSpec)

/-- 'laws.FnExactFlowOf', WHERE WHAT IT READS IS OF BULK AT MOST 1048576: true; the input reads as it did. -/
def fnExactFlowOfUptoRow : OpenClaim := { program := "ytpjnhhhpedidpaa", sum := "ff281ea3be6c4f00919ef7c704adac30e35dfb102ba4841983b9edcc14d0bc95", func := "loop.example/g01381/laws.FnExactFlowOf", spec := "fnExactFlowOf", apart := false, narrowed := true }
def FnExactFlowOfUptoSaid : Prop := fnExactFlowOfUptoRow.holds Try.pinned (OpenSpec.upto fnExactFlowOfSpec)

/-- 'laws.FnExactAloneSteps', WHERE WHAT IT READS IS OF BULK AT MOST 1048576: true; the input reads as it did. -/
def fnExactAloneStepsUptoRow : OpenClaim := { program := "ytpjnhhhpedidpaa", sum := "ff281ea3be6c4f00919ef7c704adac30e35dfb102ba4841983b9edcc14d0bc95", func := "loop.example/g01381/laws.FnExactAloneSteps", spec := "fnExactAloneSteps", unfollowed := true, recurses := true, apart := false, narrowed := true }
def FnExactAloneStepsUptoSaid : Prop := fnExactAloneStepsUptoRow.holds Try.pinned (OpenSpec.upto fnExactAloneStepsSpec)

/-- 'laws.FnExactSecondStep', WHERE WHAT IT READS IS OF BULK AT MOST 1048576: true; the input reads as it did. -/
def fnExactSecondStepUptoRow : OpenClaim := { program := "ytpjnhhhpedidpaa", sum := "ff281ea3be6c4f00919ef7c704adac30e35dfb102ba4841983b9edcc14d0bc95", func := "loop.example/g01381/laws.FnExactSecondStep", spec := "fnExactSecondStep", unfollowed := true, recurses := true, apart := false, narrowed := true }
def FnExactSecondStepUptoSaid : Prop := fnExactSecondStepUptoRow.holds Try.pinned (OpenSpec.upto fnExactSecondStepSpec)

/-- 'laws.FnExactStepRing', WHERE WHAT IT READS IS OF BULK AT MOST 1048576: true; the input reads as it did. -/
def fnExactStepRingUptoRow : OpenClaim := { program := "ytpjnhhhpedidpaa", sum := "ff281ea3be6c4f00919ef7c704adac30e35dfb102ba4841983b9edcc14d0bc95", func := "loop.example/g01381/laws.FnExactStepRing", spec := "fnExactStepRing", unfollowed := true, recurses := true, apart := false, narrowed := true }
def FnExactStepRingUptoSaid : Prop := fnExactStepRingUptoRow.holds Try.pinned (OpenSpec.upto fnExactStepRingSpec)

/-- 'laws.FnExactRunRing', WHERE WHAT IT READS IS OF BULK AT MOST 1048576: true; the input reads as it did. -/
def fnExactRunRingUptoRow : OpenClaim := { program := "ytpjnhhhpedidpaa", sum := "ff281ea3be6c4f00919ef7c704adac30e35dfb102ba4841983b9edcc14d0bc95", func := "loop.example/g01381/laws.FnExactRunRing", spec := "fnExactRunRing", unfollowed := true, recurses := true, apart := false, narrowed := true }
def FnExactRunRingUptoSaid : Prop := fnExactRunRingUptoRow.holds Try.pinned (OpenSpec.upto fnExactRunRingSpec)

/-- 'laws.FnExactCountBack', WHERE WHAT IT READS IS OF BULK AT MOST 1048576: true; the input reads as it did. -/
def fnExactCountBackUptoRow : OpenClaim := { program := "ytpjnhhhpedidpaa", sum := "ff281ea3be6c4f00919ef7c704adac30e35dfb102ba4841983b9edcc14d0bc95", func := "loop.example/g01381/laws.FnExactCountBack", spec := "fnExactCountBack", unfollowed := true, recurses := true, apart := false, narrowed := true }
def FnExactCountBackUptoSaid : Prop := fnExactCountBackUptoRow.holds Try.pinned (OpenSpec.upto fnExactCountBackSpec)

/-- 'laws.FnExactWordEntropy', WHERE WHAT IT READS IS OF BULK AT MOST 1048576: true; the input reads as it did. -/
def fnExactWordEntropyUptoRow : OpenClaim := { program := "ytpjnhhhpedidpaa", sum := "ff281ea3be6c4f00919ef7c704adac30e35dfb102ba4841983b9edcc14d0bc95", func := "loop.example/g01381/laws.FnExactWordEntropy", spec := "fnExactWordEntropy", inPlace := ["math.Float64frombits", "math.Float64bits"], apart := false, narrowed := true }
def FnExactWordEntropyUptoSaid : Prop := fnExactWordEntropyUptoRow.holds Try.pinned (OpenSpec.upto fnExactWordEntropySpec)

end Rows
end Go.Proofs.Ytpjnhhhpedidpaa
