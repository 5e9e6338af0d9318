/-
  No cell of these rows narrows 'for every input' (looked for: loops, veiled, ifaces, maps, wideKeys, modest, calm, conditions, laid).
  DERIVED. THE GIVEN ROWS OF THIS SEAT. 12 by the template 'for every input the law returns true; each argument reads behind the call as it read before'; 0 by the template 'total and deterministic' (their statements: YtkeabhhndcpejaaTotals.lean).
  GIVEN WITH THE SEED: the statements are not yours to turn. If you find one false, say at which input.
  Laid BY PROGRAM, IN A SANDBOX (cutbox-rows.mjs): the forced cells as the released guide's own fill.sh prints them over the translation 55d0568c5d297d2e… (all of the seat's roots in one cut). By AI agents, Wed Nov 11 2026. No macro, syntax, notation, axiom, sorry.
-/
import Derived.Test.YtkeabhhndcpejaaChecked
import GoSem.Claim
import GoSem.ClaimJoined
import GoSem.ClaimMapViews
import Derived.JoinedTies
import Derived.KernelRfl
namespace Go.Proofs.Ytkeabhhndcpejaa
/- THE CELL 'sum', in the pinned program and in every row, IS THE sha256 OF THE DUMP (.gsa) THAT YtkeabhhndcpejaaProg.lean LOADS. Nothing in Lean hashes anything: it is a label: what it is worth is what the hold of that sum in a sandbox is worth. -/
noncomputable def Try.pinned : Pinned := { name := "ytkeabhhndcpejaa", sum := "55d0568c5d297d2ecd38e5bee7c98adb8783ebcf8d80f9984fbff39e5ea684f4", checked := Try.checked }
namespace Rows
def none {H : Type} : Left H := { results := [], args := [] }

/-- 'laws.FnExactDamageOf': WHATEVER THE INPUT: true; the input reads as it did. -/
def fnExactDamageOfSpec : ChangeSpec := { name := "fnExactDamageOf", fn := fun _ => fun
  | [d1, d2, d3, d4] => { results := [.lit (.bool true)], args := [d1, d2, d3, d4] }
  | _ => none }
def fnExactDamageOfRow : OpenClaim := { program := "ytkeabhhndcpejaa", sum := "55d0568c5d297d2ecd38e5bee7c98adb8783ebcf8d80f9984fbff39e5ea684f4", func := "loop.example/g01381/laws.FnExactDamageOf", spec := "fnExactDamageOf", unfollowed := true, recurses := true, apart := false }
def FnExactDamageOfSaid : Prop := fnExactDamageOfRow.holds Try.pinned (OpenSpec.ofChange fnExactDamageOfSpec)

/-- ITS FALSE NEIGHBOUR: 'it returns false'. Refute it at one input. -/
def fnExactDamageOfWrong : ChangeSpec := { name := "fnExactDamageOf", fn := fun _ => fun
  | [d1, d2, d3, d4] => { results := [.lit (.bool false)], args := [d1, d2, d3, d4] }
  | _ => none }
def FnExactDamageOfWrongFalsely : Prop := fnExactDamageOfRow.holds Try.pinned (OpenSpec.ofChange fnExactDamageOfWrong)

/-- 'laws.FnExactWordsThatCome': WHATEVER THE INPUT: true; the input reads as it did. -/
def fnExactWordsThatComeSpec : ChangeSpec := { name := "fnExactWordsThatCome", fn := fun _ => fun
  | [d1, d2, d3] => { results := [.lit (.bool true)], args := [d1, d2, d3] }
  | _ => none }
def fnExactWordsThatComeRow : OpenClaim := { program := "ytkeabhhndcpejaa", sum := "55d0568c5d297d2ecd38e5bee7c98adb8783ebcf8d80f9984fbff39e5ea684f4", func := "loop.example/g01381/laws.FnExactWordsThatCome", spec := "fnExactWordsThatCome", apart := false }
def FnExactWordsThatComeSaid : Prop := fnExactWordsThatComeRow.holds Try.pinned (OpenSpec.ofChange fnExactWordsThatComeSpec)

/-- ITS FALSE NEIGHBOUR: 'it returns false'. Refute it at one input. -/
def fnExactWordsThatComeWrong : ChangeSpec := { name := "fnExactWordsThatCome", fn := fun _ => fun
  | [d1, d2, d3] => { results := [.lit (.bool false)], args := [d1, d2, d3] }
  | _ => none }
def FnExactWordsThatComeWrongFalsely : Prop := fnExactWordsThatComeRow.holds Try.pinned (OpenSpec.ofChange fnExactWordsThatComeWrong)

/-- 'laws.FnExactWordsBack': WHATEVER THE INPUT: true; the input reads as it did. -/
def fnExactWordsBackSpec : ChangeSpec := { name := "fnExactWordsBack", fn := fun _ => fun
  | [d1, d2] => { results := [.lit (.bool true)], args := [d1, d2] }
  | _ => none }
def fnExactWordsBackRow : OpenClaim := { program := "ytkeabhhndcpejaa", sum := "55d0568c5d297d2ecd38e5bee7c98adb8783ebcf8d80f9984fbff39e5ea684f4", func := "loop.example/g01381/laws.FnExactWordsBack", spec := "fnExactWordsBack", apart := false }
def FnExactWordsBackSaid : Prop := fnExactWordsBackRow.holds Try.pinned (OpenSpec.ofChange fnExactWordsBackSpec)

/-- ITS FALSE NEIGHBOUR: 'it returns false'. Refute it at one input. -/
def fnExactWordsBackWrong : ChangeSpec := { name := "fnExactWordsBack", fn := fun _ => fun
  | [d1, d2] => { results := [.lit (.bool false)], args := [d1, d2] }
  | _ => none }
def FnExactWordsBackWrongFalsely : Prop := fnExactWordsBackRow.holds Try.pinned (OpenSpec.ofChange fnExactWordsBackWrong)

/-- 'laws.FnExactCanCome': WHATEVER THE INPUT: true; the input reads as it did. -/
def fnExactCanComeSpec : ChangeSpec := { name := "fnExactCanCome", fn := fun _ => fun
  | [d1, d2, d3] => { results := [.lit (.bool true)], args := [d1, d2, d3] }
  | _ => none }
def fnExactCanComeRow : OpenClaim := { program := "ytkeabhhndcpejaa", sum := "55d0568c5d297d2ecd38e5bee7c98adb8783ebcf8d80f9984fbff39e5ea684f4", func := "loop.example/g01381/laws.FnExactCanCome", spec := "fnExactCanCome", apart := false }
def FnExactCanComeSaid : Prop := fnExactCanComeRow.holds Try.pinned (OpenSpec.ofChange fnExactCanComeSpec)

/-- ITS FALSE NEIGHBOUR: 'it returns false'. Refute it at one input. -/
def fnExactCanComeWrong : ChangeSpec := { name := "fnExactCanCome", fn := fun _ => fun
  | [d1, d2, d3] => { results := [.lit (.bool false)], args := [d1, d2, d3] }
  | _ => none }
def FnExactCanComeWrongFalsely : Prop := fnExactCanComeRow.holds Try.pinned (OpenSpec.ofChange fnExactCanComeWrong)

/-- 'laws.FnExactImagesOf': WHATEVER THE INPUT: true; the input reads as it did. -/
def fnExactImagesOfSpec : ChangeSpec := { name := "fnExactImagesOf", fn := fun _ => fun
  | [d1, d2] => { results := [.lit (.bool true)], args := [d1, d2] }
  | _ => none }
def fnExactImagesOfRow : OpenClaim := { program := "ytkeabhhndcpejaa", sum := "55d0568c5d297d2ecd38e5bee7c98adb8783ebcf8d80f9984fbff39e5ea684f4", func := "loop.example/g01381/laws.FnExactImagesOf", spec := "fnExactImagesOf", apart := false }
def FnExactImagesOfSaid : Prop := fnExactImagesOfRow.holds Try.pinned (OpenSpec.ofChange fnExactImagesOfSpec)

/-- ITS FALSE NEIGHBOUR: 'it returns false'. Refute it at one input. -/
def fnExactImagesOfWrong : ChangeSpec := { name := "fnExactImagesOf", fn := fun _ => fun
  | [d1, d2] => { results := [.lit (.bool false)], args := [d1, d2] }
  | _ => none }
def FnExactImagesOfWrongFalsely : Prop := fnExactImagesOfRow.holds Try.pinned (OpenSpec.ofChange fnExactImagesOfWrong)

/-- 'laws.FnExactKeepsCount': WHATEVER THE INPUT: true; the input reads as it did. -/
def fnExactKeepsCountSpec : ChangeSpec := { name := "fnExactKeepsCount", fn := fun _ => fun
  | [d1, d2, d3] => { results := [.lit (.bool true)], args := [d1, d2, d3] }
  | _ => none }
def fnExactKeepsCountRow : OpenClaim := { program := "ytkeabhhndcpejaa", sum := "55d0568c5d297d2ecd38e5bee7c98adb8783ebcf8d80f9984fbff39e5ea684f4", func := "loop.example/g01381/laws.FnExactKeepsCount", spec := "fnExactKeepsCount", apart := false }
def FnExactKeepsCountSaid : Prop := fnExactKeepsCountRow.holds Try.pinned (OpenSpec.ofChange fnExactKeepsCountSpec)

/-- ITS FALSE NEIGHBOUR: 'it returns false'. Refute it at one input. -/
def fnExactKeepsCountWrong : ChangeSpec := { name := "fnExactKeepsCount", fn := fun _ => fun
  | [d1, d2, d3] => { results := [.lit (.bool false)], args := [d1, d2, d3] }
  | _ => none }
def FnExactKeepsCountWrongFalsely : Prop := fnExactKeepsCountRow.holds Try.pinned (OpenSpec.ofChange fnExactKeepsCountWrong)

/-- 'laws.FnExactPeriodOf': WHATEVER THE INPUT: true; the input reads as it did. -/
def fnExactPeriodOfSpec : ChangeSpec := { name := "fnExactPeriodOf", fn := fun _ => fun
  | [d1, d2, d3] => { results := [.lit (.bool true)], args := [d1, d2, d3] }
  | _ => none }
def fnExactPeriodOfRow : OpenClaim := { program := "ytkeabhhndcpejaa", sum := "55d0568c5d297d2ecd38e5bee7c98adb8783ebcf8d80f9984fbff39e5ea684f4", func := "loop.example/g01381/laws.FnExactPeriodOf", spec := "fnExactPeriodOf", unfollowed := true, recurses := true, apart := false }
def FnExactPeriodOfSaid : Prop := fnExactPeriodOfRow.holds Try.pinned (OpenSpec.ofChange fnExactPeriodOfSpec)

/-- ITS FALSE NEIGHBOUR: 'it returns false'. Refute it at one input. -/
def fnExactPeriodOfWrong : ChangeSpec := { name := "fnExactPeriodOf", fn := fun _ => fun
  | [d1, d2, d3] => { results := [.lit (.bool false)], args := [d1, d2, d3] }
  | _ => none }
def FnExactPeriodOfWrongFalsely : Prop := fnExactPeriodOfRow.holds Try.pinned (OpenSpec.ofChange fnExactPeriodOfWrong)

/-- 'laws.FnExactRowsOfRing': WHATEVER THE INPUT: true; the input reads as it did. -/
def fnExactRowsOfRingSpec : ChangeSpec := { name := "fnExactRowsOfRing", fn := fun _ => fun
  | [d1, d2, d3] => { results := [.lit (.bool true)], args := [d1, d2, d3] }
  | _ => none }
def fnExactRowsOfRingRow : OpenClaim := { program := "ytkeabhhndcpejaa", sum := "55d0568c5d297d2ecd38e5bee7c98adb8783ebcf8d80f9984fbff39e5ea684f4", func := "loop.example/g01381/laws.FnExactRowsOfRing", spec := "fnExactRowsOfRing", unfollowed := true, recurses := true, apart := false }
def FnExactRowsOfRingSaid : Prop := fnExactRowsOfRingRow.holds Try.pinned (OpenSpec.ofChange fnExactRowsOfRingSpec)

/-- ITS FALSE NEIGHBOUR: 'it returns false'. Refute it at one input. -/
def fnExactRowsOfRingWrong : ChangeSpec := { name := "fnExactRowsOfRing", fn := fun _ => fun
  | [d1, d2, d3] => { results := [.lit (.bool false)], args := [d1, d2, d3] }
  | _ => none }
def FnExactRowsOfRingWrongFalsely : Prop := fnExactRowsOfRingRow.holds Try.pinned (OpenSpec.ofChange fnExactRowsOfRingWrong)

/-- 'laws.FnExactGardensOf': WHATEVER THE INPUT: true; the input reads as it did. -/
def fnExactGardensOfSpec : ChangeSpec := { name := "fnExactGardensOf", fn := fun _ => fun
  | [d1, d2] => { results := [.lit (.bool true)], args := [d1, d2] }
  | _ => none }
def fnExactGardensOfRow : OpenClaim := { program := "ytkeabhhndcpejaa", sum := "55d0568c5d297d2ecd38e5bee7c98adb8783ebcf8d80f9984fbff39e5ea684f4", func := "loop.example/g01381/laws.FnExactGardensOf", spec := "fnExactGardensOf", apart := false }
def FnExactGardensOfSaid : Prop := fnExactGardensOfRow.holds Try.pinned (OpenSpec.ofChange fnExactGardensOfSpec)

/-- ITS FALSE NEIGHBOUR: 'it returns false'. Refute it at one input. -/
def fnExactGardensOfWrong : ChangeSpec := { name := "fnExactGardensOf", fn := fun _ => fun
  | [d1, d2] => { results := [.lit (.bool false)], args := [d1, d2] }
  | _ => none }
def FnExactGardensOfWrongFalsely : Prop := fnExactGardensOfRow.holds Try.pinned (OpenSpec.ofChange fnExactGardensOfWrong)

/-- 'laws.FnExactIsOneToOne': WHATEVER THE INPUT: true; the input reads as it did. -/
def fnExactIsOneToOneSpec : ChangeSpec := { name := "fnExactIsOneToOne", fn := fun _ => fun
  | [d] => { results := [.lit (.bool true)], args := [d] }
  | _ => none }
def fnExactIsOneToOneRow : OpenClaim := { program := "ytkeabhhndcpejaa", sum := "55d0568c5d297d2ecd38e5bee7c98adb8783ebcf8d80f9984fbff39e5ea684f4", func := "loop.example/g01381/laws.FnExactIsOneToOne", spec := "fnExactIsOneToOne", unfollowed := true, recurses := true, apart := false }
def FnExactIsOneToOneSaid : Prop := fnExactIsOneToOneRow.holds Try.pinned (OpenSpec.ofChange fnExactIsOneToOneSpec)

/-- ITS FALSE NEIGHBOUR: 'it returns false'. Refute it at one input. -/
def fnExactIsOneToOneWrong : ChangeSpec := { name := "fnExactIsOneToOne", fn := fun _ => fun
  | [d] => { results := [.lit (.bool false)], args := [d] }
  | _ => none }
def FnExactIsOneToOneWrongFalsely : Prop := fnExactIsOneToOneRow.holds Try.pinned (OpenSpec.ofChange fnExactIsOneToOneWrong)

/-- 'laws.FnExactIsOnto': WHATEVER THE INPUT: true; the input reads as it did. -/
def fnExactIsOntoSpec : ChangeSpec := { name := "fnExactIsOnto", fn := fun _ => fun
  | [d] => { results := [.lit (.bool true)], args := [d] }
  | _ => none }
def fnExactIsOntoRow : OpenClaim := { program := "ytkeabhhndcpejaa", sum := "55d0568c5d297d2ecd38e5bee7c98adb8783ebcf8d80f9984fbff39e5ea684f4", func := "loop.example/g01381/laws.FnExactIsOnto", spec := "fnExactIsOnto", unfollowed := true, recurses := true, apart := false }
def FnExactIsOntoSaid : Prop := fnExactIsOntoRow.holds Try.pinned (OpenSpec.ofChange fnExactIsOntoSpec)

/-- ITS FALSE NEIGHBOUR: 'it returns false'. Refute it at one input. -/
def fnExactIsOntoWrong : ChangeSpec := { name := "fnExactIsOnto", fn := fun _ => fun
  | [d] => { results := [.lit (.bool false)], args := [d] }
  | _ => none }
def FnExactIsOntoWrongFalsely : Prop := fnExactIsOntoRow.holds Try.pinned (OpenSpec.ofChange fnExactIsOntoWrong)

/-- 'laws.FnExactFirstBack': WHATEVER THE INPUT: true; the input reads as it did. -/
def fnExactFirstBackSpec : ChangeSpec := { name := "fnExactFirstBack", fn := fun _ => fun
  | [d1, d2] => { results := [.lit (.bool true)], args := [d1, d2] }
  | _ => none }
def fnExactFirstBackRow : OpenClaim := { program := "ytkeabhhndcpejaa", sum := "55d0568c5d297d2ecd38e5bee7c98adb8783ebcf8d80f9984fbff39e5ea684f4", func := "loop.example/g01381/laws.FnExactFirstBack", spec := "fnExactFirstBack", unfollowed := true, recurses := true, apart := false }
def FnExactFirstBackSaid : Prop := fnExactFirstBackRow.holds Try.pinned (OpenSpec.ofChange fnExactFirstBackSpec)

/-- ITS FALSE NEIGHBOUR: 'it returns false'. Refute it at one input. -/
def fnExactFirstBackWrong : ChangeSpec := { name := "fnExactFirstBack", fn := fun _ => fun
  | [d1, d2] => { results := [.lit (.bool false)], args := [d1, d2] }
  | _ => none }
def FnExactFirstBackWrongFalsely : Prop := fnExactFirstBackRow.holds Try.pinned (OpenSpec.ofChange fnExactFirstBackWrong)

/- THE SECOND FORM. 'bulk': how many values and letters a reading holds, each counted each time it is reached (what is shared counts as often as it is met; a slice's spare places count too). A statement '..UptoSaid' is the law's where the arguments, and the package variables that the reading takes, are together of bulk at most 1048576: NARROWER than '..Said'. Prove '..Said' where nothing that the law and all that it calls make is longer than what came in: it says more and counts as full. Else prove '..UptoSaid'. A law counts once. -/
mutual
def uptoBulk {H : Type} : DataW H → Nat
  | .lit (.string bytes) => bytes.length + 1
  | .lit _ => 1
  | .nil => 1
  | .ptr d => uptoBulk d + 1
  | .slice elems spare => uptoBulkAll elems + uptoBulkAll spare + 1
  | .agg parts => uptoBulkAll parts + 1
  | .iface _ d => uptoBulk d + 1
  | .map entries => uptoBulkEntries entries + 1
  | .held _ => 1
def uptoBulkAll {H : Type} : List (DataW H) → Nat
  | [] => 0
  | d :: r => uptoBulk d + uptoBulkAll r
def uptoBulkEntries {H : Type} : List (Lit × DataW H) → Nat
  | [] => 0
  | x :: r => uptoBulkEntry x + uptoBulkEntries r
def uptoBulkEntry {H : Type} : Lit × DataW H → Nat
  | (.string bytes, d) => bytes.length + uptoBulk d + 1
  | (_, d) => uptoBulk d + 1
 end
def uptoSmall : (H : Type) → List (DataW H) → Bool := fun _ ds => decide (uptoBulkAll ds ≤ 1048576)
def OpenSpec.upto (s : _root_.Go.ChangeSpec) : _root_.Go.OpenSpec := { _root_.Go.OpenSpec.ofChange s with cond := some uptoSmall }

/-- 'laws.FnExactDamageOf', WHERE WHAT IT READS IS OF BULK AT MOST 1048576: true; the input reads as it did. -/
def fnExactDamageOfUptoRow : OpenClaim := { program := "ytkeabhhndcpejaa", sum := "55d0568c5d297d2ecd38e5bee7c98adb8783ebcf8d80f9984fbff39e5ea684f4", func := "loop.example/g01381/laws.FnExactDamageOf", spec := "fnExactDamageOf", unfollowed := true, recurses := true, apart := false, narrowed := true }
def FnExactDamageOfUptoSaid : Prop := fnExactDamageOfUptoRow.holds Try.pinned (OpenSpec.upto fnExactDamageOfSpec)

/-- 'laws.FnExactWordsThatCome', WHERE WHAT IT READS IS OF BULK AT MOST 1048576: true; the input reads as it did. -/
def fnExactWordsThatComeUptoRow : OpenClaim := { program := "ytkeabhhndcpejaa", sum := "55d0568c5d297d2ecd38e5bee7c98adb8783ebcf8d80f9984fbff39e5ea684f4", func := "loop.example/g01381/laws.FnExactWordsThatCome", spec := "fnExactWordsThatCome", apart := false, narrowed := true }
def FnExactWordsThatComeUptoSaid : Prop := fnExactWordsThatComeUptoRow.holds Try.pinned (OpenSpec.upto fnExactWordsThatComeSpec)

/-- 'laws.FnExactWordsBack', WHERE WHAT IT READS IS OF BULK AT MOST 1048576: true; the input reads as it did. -/
def fnExactWordsBackUptoRow : OpenClaim := { program := "ytkeabhhndcpejaa", sum := "55d0568c5d297d2ecd38e5bee7c98adb8783ebcf8d80f9984fbff39e5ea684f4", func := "loop.example/g01381/laws.FnExactWordsBack", spec := "fnExactWordsBack", apart := false, narrowed := true }
def FnExactWordsBackUptoSaid : Prop := fnExactWordsBackUptoRow.holds Try.pinned (OpenSpec.upto fnExactWordsBackSpec)

/-- 'laws.FnExactCanCome', WHERE WHAT IT READS IS OF BULK AT MOST 1048576: true; the input reads as it did. -/
def fnExactCanComeUptoRow : OpenClaim := { program := "ytkeabhhndcpejaa", sum := "55d0568c5d297d2ecd38e5bee7c98adb8783ebcf8d80f9984fbff39e5ea684f4", func := "loop.example/g01381/laws.FnExactCanCome", spec := "fnExactCanCome", apart := false, narrowed := true }
def FnExactCanComeUptoSaid : Prop := fnExactCanComeUptoRow.holds Try.pinned (OpenSpec.upto fnExactCanComeSpec)

/-- 'laws.FnExactImagesOf', WHERE WHAT IT READS IS OF BULK AT MOST 1048576: true; the input reads as it did. -/
def fnExactImagesOfUptoRow : OpenClaim := { program := "ytkeabhhndcpejaa", sum := "55d0568c5d297d2ecd38e5bee7c98adb8783ebcf8d80f9984fbff39e5ea684f4", func := "loop.example/g01381/laws.FnExactImagesOf", spec := "fnExactImagesOf", apart := false, narrowed := true }
def FnExactImagesOfUptoSaid : Prop := fnExactImagesOfUptoRow.holds Try.pinned (OpenSpec.upto fnExactImagesOfSpec)

/-- 'laws.FnExactKeepsCount', WHERE WHAT IT READS IS OF BULK AT MOST 1048576: true; the input reads as it did. -/
def fnExactKeepsCountUptoRow : OpenClaim := { program := "ytkeabhhndcpejaa", sum := "55d0568c5d297d2ecd38e5bee7c98adb8783ebcf8d80f9984fbff39e5ea684f4", func := "loop.example/g01381/laws.FnExactKeepsCount", spec := "fnExactKeepsCount", apart := false, narrowed := true }
def FnExactKeepsCountUptoSaid : Prop := fnExactKeepsCountUptoRow.holds Try.pinned (OpenSpec.upto fnExactKeepsCountSpec)

/-- 'laws.FnExactPeriodOf', WHERE WHAT IT READS IS OF BULK AT MOST 1048576: true; the input reads as it did. -/
def fnExactPeriodOfUptoRow : OpenClaim := { program := "ytkeabhhndcpejaa", sum := "55d0568c5d297d2ecd38e5bee7c98adb8783ebcf8d80f9984fbff39e5ea684f4", func := "loop.example/g01381/laws.FnExactPeriodOf", spec := "fnExactPeriodOf", unfollowed := true, recurses := true, apart := false, narrowed := true }
def FnExactPeriodOfUptoSaid : Prop := fnExactPeriodOfUptoRow.holds Try.pinned (OpenSpec.upto fnExactPeriodOfSpec)

/-- 'laws.FnExactRowsOfRing', WHERE WHAT IT READS IS OF BULK AT MOST 1048576: true; the input reads as it did. -/
def fnExactRowsOfRingUptoRow : OpenClaim := { program := "ytkeabhhndcpejaa", sum := "55d0568c5d297d2ecd38e5bee7c98adb8783ebcf8d80f9984fbff39e5ea684f4", func := "loop.example/g01381/laws.FnExactRowsOfRing", spec := "fnExactRowsOfRing", unfollowed := true, recurses := true, apart := false, narrowed := true }
def FnExactRowsOfRingUptoSaid : Prop := fnExactRowsOfRingUptoRow.holds Try.pinned (OpenSpec.upto fnExactRowsOfRingSpec)

/-- 'laws.FnExactGardensOf', WHERE WHAT IT READS IS OF BULK AT MOST 1048576: true; the input reads as it did. -/
def fnExactGardensOfUptoRow : OpenClaim := { program := "ytkeabhhndcpejaa", sum := "55d0568c5d297d2ecd38e5bee7c98adb8783ebcf8d80f9984fbff39e5ea684f4", func := "loop.example/g01381/laws.FnExactGardensOf", spec := "fnExactGardensOf", apart := false, narrowed := true }
def FnExactGardensOfUptoSaid : Prop := fnExactGardensOfUptoRow.holds Try.pinned (OpenSpec.upto fnExactGardensOfSpec)

/-- 'laws.FnExactIsOneToOne', WHERE WHAT IT READS IS OF BULK AT MOST 1048576: true; the input reads as it did. -/
def fnExactIsOneToOneUptoRow : OpenClaim := { program := "ytkeabhhndcpejaa", sum := "55d0568c5d297d2ecd38e5bee7c98adb8783ebcf8d80f9984fbff39e5ea684f4", func := "loop.example/g01381/laws.FnExactIsOneToOne", spec := "fnExactIsOneToOne", unfollowed := true, recurses := true, apart := false, narrowed := true }
def FnExactIsOneToOneUptoSaid : Prop := fnExactIsOneToOneUptoRow.holds Try.pinned (OpenSpec.upto fnExactIsOneToOneSpec)

/-- 'laws.FnExactIsOnto', WHERE WHAT IT READS IS OF BULK AT MOST 1048576: true; the input reads as it did. -/
def fnExactIsOntoUptoRow : OpenClaim := { program := "ytkeabhhndcpejaa", sum := "55d0568c5d297d2ecd38e5bee7c98adb8783ebcf8d80f9984fbff39e5ea684f4", func := "loop.example/g01381/laws.FnExactIsOnto", spec := "fnExactIsOnto", unfollowed := true, recurses := true, apart := false, narrowed := true }
def FnExactIsOntoUptoSaid : Prop := fnExactIsOntoUptoRow.holds Try.pinned (OpenSpec.upto fnExactIsOntoSpec)

/-- 'laws.FnExactFirstBack', WHERE WHAT IT READS IS OF BULK AT MOST 1048576: true; the input reads as it did. -/
def fnExactFirstBackUptoRow : OpenClaim := { program := "ytkeabhhndcpejaa", sum := "55d0568c5d297d2ecd38e5bee7c98adb8783ebcf8d80f9984fbff39e5ea684f4", func := "loop.example/g01381/laws.FnExactFirstBack", spec := "fnExactFirstBack", unfollowed := true, recurses := true, apart := false, narrowed := true }
def FnExactFirstBackUptoSaid : Prop := fnExactFirstBackUptoRow.holds Try.pinned (OpenSpec.upto fnExactFirstBackSpec)

end Rows
end Go.Proofs.Ytkeabhhndcpejaa
