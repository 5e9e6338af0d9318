/-
  No cell of these rows narrows 'for every input' (looked for: loops, veiled, ifaces, maps, wideKeys, modest, calm, conditions, laid).
  DERIVED. THE GIVEN ROWS OF THIS SEAT. 8 by the template 'for every input the law returns true; each argument reads behind the call as it read before'; 0 by the template 'total and deterministic' (their statements: YtafdjnhlhepibaaTotals.lean).
  GIVEN WITH THE SEED: the statements are not yours to turn. If you find one false, say at which input.
  Laid BY PROGRAM, IN A SANDBOX (cutbox-rows.mjs): the forced cells as the released guide's own fill.sh prints them over the translation 3bb49184326f1e39… (all of the seat's roots in one cut). By AI agents, Wed Nov 11 2026. No macro, syntax, notation, axiom, sorry.
-/
import Derived.Test.YtafdjnhlhepibaaChecked
import GoSem.Claim
import GoSem.ClaimJoined
import GoSem.ClaimMapViews
import Derived.JoinedTies
import Derived.KernelRfl
namespace Go.Proofs.Ytafdjnhlhepibaa
/- THE CELL 'sum', in the pinned program and in every row, IS THE sha256 OF THE DUMP (.gsa) THAT YtafdjnhlhepibaaProg.lean LOADS. Nothing in Lean hashes anything: it is a label: what it is worth is what the hold of that sum in a sandbox is worth. -/
noncomputable def Try.pinned : Pinned := { name := "ytafdjnhlhepibaa", sum := "3bb49184326f1e399a5926e56876913431b510cd911975a465c2da2261a88a46", checked := Try.checked }
namespace Rows
def none {H : Type} : Left H := { results := [], args := [] }

/-- 'laws.FnExactRunsShared': WHATEVER THE INPUT: true; the input reads as it did. -/
def fnExactRunsSharedSpec : ChangeSpec := { name := "fnExactRunsShared", fn := fun _ => fun
  | [d1, d2, d3, d4] => { results := [.lit (.bool true)], args := [d1, d2, d3, d4] }
  | _ => none }
def fnExactRunsSharedRow : OpenClaim := { program := "ytafdjnhlhepibaa", sum := "3bb49184326f1e399a5926e56876913431b510cd911975a465c2da2261a88a46", func := "loop.example/g01381/laws.FnExactRunsShared", spec := "fnExactRunsShared", unfollowed := true, recurses := true, apart := false }
def FnExactRunsSharedSaid : Prop := fnExactRunsSharedRow.holds Try.pinned (OpenSpec.ofChange fnExactRunsSharedSpec)

/-- ITS FALSE NEIGHBOUR: 'it returns false'. Refute it at one input. -/
def fnExactRunsSharedWrong : ChangeSpec := { name := "fnExactRunsShared", fn := fun _ => fun
  | [d1, d2, d3, d4] => { results := [.lit (.bool false)], args := [d1, d2, d3, d4] }
  | _ => none }
def FnExactRunsSharedWrongFalsely : Prop := fnExactRunsSharedRow.holds Try.pinned (OpenSpec.ofChange fnExactRunsSharedWrong)

/-- 'laws.FnExactCountsShared': WHATEVER THE INPUT: true; the input reads as it did. -/
def fnExactCountsSharedSpec : ChangeSpec := { name := "fnExactCountsShared", fn := fun _ => fun
  | [d1, d2, d3] => { results := [.lit (.bool true)], args := [d1, d2, d3] }
  | _ => none }
def fnExactCountsSharedRow : OpenClaim := { program := "ytafdjnhlhepibaa", sum := "3bb49184326f1e399a5926e56876913431b510cd911975a465c2da2261a88a46", func := "loop.example/g01381/laws.FnExactCountsShared", spec := "fnExactCountsShared", unfollowed := true, recurses := true, apart := false }
def FnExactCountsSharedSaid : Prop := fnExactCountsSharedRow.holds Try.pinned (OpenSpec.ofChange fnExactCountsSharedSpec)

/-- ITS FALSE NEIGHBOUR: 'it returns false'. Refute it at one input. -/
def fnExactCountsSharedWrong : ChangeSpec := { name := "fnExactCountsShared", fn := fun _ => fun
  | [d1, d2, d3] => { results := [.lit (.bool false)], args := [d1, d2, d3] }
  | _ => none }
def FnExactCountsSharedWrongFalsely : Prop := fnExactCountsSharedRow.holds Try.pinned (OpenSpec.ofChange fnExactCountsSharedWrong)

/-- 'laws.FnExactAddingPeriod': WHATEVER THE INPUT: true; the input reads as it did. -/
def fnExactAddingPeriodSpec : ChangeSpec := { name := "fnExactAddingPeriod", fn := fun _ => fun
  | [d1, d2, d3] => { results := [.lit (.bool true)], args := [d1, d2, d3] }
  | _ => none }
def fnExactAddingPeriodRow : OpenClaim := { program := "ytafdjnhlhepibaa", sum := "3bb49184326f1e399a5926e56876913431b510cd911975a465c2da2261a88a46", func := "loop.example/g01381/laws.FnExactAddingPeriod", spec := "fnExactAddingPeriod", unfollowed := true, recurses := true, apart := false }
def FnExactAddingPeriodSaid : Prop := fnExactAddingPeriodRow.holds Try.pinned (OpenSpec.ofChange fnExactAddingPeriodSpec)

/-- ITS FALSE NEIGHBOUR: 'it returns false'. Refute it at one input. -/
def fnExactAddingPeriodWrong : ChangeSpec := { name := "fnExactAddingPeriod", fn := fun _ => fun
  | [d1, d2, d3] => { results := [.lit (.bool false)], args := [d1, d2, d3] }
  | _ => none }
def FnExactAddingPeriodWrongFalsely : Prop := fnExactAddingPeriodRow.holds Try.pinned (OpenSpec.ofChange fnExactAddingPeriodWrong)

/-- 'laws.FnExactOrphanOf': WHATEVER THE INPUT: true; the input reads as it did. -/
def fnExactOrphanOfSpec : ChangeSpec := { name := "fnExactOrphanOf", fn := fun _ => fun
  | [d1, d2] => { results := [.lit (.bool true)], args := [d1, d2] }
  | _ => none }
def fnExactOrphanOfRow : OpenClaim := { program := "ytafdjnhlhepibaa", sum := "3bb49184326f1e399a5926e56876913431b510cd911975a465c2da2261a88a46", func := "loop.example/g01381/laws.FnExactOrphanOf", spec := "fnExactOrphanOf", apart := false }
def FnExactOrphanOfSaid : Prop := fnExactOrphanOfRow.holds Try.pinned (OpenSpec.ofChange fnExactOrphanOfSpec)

/-- ITS FALSE NEIGHBOUR: 'it returns false'. Refute it at one input. -/
def fnExactOrphanOfWrong : ChangeSpec := { name := "fnExactOrphanOf", fn := fun _ => fun
  | [d1, d2] => { results := [.lit (.bool false)], args := [d1, d2] }
  | _ => none }
def FnExactOrphanOfWrongFalsely : Prop := fnExactOrphanOfRow.holds Try.pinned (OpenSpec.ofChange fnExactOrphanOfWrong)

/-- 'laws.FnExactAllBack': WHATEVER THE INPUT: true; the input reads as it did. -/
def fnExactAllBackSpec : ChangeSpec := { name := "fnExactAllBack", fn := fun _ => fun
  | [d1, d2] => { results := [.lit (.bool true)], args := [d1, d2] }
  | _ => none }
def fnExactAllBackRow : OpenClaim := { program := "ytafdjnhlhepibaa", sum := "3bb49184326f1e399a5926e56876913431b510cd911975a465c2da2261a88a46", func := "loop.example/g01381/laws.FnExactAllBack", spec := "fnExactAllBack", unfollowed := true, recurses := true, apart := false }
def FnExactAllBackSaid : Prop := fnExactAllBackRow.holds Try.pinned (OpenSpec.ofChange fnExactAllBackSpec)

/-- ITS FALSE NEIGHBOUR: 'it returns false'. Refute it at one input. -/
def fnExactAllBackWrong : ChangeSpec := { name := "fnExactAllBack", fn := fun _ => fun
  | [d1, d2] => { results := [.lit (.bool false)], args := [d1, d2] }
  | _ => none }
def FnExactAllBackWrongFalsely : Prop := fnExactAllBackRow.holds Try.pinned (OpenSpec.ofChange fnExactAllBackWrong)

/-- 'laws.FnBack': WHATEVER THE INPUT: true; the input reads as it did. -/
def fnBackSpec : ChangeSpec := { name := "fnBack", fn := fun _ => fun
  | [d1, d2] => { results := [.lit (.bool true)], args := [d1, d2] }
  | _ => none }
def fnBackRow : OpenClaim := { program := "ytafdjnhlhepibaa", sum := "3bb49184326f1e399a5926e56876913431b510cd911975a465c2da2261a88a46", func := "loop.example/g01381/laws.FnBack", spec := "fnBack", unfollowed := true, recurses := true, apart := false }
def FnBackSaid : Prop := fnBackRow.holds Try.pinned (OpenSpec.ofChange fnBackSpec)

/-- ITS FALSE NEIGHBOUR: 'it returns false'. Refute it at one input. -/
def fnBackWrong : ChangeSpec := { name := "fnBack", fn := fun _ => fun
  | [d1, d2] => { results := [.lit (.bool false)], args := [d1, d2] }
  | _ => none }
def FnBackWrongFalsely : Prop := fnBackRow.holds Try.pinned (OpenSpec.ofChange fnBackWrong)

/-- 'laws.FnBackwards': WHATEVER THE INPUT: true; the input reads as it did. -/
def fnBackwardsSpec : ChangeSpec := { name := "fnBackwards", fn := fun _ => fun
  | [d1, d2] => { results := [.lit (.bool true)], args := [d1, d2] }
  | _ => none }
def fnBackwardsRow : OpenClaim := { program := "ytafdjnhlhepibaa", sum := "3bb49184326f1e399a5926e56876913431b510cd911975a465c2da2261a88a46", func := "loop.example/g01381/laws.FnBackwards", spec := "fnBackwards", unfollowed := true, recurses := true, apart := false }
def FnBackwardsSaid : Prop := fnBackwardsRow.holds Try.pinned (OpenSpec.ofChange fnBackwardsSpec)

/-- ITS FALSE NEIGHBOUR: 'it returns false'. Refute it at one input. -/
def fnBackwardsWrong : ChangeSpec := { name := "fnBackwards", fn := fun _ => fun
  | [d1, d2] => { results := [.lit (.bool false)], args := [d1, d2] }
  | _ => none }
def FnBackwardsWrongFalsely : Prop := fnBackwardsRow.holds Try.pinned (OpenSpec.ofChange fnBackwardsWrong)

/-- 'laws.FnComing': WHATEVER THE INPUT: true; the input reads as it did. -/
def fnComingSpec : ChangeSpec := { name := "fnComing", fn := fun _ => fun
  | [d1, d2] => { results := [.lit (.bool true)], args := [d1, d2] }
  | _ => none }
def fnComingRow : OpenClaim := { program := "ytafdjnhlhepibaa", sum := "3bb49184326f1e399a5926e56876913431b510cd911975a465c2da2261a88a46", func := "loop.example/g01381/laws.FnComing", spec := "fnComing", apart := false }
def FnComingSaid : Prop := fnComingRow.holds Try.pinned (OpenSpec.ofChange fnComingSpec)

/-- ITS FALSE NEIGHBOUR: 'it returns false'. Refute it at one input. -/
def fnComingWrong : ChangeSpec := { name := "fnComing", fn := fun _ => fun
  | [d1, d2] => { results := [.lit (.bool false)], args := [d1, d2] }
  | _ => none }
def FnComingWrongFalsely : Prop := fnComingRow.holds Try.pinned (OpenSpec.ofChange fnComingWrong)

/- THE SECOND FORM. 'bulk': how many values and letters a reading holds, each counted each time it is reached (what is shared counts as often as it is met; a slice's spare places count too). A statement '..UptoSaid' is the law's where the arguments, and the package variables that the reading takes, are together of bulk at most 1048576: NARROWER than '..Said'. Prove '..Said' where nothing that the law and all that it calls make is longer than what came in: it says more and counts as full. Else prove '..UptoSaid'. A law counts once. -/
mutual
def uptoBulk {H : Type} : DataW H → Nat
  | .lit (.string bytes) => bytes.length + 1
  | .lit _ => 1
  | .nil => 1
  | .ptr d => uptoBulk d + 1
  | .slice elems spare => uptoBulkAll elems + uptoBulkAll spare + 1
  | .agg parts => uptoBulkAll parts + 1
  | .iface _ d => uptoBulk d + 1
  | .map entries => uptoBulkEntries entries + 1
  | .held _ => 1
def uptoBulkAll {H : Type} : List (DataW H) → Nat
  | [] => 0
  | d :: r => uptoBulk d + uptoBulkAll r
def uptoBulkEntries {H : Type} : List (Lit × DataW H) → Nat
  | [] => 0
  | x :: r => uptoBulkEntry x + uptoBulkEntries r
def uptoBulkEntry {H : Type} : Lit × DataW H → Nat
  | (.string bytes, d) => bytes.length + uptoBulk d + 1
  | (_, d) => uptoBulk d + 1
 end
def uptoSmall : (H : Type) → List (DataW H) → Bool := fun _ ds => decide (uptoBulkAll ds ≤ 1048576)
def OpenSpec.upto (s : _root_.Go.ChangeSpec) : _root_.Go.OpenSpec := { _root_.Go.OpenSpec.ofChange s with cond := some uptoSmall }

/-- 'laws.FnExactRunsShared', WHERE WHAT IT READS IS OF BULK AT MOST 1048576: true; the input reads as it did. -/
def fnExactRunsSharedUptoRow : OpenClaim := { program := "ytafdjnhlhepibaa", sum := "3bb49184326f1e399a5926e56876913431b510cd911975a465c2da2261a88a46", func := "loop.example/g01381/laws.FnExactRunsShared", spec := "fnExactRunsShared", unfollowed := true, recurses := true, apart := false, narrowed := true }
def FnExactRunsSharedUptoSaid : Prop := fnExactRunsSharedUptoRow.holds Try.pinned (OpenSpec.upto fnExactRunsSharedSpec)

/-- 'laws.FnExactCountsShared', WHERE WHAT IT READS IS OF BULK AT MOST 1048576: true; the input reads as it did. -/
def fnExactCountsSharedUptoRow : OpenClaim := { program := "ytafdjnhlhepibaa", sum := "3bb49184326f1e399a5926e56876913431b510cd911975a465c2da2261a88a46", func := "loop.example/g01381/laws.FnExactCountsShared", spec := "fnExactCountsShared", unfollowed := true, recurses := true, apart := false, narrowed := true }
def FnExactCountsSharedUptoSaid : Prop := fnExactCountsSharedUptoRow.holds Try.pinned (OpenSpec.upto fnExactCountsSharedSpec)

/-- 'laws.FnExactAddingPeriod', WHERE WHAT IT READS IS OF BULK AT MOST 1048576: true; the input reads as it did. -/
def fnExactAddingPeriodUptoRow : OpenClaim := { program := "ytafdjnhlhepibaa", sum := "3bb49184326f1e399a5926e56876913431b510cd911975a465c2da2261a88a46", func := "loop.example/g01381/laws.FnExactAddingPeriod", spec := "fnExactAddingPeriod", unfollowed := true, recurses := true, apart := false, narrowed := true }
def FnExactAddingPeriodUptoSaid : Prop := fnExactAddingPeriodUptoRow.holds Try.pinned (OpenSpec.upto fnExactAddingPeriodSpec)

/-- 'laws.FnExactOrphanOf', WHERE WHAT IT READS IS OF BULK AT MOST 1048576: true; the input reads as it did. -/
def fnExactOrphanOfUptoRow : OpenClaim := { program := "ytafdjnhlhepibaa", sum := "3bb49184326f1e399a5926e56876913431b510cd911975a465c2da2261a88a46", func := "loop.example/g01381/laws.FnExactOrphanOf", spec := "fnExactOrphanOf", apart := false, narrowed := true }
def FnExactOrphanOfUptoSaid : Prop := fnExactOrphanOfUptoRow.holds Try.pinned (OpenSpec.upto fnExactOrphanOfSpec)

/-- 'laws.FnExactAllBack', WHERE WHAT IT READS IS OF BULK AT MOST 1048576: true; the input reads as it did. -/
def fnExactAllBackUptoRow : OpenClaim := { program := "ytafdjnhlhepibaa", sum := "3bb49184326f1e399a5926e56876913431b510cd911975a465c2da2261a88a46", func := "loop.example/g01381/laws.FnExactAllBack", spec := "fnExactAllBack", unfollowed := true, recurses := true, apart := false, narrowed := true }
def FnExactAllBackUptoSaid : Prop := fnExactAllBackUptoRow.holds Try.pinned (OpenSpec.upto fnExactAllBackSpec)

/-- 'laws.FnBack', WHERE WHAT IT READS IS OF BULK AT MOST 1048576: true; the input reads as it did. -/
def fnBackUptoRow : OpenClaim := { program := "ytafdjnhlhepibaa", sum := "3bb49184326f1e399a5926e56876913431b510cd911975a465c2da2261a88a46", func := "loop.example/g01381/laws.FnBack", spec := "fnBack", unfollowed := true, recurses := true, apart := false, narrowed := true }
def FnBackUptoSaid : Prop := fnBackUptoRow.holds Try.pinned (OpenSpec.upto fnBackSpec)

/-- 'laws.FnBackwards', WHERE WHAT IT READS IS OF BULK AT MOST 1048576: true; the input reads as it did. -/
def fnBackwardsUptoRow : OpenClaim := { program := "ytafdjnhlhepibaa", sum := "3bb49184326f1e399a5926e56876913431b510cd911975a465c2da2261a88a46", func := "loop.example/g01381/laws.FnBackwards", spec := "fnBackwards", unfollowed := true, recurses := true, apart := false, narrowed := true }
def FnBackwardsUptoSaid : Prop := fnBackwardsUptoRow.holds Try.pinned (OpenSpec.upto fnBackwardsSpec)

/-- 'laws.FnComing', WHERE WHAT IT READS IS OF BULK AT MOST 1048576: true; the input reads as it did. -/
def fnComingUptoRow : OpenClaim := { program := "ytafdjnhlhepibaa", sum := "3bb49184326f1e399a5926e56876913431b510cd911975a465c2da2261a88a46", func := "loop.example/g01381/laws.FnComing", spec := "fnComing", apart := false, narrowed := true }
def FnComingUptoSaid : Prop := fnComingUptoRow.holds Try.pinned (OpenSpec.upto fnComingSpec)

end Rows
end Go.Proofs.Ytafdjnhlhepibaa
