/-
  No cell of these rows narrows 'for every input' (looked for: loops, veiled, ifaces, maps, wideKeys, modest, calm, conditions, laid).
  DERIVED. THE GIVEN ROWS OF THIS SEAT. 12 by the template 'for every input the law returns true; each argument reads behind the call as it read before'; 0 by the template 'total and deterministic' (their statements: YtefpihelkbmpjaaTotals.lean).
  GIVEN WITH THE SEED: the statements are not yours to turn. If you find one false, say at which input.
  Laid BY PROGRAM, IN A SANDBOX (cutbox-rows.mjs): the forced cells as the released guide's own fill.sh prints them over the translation c9c603116f57cc84… (all of the seat's roots in one cut). By AI agents, Wed Nov 11 2026. No macro, syntax, notation, axiom, sorry.
-/
import Derived.Test.YtefpihelkbmpjaaChecked
import GoSem.Claim
import GoSem.ClaimJoined
import GoSem.ClaimMapViews
import Derived.JoinedTies
import Derived.KernelRfl
namespace Go.Proofs.Ytefpihelkbmpjaa
/- THE CELL 'sum', in the pinned program and in every row, IS THE sha256 OF THE DUMP (.gsa) THAT YtefpihelkbmpjaaProg.lean LOADS. Nothing in Lean hashes anything: it is a label: what it is worth is what the hold of that sum in a sandbox is worth. -/
noncomputable def Try.pinned : Pinned := { name := "ytefpihelkbmpjaa", sum := "c9c603116f57cc8468b2282f3b2ad3b7135986233c5c8c68202cbb8b48eb1e43", checked := Try.checked }
namespace Rows
def none {H : Type} : Left H := { results := [], args := [] }

/-- 'laws.FnExactStepsFrom': WHATEVER THE INPUT: true; the input reads as it did. -/
def fnExactStepsFromSpec : ChangeSpec := { name := "fnExactStepsFrom", fn := fun _ => fun
  | [d1, d2, d3] => { results := [.lit (.bool true)], args := [d1, d2, d3] }
  | _ => none }
def fnExactStepsFromRow : OpenClaim := { program := "ytefpihelkbmpjaa", sum := "c9c603116f57cc8468b2282f3b2ad3b7135986233c5c8c68202cbb8b48eb1e43", func := "loop.example/g01158/laws.FnExactStepsFrom", spec := "fnExactStepsFrom", unfollowed := true, recurses := true, apart := false }
def FnExactStepsFromSaid : Prop := fnExactStepsFromRow.holds Try.pinned (OpenSpec.ofChange fnExactStepsFromSpec)

/-- ITS FALSE NEIGHBOUR: 'it returns false'. Refute it at one input. -/
def fnExactStepsFromWrong : ChangeSpec := { name := "fnExactStepsFrom", fn := fun _ => fun
  | [d1, d2, d3] => { results := [.lit (.bool false)], args := [d1, d2, d3] }
  | _ => none }
def FnExactStepsFromWrongFalsely : Prop := fnExactStepsFromRow.holds Try.pinned (OpenSpec.ofChange fnExactStepsFromWrong)

/-- 'laws.FnExactIdleNodes': WHATEVER THE INPUT: true; the input reads as it did. -/
def fnExactIdleNodesSpec : ChangeSpec := { name := "fnExactIdleNodes", fn := fun _ => fun
  | [d1, d2] => { results := [.lit (.bool true)], args := [d1, d2] }
  | _ => none }
def fnExactIdleNodesRow : OpenClaim := { program := "ytefpihelkbmpjaa", sum := "c9c603116f57cc8468b2282f3b2ad3b7135986233c5c8c68202cbb8b48eb1e43", func := "loop.example/g01158/laws.FnExactIdleNodes", spec := "fnExactIdleNodes", unfollowed := true, recurses := true, apart := false }
def FnExactIdleNodesSaid : Prop := fnExactIdleNodesRow.holds Try.pinned (OpenSpec.ofChange fnExactIdleNodesSpec)

/-- ITS FALSE NEIGHBOUR: 'it returns false'. Refute it at one input. -/
def fnExactIdleNodesWrong : ChangeSpec := { name := "fnExactIdleNodes", fn := fun _ => fun
  | [d1, d2] => { results := [.lit (.bool false)], args := [d1, d2] }
  | _ => none }
def FnExactIdleNodesWrongFalsely : Prop := fnExactIdleNodesRow.holds Try.pinned (OpenSpec.ofChange fnExactIdleNodesWrong)

/-- 'laws.FnExactRequiredDoors': WHATEVER THE INPUT: true; the input reads as it did. -/
def fnExactRequiredDoorsSpec : ChangeSpec := { name := "fnExactRequiredDoors", fn := fun _ => fun
  | [d1, d2] => { results := [.lit (.bool true)], args := [d1, d2] }
  | _ => none }
def fnExactRequiredDoorsRow : OpenClaim := { program := "ytefpihelkbmpjaa", sum := "c9c603116f57cc8468b2282f3b2ad3b7135986233c5c8c68202cbb8b48eb1e43", func := "loop.example/g01158/laws.FnExactRequiredDoors", spec := "fnExactRequiredDoors", unfollowed := true, recurses := true, apart := false }
def FnExactRequiredDoorsSaid : Prop := fnExactRequiredDoorsRow.holds Try.pinned (OpenSpec.ofChange fnExactRequiredDoorsSpec)

/-- ITS FALSE NEIGHBOUR: 'it returns false'. Refute it at one input. -/
def fnExactRequiredDoorsWrong : ChangeSpec := { name := "fnExactRequiredDoors", fn := fun _ => fun
  | [d1, d2] => { results := [.lit (.bool false)], args := [d1, d2] }
  | _ => none }
def FnExactRequiredDoorsWrongFalsely : Prop := fnExactRequiredDoorsRow.holds Try.pinned (OpenSpec.ofChange fnExactRequiredDoorsWrong)

/-- 'laws.FnExactRequiredNodes': WHATEVER THE INPUT: true; the input reads as it did. -/
def fnExactRequiredNodesSpec : ChangeSpec := { name := "fnExactRequiredNodes", fn := fun _ => fun
  | [d1, d2] => { results := [.lit (.bool true)], args := [d1, d2] }
  | _ => none }
def fnExactRequiredNodesRow : OpenClaim := { program := "ytefpihelkbmpjaa", sum := "c9c603116f57cc8468b2282f3b2ad3b7135986233c5c8c68202cbb8b48eb1e43", func := "loop.example/g01158/laws.FnExactRequiredNodes", spec := "fnExactRequiredNodes", unfollowed := true, recurses := true, apart := false }
def FnExactRequiredNodesSaid : Prop := fnExactRequiredNodesRow.holds Try.pinned (OpenSpec.ofChange fnExactRequiredNodesSpec)

/-- ITS FALSE NEIGHBOUR: 'it returns false'. Refute it at one input. -/
def fnExactRequiredNodesWrong : ChangeSpec := { name := "fnExactRequiredNodes", fn := fun _ => fun
  | [d1, d2] => { results := [.lit (.bool false)], args := [d1, d2] }
  | _ => none }
def FnExactRequiredNodesWrongFalsely : Prop := fnExactRequiredNodesRow.holds Try.pinned (OpenSpec.ofChange fnExactRequiredNodesWrong)

/-- 'laws.FnExactNodesAhead': WHATEVER THE INPUT: true; the input reads as it did. -/
def fnExactNodesAheadSpec : ChangeSpec := { name := "fnExactNodesAhead", fn := fun _ => fun
  | [d] => { results := [.lit (.bool true)], args := [d] }
  | _ => none }
def fnExactNodesAheadRow : OpenClaim := { program := "ytefpihelkbmpjaa", sum := "c9c603116f57cc8468b2282f3b2ad3b7135986233c5c8c68202cbb8b48eb1e43", func := "loop.example/g01158/laws.FnExactNodesAhead", spec := "fnExactNodesAhead", unfollowed := true, recurses := true, apart := false }
def FnExactNodesAheadSaid : Prop := fnExactNodesAheadRow.holds Try.pinned (OpenSpec.ofChange fnExactNodesAheadSpec)

/-- ITS FALSE NEIGHBOUR: 'it returns false'. Refute it at one input. -/
def fnExactNodesAheadWrong : ChangeSpec := { name := "fnExactNodesAhead", fn := fun _ => fun
  | [d] => { results := [.lit (.bool false)], args := [d] }
  | _ => none }
def FnExactNodesAheadWrongFalsely : Prop := fnExactNodesAheadRow.holds Try.pinned (OpenSpec.ofChange fnExactNodesAheadWrong)

/-- 'laws.FnExactNewConsole': WHATEVER THE INPUT: true; the input reads as it did. -/
def fnExactNewConsoleSpec : ChangeSpec := { name := "fnExactNewConsole", fn := fun _ => fun
  | [d] => { results := [.lit (.bool true)], args := [d] }
  | _ => none }
def fnExactNewConsoleRow : OpenClaim := { program := "ytefpihelkbmpjaa", sum := "c9c603116f57cc8468b2282f3b2ad3b7135986233c5c8c68202cbb8b48eb1e43", func := "loop.example/g01158/laws.FnExactNewConsole", spec := "fnExactNewConsole", unfollowed := true, recurses := true, apart := false }
def FnExactNewConsoleSaid : Prop := fnExactNewConsoleRow.holds Try.pinned (OpenSpec.ofChange fnExactNewConsoleSpec)

/-- ITS FALSE NEIGHBOUR: 'it returns false'. Refute it at one input. -/
def fnExactNewConsoleWrong : ChangeSpec := { name := "fnExactNewConsole", fn := fun _ => fun
  | [d] => { results := [.lit (.bool false)], args := [d] }
  | _ => none }
def FnExactNewConsoleWrongFalsely : Prop := fnExactNewConsoleRow.holds Try.pinned (OpenSpec.ofChange fnExactNewConsoleWrong)

/-- 'laws.FnExactCanEver': WHATEVER THE INPUT: true; the input reads as it did. -/
def fnExactCanEverSpec : ChangeSpec := { name := "fnExactCanEver", fn := fun _ => fun
  | [d1, d2] => { results := [.lit (.bool true)], args := [d1, d2] }
  | _ => none }
def fnExactCanEverRow : OpenClaim := { program := "ytefpihelkbmpjaa", sum := "c9c603116f57cc8468b2282f3b2ad3b7135986233c5c8c68202cbb8b48eb1e43", func := "loop.example/g01158/laws.FnExactCanEver", spec := "fnExactCanEver", unfollowed := true, recurses := true, apart := false }
def FnExactCanEverSaid : Prop := fnExactCanEverRow.holds Try.pinned (OpenSpec.ofChange fnExactCanEverSpec)

/-- ITS FALSE NEIGHBOUR: 'it returns false'. Refute it at one input. -/
def fnExactCanEverWrong : ChangeSpec := { name := "fnExactCanEver", fn := fun _ => fun
  | [d1, d2] => { results := [.lit (.bool false)], args := [d1, d2] }
  | _ => none }
def FnExactCanEverWrongFalsely : Prop := fnExactCanEverRow.holds Try.pinned (OpenSpec.ofChange fnExactCanEverWrong)

/-- 'laws.FnExactGiveKeys': WHATEVER THE INPUT: true; the input reads as it did. -/
def fnExactGiveKeysSpec : ChangeSpec := { name := "fnExactGiveKeys", fn := fun _ => fun
  | [d1, d2, d3, d4] => { results := [.lit (.bool true)], args := [d1, d2, d3, d4] }
  | _ => none }
def fnExactGiveKeysRow : OpenClaim := { program := "ytefpihelkbmpjaa", sum := "c9c603116f57cc8468b2282f3b2ad3b7135986233c5c8c68202cbb8b48eb1e43", func := "loop.example/g01158/laws.FnExactGiveKeys", spec := "fnExactGiveKeys", unfollowed := true, recurses := true, apart := false }
def FnExactGiveKeysSaid : Prop := fnExactGiveKeysRow.holds Try.pinned (OpenSpec.ofChange fnExactGiveKeysSpec)

/-- ITS FALSE NEIGHBOUR: 'it returns false'. Refute it at one input. -/
def fnExactGiveKeysWrong : ChangeSpec := { name := "fnExactGiveKeys", fn := fun _ => fun
  | [d1, d2, d3, d4] => { results := [.lit (.bool false)], args := [d1, d2, d3, d4] }
  | _ => none }
def FnExactGiveKeysWrongFalsely : Prop := fnExactGiveKeysRow.holds Try.pinned (OpenSpec.ofChange fnExactGiveKeysWrong)

/-- 'laws.FnExactRoundSets': WHATEVER THE INPUT: true; the input reads as it did. -/
def fnExactRoundSetsSpec : ChangeSpec := { name := "fnExactRoundSets", fn := fun _ => fun
  | [d] => { results := [.lit (.bool true)], args := [d] }
  | _ => none }
def fnExactRoundSetsRow : OpenClaim := { program := "ytefpihelkbmpjaa", sum := "c9c603116f57cc8468b2282f3b2ad3b7135986233c5c8c68202cbb8b48eb1e43", func := "loop.example/g01158/laws.FnExactRoundSets", spec := "fnExactRoundSets", unfollowed := true, recurses := true, apart := false }
def FnExactRoundSetsSaid : Prop := fnExactRoundSetsRow.holds Try.pinned (OpenSpec.ofChange fnExactRoundSetsSpec)

/-- ITS FALSE NEIGHBOUR: 'it returns false'. Refute it at one input. -/
def fnExactRoundSetsWrong : ChangeSpec := { name := "fnExactRoundSets", fn := fun _ => fun
  | [d] => { results := [.lit (.bool false)], args := [d] }
  | _ => none }
def FnExactRoundSetsWrongFalsely : Prop := fnExactRoundSetsRow.holds Try.pinned (OpenSpec.ofChange fnExactRoundSetsWrong)

/-- 'laws.FnExactWonRounds': WHATEVER THE INPUT: true; the input reads as it did. -/
def fnExactWonRoundsSpec : ChangeSpec := { name := "fnExactWonRounds", fn := fun _ => fun
  | [d] => { results := [.lit (.bool true)], args := [d] }
  | _ => none }
def fnExactWonRoundsRow : OpenClaim := { program := "ytefpihelkbmpjaa", sum := "c9c603116f57cc8468b2282f3b2ad3b7135986233c5c8c68202cbb8b48eb1e43", func := "loop.example/g01158/laws.FnExactWonRounds", spec := "fnExactWonRounds", unfollowed := true, recurses := true, apart := false }
def FnExactWonRoundsSaid : Prop := fnExactWonRoundsRow.holds Try.pinned (OpenSpec.ofChange fnExactWonRoundsSpec)

/-- ITS FALSE NEIGHBOUR: 'it returns false'. Refute it at one input. -/
def fnExactWonRoundsWrong : ChangeSpec := { name := "fnExactWonRounds", fn := fun _ => fun
  | [d] => { results := [.lit (.bool false)], args := [d] }
  | _ => none }
def FnExactWonRoundsWrongFalsely : Prop := fnExactWonRoundsRow.holds Try.pinned (OpenSpec.ofChange fnExactWonRoundsWrong)

/-- 'laws.FnExactAllWon': WHATEVER THE INPUT: true; the input reads as it did. -/
def fnExactAllWonSpec : ChangeSpec := { name := "fnExactAllWon", fn := fun _ => fun
  | [d] => { results := [.lit (.bool true)], args := [d] }
  | _ => none }
def fnExactAllWonRow : OpenClaim := { program := "ytefpihelkbmpjaa", sum := "c9c603116f57cc8468b2282f3b2ad3b7135986233c5c8c68202cbb8b48eb1e43", func := "loop.example/g01158/laws.FnExactAllWon", spec := "fnExactAllWon", unfollowed := true, recurses := true, apart := false }
def FnExactAllWonSaid : Prop := fnExactAllWonRow.holds Try.pinned (OpenSpec.ofChange fnExactAllWonSpec)

/-- ITS FALSE NEIGHBOUR: 'it returns false'. Refute it at one input. -/
def fnExactAllWonWrong : ChangeSpec := { name := "fnExactAllWon", fn := fun _ => fun
  | [d] => { results := [.lit (.bool false)], args := [d] }
  | _ => none }
def FnExactAllWonWrongFalsely : Prop := fnExactAllWonRow.holds Try.pinned (OpenSpec.ofChange fnExactAllWonWrong)

/-- 'laws.FnExactReachedIn': WHATEVER THE INPUT: true; the input reads as it did. -/
def fnExactReachedInSpec : ChangeSpec := { name := "fnExactReachedIn", fn := fun _ => fun
  | [d1, d2] => { results := [.lit (.bool true)], args := [d1, d2] }
  | _ => none }
def fnExactReachedInRow : OpenClaim := { program := "ytefpihelkbmpjaa", sum := "c9c603116f57cc8468b2282f3b2ad3b7135986233c5c8c68202cbb8b48eb1e43", func := "loop.example/g01158/laws.FnExactReachedIn", spec := "fnExactReachedIn", unfollowed := true, recurses := true, apart := false }
def FnExactReachedInSaid : Prop := fnExactReachedInRow.holds Try.pinned (OpenSpec.ofChange fnExactReachedInSpec)

/-- ITS FALSE NEIGHBOUR: 'it returns false'. Refute it at one input. -/
def fnExactReachedInWrong : ChangeSpec := { name := "fnExactReachedIn", fn := fun _ => fun
  | [d1, d2] => { results := [.lit (.bool false)], args := [d1, d2] }
  | _ => none }
def FnExactReachedInWrongFalsely : Prop := fnExactReachedInRow.holds Try.pinned (OpenSpec.ofChange fnExactReachedInWrong)

/- THE SECOND FORM. 'bulk': how many values and letters a reading holds, each counted each time it is reached (what is shared counts as often as it is met; a slice's spare places count too). A statement '..UptoSaid' is the law's where the arguments, and the package variables that the reading takes, are together of bulk at most 1048576: NARROWER than '..Said'. Prove '..Said' where nothing that the law and all that it calls make is longer than what came in: it says more and counts as full. Else prove '..UptoSaid'. A law counts once. -/
mutual
def uptoBulk {H : Type} : DataW H → Nat
  | .lit (.string bytes) => bytes.length + 1
  | .lit _ => 1
  | .nil => 1
  | .ptr d => uptoBulk d + 1
  | .slice elems spare => uptoBulkAll elems + uptoBulkAll spare + 1
  | .agg parts => uptoBulkAll parts + 1
  | .iface _ d => uptoBulk d + 1
  | .map entries => uptoBulkEntries entries + 1
  | .held _ => 1
def uptoBulkAll {H : Type} : List (DataW H) → Nat
  | [] => 0
  | d :: r => uptoBulk d + uptoBulkAll r
def uptoBulkEntries {H : Type} : List (Lit × DataW H) → Nat
  | [] => 0
  | x :: r => uptoBulkEntry x + uptoBulkEntries r
def uptoBulkEntry {H : Type} : Lit × DataW H → Nat
  | (.string bytes, d) => bytes.length + uptoBulk d + 1
  | (_, d) => uptoBulk d + 1
 end
def uptoSmall : (H : Type) → List (DataW H) → Bool := fun _ ds => decide (uptoBulkAll ds ≤ 1048576)
def OpenSpec.upto (s : _root_.Go.ChangeSpec) : _root_.Go.OpenSpec := { _root_.Go.OpenSpec.ofChange s with cond := some uptoSmall }

/-- 'laws.FnExactStepsFrom', WHERE WHAT IT READS IS OF BULK AT MOST 1048576: true; the input reads as it did. -/
def fnExactStepsFromUptoRow : OpenClaim := { program := "ytefpihelkbmpjaa", sum := "c9c603116f57cc8468b2282f3b2ad3b7135986233c5c8c68202cbb8b48eb1e43", func := "loop.example/g01158/laws.FnExactStepsFrom", spec := "fnExactStepsFrom", unfollowed := true, recurses := true, apart := false, narrowed := true }
def FnExactStepsFromUptoSaid : Prop := fnExactStepsFromUptoRow.holds Try.pinned (OpenSpec.upto fnExactStepsFromSpec)

/-- 'laws.FnExactIdleNodes', WHERE WHAT IT READS IS OF BULK AT MOST 1048576: true; the input reads as it did. -/
def fnExactIdleNodesUptoRow : OpenClaim := { program := "ytefpihelkbmpjaa", sum := "c9c603116f57cc8468b2282f3b2ad3b7135986233c5c8c68202cbb8b48eb1e43", func := "loop.example/g01158/laws.FnExactIdleNodes", spec := "fnExactIdleNodes", unfollowed := true, recurses := true, apart := false, narrowed := true }
def FnExactIdleNodesUptoSaid : Prop := fnExactIdleNodesUptoRow.holds Try.pinned (OpenSpec.upto fnExactIdleNodesSpec)

/-- 'laws.FnExactRequiredDoors', WHERE WHAT IT READS IS OF BULK AT MOST 1048576: true; the input reads as it did. -/
def fnExactRequiredDoorsUptoRow : OpenClaim := { program := "ytefpihelkbmpjaa", sum := "c9c603116f57cc8468b2282f3b2ad3b7135986233c5c8c68202cbb8b48eb1e43", func := "loop.example/g01158/laws.FnExactRequiredDoors", spec := "fnExactRequiredDoors", unfollowed := true, recurses := true, apart := false, narrowed := true }
def FnExactRequiredDoorsUptoSaid : Prop := fnExactRequiredDoorsUptoRow.holds Try.pinned (OpenSpec.upto fnExactRequiredDoorsSpec)

/-- 'laws.FnExactRequiredNodes', WHERE WHAT IT READS IS OF BULK AT MOST 1048576: true; the input reads as it did. -/
def fnExactRequiredNodesUptoRow : OpenClaim := { program := "ytefpihelkbmpjaa", sum := "c9c603116f57cc8468b2282f3b2ad3b7135986233c5c8c68202cbb8b48eb1e43", func := "loop.example/g01158/laws.FnExactRequiredNodes", spec := "fnExactRequiredNodes", unfollowed := true, recurses := true, apart := false, narrowed := true }
def FnExactRequiredNodesUptoSaid : Prop := fnExactRequiredNodesUptoRow.holds Try.pinned (OpenSpec.upto fnExactRequiredNodesSpec)

/-- 'laws.FnExactNodesAhead', WHERE WHAT IT READS IS OF BULK AT MOST 1048576: true; the input reads as it did. -/
def fnExactNodesAheadUptoRow : OpenClaim := { program := "ytefpihelkbmpjaa", sum := "c9c603116f57cc8468b2282f3b2ad3b7135986233c5c8c68202cbb8b48eb1e43", func := "loop.example/g01158/laws.FnExactNodesAhead", spec := "fnExactNodesAhead", unfollowed := true, recurses := true, apart := false, narrowed := true }
def FnExactNodesAheadUptoSaid : Prop := fnExactNodesAheadUptoRow.holds Try.pinned (OpenSpec.upto fnExactNodesAheadSpec)

/-- 'laws.FnExactNewConsole', WHERE WHAT IT READS IS OF BULK AT MOST 1048576: true; the input reads as it did. -/
def fnExactNewConsoleUptoRow : OpenClaim := { program := "ytefpihelkbmpjaa", sum := "c9c603116f57cc8468b2282f3b2ad3b7135986233c5c8c68202cbb8b48eb1e43", func := "loop.example/g01158/laws.FnExactNewConsole", spec := "fnExactNewConsole", unfollowed := true, recurses := true, apart := false, narrowed := true }
def FnExactNewConsoleUptoSaid : Prop := fnExactNewConsoleUptoRow.holds Try.pinned (OpenSpec.upto fnExactNewConsoleSpec)

/-- 'laws.FnExactCanEver', WHERE WHAT IT READS IS OF BULK AT MOST 1048576: true; the input reads as it did. -/
def fnExactCanEverUptoRow : OpenClaim := { program := "ytefpihelkbmpjaa", sum := "c9c603116f57cc8468b2282f3b2ad3b7135986233c5c8c68202cbb8b48eb1e43", func := "loop.example/g01158/laws.FnExactCanEver", spec := "fnExactCanEver", unfollowed := true, recurses := true, apart := false, narrowed := true }
def FnExactCanEverUptoSaid : Prop := fnExactCanEverUptoRow.holds Try.pinned (OpenSpec.upto fnExactCanEverSpec)

/-- 'laws.FnExactGiveKeys', WHERE WHAT IT READS IS OF BULK AT MOST 1048576: true; the input reads as it did. -/
def fnExactGiveKeysUptoRow : OpenClaim := { program := "ytefpihelkbmpjaa", sum := "c9c603116f57cc8468b2282f3b2ad3b7135986233c5c8c68202cbb8b48eb1e43", func := "loop.example/g01158/laws.FnExactGiveKeys", spec := "fnExactGiveKeys", unfollowed := true, recurses := true, apart := false, narrowed := true }
def FnExactGiveKeysUptoSaid : Prop := fnExactGiveKeysUptoRow.holds Try.pinned (OpenSpec.upto fnExactGiveKeysSpec)

/-- 'laws.FnExactRoundSets', WHERE WHAT IT READS IS OF BULK AT MOST 1048576: true; the input reads as it did. -/
def fnExactRoundSetsUptoRow : OpenClaim := { program := "ytefpihelkbmpjaa", sum := "c9c603116f57cc8468b2282f3b2ad3b7135986233c5c8c68202cbb8b48eb1e43", func := "loop.example/g01158/laws.FnExactRoundSets", spec := "fnExactRoundSets", unfollowed := true, recurses := true, apart := false, narrowed := true }
def FnExactRoundSetsUptoSaid : Prop := fnExactRoundSetsUptoRow.holds Try.pinned (OpenSpec.upto fnExactRoundSetsSpec)

/-- 'laws.FnExactWonRounds', WHERE WHAT IT READS IS OF BULK AT MOST 1048576: true; the input reads as it did. -/
def fnExactWonRoundsUptoRow : OpenClaim := { program := "ytefpihelkbmpjaa", sum := "c9c603116f57cc8468b2282f3b2ad3b7135986233c5c8c68202cbb8b48eb1e43", func := "loop.example/g01158/laws.FnExactWonRounds", spec := "fnExactWonRounds", unfollowed := true, recurses := true, apart := false, narrowed := true }
def FnExactWonRoundsUptoSaid : Prop := fnExactWonRoundsUptoRow.holds Try.pinned (OpenSpec.upto fnExactWonRoundsSpec)

/-- 'laws.FnExactAllWon', WHERE WHAT IT READS IS OF BULK AT MOST 1048576: true; the input reads as it did. -/
def fnExactAllWonUptoRow : OpenClaim := { program := "ytefpihelkbmpjaa", sum := "c9c603116f57cc8468b2282f3b2ad3b7135986233c5c8c68202cbb8b48eb1e43", func := "loop.example/g01158/laws.FnExactAllWon", spec := "fnExactAllWon", unfollowed := true, recurses := true, apart := false, narrowed := true }
def FnExactAllWonUptoSaid : Prop := fnExactAllWonUptoRow.holds Try.pinned (OpenSpec.upto fnExactAllWonSpec)

/-- 'laws.FnExactReachedIn', WHERE WHAT IT READS IS OF BULK AT MOST 1048576: true; the input reads as it did. -/
def fnExactReachedInUptoRow : OpenClaim := { program := "ytefpihelkbmpjaa", sum := "c9c603116f57cc8468b2282f3b2ad3b7135986233c5c8c68202cbb8b48eb1e43", func := "loop.example/g01158/laws.FnExactReachedIn", spec := "fnExactReachedIn", unfollowed := true, recurses := true, apart := false, narrowed := true }
def FnExactReachedInUptoSaid : Prop := fnExactReachedInUptoRow.holds Try.pinned (OpenSpec.upto fnExactReachedInSpec)

end Rows
end Go.Proofs.Ytefpihelkbmpjaa
