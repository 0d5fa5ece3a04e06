/-
  No cell of these rows narrows 'for every input' (looked for: loops, veiled, ifaces, maps, wideKeys, modest, calm, conditions, laid).
  DERIVED. THE GIVEN ROWS OF THIS SEAT. 12 by the template 'for every input the law returns true; each argument reads behind the call as it read before'; 0 by the template 'total and deterministic' (their statements: YteaphppkjcngiaaTotals.lean).
  GIVEN WITH THE SEED: the statements are not yours to turn. If you find one false, say at which input.
  Laid BY PROGRAM, IN A SANDBOX (cutbox-rows.mjs): the forced cells as the released guide's own fill.sh prints them over the translation 8035ea48e4b11299… (all of the seat's roots in one cut). By AI agents, Wed Nov 11 2026. No macro, syntax, notation, axiom, sorry.
-/
import Derived.Test.YteaphppkjcngiaaChecked
import GoSem.Claim
import GoSem.ClaimJoined
import GoSem.ClaimMapViews
import Derived.JoinedTies
import Derived.KernelRfl
namespace Go.Proofs.Yteaphppkjcngiaa
/- THE CELL 'sum', in the pinned program and in every row, IS THE sha256 OF THE DUMP (.gsa) THAT YteaphppkjcngiaaProg.lean LOADS. Nothing in Lean hashes anything: it is a label: what it is worth is what the hold of that sum in a sandbox is worth. -/
noncomputable def Try.pinned : Pinned := { name := "yteaphppkjcngiaa", sum := "8035ea48e4b112990383c04badbe32c5d5df18b964c34dd794505e0852df15dc", checked := Try.checked }
namespace Rows
def none {H : Type} : Left H := { results := [], args := [] }

/-- 'laws.FnExactIsValidRecord': WHATEVER THE INPUT: true; the input reads as it did. -/
def fnExactIsValidRecordSpec : ChangeSpec := { name := "fnExactIsValidRecord", fn := fun _ => fun
  | [d] => { results := [.lit (.bool true)], args := [d] }
  | _ => none }
def fnExactIsValidRecordRow : OpenClaim := { program := "yteaphppkjcngiaa", sum := "8035ea48e4b112990383c04badbe32c5d5df18b964c34dd794505e0852df15dc", func := "loop.example/g01158/laws.FnExactIsValidRecord", spec := "fnExactIsValidRecord", inPlace := ["internal/bytealg.IndexByteString"], apart := false }
def FnExactIsValidRecordSaid : Prop := fnExactIsValidRecordRow.holds Try.pinned (OpenSpec.ofChange fnExactIsValidRecordSpec)

/-- ITS FALSE NEIGHBOUR: 'it returns false'. Refute it at one input. -/
def fnExactIsValidRecordWrong : ChangeSpec := { name := "fnExactIsValidRecord", fn := fun _ => fun
  | [d] => { results := [.lit (.bool false)], args := [d] }
  | _ => none }
def FnExactIsValidRecordWrongFalsely : Prop := fnExactIsValidRecordRow.holds Try.pinned (OpenSpec.ofChange fnExactIsValidRecordWrong)

/-- 'laws.FnExactIsTrap': WHATEVER THE INPUT: true; the input reads as it did. -/
def fnExactIsTrapSpec : ChangeSpec := { name := "fnExactIsTrap", fn := fun _ => fun
  | [d] => { results := [.lit (.bool true)], args := [d] }
  | _ => none }
def fnExactIsTrapRow : OpenClaim := { program := "yteaphppkjcngiaa", sum := "8035ea48e4b112990383c04badbe32c5d5df18b964c34dd794505e0852df15dc", func := "loop.example/g01158/laws.FnExactIsTrap", spec := "fnExactIsTrap", unfollowed := true, recurses := true, apart := false }
def FnExactIsTrapSaid : Prop := fnExactIsTrapRow.holds Try.pinned (OpenSpec.ofChange fnExactIsTrapSpec)

/-- ITS FALSE NEIGHBOUR: 'it returns false'. Refute it at one input. -/
def fnExactIsTrapWrong : ChangeSpec := { name := "fnExactIsTrap", fn := fun _ => fun
  | [d] => { results := [.lit (.bool false)], args := [d] }
  | _ => none }
def FnExactIsTrapWrongFalsely : Prop := fnExactIsTrapRow.holds Try.pinned (OpenSpec.ofChange fnExactIsTrapWrong)

/-- 'laws.FnExactIsVisit': WHATEVER THE INPUT: true; the input reads as it did. -/
def fnExactIsVisitSpec : ChangeSpec := { name := "fnExactIsVisit", fn := fun _ => fun
  | [d] => { results := [.lit (.bool true)], args := [d] }
  | _ => none }
def fnExactIsVisitRow : OpenClaim := { program := "yteaphppkjcngiaa", sum := "8035ea48e4b112990383c04badbe32c5d5df18b964c34dd794505e0852df15dc", func := "loop.example/g01158/laws.FnExactIsVisit", spec := "fnExactIsVisit", unfollowed := true, recurses := true, apart := false }
def FnExactIsVisitSaid : Prop := fnExactIsVisitRow.holds Try.pinned (OpenSpec.ofChange fnExactIsVisitSpec)

/-- ITS FALSE NEIGHBOUR: 'it returns false'. Refute it at one input. -/
def fnExactIsVisitWrong : ChangeSpec := { name := "fnExactIsVisit", fn := fun _ => fun
  | [d] => { results := [.lit (.bool false)], args := [d] }
  | _ => none }
def FnExactIsVisitWrongFalsely : Prop := fnExactIsVisitRow.holds Try.pinned (OpenSpec.ofChange fnExactIsVisitWrong)

/-- 'laws.FnExactNewVisit': WHATEVER THE INPUT: true; the input reads as it did. -/
def fnExactNewVisitSpec : ChangeSpec := { name := "fnExactNewVisit", fn := fun _ => fun
  | [d] => { results := [.lit (.bool true)], args := [d] }
  | _ => none }
def fnExactNewVisitRow : OpenClaim := { program := "yteaphppkjcngiaa", sum := "8035ea48e4b112990383c04badbe32c5d5df18b964c34dd794505e0852df15dc", func := "loop.example/g01158/laws.FnExactNewVisit", spec := "fnExactNewVisit", unfollowed := true, recurses := true, apart := false }
def FnExactNewVisitSaid : Prop := fnExactNewVisitRow.holds Try.pinned (OpenSpec.ofChange fnExactNewVisitSpec)

/-- ITS FALSE NEIGHBOUR: 'it returns false'. Refute it at one input. -/
def fnExactNewVisitWrong : ChangeSpec := { name := "fnExactNewVisit", fn := fun _ => fun
  | [d] => { results := [.lit (.bool false)], args := [d] }
  | _ => none }
def FnExactNewVisitWrongFalsely : Prop := fnExactNewVisitRow.holds Try.pinned (OpenSpec.ofChange fnExactNewVisitWrong)

/-- 'laws.FnExactHasNow': WHATEVER THE INPUT: true; the input reads as it did. -/
def fnExactHasNowSpec : ChangeSpec := { name := "fnExactHasNow", fn := fun _ => fun
  | [d] => { results := [.lit (.bool true)], args := [d] }
  | _ => none }
def fnExactHasNowRow : OpenClaim := { program := "yteaphppkjcngiaa", sum := "8035ea48e4b112990383c04badbe32c5d5df18b964c34dd794505e0852df15dc", func := "loop.example/g01158/laws.FnExactHasNow", spec := "fnExactHasNow", unfollowed := true, recurses := true, apart := false }
def FnExactHasNowSaid : Prop := fnExactHasNowRow.holds Try.pinned (OpenSpec.ofChange fnExactHasNowSpec)

/-- ITS FALSE NEIGHBOUR: 'it returns false'. Refute it at one input. -/
def fnExactHasNowWrong : ChangeSpec := { name := "fnExactHasNow", fn := fun _ => fun
  | [d] => { results := [.lit (.bool false)], args := [d] }
  | _ => none }
def FnExactHasNowWrongFalsely : Prop := fnExactHasNowRow.holds Try.pinned (OpenSpec.ofChange fnExactHasNowWrong)

/-- 'laws.FnExactIsWorlds': WHATEVER THE INPUT: true; the input reads as it did. -/
def fnExactIsWorldsSpec : ChangeSpec := { name := "fnExactIsWorlds", fn := fun _ => fun
  | [d] => { results := [.lit (.bool true)], args := [d] }
  | _ => none }
def fnExactIsWorldsRow : OpenClaim := { program := "yteaphppkjcngiaa", sum := "8035ea48e4b112990383c04badbe32c5d5df18b964c34dd794505e0852df15dc", func := "loop.example/g01158/laws.FnExactIsWorlds", spec := "fnExactIsWorlds", unfollowed := true, recurses := true, apart := false }
def FnExactIsWorldsSaid : Prop := fnExactIsWorldsRow.holds Try.pinned (OpenSpec.ofChange fnExactIsWorldsSpec)

/-- ITS FALSE NEIGHBOUR: 'it returns false'. Refute it at one input. -/
def fnExactIsWorldsWrong : ChangeSpec := { name := "fnExactIsWorlds", fn := fun _ => fun
  | [d] => { results := [.lit (.bool false)], args := [d] }
  | _ => none }
def FnExactIsWorldsWrongFalsely : Prop := fnExactIsWorldsRow.holds Try.pinned (OpenSpec.ofChange fnExactIsWorldsWrong)

/-- 'laws.FnExactStateBehind': WHATEVER THE INPUT: true; the input reads as it did. -/
def fnExactStateBehindSpec : ChangeSpec := { name := "fnExactStateBehind", fn := fun _ => fun
  | [d1, d2] => { results := [.lit (.bool true)], args := [d1, d2] }
  | _ => none }
def fnExactStateBehindRow : OpenClaim := { program := "yteaphppkjcngiaa", sum := "8035ea48e4b112990383c04badbe32c5d5df18b964c34dd794505e0852df15dc", func := "loop.example/g01158/laws.FnExactStateBehind", spec := "fnExactStateBehind", unfollowed := true, recurses := true, apart := false }
def FnExactStateBehindSaid : Prop := fnExactStateBehindRow.holds Try.pinned (OpenSpec.ofChange fnExactStateBehindSpec)

/-- ITS FALSE NEIGHBOUR: 'it returns false'. Refute it at one input. -/
def fnExactStateBehindWrong : ChangeSpec := { name := "fnExactStateBehind", fn := fun _ => fun
  | [d1, d2] => { results := [.lit (.bool false)], args := [d1, d2] }
  | _ => none }
def FnExactStateBehindWrongFalsely : Prop := fnExactStateBehindRow.holds Try.pinned (OpenSpec.ofChange fnExactStateBehindWrong)

/-- 'laws.FnFillings': WHATEVER THE INPUT: true; the input reads as it did. -/
def fnFillingsSpec : ChangeSpec := { name := "fnFillings", fn := fun _ => fun
  | [d] => { results := [.lit (.bool true)], args := [d] }
  | _ => none }
def fnFillingsRow : OpenClaim := { program := "yteaphppkjcngiaa", sum := "8035ea48e4b112990383c04badbe32c5d5df18b964c34dd794505e0852df15dc", func := "loop.example/g01158/laws.FnFillings", spec := "fnFillings", unfollowed := true, recurses := true, apart := false }
def FnFillingsSaid : Prop := fnFillingsRow.holds Try.pinned (OpenSpec.ofChange fnFillingsSpec)

/-- ITS FALSE NEIGHBOUR: 'it returns false'. Refute it at one input. -/
def fnFillingsWrong : ChangeSpec := { name := "fnFillings", fn := fun _ => fun
  | [d] => { results := [.lit (.bool false)], args := [d] }
  | _ => none }
def FnFillingsWrongFalsely : Prop := fnFillingsRow.holds Try.pinned (OpenSpec.ofChange fnFillingsWrong)

/-- 'laws.FnExactIsTrapWalk': WHATEVER THE INPUT: true; the input reads as it did. -/
def fnExactIsTrapWalkSpec : ChangeSpec := { name := "fnExactIsTrapWalk", fn := fun _ => fun
  | [d1, d2] => { results := [.lit (.bool true)], args := [d1, d2] }
  | _ => none }
def fnExactIsTrapWalkRow : OpenClaim := { program := "yteaphppkjcngiaa", sum := "8035ea48e4b112990383c04badbe32c5d5df18b964c34dd794505e0852df15dc", func := "loop.example/g01158/laws.FnExactIsTrapWalk", spec := "fnExactIsTrapWalk", unfollowed := true, recurses := true, apart := false }
def FnExactIsTrapWalkSaid : Prop := fnExactIsTrapWalkRow.holds Try.pinned (OpenSpec.ofChange fnExactIsTrapWalkSpec)

/-- ITS FALSE NEIGHBOUR: 'it returns false'. Refute it at one input. -/
def fnExactIsTrapWalkWrong : ChangeSpec := { name := "fnExactIsTrapWalk", fn := fun _ => fun
  | [d1, d2] => { results := [.lit (.bool false)], args := [d1, d2] }
  | _ => none }
def FnExactIsTrapWalkWrongFalsely : Prop := fnExactIsTrapWalkRow.holds Try.pinned (OpenSpec.ofChange fnExactIsTrapWalkWrong)

/-- 'laws.FnExactBothWays': WHATEVER THE INPUT: true; the input reads as it did. -/
def fnExactBothWaysSpec : ChangeSpec := { name := "fnExactBothWays", fn := fun _ => fun
  | [d] => { results := [.lit (.bool true)], args := [d] }
  | _ => none }
def fnExactBothWaysRow : OpenClaim := { program := "yteaphppkjcngiaa", sum := "8035ea48e4b112990383c04badbe32c5d5df18b964c34dd794505e0852df15dc", func := "loop.example/g01158/laws.FnExactBothWays", spec := "fnExactBothWays", unfollowed := true, recurses := true, apart := false }
def FnExactBothWaysSaid : Prop := fnExactBothWaysRow.holds Try.pinned (OpenSpec.ofChange fnExactBothWaysSpec)

/-- ITS FALSE NEIGHBOUR: 'it returns false'. Refute it at one input. -/
def fnExactBothWaysWrong : ChangeSpec := { name := "fnExactBothWays", fn := fun _ => fun
  | [d] => { results := [.lit (.bool false)], args := [d] }
  | _ => none }
def FnExactBothWaysWrongFalsely : Prop := fnExactBothWaysRow.holds Try.pinned (OpenSpec.ofChange fnExactBothWaysWrong)

/-- 'laws.FnExactAloneWorlds': WHATEVER THE INPUT: true; the input reads as it did. -/
def fnExactAloneWorldsSpec : ChangeSpec := { name := "fnExactAloneWorlds", fn := fun _ => fun
  | [d] => { results := [.lit (.bool true)], args := [d] }
  | _ => none }
def fnExactAloneWorldsRow : OpenClaim := { program := "yteaphppkjcngiaa", sum := "8035ea48e4b112990383c04badbe32c5d5df18b964c34dd794505e0852df15dc", func := "loop.example/g01158/laws.FnExactAloneWorlds", spec := "fnExactAloneWorlds", unfollowed := true, recurses := true, apart := false }
def FnExactAloneWorldsSaid : Prop := fnExactAloneWorldsRow.holds Try.pinned (OpenSpec.ofChange fnExactAloneWorldsSpec)

/-- ITS FALSE NEIGHBOUR: 'it returns false'. Refute it at one input. -/
def fnExactAloneWorldsWrong : ChangeSpec := { name := "fnExactAloneWorlds", fn := fun _ => fun
  | [d] => { results := [.lit (.bool false)], args := [d] }
  | _ => none }
def FnExactAloneWorldsWrongFalsely : Prop := fnExactAloneWorldsRow.holds Try.pinned (OpenSpec.ofChange fnExactAloneWorldsWrong)

/-- 'laws.FnExactRequiredColours': WHATEVER THE INPUT: true; the input reads as it did. -/
def fnExactRequiredColoursSpec : ChangeSpec := { name := "fnExactRequiredColours", fn := fun _ => fun
  | [d1, d2] => { results := [.lit (.bool true)], args := [d1, d2] }
  | _ => none }
def fnExactRequiredColoursRow : OpenClaim := { program := "yteaphppkjcngiaa", sum := "8035ea48e4b112990383c04badbe32c5d5df18b964c34dd794505e0852df15dc", func := "loop.example/g01158/laws.FnExactRequiredColours", spec := "fnExactRequiredColours", unfollowed := true, recurses := true, apart := false }
def FnExactRequiredColoursSaid : Prop := fnExactRequiredColoursRow.holds Try.pinned (OpenSpec.ofChange fnExactRequiredColoursSpec)

/-- ITS FALSE NEIGHBOUR: 'it returns false'. Refute it at one input. -/
def fnExactRequiredColoursWrong : ChangeSpec := { name := "fnExactRequiredColours", fn := fun _ => fun
  | [d1, d2] => { results := [.lit (.bool false)], args := [d1, d2] }
  | _ => none }
def FnExactRequiredColoursWrongFalsely : Prop := fnExactRequiredColoursRow.holds Try.pinned (OpenSpec.ofChange fnExactRequiredColoursWrong)

/- THE SECOND FORM. 'bulk': how many values and letters a reading holds, each counted each time it is reached (what is shared counts as often as it is met; a slice's spare places count too). A statement '..UptoSaid' is the law's where the arguments, and the package variables that the reading takes, are together of bulk at most 1048576: NARROWER than '..Said'. Prove '..Said' where nothing that the law and all that it calls make is longer than what came in: it says more and counts as full. Else prove '..UptoSaid'. A law counts once. -/
mutual
def uptoBulk {H : Type} : DataW H → Nat
  | .lit (.string bytes) => bytes.length + 1
  | .lit _ => 1
  | .nil => 1
  | .ptr d => uptoBulk d + 1
  | .slice elems spare => uptoBulkAll elems + uptoBulkAll spare + 1
  | .agg parts => uptoBulkAll parts + 1
  | .iface _ d => uptoBulk d + 1
  | .map entries => uptoBulkEntries entries + 1
  | .held _ => 1
def uptoBulkAll {H : Type} : List (DataW H) → Nat
  | [] => 0
  | d :: r => uptoBulk d + uptoBulkAll r
def uptoBulkEntries {H : Type} : List (Lit × DataW H) → Nat
  | [] => 0
  | x :: r => uptoBulkEntry x + uptoBulkEntries r
def uptoBulkEntry {H : Type} : Lit × DataW H → Nat
  | (.string bytes, d) => bytes.length + uptoBulk d + 1
  | (_, d) => uptoBulk d + 1
 end
def uptoSmall : (H : Type) → List (DataW H) → Bool := fun _ ds => decide (uptoBulkAll ds ≤ 1048576)
def OpenSpec.upto (s : _root_.Go.ChangeSpec) : _root_.Go.OpenSpec := { _root_.Go.OpenSpec.ofChange s with cond := some uptoSmall }

/-- 'laws.FnExactIsValidRecord', WHERE WHAT IT READS IS OF BULK AT MOST 1048576: true; the input reads as it did. -/
def fnExactIsValidRecordUptoRow : OpenClaim := { program := "yteaphppkjcngiaa", sum := "8035ea48e4b112990383c04badbe32c5d5df18b964c34dd794505e0852df15dc", func := "loop.example/g01158/laws.FnExactIsValidRecord", spec := "fnExactIsValidRecord", inPlace := ["internal/bytealg.IndexByteString"], apart := false, narrowed := true }
def FnExactIsValidRecordUptoSaid : Prop := fnExactIsValidRecordUptoRow.holds Try.pinned (OpenSpec.upto fnExactIsValidRecordSpec)

/-- 'laws.FnExactIsTrap', WHERE WHAT IT READS IS OF BULK AT MOST 1048576: true; the input reads as it did. -/
def fnExactIsTrapUptoRow : OpenClaim := { program := "yteaphppkjcngiaa", sum := "8035ea48e4b112990383c04badbe32c5d5df18b964c34dd794505e0852df15dc", func := "loop.example/g01158/laws.FnExactIsTrap", spec := "fnExactIsTrap", unfollowed := true, recurses := true, apart := false, narrowed := true }
def FnExactIsTrapUptoSaid : Prop := fnExactIsTrapUptoRow.holds Try.pinned (OpenSpec.upto fnExactIsTrapSpec)

/-- 'laws.FnExactIsVisit', WHERE WHAT IT READS IS OF BULK AT MOST 1048576: true; the input reads as it did. -/
def fnExactIsVisitUptoRow : OpenClaim := { program := "yteaphppkjcngiaa", sum := "8035ea48e4b112990383c04badbe32c5d5df18b964c34dd794505e0852df15dc", func := "loop.example/g01158/laws.FnExactIsVisit", spec := "fnExactIsVisit", unfollowed := true, recurses := true, apart := false, narrowed := true }
def FnExactIsVisitUptoSaid : Prop := fnExactIsVisitUptoRow.holds Try.pinned (OpenSpec.upto fnExactIsVisitSpec)

/-- 'laws.FnExactNewVisit', WHERE WHAT IT READS IS OF BULK AT MOST 1048576: true; the input reads as it did. -/
def fnExactNewVisitUptoRow : OpenClaim := { program := "yteaphppkjcngiaa", sum := "8035ea48e4b112990383c04badbe32c5d5df18b964c34dd794505e0852df15dc", func := "loop.example/g01158/laws.FnExactNewVisit", spec := "fnExactNewVisit", unfollowed := true, recurses := true, apart := false, narrowed := true }
def FnExactNewVisitUptoSaid : Prop := fnExactNewVisitUptoRow.holds Try.pinned (OpenSpec.upto fnExactNewVisitSpec)

/-- 'laws.FnExactHasNow', WHERE WHAT IT READS IS OF BULK AT MOST 1048576: true; the input reads as it did. -/
def fnExactHasNowUptoRow : OpenClaim := { program := "yteaphppkjcngiaa", sum := "8035ea48e4b112990383c04badbe32c5d5df18b964c34dd794505e0852df15dc", func := "loop.example/g01158/laws.FnExactHasNow", spec := "fnExactHasNow", unfollowed := true, recurses := true, apart := false, narrowed := true }
def FnExactHasNowUptoSaid : Prop := fnExactHasNowUptoRow.holds Try.pinned (OpenSpec.upto fnExactHasNowSpec)

/-- 'laws.FnExactIsWorlds', WHERE WHAT IT READS IS OF BULK AT MOST 1048576: true; the input reads as it did. -/
def fnExactIsWorldsUptoRow : OpenClaim := { program := "yteaphppkjcngiaa", sum := "8035ea48e4b112990383c04badbe32c5d5df18b964c34dd794505e0852df15dc", func := "loop.example/g01158/laws.FnExactIsWorlds", spec := "fnExactIsWorlds", unfollowed := true, recurses := true, apart := false, narrowed := true }
def FnExactIsWorldsUptoSaid : Prop := fnExactIsWorldsUptoRow.holds Try.pinned (OpenSpec.upto fnExactIsWorldsSpec)

/-- 'laws.FnExactStateBehind', WHERE WHAT IT READS IS OF BULK AT MOST 1048576: true; the input reads as it did. -/
def fnExactStateBehindUptoRow : OpenClaim := { program := "yteaphppkjcngiaa", sum := "8035ea48e4b112990383c04badbe32c5d5df18b964c34dd794505e0852df15dc", func := "loop.example/g01158/laws.FnExactStateBehind", spec := "fnExactStateBehind", unfollowed := true, recurses := true, apart := false, narrowed := true }
def FnExactStateBehindUptoSaid : Prop := fnExactStateBehindUptoRow.holds Try.pinned (OpenSpec.upto fnExactStateBehindSpec)

/-- 'laws.FnFillings', WHERE WHAT IT READS IS OF BULK AT MOST 1048576: true; the input reads as it did. -/
def fnFillingsUptoRow : OpenClaim := { program := "yteaphppkjcngiaa", sum := "8035ea48e4b112990383c04badbe32c5d5df18b964c34dd794505e0852df15dc", func := "loop.example/g01158/laws.FnFillings", spec := "fnFillings", unfollowed := true, recurses := true, apart := false, narrowed := true }
def FnFillingsUptoSaid : Prop := fnFillingsUptoRow.holds Try.pinned (OpenSpec.upto fnFillingsSpec)

/-- 'laws.FnExactIsTrapWalk', WHERE WHAT IT READS IS OF BULK AT MOST 1048576: true; the input reads as it did. -/
def fnExactIsTrapWalkUptoRow : OpenClaim := { program := "yteaphppkjcngiaa", sum := "8035ea48e4b112990383c04badbe32c5d5df18b964c34dd794505e0852df15dc", func := "loop.example/g01158/laws.FnExactIsTrapWalk", spec := "fnExactIsTrapWalk", unfollowed := true, recurses := true, apart := false, narrowed := true }
def FnExactIsTrapWalkUptoSaid : Prop := fnExactIsTrapWalkUptoRow.holds Try.pinned (OpenSpec.upto fnExactIsTrapWalkSpec)

/-- 'laws.FnExactBothWays', WHERE WHAT IT READS IS OF BULK AT MOST 1048576: true; the input reads as it did. -/
def fnExactBothWaysUptoRow : OpenClaim := { program := "yteaphppkjcngiaa", sum := "8035ea48e4b112990383c04badbe32c5d5df18b964c34dd794505e0852df15dc", func := "loop.example/g01158/laws.FnExactBothWays", spec := "fnExactBothWays", unfollowed := true, recurses := true, apart := false, narrowed := true }
def FnExactBothWaysUptoSaid : Prop := fnExactBothWaysUptoRow.holds Try.pinned (OpenSpec.upto fnExactBothWaysSpec)

/-- 'laws.FnExactAloneWorlds', WHERE WHAT IT READS IS OF BULK AT MOST 1048576: true; the input reads as it did. -/
def fnExactAloneWorldsUptoRow : OpenClaim := { program := "yteaphppkjcngiaa", sum := "8035ea48e4b112990383c04badbe32c5d5df18b964c34dd794505e0852df15dc", func := "loop.example/g01158/laws.FnExactAloneWorlds", spec := "fnExactAloneWorlds", unfollowed := true, recurses := true, apart := false, narrowed := true }
def FnExactAloneWorldsUptoSaid : Prop := fnExactAloneWorldsUptoRow.holds Try.pinned (OpenSpec.upto fnExactAloneWorldsSpec)

/-- 'laws.FnExactRequiredColours', WHERE WHAT IT READS IS OF BULK AT MOST 1048576: true; the input reads as it did. -/
def fnExactRequiredColoursUptoRow : OpenClaim := { program := "yteaphppkjcngiaa", sum := "8035ea48e4b112990383c04badbe32c5d5df18b964c34dd794505e0852df15dc", func := "loop.example/g01158/laws.FnExactRequiredColours", spec := "fnExactRequiredColours", unfollowed := true, recurses := true, apart := false, narrowed := true }
def FnExactRequiredColoursUptoSaid : Prop := fnExactRequiredColoursUptoRow.holds Try.pinned (OpenSpec.upto fnExactRequiredColoursSpec)

end Rows
end Go.Proofs.Yteaphppkjcngiaa
