/-
  No cell of these rows narrows 'for every input' (looked for: loops, veiled, ifaces, maps, wideKeys, modest, calm, conditions, laid).
  DERIVED. THE GIVEN ROWS OF THIS SEAT. 12 by the template 'for every input the law returns true; each argument reads behind the call as it read before'; 0 by the template 'total and deterministic' (their statements: YtnmmbpaedkofeaaTotals.lean).
  GIVEN WITH THE SEED: the statements are not yours to turn. If you find one false, say at which input.
  Laid BY PROGRAM, IN A SANDBOX (cutbox-rows.mjs): the forced cells as the released guide's own fill.sh prints them over the translation 2aa4ac6b8f87b8ec… (all of the seat's roots in one cut). By AI agents, Wed Nov 11 2026. No macro, syntax, notation, axiom, sorry.
-/
import Derived.Test.YtnmmbpaedkofeaaChecked
import GoSem.Claim
import GoSem.ClaimJoined
import GoSem.ClaimMapViews
import Derived.JoinedTies
import Derived.KernelRfl
namespace Go.Proofs.Ytnmmbpaedkofeaa
/- THE CELL 'sum', in the pinned program and in every row, IS THE sha256 OF THE DUMP (.gsa) THAT YtnmmbpaedkofeaaProg.lean LOADS. Nothing in Lean hashes anything: it is a label: what it is worth is what the hold of that sum in a sandbox is worth. -/
noncomputable def Try.pinned : Pinned := { name := "ytnmmbpaedkofeaa", sum := "2aa4ac6b8f87b8ecc839040e5d99d19147380c0f38fc379c7c6f0e72997ccee0", checked := Try.checked }
namespace Rows
def none {H : Type} : Left H := { results := [], args := [] }

/-- 'laws.FnExactReleaseSets': WHATEVER THE INPUT: true; the input reads as it did. -/
def fnExactReleaseSetsSpec : ChangeSpec := { name := "fnExactReleaseSets", fn := fun _ => fun
  | [d] => { results := [.lit (.bool true)], args := [d] }
  | _ => none }
def fnExactReleaseSetsRow : OpenClaim := { program := "ytnmmbpaedkofeaa", sum := "2aa4ac6b8f87b8ecc839040e5d99d19147380c0f38fc379c7c6f0e72997ccee0", func := "loop.example/g01158/laws.FnExactReleaseSets", spec := "fnExactReleaseSets", unfollowed := true, recurses := true, apart := false }
def FnExactReleaseSetsSaid : Prop := fnExactReleaseSetsRow.holds Try.pinned (OpenSpec.ofChange fnExactReleaseSetsSpec)

/-- ITS FALSE NEIGHBOUR: 'it returns false'. Refute it at one input. -/
def fnExactReleaseSetsWrong : ChangeSpec := { name := "fnExactReleaseSets", fn := fun _ => fun
  | [d] => { results := [.lit (.bool false)], args := [d] }
  | _ => none }
def FnExactReleaseSetsWrongFalsely : Prop := fnExactReleaseSetsRow.holds Try.pinned (OpenSpec.ofChange fnExactReleaseSetsWrong)

/-- 'laws.FnExactReleaseRounds': WHATEVER THE INPUT: true; the input reads as it did. -/
def fnExactReleaseRoundsSpec : ChangeSpec := { name := "fnExactReleaseRounds", fn := fun _ => fun
  | [d] => { results := [.lit (.bool true)], args := [d] }
  | _ => none }
def fnExactReleaseRoundsRow : OpenClaim := { program := "ytnmmbpaedkofeaa", sum := "2aa4ac6b8f87b8ecc839040e5d99d19147380c0f38fc379c7c6f0e72997ccee0", func := "loop.example/g01158/laws.FnExactReleaseRounds", spec := "fnExactReleaseRounds", unfollowed := true, recurses := true, apart := false }
def FnExactReleaseRoundsSaid : Prop := fnExactReleaseRoundsRow.holds Try.pinned (OpenSpec.ofChange fnExactReleaseRoundsSpec)

/-- ITS FALSE NEIGHBOUR: 'it returns false'. Refute it at one input. -/
def fnExactReleaseRoundsWrong : ChangeSpec := { name := "fnExactReleaseRounds", fn := fun _ => fun
  | [d] => { results := [.lit (.bool false)], args := [d] }
  | _ => none }
def FnExactReleaseRoundsWrongFalsely : Prop := fnExactReleaseRoundsRow.holds Try.pinned (OpenSpec.ofChange fnExactReleaseRoundsWrong)

/-- 'laws.FnExactLeansOn': WHATEVER THE INPUT: true; the input reads as it did. -/
def fnExactLeansOnSpec : ChangeSpec := { name := "fnExactLeansOn", fn := fun _ => fun
  | [d1, d2] => { results := [.lit (.bool true)], args := [d1, d2] }
  | _ => none }
def fnExactLeansOnRow : OpenClaim := { program := "ytnmmbpaedkofeaa", sum := "2aa4ac6b8f87b8ecc839040e5d99d19147380c0f38fc379c7c6f0e72997ccee0", func := "loop.example/g01158/laws.FnExactLeansOn", spec := "fnExactLeansOn", unfollowed := true, recurses := true, apart := false }
def FnExactLeansOnSaid : Prop := fnExactLeansOnRow.holds Try.pinned (OpenSpec.ofChange fnExactLeansOnSpec)

/-- ITS FALSE NEIGHBOUR: 'it returns false'. Refute it at one input. -/
def fnExactLeansOnWrong : ChangeSpec := { name := "fnExactLeansOn", fn := fun _ => fun
  | [d1, d2] => { results := [.lit (.bool false)], args := [d1, d2] }
  | _ => none }
def FnExactLeansOnWrongFalsely : Prop := fnExactLeansOnRow.holds Try.pinned (OpenSpec.ofChange fnExactLeansOnWrong)

/-- 'laws.FnExactOrderWorlds': WHATEVER THE INPUT: true; the input reads as it did. -/
def fnExactOrderWorldsSpec : ChangeSpec := { name := "fnExactOrderWorlds", fn := fun _ => fun
  | [d1, d2] => { results := [.lit (.bool true)], args := [d1, d2] }
  | _ => none }
def fnExactOrderWorldsRow : OpenClaim := { program := "ytnmmbpaedkofeaa", sum := "2aa4ac6b8f87b8ecc839040e5d99d19147380c0f38fc379c7c6f0e72997ccee0", func := "loop.example/g01158/laws.FnExactOrderWorlds", spec := "fnExactOrderWorlds", unfollowed := true, recurses := true, apart := false }
def FnExactOrderWorldsSaid : Prop := fnExactOrderWorldsRow.holds Try.pinned (OpenSpec.ofChange fnExactOrderWorldsSpec)

/-- ITS FALSE NEIGHBOUR: 'it returns false'. Refute it at one input. -/
def fnExactOrderWorldsWrong : ChangeSpec := { name := "fnExactOrderWorlds", fn := fun _ => fun
  | [d1, d2] => { results := [.lit (.bool false)], args := [d1, d2] }
  | _ => none }
def FnExactOrderWorldsWrongFalsely : Prop := fnExactOrderWorldsRow.holds Try.pinned (OpenSpec.ofChange fnExactOrderWorldsWrong)

/-- 'laws.FnExactTurnDoor': WHATEVER THE INPUT: true; the input reads as it did. -/
def fnExactTurnDoorSpec : ChangeSpec := { name := "fnExactTurnDoor", fn := fun _ => fun
  | [d1, d2] => { results := [.lit (.bool true)], args := [d1, d2] }
  | _ => none }
def fnExactTurnDoorRow : OpenClaim := { program := "ytnmmbpaedkofeaa", sum := "2aa4ac6b8f87b8ecc839040e5d99d19147380c0f38fc379c7c6f0e72997ccee0", func := "loop.example/g01158/laws.FnExactTurnDoor", spec := "fnExactTurnDoor", inPlace := ["slices.overlaps[int]"], unfollowed := true, recurses := true, apart := false }
def FnExactTurnDoorSaid : Prop := fnExactTurnDoorRow.holds Try.pinned (OpenSpec.ofChange fnExactTurnDoorSpec)

/-- ITS FALSE NEIGHBOUR: 'it returns false'. Refute it at one input. -/
def fnExactTurnDoorWrong : ChangeSpec := { name := "fnExactTurnDoor", fn := fun _ => fun
  | [d1, d2] => { results := [.lit (.bool false)], args := [d1, d2] }
  | _ => none }
def FnExactTurnDoorWrongFalsely : Prop := fnExactTurnDoorRow.holds Try.pinned (OpenSpec.ofChange fnExactTurnDoorWrong)

/-- 'laws.FnExactIsGood': WHATEVER THE INPUT: true; the input reads as it did. -/
def fnExactIsGoodSpec : ChangeSpec := { name := "fnExactIsGood", fn := fun _ => fun
  | [d1, d2, d3] => { results := [.lit (.bool true)], args := [d1, d2, d3] }
  | _ => none }
def fnExactIsGoodRow : OpenClaim := { program := "ytnmmbpaedkofeaa", sum := "2aa4ac6b8f87b8ecc839040e5d99d19147380c0f38fc379c7c6f0e72997ccee0", func := "loop.example/g01158/laws.FnExactIsGood", spec := "fnExactIsGood", unfollowed := true, recurses := true, apart := false }
def FnExactIsGoodSaid : Prop := fnExactIsGoodRow.holds Try.pinned (OpenSpec.ofChange fnExactIsGoodSpec)

/-- ITS FALSE NEIGHBOUR: 'it returns false'. Refute it at one input. -/
def fnExactIsGoodWrong : ChangeSpec := { name := "fnExactIsGood", fn := fun _ => fun
  | [d1, d2, d3] => { results := [.lit (.bool false)], args := [d1, d2, d3] }
  | _ => none }
def FnExactIsGoodWrongFalsely : Prop := fnExactIsGoodRow.holds Try.pinned (OpenSpec.ofChange fnExactIsGoodWrong)

/-- 'laws.FnExactFewestToWin': WHATEVER THE INPUT: true; the input reads as it did. -/
def fnExactFewestToWinSpec : ChangeSpec := { name := "fnExactFewestToWin", fn := fun _ => fun
  | [d] => { results := [.lit (.bool true)], args := [d] }
  | _ => none }
def fnExactFewestToWinRow : OpenClaim := { program := "ytnmmbpaedkofeaa", sum := "2aa4ac6b8f87b8ecc839040e5d99d19147380c0f38fc379c7c6f0e72997ccee0", func := "loop.example/g01158/laws.FnExactFewestToWin", spec := "fnExactFewestToWin", unfollowed := true, recurses := true, apart := false }
def FnExactFewestToWinSaid : Prop := fnExactFewestToWinRow.holds Try.pinned (OpenSpec.ofChange fnExactFewestToWinSpec)

/-- ITS FALSE NEIGHBOUR: 'it returns false'. Refute it at one input. -/
def fnExactFewestToWinWrong : ChangeSpec := { name := "fnExactFewestToWin", fn := fun _ => fun
  | [d] => { results := [.lit (.bool false)], args := [d] }
  | _ => none }
def FnExactFewestToWinWrongFalsely : Prop := fnExactFewestToWinRow.holds Try.pinned (OpenSpec.ofChange fnExactFewestToWinWrong)

/-- 'laws.FnExactCountMet': WHATEVER THE INPUT: true; the input reads as it did. -/
def fnExactCountMetSpec : ChangeSpec := { name := "fnExactCountMet", fn := fun _ => fun
  | [d] => { results := [.lit (.bool true)], args := [d] }
  | _ => none }
def fnExactCountMetRow : OpenClaim := { program := "ytnmmbpaedkofeaa", sum := "2aa4ac6b8f87b8ecc839040e5d99d19147380c0f38fc379c7c6f0e72997ccee0", func := "loop.example/g01158/laws.FnExactCountMet", spec := "fnExactCountMet", unfollowed := true, recurses := true, apart := false }
def FnExactCountMetSaid : Prop := fnExactCountMetRow.holds Try.pinned (OpenSpec.ofChange fnExactCountMetSpec)

/-- ITS FALSE NEIGHBOUR: 'it returns false'. Refute it at one input. -/
def fnExactCountMetWrong : ChangeSpec := { name := "fnExactCountMet", fn := fun _ => fun
  | [d] => { results := [.lit (.bool false)], args := [d] }
  | _ => none }
def FnExactCountMetWrongFalsely : Prop := fnExactCountMetRow.holds Try.pinned (OpenSpec.ofChange fnExactCountMetWrong)

/-- 'laws.FnExactLostStates': WHATEVER THE INPUT: true; the input reads as it did. -/
def fnExactLostStatesSpec : ChangeSpec := { name := "fnExactLostStates", fn := fun _ => fun
  | [d] => { results := [.lit (.bool true)], args := [d] }
  | _ => none }
def fnExactLostStatesRow : OpenClaim := { program := "ytnmmbpaedkofeaa", sum := "2aa4ac6b8f87b8ecc839040e5d99d19147380c0f38fc379c7c6f0e72997ccee0", func := "loop.example/g01158/laws.FnExactLostStates", spec := "fnExactLostStates", unfollowed := true, recurses := true, apart := false }
def FnExactLostStatesSaid : Prop := fnExactLostStatesRow.holds Try.pinned (OpenSpec.ofChange fnExactLostStatesSpec)

/-- ITS FALSE NEIGHBOUR: 'it returns false'. Refute it at one input. -/
def fnExactLostStatesWrong : ChangeSpec := { name := "fnExactLostStates", fn := fun _ => fun
  | [d] => { results := [.lit (.bool false)], args := [d] }
  | _ => none }
def FnExactLostStatesWrongFalsely : Prop := fnExactLostStatesRow.holds Try.pinned (OpenSpec.ofChange fnExactLostStatesWrong)

/-- 'laws.FnExactGoodSteps': WHATEVER THE INPUT: true; the input reads as it did. -/
def fnExactGoodStepsSpec : ChangeSpec := { name := "fnExactGoodSteps", fn := fun _ => fun
  | [d1, d2] => { results := [.lit (.bool true)], args := [d1, d2] }
  | _ => none }
def fnExactGoodStepsRow : OpenClaim := { program := "ytnmmbpaedkofeaa", sum := "2aa4ac6b8f87b8ecc839040e5d99d19147380c0f38fc379c7c6f0e72997ccee0", func := "loop.example/g01158/laws.FnExactGoodSteps", spec := "fnExactGoodSteps", unfollowed := true, recurses := true, apart := false }
def FnExactGoodStepsSaid : Prop := fnExactGoodStepsRow.holds Try.pinned (OpenSpec.ofChange fnExactGoodStepsSpec)

/-- ITS FALSE NEIGHBOUR: 'it returns false'. Refute it at one input. -/
def fnExactGoodStepsWrong : ChangeSpec := { name := "fnExactGoodSteps", fn := fun _ => fun
  | [d1, d2] => { results := [.lit (.bool false)], args := [d1, d2] }
  | _ => none }
def FnExactGoodStepsWrongFalsely : Prop := fnExactGoodStepsRow.holds Try.pinned (OpenSpec.ofChange fnExactGoodStepsWrong)

/-- 'laws.FnExactFewestToLose': WHATEVER THE INPUT: true; the input reads as it did. -/
def fnExactFewestToLoseSpec : ChangeSpec := { name := "fnExactFewestToLose", fn := fun _ => fun
  | [d] => { results := [.lit (.bool true)], args := [d] }
  | _ => none }
def fnExactFewestToLoseRow : OpenClaim := { program := "ytnmmbpaedkofeaa", sum := "2aa4ac6b8f87b8ecc839040e5d99d19147380c0f38fc379c7c6f0e72997ccee0", func := "loop.example/g01158/laws.FnExactFewestToLose", spec := "fnExactFewestToLose", unfollowed := true, recurses := true, apart := false }
def FnExactFewestToLoseSaid : Prop := fnExactFewestToLoseRow.holds Try.pinned (OpenSpec.ofChange fnExactFewestToLoseSpec)

/-- ITS FALSE NEIGHBOUR: 'it returns false'. Refute it at one input. -/
def fnExactFewestToLoseWrong : ChangeSpec := { name := "fnExactFewestToLose", fn := fun _ => fun
  | [d] => { results := [.lit (.bool false)], args := [d] }
  | _ => none }
def FnExactFewestToLoseWrongFalsely : Prop := fnExactFewestToLoseRow.holds Try.pinned (OpenSpec.ofChange fnExactFewestToLoseWrong)

/-- 'laws.FnExactFirstToLose': WHATEVER THE INPUT: true; the input reads as it did. -/
def fnExactFirstToLoseSpec : ChangeSpec := { name := "fnExactFirstToLose", fn := fun _ => fun
  | [d] => { results := [.lit (.bool true)], args := [d] }
  | _ => none }
def fnExactFirstToLoseRow : OpenClaim := { program := "ytnmmbpaedkofeaa", sum := "2aa4ac6b8f87b8ecc839040e5d99d19147380c0f38fc379c7c6f0e72997ccee0", func := "loop.example/g01158/laws.FnExactFirstToLose", spec := "fnExactFirstToLose", unfollowed := true, recurses := true, apart := false }
def FnExactFirstToLoseSaid : Prop := fnExactFirstToLoseRow.holds Try.pinned (OpenSpec.ofChange fnExactFirstToLoseSpec)

/-- ITS FALSE NEIGHBOUR: 'it returns false'. Refute it at one input. -/
def fnExactFirstToLoseWrong : ChangeSpec := { name := "fnExactFirstToLose", fn := fun _ => fun
  | [d] => { results := [.lit (.bool false)], args := [d] }
  | _ => none }
def FnExactFirstToLoseWrongFalsely : Prop := fnExactFirstToLoseRow.holds Try.pinned (OpenSpec.ofChange fnExactFirstToLoseWrong)

/- THE SECOND FORM. 'bulk': how many values and letters a reading holds, each counted each time it is reached (what is shared counts as often as it is met; a slice's spare places count too). A statement '..UptoSaid' is the law's where the arguments, and the package variables that the reading takes, are together of bulk at most 1048576: NARROWER than '..Said'. Prove '..Said' where nothing that the law and all that it calls make is longer than what came in: it says more and counts as full. Else prove '..UptoSaid'. A law counts once. -/
mutual
def uptoBulk {H : Type} : DataW H → Nat
  | .lit (.string bytes) => bytes.length + 1
  | .lit _ => 1
  | .nil => 1
  | .ptr d => uptoBulk d + 1
  | .slice elems spare => uptoBulkAll elems + uptoBulkAll spare + 1
  | .agg parts => uptoBulkAll parts + 1
  | .iface _ d => uptoBulk d + 1
  | .map entries => uptoBulkEntries entries + 1
  | .held _ => 1
def uptoBulkAll {H : Type} : List (DataW H) → Nat
  | [] => 0
  | d :: r => uptoBulk d + uptoBulkAll r
def uptoBulkEntries {H : Type} : List (Lit × DataW H) → Nat
  | [] => 0
  | x :: r => uptoBulkEntry x + uptoBulkEntries r
def uptoBulkEntry {H : Type} : Lit × DataW H → Nat
  | (.string bytes, d) => bytes.length + uptoBulk d + 1
  | (_, d) => uptoBulk d + 1
 end
def uptoSmall : (H : Type) → List (DataW H) → Bool := fun _ ds => decide (uptoBulkAll ds ≤ 1048576)
def OpenSpec.upto (s : _root_.Go.ChangeSpec) : _root_.Go.OpenSpec := { _root_.Go.OpenSpec.ofChange s with cond := some uptoSmall }

/-- 'laws.FnExactReleaseSets', WHERE WHAT IT READS IS OF BULK AT MOST 1048576: true; the input reads as it did. -/
def fnExactReleaseSetsUptoRow : OpenClaim := { program := "ytnmmbpaedkofeaa", sum := "2aa4ac6b8f87b8ecc839040e5d99d19147380c0f38fc379c7c6f0e72997ccee0", func := "loop.example/g01158/laws.FnExactReleaseSets", spec := "fnExactReleaseSets", unfollowed := true, recurses := true, apart := false, narrowed := true }
def FnExactReleaseSetsUptoSaid : Prop := fnExactReleaseSetsUptoRow.holds Try.pinned (OpenSpec.upto fnExactReleaseSetsSpec)

/-- 'laws.FnExactReleaseRounds', WHERE WHAT IT READS IS OF BULK AT MOST 1048576: true; the input reads as it did. -/
def fnExactReleaseRoundsUptoRow : OpenClaim := { program := "ytnmmbpaedkofeaa", sum := "2aa4ac6b8f87b8ecc839040e5d99d19147380c0f38fc379c7c6f0e72997ccee0", func := "loop.example/g01158/laws.FnExactReleaseRounds", spec := "fnExactReleaseRounds", unfollowed := true, recurses := true, apart := false, narrowed := true }
def FnExactReleaseRoundsUptoSaid : Prop := fnExactReleaseRoundsUptoRow.holds Try.pinned (OpenSpec.upto fnExactReleaseRoundsSpec)

/-- 'laws.FnExactLeansOn', WHERE WHAT IT READS IS OF BULK AT MOST 1048576: true; the input reads as it did. -/
def fnExactLeansOnUptoRow : OpenClaim := { program := "ytnmmbpaedkofeaa", sum := "2aa4ac6b8f87b8ecc839040e5d99d19147380c0f38fc379c7c6f0e72997ccee0", func := "loop.example/g01158/laws.FnExactLeansOn", spec := "fnExactLeansOn", unfollowed := true, recurses := true, apart := false, narrowed := true }
def FnExactLeansOnUptoSaid : Prop := fnExactLeansOnUptoRow.holds Try.pinned (OpenSpec.upto fnExactLeansOnSpec)

/-- 'laws.FnExactOrderWorlds', WHERE WHAT IT READS IS OF BULK AT MOST 1048576: true; the input reads as it did. -/
def fnExactOrderWorldsUptoRow : OpenClaim := { program := "ytnmmbpaedkofeaa", sum := "2aa4ac6b8f87b8ecc839040e5d99d19147380c0f38fc379c7c6f0e72997ccee0", func := "loop.example/g01158/laws.FnExactOrderWorlds", spec := "fnExactOrderWorlds", unfollowed := true, recurses := true, apart := false, narrowed := true }
def FnExactOrderWorldsUptoSaid : Prop := fnExactOrderWorldsUptoRow.holds Try.pinned (OpenSpec.upto fnExactOrderWorldsSpec)

/-- 'laws.FnExactTurnDoor', WHERE WHAT IT READS IS OF BULK AT MOST 1048576: true; the input reads as it did. -/
def fnExactTurnDoorUptoRow : OpenClaim := { program := "ytnmmbpaedkofeaa", sum := "2aa4ac6b8f87b8ecc839040e5d99d19147380c0f38fc379c7c6f0e72997ccee0", func := "loop.example/g01158/laws.FnExactTurnDoor", spec := "fnExactTurnDoor", inPlace := ["slices.overlaps[int]"], unfollowed := true, recurses := true, apart := false, narrowed := true }
def FnExactTurnDoorUptoSaid : Prop := fnExactTurnDoorUptoRow.holds Try.pinned (OpenSpec.upto fnExactTurnDoorSpec)

/-- 'laws.FnExactIsGood', WHERE WHAT IT READS IS OF BULK AT MOST 1048576: true; the input reads as it did. -/
def fnExactIsGoodUptoRow : OpenClaim := { program := "ytnmmbpaedkofeaa", sum := "2aa4ac6b8f87b8ecc839040e5d99d19147380c0f38fc379c7c6f0e72997ccee0", func := "loop.example/g01158/laws.FnExactIsGood", spec := "fnExactIsGood", unfollowed := true, recurses := true, apart := false, narrowed := true }
def FnExactIsGoodUptoSaid : Prop := fnExactIsGoodUptoRow.holds Try.pinned (OpenSpec.upto fnExactIsGoodSpec)

/-- 'laws.FnExactFewestToWin', WHERE WHAT IT READS IS OF BULK AT MOST 1048576: true; the input reads as it did. -/
def fnExactFewestToWinUptoRow : OpenClaim := { program := "ytnmmbpaedkofeaa", sum := "2aa4ac6b8f87b8ecc839040e5d99d19147380c0f38fc379c7c6f0e72997ccee0", func := "loop.example/g01158/laws.FnExactFewestToWin", spec := "fnExactFewestToWin", unfollowed := true, recurses := true, apart := false, narrowed := true }
def FnExactFewestToWinUptoSaid : Prop := fnExactFewestToWinUptoRow.holds Try.pinned (OpenSpec.upto fnExactFewestToWinSpec)

/-- 'laws.FnExactCountMet', WHERE WHAT IT READS IS OF BULK AT MOST 1048576: true; the input reads as it did. -/
def fnExactCountMetUptoRow : OpenClaim := { program := "ytnmmbpaedkofeaa", sum := "2aa4ac6b8f87b8ecc839040e5d99d19147380c0f38fc379c7c6f0e72997ccee0", func := "loop.example/g01158/laws.FnExactCountMet", spec := "fnExactCountMet", unfollowed := true, recurses := true, apart := false, narrowed := true }
def FnExactCountMetUptoSaid : Prop := fnExactCountMetUptoRow.holds Try.pinned (OpenSpec.upto fnExactCountMetSpec)

/-- 'laws.FnExactLostStates', WHERE WHAT IT READS IS OF BULK AT MOST 1048576: true; the input reads as it did. -/
def fnExactLostStatesUptoRow : OpenClaim := { program := "ytnmmbpaedkofeaa", sum := "2aa4ac6b8f87b8ecc839040e5d99d19147380c0f38fc379c7c6f0e72997ccee0", func := "loop.example/g01158/laws.FnExactLostStates", spec := "fnExactLostStates", unfollowed := true, recurses := true, apart := false, narrowed := true }
def FnExactLostStatesUptoSaid : Prop := fnExactLostStatesUptoRow.holds Try.pinned (OpenSpec.upto fnExactLostStatesSpec)

/-- 'laws.FnExactGoodSteps', WHERE WHAT IT READS IS OF BULK AT MOST 1048576: true; the input reads as it did. -/
def fnExactGoodStepsUptoRow : OpenClaim := { program := "ytnmmbpaedkofeaa", sum := "2aa4ac6b8f87b8ecc839040e5d99d19147380c0f38fc379c7c6f0e72997ccee0", func := "loop.example/g01158/laws.FnExactGoodSteps", spec := "fnExactGoodSteps", unfollowed := true, recurses := true, apart := false, narrowed := true }
def FnExactGoodStepsUptoSaid : Prop := fnExactGoodStepsUptoRow.holds Try.pinned (OpenSpec.upto fnExactGoodStepsSpec)

/-- 'laws.FnExactFewestToLose', WHERE WHAT IT READS IS OF BULK AT MOST 1048576: true; the input reads as it did. -/
def fnExactFewestToLoseUptoRow : OpenClaim := { program := "ytnmmbpaedkofeaa", sum := "2aa4ac6b8f87b8ecc839040e5d99d19147380c0f38fc379c7c6f0e72997ccee0", func := "loop.example/g01158/laws.FnExactFewestToLose", spec := "fnExactFewestToLose", unfollowed := true, recurses := true, apart := false, narrowed := true }
def FnExactFewestToLoseUptoSaid : Prop := fnExactFewestToLoseUptoRow.holds Try.pinned (OpenSpec.upto fnExactFewestToLoseSpec)

/-- 'laws.FnExactFirstToLose', WHERE WHAT IT READS IS OF BULK AT MOST 1048576: true; the input reads as it did. -/
def fnExactFirstToLoseUptoRow : OpenClaim := { program := "ytnmmbpaedkofeaa", sum := "2aa4ac6b8f87b8ecc839040e5d99d19147380c0f38fc379c7c6f0e72997ccee0", func := "loop.example/g01158/laws.FnExactFirstToLose", spec := "fnExactFirstToLose", unfollowed := true, recurses := true, apart := false, narrowed := true }
def FnExactFirstToLoseUptoSaid : Prop := fnExactFirstToLoseUptoRow.holds Try.pinned (OpenSpec.upto fnExactFirstToLoseSpec)

end Rows
end Go.Proofs.Ytnmmbpaedkofeaa
