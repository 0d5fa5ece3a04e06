/-
  No cell of these rows narrows 'for every input' (looked for: loops, veiled, ifaces, maps, wideKeys, modest, calm, conditions, laid).
  DERIVED. THE GIVEN ROWS OF THIS SEAT. 9 by the template 'for every input the law returns true; each argument reads behind the call as it read before'; 0 by the template 'total and deterministic' (their statements: YtijhomjbcpaknaaTotals.lean).
  GIVEN WITH THE SEED: the statements are not yours to turn. If you find one false, say at which input.
  Laid BY PROGRAM, IN A SANDBOX (cutbox-rows.mjs): the forced cells as the released guide's own fill.sh prints them over the translation 71247530643f3625… (all of the seat's roots in one cut). By AI agents, Wed Nov 11 2026. No macro, syntax, notation, axiom, sorry.
-/
import Derived.Test.YtijhomjbcpaknaaChecked
import GoSem.Claim
import GoSem.ClaimJoined
import GoSem.ClaimMapViews
import Derived.JoinedTies
import Derived.KernelRfl
namespace Go.Proofs.Ytijhomjbcpaknaa
/- THE CELL 'sum', in the pinned program and in every row, IS THE sha256 OF THE DUMP (.gsa) THAT YtijhomjbcpaknaaProg.lean LOADS. Nothing in Lean hashes anything: it is a label: what it is worth is what the hold of that sum in a sandbox is worth. -/
noncomputable def Try.pinned : Pinned := { name := "ytijhomjbcpaknaa", sum := "71247530643f36250bed98e337166c5f1fefa77000c60ef4c3b3f6b18e3a0ff6", checked := Try.checked }
namespace Rows
def none {H : Type} : Left H := { results := [], args := [] }

/-- 'laws.FnExactTrapFreeSets': WHATEVER THE INPUT: true; the input reads as it did. -/
def fnExactTrapFreeSetsSpec : ChangeSpec := { name := "fnExactTrapFreeSets", fn := fun _ => fun
  | [d] => { results := [.lit (.bool true)], args := [d] }
  | _ => none }
def fnExactTrapFreeSetsRow : OpenClaim := { program := "ytijhomjbcpaknaa", sum := "71247530643f36250bed98e337166c5f1fefa77000c60ef4c3b3f6b18e3a0ff6", func := "loop.example/g01158/laws.FnExactTrapFreeSets", spec := "fnExactTrapFreeSets", unfollowed := true, recurses := true, apart := false }
def FnExactTrapFreeSetsSaid : Prop := fnExactTrapFreeSetsRow.holds Try.pinned (OpenSpec.ofChange fnExactTrapFreeSetsSpec)

/-- ITS FALSE NEIGHBOUR: 'it returns false'. Refute it at one input. -/
def fnExactTrapFreeSetsWrong : ChangeSpec := { name := "fnExactTrapFreeSets", fn := fun _ => fun
  | [d] => { results := [.lit (.bool false)], args := [d] }
  | _ => none }
def FnExactTrapFreeSetsWrongFalsely : Prop := fnExactTrapFreeSetsRow.holds Try.pinned (OpenSpec.ofChange fnExactTrapFreeSetsWrong)

/-- 'laws.FnExactGoodSwaps': WHATEVER THE INPUT: true; the input reads as it did. -/
def fnExactGoodSwapsSpec : ChangeSpec := { name := "fnExactGoodSwaps", fn := fun _ => fun
  | [d1, d2, d3] => { results := [.lit (.bool true)], args := [d1, d2, d3] }
  | _ => none }
def fnExactGoodSwapsRow : OpenClaim := { program := "ytijhomjbcpaknaa", sum := "71247530643f36250bed98e337166c5f1fefa77000c60ef4c3b3f6b18e3a0ff6", func := "loop.example/g01158/laws.FnExactGoodSwaps", spec := "fnExactGoodSwaps", unfollowed := true, recurses := true, apart := false }
def FnExactGoodSwapsSaid : Prop := fnExactGoodSwapsRow.holds Try.pinned (OpenSpec.ofChange fnExactGoodSwapsSpec)

/-- ITS FALSE NEIGHBOUR: 'it returns false'. Refute it at one input. -/
def fnExactGoodSwapsWrong : ChangeSpec := { name := "fnExactGoodSwaps", fn := fun _ => fun
  | [d1, d2, d3] => { results := [.lit (.bool false)], args := [d1, d2, d3] }
  | _ => none }
def FnExactGoodSwapsWrongFalsely : Prop := fnExactGoodSwapsRow.holds Try.pinned (OpenSpec.ofChange fnExactGoodSwapsWrong)

/-- 'laws.FnExactCountFillings': WHATEVER THE INPUT: true; the input reads as it did. -/
def fnExactCountFillingsSpec : ChangeSpec := { name := "fnExactCountFillings", fn := fun _ => fun
  | [d1, d2] => { results := [.lit (.bool true)], args := [d1, d2] }
  | _ => none }
def fnExactCountFillingsRow : OpenClaim := { program := "ytijhomjbcpaknaa", sum := "71247530643f36250bed98e337166c5f1fefa77000c60ef4c3b3f6b18e3a0ff6", func := "loop.example/g01158/laws.FnExactCountFillings", spec := "fnExactCountFillings", unfollowed := true, recurses := true, apart := false }
def FnExactCountFillingsSaid : Prop := fnExactCountFillingsRow.holds Try.pinned (OpenSpec.ofChange fnExactCountFillingsSpec)

/-- ITS FALSE NEIGHBOUR: 'it returns false'. Refute it at one input. -/
def fnExactCountFillingsWrong : ChangeSpec := { name := "fnExactCountFillings", fn := fun _ => fun
  | [d1, d2] => { results := [.lit (.bool false)], args := [d1, d2] }
  | _ => none }
def FnExactCountFillingsWrongFalsely : Prop := fnExactCountFillingsRow.holds Try.pinned (OpenSpec.ofChange fnExactCountFillingsWrong)

/-- 'laws.FnExactFirstFilling': WHATEVER THE INPUT: true; the input reads as it did. -/
def fnExactFirstFillingSpec : ChangeSpec := { name := "fnExactFirstFilling", fn := fun _ => fun
  | [d1, d2] => { results := [.lit (.bool true)], args := [d1, d2] }
  | _ => none }
def fnExactFirstFillingRow : OpenClaim := { program := "ytijhomjbcpaknaa", sum := "71247530643f36250bed98e337166c5f1fefa77000c60ef4c3b3f6b18e3a0ff6", func := "loop.example/g01158/laws.FnExactFirstFilling", spec := "fnExactFirstFilling", unfollowed := true, recurses := true, apart := false }
def FnExactFirstFillingSaid : Prop := fnExactFirstFillingRow.holds Try.pinned (OpenSpec.ofChange fnExactFirstFillingSpec)

/-- ITS FALSE NEIGHBOUR: 'it returns false'. Refute it at one input. -/
def fnExactFirstFillingWrong : ChangeSpec := { name := "fnExactFirstFilling", fn := fun _ => fun
  | [d1, d2] => { results := [.lit (.bool false)], args := [d1, d2] }
  | _ => none }
def FnExactFirstFillingWrongFalsely : Prop := fnExactFirstFillingRow.holds Try.pinned (OpenSpec.ofChange fnExactFirstFillingWrong)

/-- 'laws.FnExactDeepestFilling': WHATEVER THE INPUT: true; the input reads as it did. -/
def fnExactDeepestFillingSpec : ChangeSpec := { name := "fnExactDeepestFilling", fn := fun _ => fun
  | [d1, d2] => { results := [.lit (.bool true)], args := [d1, d2] }
  | _ => none }
def fnExactDeepestFillingRow : OpenClaim := { program := "ytijhomjbcpaknaa", sum := "71247530643f36250bed98e337166c5f1fefa77000c60ef4c3b3f6b18e3a0ff6", func := "loop.example/g01158/laws.FnExactDeepestFilling", spec := "fnExactDeepestFilling", unfollowed := true, recurses := true, apart := false }
def FnExactDeepestFillingSaid : Prop := fnExactDeepestFillingRow.holds Try.pinned (OpenSpec.ofChange fnExactDeepestFillingSpec)

/-- ITS FALSE NEIGHBOUR: 'it returns false'. Refute it at one input. -/
def fnExactDeepestFillingWrong : ChangeSpec := { name := "fnExactDeepestFilling", fn := fun _ => fun
  | [d1, d2] => { results := [.lit (.bool false)], args := [d1, d2] }
  | _ => none }
def FnExactDeepestFillingWrongFalsely : Prop := fnExactDeepestFillingRow.holds Try.pinned (OpenSpec.ofChange fnExactDeepestFillingWrong)

/-- 'laws.FnExactNodeCounts': WHATEVER THE INPUT: true; the input reads as it did. -/
def fnExactNodeCountsSpec : ChangeSpec := { name := "fnExactNodeCounts", fn := fun _ => fun
  | [d1, d2, d3] => { results := [.lit (.bool true)], args := [d1, d2, d3] }
  | _ => none }
def fnExactNodeCountsRow : OpenClaim := { program := "ytijhomjbcpaknaa", sum := "71247530643f36250bed98e337166c5f1fefa77000c60ef4c3b3f6b18e3a0ff6", func := "loop.example/g01158/laws.FnExactNodeCounts", spec := "fnExactNodeCounts", unfollowed := true, recurses := true, apart := false }
def FnExactNodeCountsSaid : Prop := fnExactNodeCountsRow.holds Try.pinned (OpenSpec.ofChange fnExactNodeCountsSpec)

/-- ITS FALSE NEIGHBOUR: 'it returns false'. Refute it at one input. -/
def fnExactNodeCountsWrong : ChangeSpec := { name := "fnExactNodeCounts", fn := fun _ => fun
  | [d1, d2, d3] => { results := [.lit (.bool false)], args := [d1, d2, d3] }
  | _ => none }
def FnExactNodeCountsWrongFalsely : Prop := fnExactNodeCountsRow.holds Try.pinned (OpenSpec.ofChange fnExactNodeCountsWrong)

/-- 'laws.FnExactAssumedFilling': WHATEVER THE INPUT: true; the input reads as it did. -/
def fnExactAssumedFillingSpec : ChangeSpec := { name := "fnExactAssumedFilling", fn := fun _ => fun
  | [d1, d2, d3, d4] => { results := [.lit (.bool true)], args := [d1, d2, d3, d4] }
  | _ => none }
def fnExactAssumedFillingRow : OpenClaim := { program := "ytijhomjbcpaknaa", sum := "71247530643f36250bed98e337166c5f1fefa77000c60ef4c3b3f6b18e3a0ff6", func := "loop.example/g01158/laws.FnExactAssumedFilling", spec := "fnExactAssumedFilling", unfollowed := true, recurses := true, apart := false }
def FnExactAssumedFillingSaid : Prop := fnExactAssumedFillingRow.holds Try.pinned (OpenSpec.ofChange fnExactAssumedFillingSpec)

/-- ITS FALSE NEIGHBOUR: 'it returns false'. Refute it at one input. -/
def fnExactAssumedFillingWrong : ChangeSpec := { name := "fnExactAssumedFilling", fn := fun _ => fun
  | [d1, d2, d3, d4] => { results := [.lit (.bool false)], args := [d1, d2, d3, d4] }
  | _ => none }
def FnExactAssumedFillingWrongFalsely : Prop := fnExactAssumedFillingRow.holds Try.pinned (OpenSpec.ofChange fnExactAssumedFillingWrong)

/-- 'laws.FnExactForwardFilling': WHATEVER THE INPUT: true; the input reads as it did. -/
def fnExactForwardFillingSpec : ChangeSpec := { name := "fnExactForwardFilling", fn := fun _ => fun
  | [d1, d2, d3, d4] => { results := [.lit (.bool true)], args := [d1, d2, d3, d4] }
  | _ => none }
def fnExactForwardFillingRow : OpenClaim := { program := "ytijhomjbcpaknaa", sum := "71247530643f36250bed98e337166c5f1fefa77000c60ef4c3b3f6b18e3a0ff6", func := "loop.example/g01158/laws.FnExactForwardFilling", spec := "fnExactForwardFilling", unfollowed := true, recurses := true, apart := false }
def FnExactForwardFillingSaid : Prop := fnExactForwardFillingRow.holds Try.pinned (OpenSpec.ofChange fnExactForwardFillingSpec)

/-- ITS FALSE NEIGHBOUR: 'it returns false'. Refute it at one input. -/
def fnExactForwardFillingWrong : ChangeSpec := { name := "fnExactForwardFilling", fn := fun _ => fun
  | [d1, d2, d3, d4] => { results := [.lit (.bool false)], args := [d1, d2, d3, d4] }
  | _ => none }
def FnExactForwardFillingWrongFalsely : Prop := fnExactForwardFillingRow.holds Try.pinned (OpenSpec.ofChange fnExactForwardFillingWrong)

/-- 'laws.FnExactDoDeed': WHATEVER THE INPUT: true; the input reads as it did. -/
def fnExactDoDeedSpec : ChangeSpec := { name := "fnExactDoDeed", fn := fun _ => fun
  | [d1, d2] => { results := [.lit (.bool true)], args := [d1, d2] }
  | _ => none }
def fnExactDoDeedRow : OpenClaim := { program := "ytijhomjbcpaknaa", sum := "71247530643f36250bed98e337166c5f1fefa77000c60ef4c3b3f6b18e3a0ff6", func := "loop.example/g01158/laws.FnExactDoDeed", spec := "fnExactDoDeed", unfollowed := true, recurses := true, apart := false }
def FnExactDoDeedSaid : Prop := fnExactDoDeedRow.holds Try.pinned (OpenSpec.ofChange fnExactDoDeedSpec)

/-- ITS FALSE NEIGHBOUR: 'it returns false'. Refute it at one input. -/
def fnExactDoDeedWrong : ChangeSpec := { name := "fnExactDoDeed", fn := fun _ => fun
  | [d1, d2] => { results := [.lit (.bool false)], args := [d1, d2] }
  | _ => none }
def FnExactDoDeedWrongFalsely : Prop := fnExactDoDeedRow.holds Try.pinned (OpenSpec.ofChange fnExactDoDeedWrong)

/- THE SECOND FORM. 'bulk': how many values and letters a reading holds, each counted each time it is reached (what is shared counts as often as it is met; a slice's spare places count too). A statement '..UptoSaid' is the law's where the arguments, and the package variables that the reading takes, are together of bulk at most 1048576: NARROWER than '..Said'. Prove '..Said' where nothing that the law and all that it calls make is longer than what came in: it says more and counts as full. Else prove '..UptoSaid'. A law counts once. -/
mutual
def uptoBulk {H : Type} : DataW H → Nat
  | .lit (.string bytes) => bytes.length + 1
  | .lit _ => 1
  | .nil => 1
  | .ptr d => uptoBulk d + 1
  | .slice elems spare => uptoBulkAll elems + uptoBulkAll spare + 1
  | .agg parts => uptoBulkAll parts + 1
  | .iface _ d => uptoBulk d + 1
  | .map entries => uptoBulkEntries entries + 1
  | .held _ => 1
def uptoBulkAll {H : Type} : List (DataW H) → Nat
  | [] => 0
  | d :: r => uptoBulk d + uptoBulkAll r
def uptoBulkEntries {H : Type} : List (Lit × DataW H) → Nat
  | [] => 0
  | x :: r => uptoBulkEntry x + uptoBulkEntries r
def uptoBulkEntry {H : Type} : Lit × DataW H → Nat
  | (.string bytes, d) => bytes.length + uptoBulk d + 1
  | (_, d) => uptoBulk d + 1
 end
def uptoSmall : (H : Type) → List (DataW H) → Bool := fun _ ds => decide (uptoBulkAll ds ≤ 1048576)
def OpenSpec.upto (s : _root_.Go.ChangeSpec) : _root_.Go.OpenSpec := { _root_.Go.OpenSpec.ofChange s with cond := some uptoSmall }

/-- 'laws.FnExactTrapFreeSets', WHERE WHAT IT READS IS OF BULK AT MOST 1048576: true; the input reads as it did. -/
def fnExactTrapFreeSetsUptoRow : OpenClaim := { program := "ytijhomjbcpaknaa", sum := "71247530643f36250bed98e337166c5f1fefa77000c60ef4c3b3f6b18e3a0ff6", func := "loop.example/g01158/laws.FnExactTrapFreeSets", spec := "fnExactTrapFreeSets", unfollowed := true, recurses := true, apart := false, narrowed := true }
def FnExactTrapFreeSetsUptoSaid : Prop := fnExactTrapFreeSetsUptoRow.holds Try.pinned (OpenSpec.upto fnExactTrapFreeSetsSpec)

/-- 'laws.FnExactGoodSwaps', WHERE WHAT IT READS IS OF BULK AT MOST 1048576: true; the input reads as it did. -/
def fnExactGoodSwapsUptoRow : OpenClaim := { program := "ytijhomjbcpaknaa", sum := "71247530643f36250bed98e337166c5f1fefa77000c60ef4c3b3f6b18e3a0ff6", func := "loop.example/g01158/laws.FnExactGoodSwaps", spec := "fnExactGoodSwaps", unfollowed := true, recurses := true, apart := false, narrowed := true }
def FnExactGoodSwapsUptoSaid : Prop := fnExactGoodSwapsUptoRow.holds Try.pinned (OpenSpec.upto fnExactGoodSwapsSpec)

/-- 'laws.FnExactCountFillings', WHERE WHAT IT READS IS OF BULK AT MOST 1048576: true; the input reads as it did. -/
def fnExactCountFillingsUptoRow : OpenClaim := { program := "ytijhomjbcpaknaa", sum := "71247530643f36250bed98e337166c5f1fefa77000c60ef4c3b3f6b18e3a0ff6", func := "loop.example/g01158/laws.FnExactCountFillings", spec := "fnExactCountFillings", unfollowed := true, recurses := true, apart := false, narrowed := true }
def FnExactCountFillingsUptoSaid : Prop := fnExactCountFillingsUptoRow.holds Try.pinned (OpenSpec.upto fnExactCountFillingsSpec)

/-- 'laws.FnExactFirstFilling', WHERE WHAT IT READS IS OF BULK AT MOST 1048576: true; the input reads as it did. -/
def fnExactFirstFillingUptoRow : OpenClaim := { program := "ytijhomjbcpaknaa", sum := "71247530643f36250bed98e337166c5f1fefa77000c60ef4c3b3f6b18e3a0ff6", func := "loop.example/g01158/laws.FnExactFirstFilling", spec := "fnExactFirstFilling", unfollowed := true, recurses := true, apart := false, narrowed := true }
def FnExactFirstFillingUptoSaid : Prop := fnExactFirstFillingUptoRow.holds Try.pinned (OpenSpec.upto fnExactFirstFillingSpec)

/-- 'laws.FnExactDeepestFilling', WHERE WHAT IT READS IS OF BULK AT MOST 1048576: true; the input reads as it did. -/
def fnExactDeepestFillingUptoRow : OpenClaim := { program := "ytijhomjbcpaknaa", sum := "71247530643f36250bed98e337166c5f1fefa77000c60ef4c3b3f6b18e3a0ff6", func := "loop.example/g01158/laws.FnExactDeepestFilling", spec := "fnExactDeepestFilling", unfollowed := true, recurses := true, apart := false, narrowed := true }
def FnExactDeepestFillingUptoSaid : Prop := fnExactDeepestFillingUptoRow.holds Try.pinned (OpenSpec.upto fnExactDeepestFillingSpec)

/-- 'laws.FnExactNodeCounts', WHERE WHAT IT READS IS OF BULK AT MOST 1048576: true; the input reads as it did. -/
def fnExactNodeCountsUptoRow : OpenClaim := { program := "ytijhomjbcpaknaa", sum := "71247530643f36250bed98e337166c5f1fefa77000c60ef4c3b3f6b18e3a0ff6", func := "loop.example/g01158/laws.FnExactNodeCounts", spec := "fnExactNodeCounts", unfollowed := true, recurses := true, apart := false, narrowed := true }
def FnExactNodeCountsUptoSaid : Prop := fnExactNodeCountsUptoRow.holds Try.pinned (OpenSpec.upto fnExactNodeCountsSpec)

/-- 'laws.FnExactAssumedFilling', WHERE WHAT IT READS IS OF BULK AT MOST 1048576: true; the input reads as it did. -/
def fnExactAssumedFillingUptoRow : OpenClaim := { program := "ytijhomjbcpaknaa", sum := "71247530643f36250bed98e337166c5f1fefa77000c60ef4c3b3f6b18e3a0ff6", func := "loop.example/g01158/laws.FnExactAssumedFilling", spec := "fnExactAssumedFilling", unfollowed := true, recurses := true, apart := false, narrowed := true }
def FnExactAssumedFillingUptoSaid : Prop := fnExactAssumedFillingUptoRow.holds Try.pinned (OpenSpec.upto fnExactAssumedFillingSpec)

/-- 'laws.FnExactForwardFilling', WHERE WHAT IT READS IS OF BULK AT MOST 1048576: true; the input reads as it did. -/
def fnExactForwardFillingUptoRow : OpenClaim := { program := "ytijhomjbcpaknaa", sum := "71247530643f36250bed98e337166c5f1fefa77000c60ef4c3b3f6b18e3a0ff6", func := "loop.example/g01158/laws.FnExactForwardFilling", spec := "fnExactForwardFilling", unfollowed := true, recurses := true, apart := false, narrowed := true }
def FnExactForwardFillingUptoSaid : Prop := fnExactForwardFillingUptoRow.holds Try.pinned (OpenSpec.upto fnExactForwardFillingSpec)

/-- 'laws.FnExactDoDeed', WHERE WHAT IT READS IS OF BULK AT MOST 1048576: true; the input reads as it did. -/
def fnExactDoDeedUptoRow : OpenClaim := { program := "ytijhomjbcpaknaa", sum := "71247530643f36250bed98e337166c5f1fefa77000c60ef4c3b3f6b18e3a0ff6", func := "loop.example/g01158/laws.FnExactDoDeed", spec := "fnExactDoDeed", unfollowed := true, recurses := true, apart := false, narrowed := true }
def FnExactDoDeedUptoSaid : Prop := fnExactDoDeedUptoRow.holds Try.pinned (OpenSpec.upto fnExactDoDeedSpec)

end Rows
end Go.Proofs.Ytijhomjbcpaknaa
