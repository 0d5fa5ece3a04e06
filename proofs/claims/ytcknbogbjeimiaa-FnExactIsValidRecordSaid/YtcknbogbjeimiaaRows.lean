/-
  No cell of these rows narrows 'for every input' (looked for: loops, veiled, ifaces, maps, wideKeys, modest, calm, conditions, laid).
  DERIVED. THE GIVEN ROWS OF THIS SEAT. 6 by the template 'for every input the law returns true; each argument reads behind the call as it read before'; 0 by the template 'total and deterministic' (their statements: YtcknbogbjeimiaaTotals.lean).
  GIVEN WITH THE SEED: the statements are not yours to turn. If you find one false, say at which input.
  Laid BY PROGRAM, IN A SANDBOX (cutbox-rows.mjs): the forced cells as the released guide's own fill.sh prints them over the translation ae92ff62889e1bb8… (all of the seat's roots in one cut). By AI agents, Wed Nov 11 2026. No macro, syntax, notation, axiom, sorry.
-/
import Derived.Test.YtcknbogbjeimiaaChecked
import GoSem.Claim
import GoSem.ClaimJoined
import GoSem.ClaimMapViews
import Derived.JoinedTies
import Derived.KernelRfl
namespace Go.Proofs.Ytcknbogbjeimiaa
/- THE CELL 'sum', in the pinned program and in every row, IS THE sha256 OF THE DUMP (.gsa) THAT YtcknbogbjeimiaaProg.lean LOADS. Nothing in Lean hashes anything: it is a label: what it is worth is what the hold of that sum in a sandbox is worth. -/
noncomputable def Try.pinned : Pinned := { name := "ytcknbogbjeimiaa", sum := "ae92ff62889e1bb88df1772bee0cfe76d2fe4dd22cbadf0a53763e6f5e9dba7b", checked := Try.checked }
namespace Rows
def none {H : Type} : Left H := { results := [], args := [] }

/-- 'laws.FnExactIsValidRecord': WHATEVER THE INPUT: true; the input reads as it did. -/
def fnExactIsValidRecordSpec : ChangeSpec := { name := "fnExactIsValidRecord", fn := fun _ => fun
  | [d] => { results := [.lit (.bool true)], args := [d] }
  | _ => none }
def fnExactIsValidRecordRow : OpenClaim := { program := "ytcknbogbjeimiaa", sum := "ae92ff62889e1bb88df1772bee0cfe76d2fe4dd22cbadf0a53763e6f5e9dba7b", func := "loop.example/g01158/laws.FnExactIsValidRecord", spec := "fnExactIsValidRecord", inPlace := ["internal/bytealg.IndexByteString"], apart := false }
def FnExactIsValidRecordSaid : Prop := fnExactIsValidRecordRow.holds Try.pinned (OpenSpec.ofChange fnExactIsValidRecordSpec)

/-- ITS FALSE NEIGHBOUR: 'it returns false'. Refute it at one input. -/
def fnExactIsValidRecordWrong : ChangeSpec := { name := "fnExactIsValidRecord", fn := fun _ => fun
  | [d] => { results := [.lit (.bool false)], args := [d] }
  | _ => none }
def FnExactIsValidRecordWrongFalsely : Prop := fnExactIsValidRecordRow.holds Try.pinned (OpenSpec.ofChange fnExactIsValidRecordWrong)

/-- 'laws.FnExactIsTrap': WHATEVER THE INPUT: true; the input reads as it did. -/
def fnExactIsTrapSpec : ChangeSpec := { name := "fnExactIsTrap", fn := fun _ => fun
  | [d] => { results := [.lit (.bool true)], args := [d] }
  | _ => none }
def fnExactIsTrapRow : OpenClaim := { program := "ytcknbogbjeimiaa", sum := "ae92ff62889e1bb88df1772bee0cfe76d2fe4dd22cbadf0a53763e6f5e9dba7b", func := "loop.example/g01158/laws.FnExactIsTrap", spec := "fnExactIsTrap", unfollowed := true, recurses := true, apart := false }
def FnExactIsTrapSaid : Prop := fnExactIsTrapRow.holds Try.pinned (OpenSpec.ofChange fnExactIsTrapSpec)

/-- ITS FALSE NEIGHBOUR: 'it returns false'. Refute it at one input. -/
def fnExactIsTrapWrong : ChangeSpec := { name := "fnExactIsTrap", fn := fun _ => fun
  | [d] => { results := [.lit (.bool false)], args := [d] }
  | _ => none }
def FnExactIsTrapWrongFalsely : Prop := fnExactIsTrapRow.holds Try.pinned (OpenSpec.ofChange fnExactIsTrapWrong)

/-- 'laws.FnExactIsVisit': WHATEVER THE INPUT: true; the input reads as it did. -/
def fnExactIsVisitSpec : ChangeSpec := { name := "fnExactIsVisit", fn := fun _ => fun
  | [d] => { results := [.lit (.bool true)], args := [d] }
  | _ => none }
def fnExactIsVisitRow : OpenClaim := { program := "ytcknbogbjeimiaa", sum := "ae92ff62889e1bb88df1772bee0cfe76d2fe4dd22cbadf0a53763e6f5e9dba7b", func := "loop.example/g01158/laws.FnExactIsVisit", spec := "fnExactIsVisit", unfollowed := true, recurses := true, apart := false }
def FnExactIsVisitSaid : Prop := fnExactIsVisitRow.holds Try.pinned (OpenSpec.ofChange fnExactIsVisitSpec)

/-- ITS FALSE NEIGHBOUR: 'it returns false'. Refute it at one input. -/
def fnExactIsVisitWrong : ChangeSpec := { name := "fnExactIsVisit", fn := fun _ => fun
  | [d] => { results := [.lit (.bool false)], args := [d] }
  | _ => none }
def FnExactIsVisitWrongFalsely : Prop := fnExactIsVisitRow.holds Try.pinned (OpenSpec.ofChange fnExactIsVisitWrong)

/-- 'laws.FnExactNewVisit': WHATEVER THE INPUT: true; the input reads as it did. -/
def fnExactNewVisitSpec : ChangeSpec := { name := "fnExactNewVisit", fn := fun _ => fun
  | [d] => { results := [.lit (.bool true)], args := [d] }
  | _ => none }
def fnExactNewVisitRow : OpenClaim := { program := "ytcknbogbjeimiaa", sum := "ae92ff62889e1bb88df1772bee0cfe76d2fe4dd22cbadf0a53763e6f5e9dba7b", func := "loop.example/g01158/laws.FnExactNewVisit", spec := "fnExactNewVisit", unfollowed := true, recurses := true, apart := false }
def FnExactNewVisitSaid : Prop := fnExactNewVisitRow.holds Try.pinned (OpenSpec.ofChange fnExactNewVisitSpec)

/-- ITS FALSE NEIGHBOUR: 'it returns false'. Refute it at one input. -/
def fnExactNewVisitWrong : ChangeSpec := { name := "fnExactNewVisit", fn := fun _ => fun
  | [d] => { results := [.lit (.bool false)], args := [d] }
  | _ => none }
def FnExactNewVisitWrongFalsely : Prop := fnExactNewVisitRow.holds Try.pinned (OpenSpec.ofChange fnExactNewVisitWrong)

/-- 'laws.FnExactHasNow': WHATEVER THE INPUT: true; the input reads as it did. -/
def fnExactHasNowSpec : ChangeSpec := { name := "fnExactHasNow", fn := fun _ => fun
  | [d] => { results := [.lit (.bool true)], args := [d] }
  | _ => none }
def fnExactHasNowRow : OpenClaim := { program := "ytcknbogbjeimiaa", sum := "ae92ff62889e1bb88df1772bee0cfe76d2fe4dd22cbadf0a53763e6f5e9dba7b", func := "loop.example/g01158/laws.FnExactHasNow", spec := "fnExactHasNow", unfollowed := true, recurses := true, apart := false }
def FnExactHasNowSaid : Prop := fnExactHasNowRow.holds Try.pinned (OpenSpec.ofChange fnExactHasNowSpec)

/-- ITS FALSE NEIGHBOUR: 'it returns false'. Refute it at one input. -/
def fnExactHasNowWrong : ChangeSpec := { name := "fnExactHasNow", fn := fun _ => fun
  | [d] => { results := [.lit (.bool false)], args := [d] }
  | _ => none }
def FnExactHasNowWrongFalsely : Prop := fnExactHasNowRow.holds Try.pinned (OpenSpec.ofChange fnExactHasNowWrong)

/-- 'laws.FnExactIsWorlds': WHATEVER THE INPUT: true; the input reads as it did. -/
def fnExactIsWorldsSpec : ChangeSpec := { name := "fnExactIsWorlds", fn := fun _ => fun
  | [d] => { results := [.lit (.bool true)], args := [d] }
  | _ => none }
def fnExactIsWorldsRow : OpenClaim := { program := "ytcknbogbjeimiaa", sum := "ae92ff62889e1bb88df1772bee0cfe76d2fe4dd22cbadf0a53763e6f5e9dba7b", func := "loop.example/g01158/laws.FnExactIsWorlds", spec := "fnExactIsWorlds", unfollowed := true, recurses := true, apart := false }
def FnExactIsWorldsSaid : Prop := fnExactIsWorldsRow.holds Try.pinned (OpenSpec.ofChange fnExactIsWorldsSpec)

/-- ITS FALSE NEIGHBOUR: 'it returns false'. Refute it at one input. -/
def fnExactIsWorldsWrong : ChangeSpec := { name := "fnExactIsWorlds", fn := fun _ => fun
  | [d] => { results := [.lit (.bool false)], args := [d] }
  | _ => none }
def FnExactIsWorldsWrongFalsely : Prop := fnExactIsWorldsRow.holds Try.pinned (OpenSpec.ofChange fnExactIsWorldsWrong)

/- THE SECOND FORM. 'bulk': how many values and letters a reading holds, each counted each time it is reached (what is shared counts as often as it is met; a slice's spare places count too). A statement '..UptoSaid' is the law's where the arguments, and the package variables that the reading takes, are together of bulk at most 1048576: NARROWER than '..Said'. Prove '..Said' where nothing that the law and all that it calls make is longer than what came in: it says more and counts as full. Else prove '..UptoSaid'. A law counts once. -/
mutual
def uptoBulk {H : Type} : DataW H → Nat
  | .lit (.string bytes) => bytes.length + 1
  | .lit _ => 1
  | .nil => 1
  | .ptr d => uptoBulk d + 1
  | .slice elems spare => uptoBulkAll elems + uptoBulkAll spare + 1
  | .agg parts => uptoBulkAll parts + 1
  | .iface _ d => uptoBulk d + 1
  | .map entries => uptoBulkEntries entries + 1
  | .held _ => 1
def uptoBulkAll {H : Type} : List (DataW H) → Nat
  | [] => 0
  | d :: r => uptoBulk d + uptoBulkAll r
def uptoBulkEntries {H : Type} : List (Lit × DataW H) → Nat
  | [] => 0
  | x :: r => uptoBulkEntry x + uptoBulkEntries r
def uptoBulkEntry {H : Type} : Lit × DataW H → Nat
  | (.string bytes, d) => bytes.length + uptoBulk d + 1
  | (_, d) => uptoBulk d + 1
 end
def uptoSmall : (H : Type) → List (DataW H) → Bool := fun _ ds => decide (uptoBulkAll ds ≤ 1048576)
def OpenSpec.upto (s : _root_.Go.ChangeSpec) : _root_.Go.OpenSpec := { _root_.Go.OpenSpec.ofChange s with cond := some uptoSmall }

/-- 'laws.FnExactIsValidRecord', WHERE WHAT IT READS IS OF BULK AT MOST 1048576: true; the input reads as it did. -/
def fnExactIsValidRecordUptoRow : OpenClaim := { program := "ytcknbogbjeimiaa", sum := "ae92ff62889e1bb88df1772bee0cfe76d2fe4dd22cbadf0a53763e6f5e9dba7b", func := "loop.example/g01158/laws.FnExactIsValidRecord", spec := "fnExactIsValidRecord", inPlace := ["internal/bytealg.IndexByteString"], apart := false, narrowed := true }
def FnExactIsValidRecordUptoSaid : Prop := fnExactIsValidRecordUptoRow.holds Try.pinned (OpenSpec.upto fnExactIsValidRecordSpec)

/-- 'laws.FnExactIsTrap', WHERE WHAT IT READS IS OF BULK AT MOST 1048576: true; the input reads as it did. -/
def fnExactIsTrapUptoRow : OpenClaim := { program := "ytcknbogbjeimiaa", sum := "ae92ff62889e1bb88df1772bee0cfe76d2fe4dd22cbadf0a53763e6f5e9dba7b", func := "loop.example/g01158/laws.FnExactIsTrap", spec := "fnExactIsTrap", unfollowed := true, recurses := true, apart := false, narrowed := true }
def FnExactIsTrapUptoSaid : Prop := fnExactIsTrapUptoRow.holds Try.pinned (OpenSpec.upto fnExactIsTrapSpec)

/-- 'laws.FnExactIsVisit', WHERE WHAT IT READS IS OF BULK AT MOST 1048576: true; the input reads as it did. -/
def fnExactIsVisitUptoRow : OpenClaim := { program := "ytcknbogbjeimiaa", sum := "ae92ff62889e1bb88df1772bee0cfe76d2fe4dd22cbadf0a53763e6f5e9dba7b", func := "loop.example/g01158/laws.FnExactIsVisit", spec := "fnExactIsVisit", unfollowed := true, recurses := true, apart := false, narrowed := true }
def FnExactIsVisitUptoSaid : Prop := fnExactIsVisitUptoRow.holds Try.pinned (OpenSpec.upto fnExactIsVisitSpec)

/-- 'laws.FnExactNewVisit', WHERE WHAT IT READS IS OF BULK AT MOST 1048576: true; the input reads as it did. -/
def fnExactNewVisitUptoRow : OpenClaim := { program := "ytcknbogbjeimiaa", sum := "ae92ff62889e1bb88df1772bee0cfe76d2fe4dd22cbadf0a53763e6f5e9dba7b", func := "loop.example/g01158/laws.FnExactNewVisit", spec := "fnExactNewVisit", unfollowed := true, recurses := true, apart := false, narrowed := true }
def FnExactNewVisitUptoSaid : Prop := fnExactNewVisitUptoRow.holds Try.pinned (OpenSpec.upto fnExactNewVisitSpec)

/-- 'laws.FnExactHasNow', WHERE WHAT IT READS IS OF BULK AT MOST 1048576: true; the input reads as it did. -/
def fnExactHasNowUptoRow : OpenClaim := { program := "ytcknbogbjeimiaa", sum := "ae92ff62889e1bb88df1772bee0cfe76d2fe4dd22cbadf0a53763e6f5e9dba7b", func := "loop.example/g01158/laws.FnExactHasNow", spec := "fnExactHasNow", unfollowed := true, recurses := true, apart := false, narrowed := true }
def FnExactHasNowUptoSaid : Prop := fnExactHasNowUptoRow.holds Try.pinned (OpenSpec.upto fnExactHasNowSpec)

/-- 'laws.FnExactIsWorlds', WHERE WHAT IT READS IS OF BULK AT MOST 1048576: true; the input reads as it did. -/
def fnExactIsWorldsUptoRow : OpenClaim := { program := "ytcknbogbjeimiaa", sum := "ae92ff62889e1bb88df1772bee0cfe76d2fe4dd22cbadf0a53763e6f5e9dba7b", func := "loop.example/g01158/laws.FnExactIsWorlds", spec := "fnExactIsWorlds", unfollowed := true, recurses := true, apart := false, narrowed := true }
def FnExactIsWorldsUptoSaid : Prop := fnExactIsWorldsUptoRow.holds Try.pinned (OpenSpec.upto fnExactIsWorldsSpec)

end Rows
end Go.Proofs.Ytcknbogbjeimiaa
