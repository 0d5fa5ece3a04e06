/- A part of the proof of FnLogs: plain facts on the model. No condition. -/
import Derived.Shelf.SlSortCmp.NoneTotal
import Derived.Sort.Grow
import Derived.Test.YtebbaacgalipaaaDoorFnLogsA
set_option linter.unusedSimpArgs false
namespace Go.Ga
open Go Go.Sort
open Go.Ga.Rp (rep own)
open Go.Ga.Flat (enc)
set_option linter.unusedVariables false
set_option linter.unusedSimpArgs false
section
variable {α β : Type} [Rp α] [Flat α] [Inhabited β] {w0 w w' : World} {M : Nat → Prop} {rs : List Res} {i : Nat} {S : Nat → Prop} {l l' : List α} {b off cap : Nat} {T : TypeId} {pre post : List Value}
end
end Go.Ga

namespace Go.Ga
open Go Go.Sort
open Go.Ga.Rp (rep own)
open Go.Ga.Flat (enc)
set_option linter.unusedVariables false
set_option linter.unusedSimpArgs false
abbrev Tri3 := Int × Int × Int
def TLt (x y : Tri3) : Prop := x.1 < y.1 ∨ x.1 = y.1 ∧ (x.2.1 < y.2.1 ∨ x.2.1 = y.2.1 ∧ x.2.2 < y.2.2)
instance (x y : Tri3) : Decidable (TLt x y) := by unfold TLt; infer_instance
end Go.Ga
namespace Go.Ga
open Go Go.Sort
open Go.Ga.Rp (rep own)
open Go.Ga.Flat (enc)
end Go.Ga
