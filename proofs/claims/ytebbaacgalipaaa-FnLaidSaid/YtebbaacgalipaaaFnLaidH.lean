/- A part of the proof of FnLaid: what the functions of the program compute, walked on the model. No condition. -/
import Derived.Test.YtebbaacgalipaaaFnLaidB
import Derived.Test.YtebbaacgalipaaaFnLaidC
import Derived.Test.YtebbaacgalipaaaFnLaidD
import Derived.Test.YtebbaacgalipaaaFnLaidF
set_option linter.unusedSimpArgs false
/- loop.example/g01158/impl.atLast -/
namespace Go.Proofs
open Go Go.Ga
set_option linter.unusedVariables false
set_option maxRecDepth 100000
set_option maxHeartbeats 4000000
def impl_atLast.f (k : Nat) (a0_0 : Int) (a0_1 : List (Int × Int × Int)) (a0_2 : List Int) (a1 : Int) : Option (Int × Int) := (impl_rounds.f k a0_0 a0_1 a0_2 a1).bind fun t8 => (rdl t8 (w64 ((t8.length : Int) - 1))).bind fun t13 => some (t13.1, t13.2)


def impl_canWin.f (k : Nat) (a0_0 : Int) (a0_1 : List (Int × Int × Int)) (a0_2 : List Int) (a1 : Int) : Option (Bool) := (impl_atLast.f k a0_0 a0_1 a0_2 a1).bind fun (t7_1, t7_2) => if ¬ (w64 (a0_0 - 1)) < 0 then some ((band (shr t7_2 (w64 (a0_0 - 1))) 1) == 1) else none


def spec_l9Fill.l1 (k : Nat) (a2 : List Int) (x12 : List (Int)) (t61 : List Int) : Nat → (List (Int)) → Int → Option ((List (Int)))
 | 0, _, _ => none
 | n + 1, x17, x19 => (if (decide (x19 < (t61.length : Int))) = true then (rdl t61 x19).bind fun t73 => (spec_l9Place.f k a2 t73).bind fun t75 => (rdl x12 t75).bind fun t76 => if (x17 ++ ([t76] : List (Int))).length < 1099511627776 then spec_l9Fill.l1 k a2 x12 t61 n (x17 ++ ([t76] : List (Int))) (w64 (x19 + 1)) else none else some x17)

def spec_l9Fill.l0 (k : Nat) (a0_0 : Int) (a0_1 : List (Int × Int × Int)) (a0_2 : List Int) (a2 : List Int) (a3 : List Int) (a4 : Bool) : Nat → Int → (List (Int)) → Int → Option ((List (Int)))
 | 0, _, _, _ => none
 | n + 1, x11, x12, x13 => (if (decide (x13 < (a2.length : Int))) = true then (rdl a2 x13).bind fun t31 => if ¬ t31 < 0 then ((if a4 = true then some 0 else some (bclr x11 (shl 1 t31)))).bind fun y14 => (spec_l9Lay.f k a0_0 a0_1 a0_2 a2 x12).bind fun (t41_1, t41_2, t41_3) => (spec_l2Close.f k t41_1 t41_2 t41_3 y14).bind fun (t43_1, t43_2) => (rdl a3 x13).bind fun t50 => if ¬ (t43_2.length : Int) = 0 then (rdl t43_2 (rem t50 (t43_2.length : Int))).bind fun t55 => if (x12 ++ ([t55] : List (Int))).length < 1099511627776 then spec_l9Fill.l0 k a0_0 a0_1 a0_2 a2 a3 a4 n (bclr x11 (shl 1 t31)) (x12 ++ ([t55] : List (Int))) (w64 (x13 + 1)) else none else none else none else some x12)

def spec_l9Fill.f (k : Nat) (a0_0 : Int) (a0_1 : List (Int × Int × Int)) (a0_2 : List Int) (a1 : Int) (a2 : List Int) (a3 : List Int) (a4 : Bool) : Option ((List Int)) := (spec_l9Fill.l0 k a0_0 a0_1 a0_2 a2 a3 a4 k a1 ([] : List (Int)) 0).bind fun x12 => (spec_l2Colours.f k a1).bind fun t61 => (spec_l9Fill.l1 k a2 x12 t61 k ([] : List (Int)) 0).bind fun x17 => some x17


end Go.Proofs

/- slices.DeleteFunc[[][]int,[]int] -/
namespace Go.Proofs
open Go Go.Ga
set_option linter.unusedVariables false
set_option maxRecDepth 100000
set_option maxHeartbeats 4000000

def slices_DeleteFunc__int__int.f (k : Nat) (a0 : List (List (Int))) (a1 : List (Int) → Option Bool) : Option (List (List (Int))) := if a0.length ≤ 1048576 ∧ (a0.all fun x => (a1 x).isSome) = true then some (a0.filter fun x => !((a1 x).getD false)) else none


def impl_fillings.l2 (k : Nat) (a0_0 : Int) (t22 : List Int) : Nat → (List (List Int)) → Int → Option ((List (List Int)))
 | 0, _, _ => none
 | n + 1, x6r, x26 => (if (decide (x26 < a0_0)) = true then (slices_Clone_int_int.f k t22).bind fun t31 => if (t31 ++ ([x26] : List (Int))).length < 1099511627776 then if ((x6r : List (List Int)) ++ ([t31 ++ ([x26] : List (Int))] : List (List Int))).length < 1099511627776 then impl_fillings.l2 k a0_0 t22 n ((x6r : List (List Int)) ++ ([t31 ++ ([x26] : List (Int))] : List (List Int))) (w64 (x26 + 1)) else none else none else some x6r)

def impl_fillings.l1 (k : Nat) (a0_0 : Int) (x5 : List (List Int)) : Nat → (List (List Int)) → (List (List Int)) → Int → Option ((List (List Int)))
 | 0, _, _, _ => none
 | n + 1, x6, x18, x20 => (if (decide (x20 < (x5.length : Int))) = true then (rdl (x18 : List (List Int)) x20).bind fun t22 => (impl_fillings.l2 k a0_0 t22 k x6 0).bind fun x6r => impl_fillings.l1 k a0_0 x5 n x6r ((x18 : List (List Int)).set (x20 : Int).toNat t22) (w64 (x20 + 1)) else some x6)

def impl_fillings.l0 (k : Nat) (a0_0 : Int) (t13 : List Int) : Nat → (List (List Int)) → Int → Option ((List (List Int)))
 | 0, _, _ => none
 | n + 1, x5, x15 => (if (decide (x15 < (t13.length : Int))) = true then (impl_fillings.l1 k a0_0 x5 k ([] : List (List Int)) x5 0).bind fun x6 => impl_fillings.l0 k a0_0 t13 n x6 (w64 (x15 + 1)) else some x5)

def impl_fillings.f (k : Nat) (a0_0 : Int) (a0_1 : List (Int × Int × Int)) (a0_2 : List Int) (a1 : Int) : Option ((List (List Int))) := (impl_members.f k a1).bind fun t13 => (impl_fillings.l0 k a0_0 t13 k ([([] : List (Int))] : List (List Int)) 0).bind fun x5 => some x5


def impl_wins_1.f (k : Nat) (a0 : List Int) (c0_0 : Int) (c0_1 : List (Int × Int × Int)) (c0_2 : List Int) (c1 : Int) : Option (Bool) := (impl_depth.f k c0_0 c0_1 c0_2 c1 a0).bind fun t8 => some (t8 == 0)


def impl_wins.f (k : Nat) (a0_0 : Int) (a0_1 : List (Int × Int × Int)) (a0_2 : List Int) (a1 : Int) : Option ((List (List Int)) × Bool) := ((impl_asked.f k a0_0 a0_1 a0_2 a1).bind fun t8 => (if (!t8) = true then some true else (if (decide (a0_0 > 8)) = true then some true else (impl_members.f k a1).bind fun t17 => some (decide ((t17.length : Int) > 4))))).bind fun y20 => (if y20 = true then some ([], false) else (impl_fillings.f k a0_0 a0_1 a0_2 a1).bind fun t23 => (slices_DeleteFunc__int__int.f k t23 (fun z0 => impl_wins_1.f k z0 a0_0 a0_1 a0_2 a1)).bind fun t25 => some (t25, true))


def impl_FirstFilling.f (k : Nat) (a0_0 : Int) (a0_1 : List (Int × Int × Int)) (a0_2 : List Int) (a1 : Int) : Option ((List Int) × Bool) := (impl_wins.f k a0_0 a0_1 a0_2 a1).bind fun (t11_1, t11_2) => ((if (!t11_2) = true then some true else some ((t11_1.length : Int) == 0))).bind fun y20 => (if y20 = true then some ([], false) else (rdl (t11_1 : List (List Int)) 0).bind fun t22 => some (t22, true))


def laws_rHas.l0 (k : Nat) (a0 : List Int) (a1 : Int) : Nat → Int → Option ((Unit) ⊕ (Bool))
 | 0, _ => none
 | n + 1, x5 => (if (decide (x5 < (a0.length : Int))) = true then (rdl a0 x5).bind fun t14 => (if (t14 == a1) = true then some (Sum.inr true) else laws_rHas.l0 k a0 a1 n (w64 (x5 + 1))) else some (Sum.inl ()))

def laws_rHas.f (k : Nat) (a0 : List Int) (a1 : Int) : Option (Bool) := (laws_rHas.l0 k a0 a1 k 0).bind fun s => Lr s some fun _ => some false

end Go.Proofs
