/- A part of the proof of FnAssumed: what the functions of the program compute, walked on the model. No condition. -/
import Derived.Test.YtebbaacgalipaaaFnAssumedC
import Derived.Test.YtebbaacgalipaaaFnAssumedD
import Derived.Test.YtebbaacgalipaaaFnAssumedE
set_option linter.unusedSimpArgs false
/- loop.example/g01158/impl.ForwardFilling -/
namespace Go.Proofs
open Go Go.Ga
set_option linter.unusedVariables false
set_option maxRecDepth 100000
set_option maxHeartbeats 4000000
def impl_ForwardFilling.f (k : Nat) (a0_0 : Int) (a0_1 : List (Int × Int × Int)) (a0_2 : List Int) (a1 : Int) (a2 : List Int) (a3 : List Int) : Option ((List Int) × Bool) := (impl_filled.f k a0_0 a0_1 a0_2 a1 0 a2 a3).bind fun (t14_1, t14_2) => some (t14_1, t14_2)

theorem impl_ForwardFilling.ok {k : Nat}  {a0_0 : Int} {a0_1 : List (Int × Int × Int)} {a0_2 : List Int} {a1 : Int} {a2 : List Int} {a3 : List Int} {r0 : List Int} {r1 : Bool} (h : impl_ForwardFilling.f k a0_0 a0_1 a0_2 a1 a2 a3 = some (r0, r1)) (w : World) {va0_1 : Value} {va0_2 : Value} {va2 : Value} {va3 : Value} (hr_a0_1 : Rd w va0_1 a0_1) (hr_a0_2 : Rd w va0_2 a0_2) (hr_a2 : Rd w va2 a2) (hr_a3 : Rd w va3 a3) :
  Calls Try.prog 28 ([.agg ([.int .i64 a0_0, va0_1, va0_2].toArray), .int .i64 a1, va2, va3] : List Value).toArray w (Post (fun u ns => ∃ (ur0 : Value) (Sr0 : Nat → Prop), u = .tuple #[ur0, .bool r1] ∧ SlLen ur0 r0.length ∧ ns = [R.sl Sr0 ur0 r0]) w) := by
 unfold impl_ForwardFilling.f at h
 have hl_va0_1 := hr_a0_1.len
 have hl_va0_2 := hr_a0_2.len
 have hl_va2 := hr_a2.len
 have hl_va3 := hr_a3.len
 refine Calls.of_tri (N := 17) Try.func28 rfl rfl rfl (Sep.nil (M := noM)) ?_
 refine Tri.seq ?_
 refine Tri.reg (l := [0, 1, 2]) rfl ?_
 refine F.m rfl rfl rfl (wanted_none rfl) (m_boxG rfl rfl) ?_
 rintro _ _ ⟨b4_1, rfl, rfl⟩
 refine F.q rfl rfl rfl (wanted_none rfl) (r_assign rfl) ?_
 refine F.q rfl rfl rfl (wanted_none rfl) (r_assign rfl) ?_
 refine F.nil ?_
 refine Nrm.seq ?_
 refine Tri.seq ?_
 obtain ⟨⟨t14_1, t14_2⟩, h14, h⟩ := bind_some h
 refine Tri.reg (l := [0, 1, 2, 3, 4, 5, 6, 7, 8]) rfl ?_
 refine F.q rfl rfl rfl (wanted_none rfl) (r_loadA ta27 ti27 rfl rfl (fun w hw => (box_cells (i := 0) rfl w hw))) ?_
 iterate 3 refine F.q rfl rfl rfl (wanted_none rfl) (r_move rfl) ?_
 refine F.m rfl rfl rfl (wanted_none rfl) (m_callF (xs := _) rfl ok106 rfl rfl (fun w hw => impl_filled.ok h14 w ((fun _ hw => hr_a0_1.sep hw) w hw) ((fun _ hw => hr_a0_2.sep hw) w hw) ((fun _ hw => hr_a2.sep hw) w hw) ((fun _ hw => hr_a3.sep hw) w hw))) ?_
 rintro _ _ ⟨_, ⟨v14_1, S14_1, rfl, hl_v14_1, rfl⟩, rfl⟩
 refine F.q rfl rfl rfl (wanted_none rfl) (r_extract rfl rfl) ?_
 refine F.q rfl rfl rfl (wanted_none rfl) (r_extract rfl rfl) ?_
 refine F.q rfl rfl rfl (wanted_none rfl) (r_assign rfl) ?_
 refine F.q rfl rfl rfl (wanted_none rfl) (r_assign rfl) ?_
 refine F.nil ?_
 refine Nrm.seq ?_
 refine Tri.ret ?_
 cases h
 exact Rtn.body (.tmp rfl (.tmp rfl .nil)) (fun w hw => ⟨_, _, rfl, ⟨v14_1, S14_1, rfl, hl_v14_1, rfl⟩, Sep.pick (is := [0]) rfl rfl hw⟩)

end Go.Proofs

/- loop.example/g01158/spec.ForwardFilling -/
namespace Go.Proofs
open Go Go.Ga
set_option linter.unusedVariables false
set_option maxRecDepth 100000
set_option maxHeartbeats 4000000
def spec_ForwardFilling.f (k : Nat) (a0_0 : Int) (a0_1 : List (Int × Int × Int)) (a0_2 : List Int) (a1 : Int) (a2 : List Int) (a3 : List Int) : Option ((List Int) × Bool) := (spec_l9Makes.f k a0_0 a0_1 a0_2 a1 a2 a3).bind fun t14 => (if (!t14) = true then some (([] : List (Int)), false) else (spec_l9Fill.f k a0_0 a0_1 a0_2 a1 a2 a3 true).bind fun t21 => some (t21, true))

theorem spec_ForwardFilling.ok {k : Nat}  {a0_0 : Int} {a0_1 : List (Int × Int × Int)} {a0_2 : List Int} {a1 : Int} {a2 : List Int} {a3 : List Int} {r0 : List Int} {r1 : Bool} (h : spec_ForwardFilling.f k a0_0 a0_1 a0_2 a1 a2 a3 = some (r0, r1)) (w : World) {va0_1 : Value} {va0_2 : Value} {va2 : Value} {va3 : Value} (hr_a0_1 : Rd w va0_1 a0_1) (hr_a0_2 : Rd w va0_2 a0_2) (hr_a2 : Rd w va2 a2) (hr_a3 : Rd w va3 a3) :
  Calls Try.prog 29 ([.agg ([.int .i64 a0_0, va0_1, va0_2].toArray), .int .i64 a1, va2, va3] : List Value).toArray w (Post (fun u ns => ∃ (ur0 : Value) (Sr0 : Nat → Prop), u = .tuple #[ur0, .bool r1] ∧ SlLen ur0 r0.length ∧ ns = [R.sl Sr0 ur0 r0]) w) := by
 unfold spec_ForwardFilling.f at h
 have hl_va0_1 := hr_a0_1.len
 have hl_va0_2 := hr_a0_2.len
 have hl_va2 := hr_a2.len
 have hl_va3 := hr_a3.len
 refine Calls.of_tri (N := 22) Try.func29 rfl rfl rfl (Sep.nil (M := noM)) ?_
 refine Tri.seq ?_
 refine Tri.reg (l := [0, 1, 2]) rfl ?_
 refine F.m rfl rfl rfl (wanted_none rfl) (m_boxG rfl rfl) ?_
 rintro _ _ ⟨b4_1, rfl, rfl⟩
 refine F.q rfl rfl rfl (wanted_none rfl) (r_assign rfl) ?_
 refine F.q rfl rfl rfl (wanted_none rfl) (r_assign rfl) ?_
 refine F.nil ?_
 refine Nrm.seq ?_
 refine Tri.seq ?_
 refine Tri.seq ?_
 obtain ⟨t14, h14, h⟩ := bind_some h
 refine Tri.reg (l := [0, 1, 2, 3, 4, 5]) rfl ?_
 refine F.q rfl rfl rfl (wanted_none rfl) (r_loadA ta27 ti27 rfl rfl (fun w hw => (box_cells (i := 0) rfl w hw))) ?_
 iterate 3 refine F.q rfl rfl rfl (wanted_none rfl) (r_move rfl) ?_
 refine F.qc rfl rfl rfl (wanted_none rfl) (q_callF (xs := _) rfl ok107 rfl rfl (fun w hw => spec_l9Makes.ok h14 w ((fun _ hw => hr_a0_1.sep hw) w hw) ((fun _ hw => hr_a0_2.sep hw) w hw) ((fun _ hw => hr_a2.sep hw) w hw) ((fun _ hw => hr_a3.sep hw) w hw))) ?_
 refine F.q rfl rfl rfl (wanted_none rfl) (r_not rfl) ?_
 refine F.nil ?_
 refine Nrm.seq ?_
 refine Tri.cond (b := !t14) rfl (fun g_1 => ?_) (fun g_1 => ?_)
 ·replace h := if_tt g_1 h
  refine Tri.seq ?_
  refine Tri.reg (l := [0, 1, 2]) rfl ?_
  refine F.m rfl rfl rfl (wanted_none rfl) (m_build0 (α := Int) Try.underlying25 ti3) ?_
  rintro v16_1 _ ⟨S16_1, hl_v16_1, rfl⟩
  refine F.q rfl rfl rfl (wanted_none rfl) (r_assign rfl) ?_
  refine F.q rfl rfl rfl (wanted_none rfl) (r_assign rfl) ?_
  refine F.nil ?_
  refine Nrm.seq ?_
  refine Tri.ret ?_
  refine Rtn.then ?_
  cases h
  exact Rtn.body (.tmp rfl (.tmp rfl .nil)) (fun w hw => ⟨_, _, rfl, ⟨v16_1, S16_1, rfl, hl_v16_1, rfl⟩, Sep.pick (is := [0]) rfl rfl hw⟩)
 ·replace h := if_ff g_1 h
  refine Tri.skip ?_
  refine Nrm.seq ?_
  refine Tri.seq ?_
  obtain ⟨t21, h21, h⟩ := bind_some h
  refine Tri.reg (l := [0, 1, 2, 3, 4, 5, 6]) rfl ?_
  refine F.q rfl rfl rfl (wanted_none rfl) (r_loadA ta27 ti27 rfl rfl (fun w hw => (box_cells (i := 0) rfl w hw))) ?_
  iterate 3 refine F.q rfl rfl rfl (wanted_none rfl) (r_move rfl) ?_
  refine F.m rfl rfl rfl (wanted_none rfl) (m_callF (xs := _) rfl ok108 rfl rfl (fun w hw => spec_l9Fill.ok h21 w ((fun _ hw => hr_a0_1.sep hw) w hw) ((fun _ hw => hr_a0_2.sep hw) w hw) ((fun _ hw => hr_a2.sep hw) w hw) ((fun _ hw => hr_a3.sep hw) w hw))) ?_
  rintro v21_1 _ ⟨_, ⟨S21_1, hl_v21_1, rfl⟩, rfl⟩
  refine F.q rfl rfl rfl (wanted_none rfl) (r_assign rfl) ?_
  refine F.q rfl rfl rfl (wanted_none rfl) (r_assign rfl) ?_
  refine F.nil ?_
  refine Nrm.seq ?_
  refine Tri.ret ?_
  cases h
  exact Rtn.body (.tmp rfl (.tmp rfl .nil)) (fun w hw => ⟨_, _, rfl, ⟨v21_1, S21_1, rfl, hl_v21_1, rfl⟩, Sep.pick (is := [0]) rfl rfl hw⟩)

end Go.Proofs

/- loop.example/g01158/impl.canWin -/
namespace Go.Proofs
open Go Go.Ga
set_option linter.unusedVariables false
set_option maxRecDepth 100000
set_option maxHeartbeats 4000000
def impl_canWin.f (k : Nat) (a0_0 : Int) (a0_1 : List (Int × Int × Int)) (a0_2 : List Int) (a1 : Int) : Option (Bool) := (impl_atLast.f k a0_0 a0_1 a0_2 a1).bind fun (t7_1, t7_2) => if ¬ (w64 (a0_0 - 1)) < 0 then some ((band (shr t7_2 (w64 (a0_0 - 1))) 1) == 1) else none

theorem impl_canWin.ok {k : Nat}  {a0_0 : Int} {a0_1 : List (Int × Int × Int)} {a0_2 : List Int} {a1 : Int} {r0 : Bool} (h : impl_canWin.f k a0_0 a0_1 a0_2 a1 = some r0) (w : World) {va0_1 : Value} {va0_2 : Value} (hr_a0_1 : Rd w va0_1 a0_1) (hr_a0_2 : Rd w va0_2 a0_2) :
  Calls Try.prog 109 ([.agg ([.int .i64 a0_0, va0_1, va0_2].toArray), .int .i64 a1] : List Value).toArray w (fun e w' => e = .returned (.bool r0) ∧ Ext w w') := by
 unfold impl_canWin.f at h
 have hl_va0_1 := hr_a0_1.len
 have hl_va0_2 := hr_a0_2.len
 refine Calls.of_tri (N := 15) Try.func109 rfl rfl rfl (Sep.nil (M := noM)) ?_
 refine Tri.seq ?_
 refine Tri.reg (l := [0, 1]) rfl ?_
 refine F.m rfl rfl rfl (wanted_none rfl) (m_boxG rfl rfl) ?_
 rintro _ _ ⟨b2_1, rfl, rfl⟩
 refine F.q rfl rfl rfl (wanted_none rfl) (r_assign rfl) ?_
 refine F.nil ?_
 refine Nrm.seq ?_
 refine Tri.seq ?_
 obtain ⟨⟨t7_1, t7_2⟩, h7, h⟩ := bind_some h
 obtain ⟨hs12, h⟩ := ck h
 refine Tri.drawA mixedT Sep.up [(0, true), (1, true), (2, true), (3, true), (4, true), (5, true), (6, true), (7, true), (8, true), (9, true), (10, true)] [] (by kernel_rfl) ?_
 refine S.q rfl rfl rfl (wanted_none rfl) (r_loadA ta27 ti27 rfl rfl (fun w hw => (box_cells (i := 0) rfl w hw))) ?_
 refine S.q rfl rfl rfl (wanted_none rfl) (r_move rfl) ?_
 refine S.qc rfl rfl rfl (wanted_none rfl) (q_callF (xs := _) rfl ok111 rfl rfl (fun w hw => impl_atLast.ok h7 w ((fun _ hw => hr_a0_1.sep hw) w hw) ((fun _ hw => hr_a0_2.sep hw) w hw))) ?_
 refine S.q rfl rfl rfl (wanted_none rfl) (r_field Try.underlying117 rfl ta3 rfl rfl) ?_
 refine S.q rfl rfl rfl (wanted_none rfl) (r_fieldAddr tf27_0 rfl) ?_
 refine S.q rfl rfl rfl (wanted_none rfl) (r_load ta3 rfl (fun w hw => cell_1 (box_cells (i := 0) rfl w hw) rfl)) ?_
 refine S.q rfl rfl rfl (wanted_none rfl) (r_sub rfl rfl) ?_
 refine S.q rfl rfl rfl (wanted_none rfl) (r_shr rfl rfl hs12) ?_
 refine S.q rfl rfl rfl (wanted_none rfl) (r_and rfl rfl) ?_
 refine S.q rfl rfl rfl (wanted_none rfl) (r_eql rfl rfl) ?_
 refine S.q rfl rfl rfl (wanted_none rfl) (r_assign rfl) ?_
 refine S.nil ?_
 refine F.nil ?_
 refine Nrm.seq ?_
 refine Tri.ret ?_
 cases h
 exact Rtn.body (.tmp rfl .nil) (fun w hw => ⟨rfl, hw.ext⟩)

end Go.Proofs

/- loop.example/g01158/impl.CanWin -/
namespace Go.Proofs
open Go Go.Ga
set_option linter.unusedVariables false
set_option maxRecDepth 100000
set_option maxHeartbeats 4000000
def impl_CanWin.f (k : Nat) (a0_0 : Int) (a0_1 : List (Int × Int × Int)) (a0_2 : List Int) (a1 : Int) : Option (Bool × Bool) := (impl_asked.f k a0_0 a0_1 a0_2 a1).bind fun t8 => (if (!t8) = true then some (false, false) else (impl_canWin.f k a0_0 a0_1 a0_2 a1).bind fun t12 => some (t12, true))

theorem impl_CanWin.ok {k : Nat}  {a0_0 : Int} {a0_1 : List (Int × Int × Int)} {a0_2 : List Int} {a1 : Int} {r0 : Bool} {r1 : Bool} (h : impl_CanWin.f k a0_0 a0_1 a0_2 a1 = some (r0, r1)) (w : World) {va0_1 : Value} {va0_2 : Value} (hr_a0_1 : Rd w va0_1 a0_1) (hr_a0_2 : Rd w va0_2 a0_2) :
  Calls Try.prog 30 ([.agg ([.int .i64 a0_0, va0_1, va0_2].toArray), .int .i64 a1] : List Value).toArray w (fun e w' => e = .returned (.tuple #[.bool r0, .bool r1]) ∧ Ext w w') := by
 unfold impl_CanWin.f at h
 have hl_va0_1 := hr_a0_1.len
 have hl_va0_2 := hr_a0_2.len
 refine Calls.of_tri (N := 13) Try.func30 rfl rfl rfl (Sep.nil (M := noM)) ?_
 refine Tri.seq ?_
 refine Tri.reg (l := [0, 1, 2]) rfl ?_
 refine F.m rfl rfl rfl (wanted_none rfl) (m_boxG rfl rfl) ?_
 rintro _ _ ⟨b2_1, rfl, rfl⟩
 refine F.q rfl rfl rfl (wanted_none rfl) (r_assign rfl) ?_
 refine F.q rfl rfl rfl (wanted_none rfl) (r_assign rfl) ?_
 refine F.nil ?_
 refine Nrm.seq ?_
 refine Tri.seq ?_
 refine Tri.seq ?_
 obtain ⟨t8, h8, h⟩ := bind_some h
 refine Tri.reg (l := [0, 1, 2, 3]) rfl ?_
 refine F.q rfl rfl rfl (wanted_none rfl) (r_loadA ta27 ti27 rfl rfl (fun w hw => (box_cells (i := 0) rfl w hw))) ?_
 refine F.q rfl rfl rfl (wanted_none rfl) (r_move rfl) ?_
 refine F.qc rfl rfl rfl (wanted_none rfl) (q_callF (xs := _) rfl ok102 rfl rfl (fun w hw => impl_asked.ok h8 w ((fun _ hw => hr_a0_1.sep hw) w hw) ((fun _ hw => hr_a0_2.sep hw) w hw))) ?_
 refine F.q rfl rfl rfl (wanted_none rfl) (r_not rfl) ?_
 refine F.nil ?_
 refine Nrm.seq ?_
 refine Tri.cond (b := !t8) rfl (fun g_1 => ?_) (fun g_1 => ?_)
 ·replace h := if_tt g_1 h
  refine Tri.seq ?_
  refine Tri.reg (l := [0, 1]) rfl ?_
  refine F.q rfl rfl rfl (wanted_none rfl) (r_assign rfl) ?_
  refine F.q rfl rfl rfl (wanted_none rfl) (r_assign rfl) ?_
  refine F.nil ?_
  refine Nrm.seq ?_
  refine Tri.ret ?_
  refine Rtn.then ?_
  cases h
  exact Rtn.body (.tmp rfl (.tmp rfl .nil)) (fun w hw => ⟨rfl, hw.ext⟩)
 ·replace h := if_ff g_1 h
  refine Tri.skip ?_
  refine Nrm.seq ?_
  refine Tri.seq ?_
  obtain ⟨t12, h12, h⟩ := bind_some h
  refine Tri.reg (l := [0, 1, 2, 3, 4]) rfl ?_
  refine F.q rfl rfl rfl (wanted_none rfl) (r_loadA ta27 ti27 rfl rfl (fun w hw => (box_cells (i := 0) rfl w hw))) ?_
  refine F.q rfl rfl rfl (wanted_none rfl) (r_move rfl) ?_
  refine F.qc rfl rfl rfl (wanted_none rfl) (q_callF (xs := _) rfl ok109 rfl rfl (fun w hw => impl_canWin.ok h12 w ((fun _ hw => hr_a0_1.sep hw) w hw) ((fun _ hw => hr_a0_2.sep hw) w hw))) ?_
  refine F.q rfl rfl rfl (wanted_none rfl) (r_assign rfl) ?_
  refine F.q rfl rfl rfl (wanted_none rfl) (r_assign rfl) ?_
  refine F.nil ?_
  refine Nrm.seq ?_
  refine Tri.ret ?_
  cases h
  exact Rtn.body (.tmp rfl (.tmp rfl .nil)) (fun w hw => ⟨rfl, hw.ext⟩)

end Go.Proofs

/- loop.example/g01158/impl.LayKeys -/
namespace Go.Proofs
open Go Go.Ga
set_option linter.unusedVariables false
set_option maxRecDepth 100000
set_option maxHeartbeats 4000000
def impl_LayKeys.f (k : Nat) (a0_0 : Int) (a0_1 : List (Int × Int × Int)) (a0_2 : List Int) (a1 : Int) (a2 : List Int) : Option (Int × (List (Int × Int × Int)) × (List Int) × Bool) := ((impl_asked.f k a0_0 a0_1 a0_2 a1).bind fun t10 => (if (!t10) = true then some true else (impl_isFilling.f k a0_0 a0_1 a0_2 a1 a2).bind fun t16 => some (!t16))).bind fun y18 => (if y18 = true then some (0, [], [], false) else (impl_members.f k a1).bind fun t22 => (impl_laid.f k a0_0 a0_1 a0_2 t22 a2).bind fun (t24_1, t24_2, t24_3) => some (t24_1, t24_2, t24_3, true))

theorem impl_LayKeys.ok {k : Nat}  {a0_0 : Int} {a0_1 : List (Int × Int × Int)} {a0_2 : List Int} {a1 : Int} {a2 : List Int} {r0 : Int} {r1 : List (Int × Int × Int)} {r2 : List Int} {r3 : Bool} (h : impl_LayKeys.f k a0_0 a0_1 a0_2 a1 a2 = some (r0, r1, r2, r3)) (w : World) {va0_1 : Value} {va0_2 : Value} {va2 : Value} (hr_a0_1 : Rd w va0_1 a0_1) (hr_a0_2 : Rd w va0_2 a0_2) (hr_a2 : Rd w va2 a2) :
  Calls Try.prog 31 ([.agg ([.int .i64 a0_0, va0_1, va0_2].toArray), .int .i64 a1, va2] : List Value).toArray w (Post (fun u ns => ∃ (ur1 : Value) (Sr1 : Nat → Prop) (ur2 : Value) (Sr2 : Nat → Prop), u = .tuple #[.agg [.int .i64 r0, ur1, ur2].toArray, .bool r3] ∧ SlLen ur1 r1.length ∧ SlLen ur2 r2.length ∧ ns = [R.sl Sr1 ur1 r1, R.sl Sr2 ur2 r2]) w) := by
 unfold impl_LayKeys.f at h
 have hl_va0_1 := hr_a0_1.len
 have hl_va0_2 := hr_a0_2.len
 have hl_va2 := hr_a2.len
 refine Calls.of_tri (N := 25) Try.func31 rfl rfl rfl (Sep.nil (M := noM)) ?_
 refine Tri.seq ?_
 refine Tri.reg (l := [0, 1, 2]) rfl ?_
 refine F.m rfl rfl rfl (wanted_none rfl) (m_boxG rfl rfl) ?_
 rintro _ _ ⟨b3_1, rfl, rfl⟩
 refine F.m rfl rfl rfl (wanted_none rfl) (m_alloc ti27) ?_
 rintro _ _ ⟨b6_1, rfl, rfl⟩
 refine F.q rfl rfl rfl (wanted_none rfl) (r_assign rfl) ?_
 refine F.nil ?_
 refine Nrm.seq ?_
 refine Tri.seq ?_
 refine Tri.seq ?_
 obtain ⟨y18, hE_1, h⟩ := bind_some h
 refine Tri.cut (fun e' C' => e' = [(1, .int .i64 a1), (2, va2), (3, .pointer (some ⟨b3_1, 0, none⟩)), (6, .pointer (some ⟨b6_1, 0, none⟩)), (18, .bool y18)] ∧ C' = Sep w noM [R.box b6_1 27 [.int .i64 0, .slice none 0 0, .slice none 0 0], R.box b3_1 27 [.int .i64 a0_0, va0_1, va0_2]]) ?_ (fun hj_1 => ?_)
 ·rintro _ _ ⟨rfl, rfl⟩
  refine Nrm.seq ?_
  refine Tri.cond (b := y18) rfl (fun g_1 => ?_) (fun g_1 => ?_)
  ·replace h := if_tt g_1 h
   refine Tri.seq ?_
   refine Tri.reg (l := [0, 1, 2]) rfl ?_
   refine F.q rfl rfl rfl (wanted_none rfl) (r_build (pl := [(0, 1), (1, 1), (2, 1)]) (qs := []) (cs := [.int .i64 0, .slice none 0 0, .slice none 0 0]) (by kernel_rfl) ti27 rfl .nil rfl rfl) ?_
   refine F.ef0 rfl rfl (wanted_none rfl) (d_storeG0 (i := 0) (cs2 := [.int .i64 0, .slice none 0 0, .slice none 0 0]) ti27 rfl rfl rfl rfl rfl (Nat.le_of_ble_eq_true rfl) (lf_cons rfl (lf_cons rfl (lf_cons rfl lf_nil)))) ?_
   rintro _ _ ⟨rfl, rfl⟩
   refine F.q rfl rfl rfl (wanted_none rfl) (r_assign rfl) ?_
   refine F.nil ?_
   refine Nrm.seq ?_
   refine Tri.ret ?_
   refine Rtn.then ?_
   cases h
   exact Rtn.body (.cell rfl ta27 ti27 rfl (fun _ hw => box_cells (i := 0) rfl _ hw) (.tmp rfl .nil)) (fun w hw => ⟨_, _, rfl, ⟨.slice none 0 0, fun _ => False, .slice none 0 0, fun _ => False, rfl, len_nil, len_nil, rfl⟩, Sep.pick (is := [0, 1]) rfl rfl hw.pushNil.pushNil⟩)
  ·replace h := if_ff g_1 h
   refine Tri.skip ?_
   refine Nrm.seq ?_
   refine Tri.seq ?_
   obtain ⟨t22, h22, h⟩ := bind_some h
   obtain ⟨⟨t24_1, t24_2, t24_3⟩, h24, h⟩ := bind_some h
   refine Tri.drawA mixedT Sep.up [(0, true), (1, true), (3, true), (2, false), (4, false)] [5, 6] (by kernel_rfl) ?_
   refine S.q rfl rfl rfl (wanted_none rfl) (r_loadA ta27 ti27 rfl rfl (fun w hw => (box_cells (i := 1) rfl w hw))) ?_
   refine S.q rfl rfl rfl (wanted_none rfl) (r_move rfl) ?_
   refine S.q rfl rfl rfl (wanted_none rfl) (r_move rfl) ?_
   refine S.m rfl rfl rfl (wanted_none rfl) (m_callF (xs := _) rfl ok98 rfl rfl (fun w hw => impl_members.ok h22 w )) ?_
   rintro v22_2 _ ⟨_, ⟨S22_2, hl_v22_2, rfl⟩, rfl⟩
   refine S.m rfl rfl rfl (wanted_none rfl) (m_callF (xs := _) rfl ok110 rfl rfl (fun w hw => impl_laid.ok h24 w ((fun _ hw => hr_a0_1.sep hw) w hw) ((fun _ hw => hr_a0_2.sep hw) w hw) ((rd_sl (i := 0) rfl) w hw) ((fun _ hw => hr_a2.sep hw) w hw))) ?_
   rintro _ _ ⟨_, ⟨v24_3, S24_3, v24_4, S24_4, rfl, hl_v24_3, hl_v24_4, rfl⟩, rfl⟩
   refine S.nil ?_
   refine F.ef0 rfl rfl (wanted_none rfl) (d_storeG0 (i := 3) (cs2 := [.int .i64 t24_1, v24_3, v24_4]) ti27 rfl rfl rfl rfl rfl (Nat.le_of_ble_eq_true rfl) (lf_cons rfl (lf_cons (sl_leaf hl_v24_3) (lf_cons (sl_leaf hl_v24_4) lf_nil)))) ?_
   rintro _ _ ⟨rfl, rfl⟩
   refine F.q rfl rfl rfl (wanted_none rfl) (r_assign rfl) ?_
   refine F.nil ?_
   refine Nrm.seq ?_
   refine Tri.ret ?_
   cases h
   exact Rtn.body (.cell rfl ta27 ti27 rfl (fun _ hw => box_cells (i := 3) rfl _ hw) (.tmp rfl .nil)) (fun w hw => ⟨_, _, rfl, ⟨v24_3, S24_3, v24_4, S24_4, rfl, hl_v24_3, hl_v24_4, rfl⟩, Sep.pick (is := [0, 1]) rfl rfl hw⟩)
 ·obtain ⟨t10, h10, hE_1⟩ := bind_some hE_1
  rcases Bool.eq_false_or_eq_true (!t10) with g12 | g12
  ·replace hE_1 := if_tt g12 hE_1
   refine Tri.reg (l := [0, 1, 2, 3, 4, 5, 6, 7, 8, 9, 10]) rfl ?_
   refine F.q rfl rfl rfl (wanted_none rfl) (r_loadA ta27 ti27 rfl rfl (fun w hw => (box_cells (i := 1) rfl w hw))) ?_
   refine F.q rfl rfl rfl (wanted_none rfl) (r_move rfl) ?_
   refine F.qc rfl rfl rfl (wanted_none rfl) (q_callF (xs := _) rfl ok102 rfl rfl (fun w hw => impl_asked.ok h10 w ((fun _ hw => hr_a0_1.sep hw) w hw) ((fun _ hw => hr_a0_2.sep hw) w hw))) ?_
   refine F.q rfl rfl rfl (wanted_none rfl) (r_not rfl) ?_
   refine F.q rfl rfl rfl (wanted_none rfl) (r_move rfl) ?_
   iterate 5 refine F.sk rfl rfl rfl (wf rfl rfl rfl g12) ?_
   refine F.q rfl rfl rfl (wanted_none rfl) (r_pick rfl rfl g12) ?_
   refine F.nil ?_
   cases hE_1
   refine Nrm.only [1, 2, 3, 6, 18] rfl ?_
   refine Nrm.pick [0, 1] rfl rfl ?_
   exact hj_1 _ _ ⟨rfl, rfl⟩
  ·replace hE_1 := if_ff g12 hE_1
   obtain ⟨t16, h16, hE_1⟩ := bind_some hE_1
   refine Tri.reg (l := [0, 1, 2, 3, 4, 5, 6, 7, 8, 9, 10]) rfl ?_
   refine F.q rfl rfl rfl (wanted_none rfl) (r_loadA ta27 ti27 rfl rfl (fun w hw => (box_cells (i := 1) rfl w hw))) ?_
   refine F.q rfl rfl rfl (wanted_none rfl) (r_move rfl) ?_
   refine F.qc rfl rfl rfl (wanted_none rfl) (q_callF (xs := _) rfl ok102 rfl rfl (fun w hw => impl_asked.ok h10 w ((fun _ hw => hr_a0_1.sep hw) w hw) ((fun _ hw => hr_a0_2.sep hw) w hw))) ?_
   refine F.q rfl rfl rfl (wanted_none rfl) (r_not rfl) ?_
   refine F.q rfl rfl rfl (wanted_none rfl) (r_move rfl) ?_
   refine F.q rfl rfl rfl (wg rfl rfl rfl g12) (r_loadA ta27 ti27 rfl rfl (fun w hw => (box_cells (i := 1) rfl w hw))) ?_
   refine F.q rfl rfl rfl (wg rfl rfl rfl g12) (r_move rfl) ?_
   refine F.q rfl rfl rfl (wg rfl rfl rfl g12) (r_move rfl) ?_
   refine F.qc rfl rfl rfl (wg rfl rfl rfl g12) (q_callF (xs := _) rfl ok103 rfl rfl (fun w hw => impl_isFilling.ok h16 w ((fun _ hw => hr_a0_1.sep hw) w hw) ((fun _ hw => hr_a0_2.sep hw) w hw) ((fun _ hw => hr_a2.sep hw) w hw))) ?_
   refine F.q rfl rfl rfl (wg rfl rfl rfl g12) (r_not rfl) ?_
   refine F.q rfl rfl rfl (wanted_none rfl) (r_pickf rfl rfl g12) ?_
   refine F.nil ?_
   cases hE_1
   refine Nrm.only [1, 2, 3, 6, 18] rfl ?_
   refine Nrm.pick [0, 1] rfl rfl ?_
   exact hj_1 _ _ ⟨rfl, rfl⟩

end Go.Proofs

/- loop.example/g01158/impl.GainAtLast -/
namespace Go.Proofs
open Go Go.Ga
set_option linter.unusedVariables false
set_option maxRecDepth 100000
set_option maxHeartbeats 4000000
def impl_GainAtLast.f (k : Nat) (a0_0 : Int) (a0_1 : List (Int × Int × Int)) (a0_2 : List Int) (a1 : Int) : Option (Int × (List Int) × Bool) := (impl_asked.f k a0_0 a0_1 a0_2 a1).bind fun t10 => (if (!t10) = true then some (0, [], false) else (impl_atLast.f k a0_0 a0_1 a0_2 a1).bind fun (t14_1, t14_2) => (impl_members.f k t14_2).bind fun t19 => some (t14_1, t19, true))

theorem impl_GainAtLast.ok {k : Nat}  {a0_0 : Int} {a0_1 : List (Int × Int × Int)} {a0_2 : List Int} {a1 : Int} {r0 : Int} {r1 : List Int} {r2 : Bool} (h : impl_GainAtLast.f k a0_0 a0_1 a0_2 a1 = some (r0, r1, r2)) (w : World) {va0_1 : Value} {va0_2 : Value} (hr_a0_1 : Rd w va0_1 a0_1) (hr_a0_2 : Rd w va0_2 a0_2) :
  Calls Try.prog 32 ([.agg ([.int .i64 a0_0, va0_1, va0_2].toArray), .int .i64 a1] : List Value).toArray w (Post (fun u ns => ∃ (ur1 : Value) (Sr1 : Nat → Prop), u = .tuple #[.int .i64 r0, ur1, .bool r2] ∧ SlLen ur1 r1.length ∧ ns = [R.sl Sr1 ur1 r1]) w) := by
 unfold impl_GainAtLast.f at h
 have hl_va0_1 := hr_a0_1.len
 have hl_va0_2 := hr_a0_2.len
 refine Calls.of_tri (N := 20) Try.func32 rfl rfl rfl (Sep.nil (M := noM)) ?_
 refine Tri.seq ?_
 refine Tri.reg (l := [0, 1, 2, 3]) rfl ?_
 refine F.m rfl rfl rfl (wanted_none rfl) (m_boxG rfl rfl) ?_
 rintro _ _ ⟨b2_1, rfl, rfl⟩
 iterate 3 refine F.q rfl rfl rfl (wanted_none rfl) (r_assign rfl) ?_
 refine F.nil ?_
 refine Nrm.seq ?_
 refine Tri.seq ?_
 refine Tri.seq ?_
 obtain ⟨t10, h10, h⟩ := bind_some h
 refine Tri.reg (l := [0, 1, 2, 3]) rfl ?_
 refine F.q rfl rfl rfl (wanted_none rfl) (r_loadA ta27 ti27 rfl rfl (fun w hw => (box_cells (i := 0) rfl w hw))) ?_
 refine F.q rfl rfl rfl (wanted_none rfl) (r_move rfl) ?_
 refine F.qc rfl rfl rfl (wanted_none rfl) (q_callF (xs := _) rfl ok102 rfl rfl (fun w hw => impl_asked.ok h10 w ((fun _ hw => hr_a0_1.sep hw) w hw) ((fun _ hw => hr_a0_2.sep hw) w hw))) ?_
 refine F.q rfl rfl rfl (wanted_none rfl) (r_not rfl) ?_
 refine F.nil ?_
 refine Nrm.seq ?_
 refine Tri.cond (b := !t10) rfl (fun g_1 => ?_) (fun g_1 => ?_)
 ·replace h := if_tt g_1 h
  refine Tri.seq ?_
  refine Tri.reg (l := [0, 1, 2]) rfl ?_
  iterate 3 refine F.q rfl rfl rfl (wanted_none rfl) (r_assign rfl) ?_
  refine F.nil ?_
  refine Nrm.seq ?_
  refine Tri.ret ?_
  refine Rtn.then ?_
  cases h
  exact Rtn.body (.tmp rfl (.tmp rfl (.tmp rfl .nil))) (fun w hw => ⟨_, _, rfl, ⟨.slice none 0 0, fun _ => False, rfl, len_nil, rfl⟩, Sep.pick (is := [0]) rfl rfl hw.pushNil⟩)
 ·replace h := if_ff g_1 h
  refine Tri.skip ?_
  refine Nrm.seq ?_
  refine Tri.seq ?_
  obtain ⟨⟨t14_1, t14_2⟩, h14, h⟩ := bind_some h
  refine Tri.reg (l := [0, 1, 2, 3, 4]) rfl ?_
  refine F.q rfl rfl rfl (wanted_none rfl) (r_loadA ta27 ti27 rfl rfl (fun w hw => (box_cells (i := 0) rfl w hw))) ?_
  refine F.q rfl rfl rfl (wanted_none rfl) (r_move rfl) ?_
  refine F.qc rfl rfl rfl (wanted_none rfl) (q_callF (xs := _) rfl ok111 rfl rfl (fun w hw => impl_atLast.ok h14 w ((fun _ hw => hr_a0_1.sep hw) w hw) ((fun _ hw => hr_a0_2.sep hw) w hw))) ?_
  refine F.m rfl rfl rfl (wanted_none rfl) (m_alloc ti117) ?_
  rintro _ _ ⟨b7_1, rfl, rfl⟩
  refine F.ef0 rfl rfl (wanted_none rfl) (d_storeG0 (i := 0) (cs2 := [.int .i64 t14_1, .int .i64 t14_2]) ti117 rfl rfl rfl rfl rfl (Nat.le_of_ble_eq_true rfl) (lf_cons rfl (lf_cons rfl lf_nil))) ?_
  rintro _ _ ⟨rfl, rfl⟩
  refine F.nil ?_
  refine Nrm.seq ?_
  refine Tri.seq ?_
  obtain ⟨t19, h19, h⟩ := bind_some h
  refine Tri.drawA mixedT Sep.up [(0, true), (1, true), (2, true), (3, true), (4, false), (5, true), (6, true), (7, true)] [] (by kernel_rfl) ?_
  refine S.q rfl rfl rfl (wanted_none rfl) (r_fieldAddr tf117_0 rfl) ?_
  refine S.q rfl rfl rfl (wanted_none rfl) (r_load ta3 rfl (fun w hw => cell_1 (box_cells (i := 0) rfl w hw) rfl)) ?_
  refine S.q rfl rfl rfl (wanted_none rfl) (r_fieldAddr tf117_1 rfl) ?_
  refine S.q rfl rfl rfl (wanted_none rfl) (r_load ta3 rfl (fun w hw => cell_1 (box_cells (i := 0) rfl w hw) rfl)) ?_
  refine S.m rfl rfl rfl (wanted_none rfl) (m_callF (xs := _) rfl ok98 rfl rfl (fun w hw => impl_members.ok h19 w )) ?_
  rintro v19_2 _ ⟨_, ⟨S19_2, hl_v19_2, rfl⟩, rfl⟩
  iterate 3 refine S.q rfl rfl rfl (wanted_none rfl) (r_assign rfl) ?_
  refine S.nil ?_
  refine F.nil ?_
  refine Nrm.seq ?_
  refine Tri.ret ?_
  cases h
  exact Rtn.body (.tmp rfl (.tmp rfl (.tmp rfl .nil))) (fun w hw => ⟨_, _, rfl, ⟨v19_2, S19_2, rfl, hl_v19_2, rfl⟩, Sep.pick (is := [0]) rfl rfl hw⟩)

end Go.Proofs

/- loop.example/g01158/laws.FnAssumed -/
namespace Go.Proofs
open Go Go.Ga
set_option linter.unusedVariables false
set_option maxRecDepth 100000
set_option maxHeartbeats 4000000
def laws_FnAssumed.f (k : Nat) (a0 : List By) : Option (Bool) := (laws_vBig.f k a0).bind fun t33 => (if t33 = true then some true else (spec_DrawAssumedFilling.f k a0).bind fun (t36_1, t36_2, t36_3, t36_4, t36_5, t36_6) => (impl_AssumedFilling.f k t36_1 t36_2 t36_3 t36_4 t36_5 t36_6).bind fun (t46_1, t46_2) => (spec_AssumedFilling.f k t36_1 t36_2 t36_3 t36_4 t36_5 t36_6).bind fun (t54_1, t54_2) => (impl_ForwardFilling.f k t36_1 t36_2 t36_3 t36_4 t36_5 t36_6).bind fun (t62_1, t62_2) => (spec_ForwardFilling.f k t36_1 t36_2 t36_3 t36_4 t36_5 t36_6).bind fun (t70_1, t70_2) => ((if (t46_2 != t54_2) = true then some true else (laws_vInts.f k t46_1 t54_1).bind fun t79 => (if (!t79) = true then some true else (if (t62_2 != t70_2) = true then some true else (laws_vInts.f k t62_1 t70_1).bind fun t90 => (if (!t90) = true then some true else some (t46_2 != t62_2)))))).bind fun y97 => (if y97 = true then some false else (if (!t46_2) = true then some true else (if 0 ≤ t36_1 ∧ t36_1 < 1099511627776 then some (t36_1, List.replicate (t36_1).toNat (0 : Int)) else none).bind fun (yb15_2_0, yb15_2_2) => (impl_CanWin.f k yb15_2_0 t36_2 yb15_2_2 t36_4).bind fun (t111_1, t111_2) => (impl_LayKeys.f k t36_1 t36_2 t36_3 t36_4 t46_1).bind fun (t118_1, t118_2, t118_3, t118_4) => (impl_LayKeys.f k t36_1 t36_2 t36_3 t36_4 t62_1).bind fun (t125_1, t125_2, t125_3, t125_4) => (impl_GainAtLast.f k t118_1 t118_2 t118_3 0).bind fun (t130_1, t130_2, t130_3) => (impl_GainAtLast.f k t125_1 t125_2 t125_3 0).bind fun (t136_1, t136_2, t136_3) => (impl_FillingWins.f k t36_1 t36_2 t36_3 t36_4 t46_1).bind fun (t144_1, t144_2) => (impl_FillingWins.f k t36_1 t36_2 t36_3 t36_4 t62_1).bind fun (t151_1, t151_2) => ((if t111_2 = true then (if t118_4 = true then (if t125_4 = true then (if t130_3 = true then (if t136_3 = true then (if t144_2 = true then (if t151_2 = true then (if (t130_1 == t36_4) = true then (if (t136_1 == t36_4) = true then (if (t144_1 == t111_1) = true then some (t151_1 == t111_1) else some false) else some false) else some false) else some false) else some false) else some false) else some false) else some false) else some false) else some false)).bind fun y2 => some y2)))

theorem laws_FnAssumed.ok {k : Nat}  {a0 : List By} {r0 : Bool} (h : laws_FnAssumed.f k a0 = some r0) (w : World) {va0 : Value} (hr_a0 : Rd w va0 a0) :
  Calls Try.prog 4 ([va0] : List Value).toArray w (fun e w' => e = .returned (.bool r0) ∧ Ext w w') := by
 unfold laws_FnAssumed.f at h
 have hl_va0 := hr_a0.len
 refine Calls.of_tri (N := 193) Try.func4 rfl rfl rfl (Sep.nil (M := noM)) ?_
 refine Tri.seq ?_
 refine Tri.reg (l := [0]) rfl ?_
 refine F.q rfl rfl rfl (wanted_none rfl) (r_assign rfl) ?_
 refine F.nil ?_
 refine Nrm.seq ?_
 refine Tri.seq ?_
 refine Tri.seq ?_
 obtain ⟨t33, h33, h⟩ := bind_some h
 refine Tri.reg (l := [0, 1]) rfl ?_
 refine F.q rfl rfl rfl (wanted_none rfl) (r_move rfl) ?_
 refine F.qc rfl rfl rfl (wanted_none rfl) (q_callF (xs := _) rfl ok8 rfl rfl (fun w hw => laws_vBig.ok h33 w ((fun _ hw => hr_a0.sep hw) w hw))) ?_
 refine F.nil ?_
 refine Nrm.seq ?_
 refine Tri.cond (b := t33) rfl (fun g_1 => ?_) (fun g_1 => ?_)
 ·replace h := if_tt g_1 h
  refine Tri.seq ?_
  refine Tri.reg (l := [0]) rfl ?_
  refine F.q rfl rfl rfl (wanted_none rfl) (r_assign rfl) ?_
  refine F.nil ?_
  refine Nrm.seq ?_
  refine Tri.ret ?_
  refine Rtn.then ?_
  cases h
  exact Rtn.body (.tmp rfl .nil) (fun w hw => ⟨rfl, hw.ext⟩)
 ·replace h := if_ff g_1 h
  refine Tri.skip ?_
  refine Nrm.seq ?_
  refine Tri.seq ?_
  obtain ⟨⟨t36_1, t36_2, t36_3, t36_4, t36_5, t36_6⟩, h36, h⟩ := bind_some h
  refine Tri.reg (l := [0, 1, 2, 3, 4, 5, 6, 7, 8, 9, 10, 11]) rfl ?_
  refine F.q rfl rfl rfl (wanted_none rfl) (r_move rfl) ?_
  refine F.m rfl rfl rfl (wanted_none rfl) (m_callF (xs := _) rfl ok25 rfl rfl (fun w hw => spec_DrawAssumedFilling.ok h36 w ((fun _ hw => hr_a0.sep hw) w hw))) ?_
  rintro _ _ ⟨_, ⟨v36_1, S36_1, v36_2, S36_2, v36_3, S36_3, v36_4, S36_4, rfl, hl_v36_1, hl_v36_2, hl_v36_3, hl_v36_4, rfl⟩, rfl⟩
  refine F.q rfl rfl rfl (wanted_none rfl) (r_move rfl) ?_
  iterate 4 refine F.q rfl rfl rfl (wanted_none rfl) (r_extract rfl rfl) ?_
  refine F.m rfl rfl rfl (wanted_none rfl) (m_alloc ti27) ?_
  rintro _ _ ⟨b3_1, rfl, rfl⟩
  refine F.ef0 rfl rfl (wanted_none rfl) (d_storeG0 (i := 0) (cs2 := [.int .i64 t36_1, v36_1, v36_2]) ti27 rfl rfl rfl rfl rfl (Nat.le_of_ble_eq_true rfl) (lf_cons rfl (lf_cons (sl_leaf hl_v36_1) (lf_cons (sl_leaf hl_v36_2) lf_nil)))) ?_
  rintro _ _ ⟨rfl, rfl⟩
  iterate 3 refine F.q rfl rfl rfl (wanted_none rfl) (r_assign rfl) ?_
  refine F.nil ?_
  refine Nrm.seq ?_
  refine Tri.seq ?_
  obtain ⟨⟨t46_1, t46_2⟩, h46, h⟩ := bind_some h
  refine Tri.reg (l := [0, 1, 2, 3, 4, 5, 6, 7, 8, 9]) rfl ?_
  refine F.q rfl rfl rfl (wanted_none rfl) (r_loadA ta27 ti27 rfl rfl (fun w hw => (box_cells (i := 0) rfl w hw))) ?_
  iterate 3 refine F.q rfl rfl rfl (wanted_none rfl) (r_move rfl) ?_
  refine F.m rfl rfl rfl (wanted_none rfl) (m_callF (xs := _) rfl ok26 rfl rfl (fun w hw => impl_AssumedFilling.ok h46 w ((rd_sl (i := 1) rfl) w hw) ((rd_sl (i := 2) rfl) w hw) ((rd_sl (i := 3) rfl) w hw) ((rd_sl (i := 4) rfl) w hw))) ?_
  rintro _ _ ⟨_, ⟨v46_1, S46_1, rfl, hl_v46_1, rfl⟩, rfl⟩
  refine F.q rfl rfl rfl (wanted_none rfl) (r_move rfl) ?_
  refine F.q rfl rfl rfl (wanted_none rfl) (r_extract rfl rfl) ?_
  refine F.q rfl rfl rfl (wanted_none rfl) (r_extract rfl rfl) ?_
  refine F.q rfl rfl rfl (wanted_none rfl) (r_assign rfl) ?_
  refine F.q rfl rfl rfl (wanted_none rfl) (r_assign rfl) ?_
  refine F.nil ?_
  refine Nrm.seq ?_
  refine Tri.seq ?_
  obtain ⟨⟨t54_1, t54_2⟩, h54, h⟩ := bind_some h
  refine Tri.reg (l := [0, 1, 2, 3, 4, 5, 6, 7, 8, 9]) rfl ?_
  refine F.q rfl rfl rfl (wanted_none rfl) (r_loadA ta27 ti27 rfl rfl (fun w hw => (box_cells (i := 1) rfl w hw))) ?_
  iterate 3 refine F.q rfl rfl rfl (wanted_none rfl) (r_move rfl) ?_
  refine F.m rfl rfl rfl (wanted_none rfl) (m_callF (xs := _) rfl ok27 rfl rfl (fun w hw => spec_AssumedFilling.ok h54 w ((rd_sl (i := 2) rfl) w hw) ((rd_sl (i := 3) rfl) w hw) ((rd_sl (i := 4) rfl) w hw) ((rd_sl (i := 5) rfl) w hw))) ?_
  rintro _ _ ⟨_, ⟨v54_1, S54_1, rfl, hl_v54_1, rfl⟩, rfl⟩
  refine F.q rfl rfl rfl (wanted_none rfl) (r_move rfl) ?_
  refine F.q rfl rfl rfl (wanted_none rfl) (r_extract rfl rfl) ?_
  refine F.q rfl rfl rfl (wanted_none rfl) (r_extract rfl rfl) ?_
  refine F.q rfl rfl rfl (wanted_none rfl) (r_assign rfl) ?_
  refine F.q rfl rfl rfl (wanted_none rfl) (r_assign rfl) ?_
  refine F.nil ?_
  refine Nrm.seq ?_
  refine Tri.seq ?_
  obtain ⟨⟨t62_1, t62_2⟩, h62, h⟩ := bind_some h
  refine Tri.reg (l := [0, 1, 2, 3, 4, 5, 6, 7, 8, 9]) rfl ?_
  refine F.q rfl rfl rfl (wanted_none rfl) (r_loadA ta27 ti27 rfl rfl (fun w hw => (box_cells (i := 2) rfl w hw))) ?_
  iterate 3 refine F.q rfl rfl rfl (wanted_none rfl) (r_move rfl) ?_
  refine F.m rfl rfl rfl (wanted_none rfl) (m_callF (xs := _) rfl ok28 rfl rfl (fun w hw => impl_ForwardFilling.ok h62 w ((rd_sl (i := 3) rfl) w hw) ((rd_sl (i := 4) rfl) w hw) ((rd_sl (i := 5) rfl) w hw) ((rd_sl (i := 6) rfl) w hw))) ?_
  rintro _ _ ⟨_, ⟨v62_1, S62_1, rfl, hl_v62_1, rfl⟩, rfl⟩
  refine F.q rfl rfl rfl (wanted_none rfl) (r_move rfl) ?_
  refine F.q rfl rfl rfl (wanted_none rfl) (r_extract rfl rfl) ?_
  refine F.q rfl rfl rfl (wanted_none rfl) (r_extract rfl rfl) ?_
  refine F.q rfl rfl rfl (wanted_none rfl) (r_assign rfl) ?_
  refine F.q rfl rfl rfl (wanted_none rfl) (r_assign rfl) ?_
  refine F.nil ?_
  refine Nrm.seq ?_
  refine Tri.seq ?_
  obtain ⟨⟨t70_1, t70_2⟩, h70, h⟩ := bind_some h
  refine Tri.reg (l := [0, 1, 2, 3, 4, 5, 6, 7, 8, 9]) rfl ?_
  refine F.q rfl rfl rfl (wanted_none rfl) (r_loadA ta27 ti27 rfl rfl (fun w hw => (box_cells (i := 3) rfl w hw))) ?_
  iterate 3 refine F.q rfl rfl rfl (wanted_none rfl) (r_move rfl) ?_
  refine F.m rfl rfl rfl (wanted_none rfl) (m_callF (xs := _) rfl ok29 rfl rfl (fun w hw => spec_ForwardFilling.ok h70 w ((rd_sl (i := 4) rfl) w hw) ((rd_sl (i := 5) rfl) w hw) ((rd_sl (i := 6) rfl) w hw) ((rd_sl (i := 7) rfl) w hw))) ?_
  rintro _ _ ⟨_, ⟨v70_1, S70_1, rfl, hl_v70_1, rfl⟩, rfl⟩
  refine F.q rfl rfl rfl (wanted_none rfl) (r_move rfl) ?_
  refine F.q rfl rfl rfl (wanted_none rfl) (r_extract rfl rfl) ?_
  refine F.q rfl rfl rfl (wanted_none rfl) (r_extract rfl rfl) ?_
  refine F.q rfl rfl rfl (wanted_none rfl) (r_assign rfl) ?_
  refine F.q rfl rfl rfl (wanted_none rfl) (r_assign rfl) ?_
  refine F.nil ?_
  refine Nrm.seq ?_
  refine Tri.seq ?_
  refine Tri.seq ?_
  obtain ⟨y97, hE_1, h⟩ := bind_some h
  refine Tri.cut (fun e' C' => e' = [(3, .pointer (some ⟨b3_1, 0, none⟩)), (4, .int .i64 t36_4), (7, v46_1), (8, .bool t46_2), (11, v62_1), (97, .bool y97)] ∧ C' = Sep w noM [R.box b3_1 27 [.int .i64 t36_1, v36_1, v36_2], R.sl S36_1 v36_1 (t36_2 : List (Int × Int × Int)), R.sl S36_2 v36_2 (t36_3 : List (Int)), R.sl S46_1 v46_1 (t46_1 : List (Int)), R.sl S62_1 v62_1 (t62_1 : List (Int))]) ?_ (fun hj_1 => ?_)
  ·rintro _ _ ⟨rfl, rfl⟩
   refine Nrm.seq ?_
   refine Tri.cond (b := y97) rfl (fun g_2 => ?_) (fun g_2 => ?_)
   ·replace h := if_tt g_2 h
    refine Tri.seq ?_
    refine Tri.reg (l := [0]) rfl ?_
    refine F.q rfl rfl rfl (wanted_none rfl) (r_assign rfl) ?_
    refine F.nil ?_
    refine Nrm.seq ?_
    refine Tri.ret ?_
    refine Rtn.then ?_
    cases h
    exact Rtn.body (.tmp rfl .nil) (fun w hw => ⟨rfl, hw.ext⟩)
   ·replace h := if_ff g_2 h
    refine Tri.skip ?_
    refine Nrm.seq ?_
    refine Tri.seq ?_
    refine Tri.seq ?_
    refine Tri.reg (l := [0, 1]) rfl ?_
    refine F.q rfl rfl rfl (wanted_none rfl) (r_move rfl) ?_
    refine F.q rfl rfl rfl (wanted_none rfl) (r_not rfl) ?_
    refine F.nil ?_
    refine Nrm.seq ?_
    refine Tri.cond (b := !t46_2) rfl (fun g_3 => ?_) (fun g_3 => ?_)
    ·replace h := if_tt g_3 h
     refine Tri.seq ?_
     refine Tri.reg (l := [0]) rfl ?_
     refine F.q rfl rfl rfl (wanted_none rfl) (r_assign rfl) ?_
     refine F.nil ?_
     refine Nrm.seq ?_
     refine Tri.ret ?_
     refine Rtn.then ?_
     cases h
     exact Rtn.body (.tmp rfl .nil) (fun w hw => ⟨rfl, hw.ext⟩)
    ·replace h := if_ff g_3 h
     refine Tri.skip ?_
     refine Nrm.seq ?_
     refine Tri.seq ?_
     obtain ⟨⟨yb15_2_0, yb15_2_2⟩, hE_2, h⟩ := bind_some h
     refine Tri.cut (fun e' C' => ∃ (vb15_2_2_1 : Value) (Sb15_2_2_1 : Nat → Prop) (b15_2 : Nat), SlLen vb15_2_2_1 (yb15_2_2).length ∧ e' = [(3, .pointer (some ⟨b3_1, 0, none⟩)), (4, .int .i64 t36_4), (7, v46_1), (11, v62_1), (15, .pointer (some ⟨b15_2, 0, none⟩))] ∧ C' = Sep w noM [R.box b3_1 27 [.int .i64 t36_1, v36_1, v36_2], R.box b15_2 27 [.int .i64 yb15_2_0, v36_1, vb15_2_2_1], R.sl Sb15_2_2_1 vb15_2_2_1 (yb15_2_2 : List (Int)), R.sl S36_1 v36_1 (t36_2 : List (Int × Int × Int)), R.sl S36_2 v36_2 (t36_3 : List (Int)), R.sl S46_1 v46_1 (t46_1 : List (Int)), R.sl S62_1 v62_1 (t62_1 : List (Int))]) ?_ (fun hj_2 => ?_)
     ·rintro _ _ ⟨vb15_2_2_1, Sb15_2_2_1, b15_2, hl_vb15_2_2_1, rfl, rfl⟩
      refine Nrm.seq ?_
      refine Tri.seq ?_
      obtain ⟨⟨t111_1, t111_2⟩, h111, h⟩ := bind_some h
      refine Tri.reg (l := [0, 1, 2, 3, 4, 5, 6, 7]) rfl ?_
      refine F.q rfl rfl rfl (wanted_none rfl) (r_loadA ta27 ti27 rfl rfl (fun w hw => (box_cells (i := 1) rfl w hw))) ?_
      refine F.q rfl rfl rfl (wanted_none rfl) (r_move rfl) ?_
      refine F.qc rfl rfl rfl (wanted_none rfl) (q_callF (xs := _) rfl ok30 rfl rfl (fun w hw => impl_CanWin.ok h111 w ((rd_sl (i := 3) rfl) w hw) ((rd_sl (i := 2) rfl) w hw))) ?_
      refine F.q rfl rfl rfl (wanted_none rfl) (r_move rfl) ?_
      refine F.q rfl rfl rfl (wanted_none rfl) (r_extract rfl rfl) ?_
      refine F.q rfl rfl rfl (wanted_none rfl) (r_extract rfl rfl) ?_
      refine F.q rfl rfl rfl (wanted_none rfl) (r_assign rfl) ?_
      refine F.q rfl rfl rfl (wanted_none rfl) (r_assign rfl) ?_
      refine F.nil ?_
      refine Nrm.seq ?_
      refine Tri.seq ?_
      obtain ⟨⟨t118_1, t118_2, t118_3, t118_4⟩, h118, h⟩ := bind_some h
      refine Tri.reg (l := [0, 1, 2, 3, 4, 5, 6, 7, 8, 9]) rfl ?_
      refine F.q rfl rfl rfl (wanted_none rfl) (r_loadA ta27 ti27 rfl rfl (fun w hw => (box_cells (i := 0) rfl w hw))) ?_
      refine F.q rfl rfl rfl (wanted_none rfl) (r_move rfl) ?_
      refine F.q rfl rfl rfl (wanted_none rfl) (r_move rfl) ?_
      refine F.m rfl rfl rfl (wanted_none rfl) (m_callF (xs := _) rfl ok31 rfl rfl (fun w hw => impl_LayKeys.ok h118 w ((rd_sl (i := 3) rfl) w hw) ((rd_sl (i := 4) rfl) w hw) ((rd_sl (i := 5) rfl) w hw))) ?_
      rintro _ _ ⟨_, ⟨v118_1, S118_1, v118_2, S118_2, rfl, hl_v118_1, hl_v118_2, rfl⟩, rfl⟩
      refine F.q rfl rfl rfl (wanted_none rfl) (r_move rfl) ?_
      refine F.q rfl rfl rfl (wanted_none rfl) (r_extract rfl rfl) ?_
      refine F.q rfl rfl rfl (wanted_none rfl) (r_extract rfl rfl) ?_
      refine F.m rfl rfl rfl (wanted_none rfl) (m_alloc ti27) ?_
      rintro _ _ ⟨b18_1, rfl, rfl⟩
      refine F.ef0 rfl rfl (wanted_none rfl) (d_storeG0 (i := 0) (cs2 := [.int .i64 t118_1, v118_1, v118_2]) ti27 rfl rfl rfl rfl rfl (Nat.le_of_ble_eq_true rfl) (lf_cons rfl (lf_cons (sl_leaf hl_v118_1) (lf_cons (sl_leaf hl_v118_2) lf_nil)))) ?_
      rintro _ _ ⟨rfl, rfl⟩
      refine F.q rfl rfl rfl (wanted_none rfl) (r_assign rfl) ?_
      refine F.nil ?_
      refine Nrm.seq ?_
      refine Tri.seq ?_
      obtain ⟨⟨t125_1, t125_2, t125_3, t125_4⟩, h125, h⟩ := bind_some h
      refine Tri.reg (l := [0, 1, 2, 3, 4, 5, 6, 7, 8, 9]) rfl ?_
      refine F.q rfl rfl rfl (wanted_none rfl) (r_loadA ta27 ti27 rfl rfl (fun w hw => (box_cells (i := 3) rfl w hw))) ?_
      refine F.q rfl rfl rfl (wanted_none rfl) (r_move rfl) ?_
      refine F.q rfl rfl rfl (wanted_none rfl) (r_move rfl) ?_
      refine F.m rfl rfl rfl (wanted_none rfl) (m_callF (xs := _) rfl ok31 rfl rfl (fun w hw => impl_LayKeys.ok h125 w ((rd_sl (i := 6) rfl) w hw) ((rd_sl (i := 7) rfl) w hw) ((rd_sl (i := 9) rfl) w hw))) ?_
      rintro _ _ ⟨_, ⟨v125_1, S125_1, v125_2, S125_2, rfl, hl_v125_1, hl_v125_2, rfl⟩, rfl⟩
      refine F.q rfl rfl rfl (wanted_none rfl) (r_move rfl) ?_
      refine F.q rfl rfl rfl (wanted_none rfl) (r_extract rfl rfl) ?_
      refine F.q rfl rfl rfl (wanted_none rfl) (r_extract rfl rfl) ?_
      refine F.m rfl rfl rfl (wanted_none rfl) (m_alloc ti27) ?_
      rintro _ _ ⟨b20_1, rfl, rfl⟩
      refine F.ef0 rfl rfl (wanted_none rfl) (d_storeG0 (i := 0) (cs2 := [.int .i64 t125_1, v125_1, v125_2]) ti27 rfl rfl rfl rfl rfl (Nat.le_of_ble_eq_true rfl) (lf_cons rfl (lf_cons (sl_leaf hl_v125_1) (lf_cons (sl_leaf hl_v125_2) lf_nil)))) ?_
      rintro _ _ ⟨rfl, rfl⟩
      refine F.q rfl rfl rfl (wanted_none rfl) (r_assign rfl) ?_
      refine F.nil ?_
      refine Nrm.seq ?_
      refine Tri.seq ?_
      obtain ⟨⟨t130_1, t130_2, t130_3⟩, h130, h⟩ := bind_some h
      refine Tri.reg (l := [0, 1, 2, 3, 4, 5, 6, 7, 8]) rfl ?_
      refine F.q rfl rfl rfl (wanted_none rfl) (r_loadA ta27 ti27 rfl rfl (fun w hw => (box_cells (i := 3) rfl w hw))) ?_
      refine F.m rfl rfl rfl (wanted_none rfl) (m_callF (xs := _) rfl ok32 rfl rfl (fun w hw => impl_GainAtLast.ok h130 w ((rd_sl (i := 4) rfl) w hw) ((rd_sl (i := 5) rfl) w hw))) ?_
      rintro _ _ ⟨_, ⟨v130_1, S130_1, rfl, hl_v130_1, rfl⟩, rfl⟩
      refine F.q rfl rfl rfl (wanted_none rfl) (r_move rfl) ?_
      iterate 3 refine F.q rfl rfl rfl (wanted_none rfl) (r_extract rfl rfl) ?_
      iterate 3 refine F.q rfl rfl rfl (wanted_none rfl) (r_assign rfl) ?_
      refine F.nil ?_
      refine Nrm.seq ?_
      refine Tri.seq ?_
      obtain ⟨⟨t136_1, t136_2, t136_3⟩, h136, h⟩ := bind_some h
      refine Tri.reg (l := [0, 1, 2, 3, 4, 5, 6, 7, 8]) rfl ?_
      refine F.q rfl rfl rfl (wanted_none rfl) (r_loadA ta27 ti27 rfl rfl (fun w hw => (box_cells (i := 1) rfl w hw))) ?_
      refine F.m rfl rfl rfl (wanted_none rfl) (m_callF (xs := _) rfl ok32 rfl rfl (fun w hw => impl_GainAtLast.ok h136 w ((rd_sl (i := 2) rfl) w hw) ((rd_sl (i := 3) rfl) w hw))) ?_
      rintro _ _ ⟨_, ⟨v136_1, S136_1, rfl, hl_v136_1, rfl⟩, rfl⟩
      refine F.q rfl rfl rfl (wanted_none rfl) (r_move rfl) ?_
      iterate 3 refine F.q rfl rfl rfl (wanted_none rfl) (r_extract rfl rfl) ?_
      iterate 3 refine F.q rfl rfl rfl (wanted_none rfl) (r_assign rfl) ?_
      refine F.nil ?_
      refine Nrm.seq ?_
      refine Tri.seq ?_
      obtain ⟨⟨t144_1, t144_2⟩, h144, h⟩ := bind_some h
      refine Tri.reg (l := [0, 1, 2, 3, 4, 5, 6, 7, 8]) rfl ?_
      refine F.q rfl rfl rfl (wanted_none rfl) (r_loadA ta27 ti27 rfl rfl (fun w hw => (box_cells (i := 8) rfl w hw))) ?_
      refine F.q rfl rfl rfl (wanted_none rfl) (r_move rfl) ?_
      refine F.q rfl rfl rfl (wanted_none rfl) (r_move rfl) ?_
      refine F.qc rfl rfl rfl (wanted_none rfl) (q_callF (xs := _) rfl ok23 rfl rfl (fun w hw => impl_FillingWins.ok h144 w ((rd_sl (i := 11) rfl) w hw) ((rd_sl (i := 12) rfl) w hw) ((rd_sl (i := 13) rfl) w hw))) ?_
      refine F.q rfl rfl rfl (wanted_none rfl) (r_move rfl) ?_
      refine F.q rfl rfl rfl (wanted_none rfl) (r_extract rfl rfl) ?_
      refine F.q rfl rfl rfl (wanted_none rfl) (r_extract rfl rfl) ?_
      refine F.q rfl rfl rfl (wanted_none rfl) (r_assign rfl) ?_
      refine F.q rfl rfl rfl (wanted_none rfl) (r_assign rfl) ?_
      refine F.nil ?_
      refine Nrm.seq ?_
      refine Tri.seq ?_
      obtain ⟨⟨t151_1, t151_2⟩, h151, h⟩ := bind_some h
      refine Tri.reg (l := [0, 1, 2, 3, 4, 5, 6, 7, 8]) rfl ?_
      refine F.q rfl rfl rfl (wanted_none rfl) (r_loadA ta27 ti27 rfl rfl (fun w hw => (box_cells (i := 8) rfl w hw))) ?_
      refine F.q rfl rfl rfl (wanted_none rfl) (r_move rfl) ?_
      refine F.q rfl rfl rfl (wanted_none rfl) (r_move rfl) ?_
      refine F.qc rfl rfl rfl (wanted_none rfl) (q_callF (xs := _) rfl ok23 rfl rfl (fun w hw => impl_FillingWins.ok h151 w ((rd_sl (i := 11) rfl) w hw) ((rd_sl (i := 12) rfl) w hw) ((rd_sl (i := 14) rfl) w hw))) ?_
      refine F.q rfl rfl rfl (wanted_none rfl) (r_move rfl) ?_
      refine F.q rfl rfl rfl (wanted_none rfl) (r_extract rfl rfl) ?_
      refine F.q rfl rfl rfl (wanted_none rfl) (r_extract rfl rfl) ?_
      refine F.q rfl rfl rfl (wanted_none rfl) (r_assign rfl) ?_
      refine F.q rfl rfl rfl (wanted_none rfl) (r_assign rfl) ?_
      refine F.nil ?_
      refine Nrm.seq ?_
      refine Tri.seq ?_
      obtain ⟨y2, hE_3, h⟩ := bind_some h
      refine Tri.cut (fun e' C' => e' = [(2, .bool y2)] ∧ C' = Sep w noM []) ?_ (fun hj_3 => ?_)
      ·rintro _ _ ⟨rfl, rfl⟩
       refine Nrm.seq ?_
       refine Tri.ret ?_
       cases h
       exact Rtn.body (.tmp rfl .nil) (fun w hw => ⟨rfl, hw.ext⟩)
      ·rcases Bool.eq_false_or_eq_true (t111_2) with g155 | g155
       ·replace hE_3 := if_tt g155 hE_3
        rcases Bool.eq_false_or_eq_true (t118_4) with g158 | g158
        ·replace hE_3 := if_tt g158 hE_3
         rcases Bool.eq_false_or_eq_true (t125_4) with g161 | g161
         ·replace hE_3 := if_tt g161 hE_3
          rcases Bool.eq_false_or_eq_true (t130_3) with g164 | g164
          ·replace hE_3 := if_tt g164 hE_3
           rcases Bool.eq_false_or_eq_true (t136_3) with g167 | g167
           ·replace hE_3 := if_tt g167 hE_3
            rcases Bool.eq_false_or_eq_true (t144_2) with g170 | g170
            ·replace hE_3 := if_tt g170 hE_3
             rcases Bool.eq_false_or_eq_true (t151_2) with g173 | g173
             ·replace hE_3 := if_tt g173 hE_3
              rcases Bool.eq_false_or_eq_true (t130_1 == t36_4) with g178 | g178
              ·replace hE_3 := if_tt g178 hE_3
               rcases Bool.eq_false_or_eq_true (t136_1 == t36_4) with g183 | g183
               ·replace hE_3 := if_tt g183 hE_3
                rcases Bool.eq_false_or_eq_true (t144_1 == t111_1) with g188 | g188
                ·replace hE_3 := if_tt g188 hE_3
                 refine Tri.reg (l := [0, 1, 2, 3, 4, 5, 6, 7, 8, 9, 10, 11, 12, 13, 14, 15, 16, 17, 18, 19, 20, 21, 22, 23, 24, 25, 26, 27, 28, 29, 30, 31, 32, 33, 34, 35, 36, 37, 38, 39]) rfl ?_
                 refine F.q rfl rfl rfl (wanted_none rfl) (r_move rfl) ?_
                 refine F.q rfl rfl rfl (wanted_none rfl) (r_move rfl) ?_
                 refine F.q rfl rfl rfl (wg rfl rfl rfl g155) (r_move rfl) ?_
                 refine F.q rfl rfl rfl (wanted_none rfl) (r_pick rfl rfl g155) ?_
                 refine F.q rfl rfl rfl (wanted_none rfl) (r_move rfl) ?_
                 refine F.q rfl rfl rfl (wg rfl rfl rfl g158) (r_move rfl) ?_
                 refine F.q rfl rfl rfl (wanted_none rfl) (r_pick rfl rfl g158) ?_
                 refine F.q rfl rfl rfl (wanted_none rfl) (r_move rfl) ?_
                 refine F.q rfl rfl rfl (wg rfl rfl rfl g161) (r_move rfl) ?_
                 refine F.q rfl rfl rfl (wanted_none rfl) (r_pick rfl rfl g161) ?_
                 refine F.q rfl rfl rfl (wanted_none rfl) (r_move rfl) ?_
                 refine F.q rfl rfl rfl (wg rfl rfl rfl g164) (r_move rfl) ?_
                 refine F.q rfl rfl rfl (wanted_none rfl) (r_pick rfl rfl g164) ?_
                 refine F.q rfl rfl rfl (wanted_none rfl) (r_move rfl) ?_
                 refine F.q rfl rfl rfl (wg rfl rfl rfl g167) (r_move rfl) ?_
                 refine F.q rfl rfl rfl (wanted_none rfl) (r_pick rfl rfl g167) ?_
                 refine F.q rfl rfl rfl (wanted_none rfl) (r_move rfl) ?_
                 refine F.q rfl rfl rfl (wg rfl rfl rfl g170) (r_move rfl) ?_
                 refine F.q rfl rfl rfl (wanted_none rfl) (r_pick rfl rfl g170) ?_
                 refine F.q rfl rfl rfl (wanted_none rfl) (r_move rfl) ?_
                 refine F.q rfl rfl rfl (wg rfl rfl rfl g173) (r_move rfl) ?_
                 refine F.q rfl rfl rfl (wg rfl rfl rfl g173) (r_move rfl) ?_
                 refine F.q rfl rfl rfl (wg rfl rfl rfl g173) (r_eql rfl rfl) ?_
                 refine F.q rfl rfl rfl (wanted_none rfl) (r_pick rfl rfl g173) ?_
                 refine F.q rfl rfl rfl (wanted_none rfl) (r_move rfl) ?_
                 refine F.q rfl rfl rfl (wg rfl rfl rfl g178) (r_move rfl) ?_
                 refine F.q rfl rfl rfl (wg rfl rfl rfl g178) (r_move rfl) ?_
                 refine F.q rfl rfl rfl (wg rfl rfl rfl g178) (r_eql rfl rfl) ?_
                 refine F.q rfl rfl rfl (wanted_none rfl) (r_pick rfl rfl g178) ?_
                 refine F.q rfl rfl rfl (wanted_none rfl) (r_move rfl) ?_
                 refine F.q rfl rfl rfl (wg rfl rfl rfl g183) (r_move rfl) ?_
                 refine F.q rfl rfl rfl (wg rfl rfl rfl g183) (r_move rfl) ?_
                 refine F.q rfl rfl rfl (wg rfl rfl rfl g183) (r_eqlB Try.underlying4 rfl rfl) ?_
                 refine F.q rfl rfl rfl (wanted_none rfl) (r_pick rfl rfl g183) ?_
                 refine F.q rfl rfl rfl (wanted_none rfl) (r_move rfl) ?_
                 refine F.q rfl rfl rfl (wg rfl rfl rfl g188) (r_move rfl) ?_
                 refine F.q rfl rfl rfl (wg rfl rfl rfl g188) (r_move rfl) ?_
                 refine F.q rfl rfl rfl (wg rfl rfl rfl g188) (r_eqlB Try.underlying4 rfl rfl) ?_
                 refine F.q rfl rfl rfl (wanted_none rfl) (r_pick rfl rfl g188) ?_
                 refine F.q rfl rfl rfl (wanted_none rfl) (r_assign rfl) ?_
                 refine F.nil ?_
                 cases hE_3
                 refine Nrm.only [2] rfl ?_
                 refine Nrm.pick [] rfl rfl ?_
                 exact hj_3 _ _ ⟨rfl, rfl⟩
                ·replace hE_3 := if_ff g188 hE_3
                 refine Tri.reg (l := [0, 1, 2, 3, 4, 5, 6, 7, 8, 9, 10, 11, 12, 13, 14, 15, 16, 17, 18, 19, 20, 21, 22, 23, 24, 25, 26, 27, 28, 29, 30, 31, 32, 33, 34, 35, 36, 37, 38, 39]) rfl ?_
                 refine F.q rfl rfl rfl (wanted_none rfl) (r_move rfl) ?_
                 refine F.q rfl rfl rfl (wanted_none rfl) (r_move rfl) ?_
                 refine F.q rfl rfl rfl (wg rfl rfl rfl g155) (r_move rfl) ?_
                 refine F.q rfl rfl rfl (wanted_none rfl) (r_pick rfl rfl g155) ?_
                 refine F.q rfl rfl rfl (wanted_none rfl) (r_move rfl) ?_
                 refine F.q rfl rfl rfl (wg rfl rfl rfl g158) (r_move rfl) ?_
                 refine F.q rfl rfl rfl (wanted_none rfl) (r_pick rfl rfl g158) ?_
                 refine F.q rfl rfl rfl (wanted_none rfl) (r_move rfl) ?_
                 refine F.q rfl rfl rfl (wg rfl rfl rfl g161) (r_move rfl) ?_
                 refine F.q rfl rfl rfl (wanted_none rfl) (r_pick rfl rfl g161) ?_
                 refine F.q rfl rfl rfl (wanted_none rfl) (r_move rfl) ?_
                 refine F.q rfl rfl rfl (wg rfl rfl rfl g164) (r_move rfl) ?_
                 refine F.q rfl rfl rfl (wanted_none rfl) (r_pick rfl rfl g164) ?_
                 refine F.q rfl rfl rfl (wanted_none rfl) (r_move rfl) ?_
                 refine F.q rfl rfl rfl (wg rfl rfl rfl g167) (r_move rfl) ?_
                 refine F.q rfl rfl rfl (wanted_none rfl) (r_pick rfl rfl g167) ?_
                 refine F.q rfl rfl rfl (wanted_none rfl) (r_move rfl) ?_
                 refine F.q rfl rfl rfl (wg rfl rfl rfl g170) (r_move rfl) ?_
                 refine F.q rfl rfl rfl (wanted_none rfl) (r_pick rfl rfl g170) ?_
                 refine F.q rfl rfl rfl (wanted_none rfl) (r_move rfl) ?_
                 refine F.q rfl rfl rfl (wg rfl rfl rfl g173) (r_move rfl) ?_
                 refine F.q rfl rfl rfl (wg rfl rfl rfl g173) (r_move rfl) ?_
                 refine F.q rfl rfl rfl (wg rfl rfl rfl g173) (r_eql rfl rfl) ?_
                 refine F.q rfl rfl rfl (wanted_none rfl) (r_pick rfl rfl g173) ?_
                 refine F.q rfl rfl rfl (wanted_none rfl) (r_move rfl) ?_
                 refine F.q rfl rfl rfl (wg rfl rfl rfl g178) (r_move rfl) ?_
                 refine F.q rfl rfl rfl (wg rfl rfl rfl g178) (r_move rfl) ?_
                 refine F.q rfl rfl rfl (wg rfl rfl rfl g178) (r_eql rfl rfl) ?_
                 refine F.q rfl rfl rfl (wanted_none rfl) (r_pick rfl rfl g178) ?_
                 refine F.q rfl rfl rfl (wanted_none rfl) (r_move rfl) ?_
                 refine F.q rfl rfl rfl (wg rfl rfl rfl g183) (r_move rfl) ?_
                 refine F.q rfl rfl rfl (wg rfl rfl rfl g183) (r_move rfl) ?_
                 refine F.q rfl rfl rfl (wg rfl rfl rfl g183) (r_eqlB Try.underlying4 rfl rfl) ?_
                 refine F.q rfl rfl rfl (wanted_none rfl) (r_pick rfl rfl g183) ?_
                 refine F.q rfl rfl rfl (wanted_none rfl) (r_move rfl) ?_
                 iterate 3 refine F.sk rfl rfl rfl (wf rfl rfl rfl g188) ?_
                 refine F.q rfl rfl rfl (wanted_none rfl) (r_pickf rfl rfl g188) ?_
                 refine F.q rfl rfl rfl (wanted_none rfl) (r_assign rfl) ?_
                 refine F.nil ?_
                 cases hE_3
                 refine Nrm.only [2] rfl ?_
                 refine Nrm.pick [] rfl rfl ?_
                 exact hj_3 _ _ ⟨rfl, rfl⟩
               ·replace hE_3 := if_ff g183 hE_3
                refine Tri.reg (l := [0, 1, 2, 3, 4, 5, 6, 7, 8, 9, 10, 11, 12, 13, 14, 15, 16, 17, 18, 19, 20, 21, 22, 23, 24, 25, 26, 27, 28, 29, 30, 31, 32, 33, 34, 35, 36, 37, 38, 39]) rfl ?_
                refine F.q rfl rfl rfl (wanted_none rfl) (r_move rfl) ?_
                refine F.q rfl rfl rfl (wanted_none rfl) (r_move rfl) ?_
                refine F.q rfl rfl rfl (wg rfl rfl rfl g155) (r_move rfl) ?_
                refine F.q rfl rfl rfl (wanted_none rfl) (r_pick rfl rfl g155) ?_
                refine F.q rfl rfl rfl (wanted_none rfl) (r_move rfl) ?_
                refine F.q rfl rfl rfl (wg rfl rfl rfl g158) (r_move rfl) ?_
                refine F.q rfl rfl rfl (wanted_none rfl) (r_pick rfl rfl g158) ?_
                refine F.q rfl rfl rfl (wanted_none rfl) (r_move rfl) ?_
                refine F.q rfl rfl rfl (wg rfl rfl rfl g161) (r_move rfl) ?_
                refine F.q rfl rfl rfl (wanted_none rfl) (r_pick rfl rfl g161) ?_
                refine F.q rfl rfl rfl (wanted_none rfl) (r_move rfl) ?_
                refine F.q rfl rfl rfl (wg rfl rfl rfl g164) (r_move rfl) ?_
                refine F.q rfl rfl rfl (wanted_none rfl) (r_pick rfl rfl g164) ?_
                refine F.q rfl rfl rfl (wanted_none rfl) (r_move rfl) ?_
                refine F.q rfl rfl rfl (wg rfl rfl rfl g167) (r_move rfl) ?_
                refine F.q rfl rfl rfl (wanted_none rfl) (r_pick rfl rfl g167) ?_
                refine F.q rfl rfl rfl (wanted_none rfl) (r_move rfl) ?_
                refine F.q rfl rfl rfl (wg rfl rfl rfl g170) (r_move rfl) ?_
                refine F.q rfl rfl rfl (wanted_none rfl) (r_pick rfl rfl g170) ?_
                refine F.q rfl rfl rfl (wanted_none rfl) (r_move rfl) ?_
                refine F.q rfl rfl rfl (wg rfl rfl rfl g173) (r_move rfl) ?_
                refine F.q rfl rfl rfl (wg rfl rfl rfl g173) (r_move rfl) ?_
                refine F.q rfl rfl rfl (wg rfl rfl rfl g173) (r_eql rfl rfl) ?_
                refine F.q rfl rfl rfl (wanted_none rfl) (r_pick rfl rfl g173) ?_
                refine F.q rfl rfl rfl (wanted_none rfl) (r_move rfl) ?_
                refine F.q rfl rfl rfl (wg rfl rfl rfl g178) (r_move rfl) ?_
                refine F.q rfl rfl rfl (wg rfl rfl rfl g178) (r_move rfl) ?_
                refine F.q rfl rfl rfl (wg rfl rfl rfl g178) (r_eql rfl rfl) ?_
                refine F.q rfl rfl rfl (wanted_none rfl) (r_pick rfl rfl g178) ?_
                refine F.q rfl rfl rfl (wanted_none rfl) (r_move rfl) ?_
                iterate 3 refine F.sk rfl rfl rfl (wf rfl rfl rfl g183) ?_
                refine F.q rfl rfl rfl (wanted_none rfl) (r_pickf rfl rfl g183) ?_
                refine F.q rfl rfl rfl (wanted_none rfl) (r_move rfl) ?_
                iterate 3 refine F.sk rfl rfl rfl (wf rfl rfl rfl rfl) ?_
                refine F.q rfl rfl rfl (wanted_none rfl) (r_pickf rfl rfl rfl) ?_
                refine F.q rfl rfl rfl (wanted_none rfl) (r_assign rfl) ?_
                refine F.nil ?_
                cases hE_3
                refine Nrm.only [2] rfl ?_
                refine Nrm.pick [] rfl rfl ?_
                exact hj_3 _ _ ⟨rfl, rfl⟩
              ·replace hE_3 := if_ff g178 hE_3
               refine Tri.reg (l := [0, 1, 2, 3, 4, 5, 6, 7, 8, 9, 10, 11, 12, 13, 14, 15, 16, 17, 18, 19, 20, 21, 22, 23, 24, 25, 26, 27, 28, 29, 30, 31, 32, 33, 34, 35, 36, 37, 38, 39]) rfl ?_
               refine F.q rfl rfl rfl (wanted_none rfl) (r_move rfl) ?_
               refine F.q rfl rfl rfl (wanted_none rfl) (r_move rfl) ?_
               refine F.q rfl rfl rfl (wg rfl rfl rfl g155) (r_move rfl) ?_
               refine F.q rfl rfl rfl (wanted_none rfl) (r_pick rfl rfl g155) ?_
               refine F.q rfl rfl rfl (wanted_none rfl) (r_move rfl) ?_
               refine F.q rfl rfl rfl (wg rfl rfl rfl g158) (r_move rfl) ?_
               refine F.q rfl rfl rfl (wanted_none rfl) (r_pick rfl rfl g158) ?_
               refine F.q rfl rfl rfl (wanted_none rfl) (r_move rfl) ?_
               refine F.q rfl rfl rfl (wg rfl rfl rfl g161) (r_move rfl) ?_
               refine F.q rfl rfl rfl (wanted_none rfl) (r_pick rfl rfl g161) ?_
               refine F.q rfl rfl rfl (wanted_none rfl) (r_move rfl) ?_
               refine F.q rfl rfl rfl (wg rfl rfl rfl g164) (r_move rfl) ?_
               refine F.q rfl rfl rfl (wanted_none rfl) (r_pick rfl rfl g164) ?_
               refine F.q rfl rfl rfl (wanted_none rfl) (r_move rfl) ?_
               refine F.q rfl rfl rfl (wg rfl rfl rfl g167) (r_move rfl) ?_
               refine F.q rfl rfl rfl (wanted_none rfl) (r_pick rfl rfl g167) ?_
               refine F.q rfl rfl rfl (wanted_none rfl) (r_move rfl) ?_
               refine F.q rfl rfl rfl (wg rfl rfl rfl g170) (r_move rfl) ?_
               refine F.q rfl rfl rfl (wanted_none rfl) (r_pick rfl rfl g170) ?_
               refine F.q rfl rfl rfl (wanted_none rfl) (r_move rfl) ?_
               refine F.q rfl rfl rfl (wg rfl rfl rfl g173) (r_move rfl) ?_
               refine F.q rfl rfl rfl (wg rfl rfl rfl g173) (r_move rfl) ?_
               refine F.q rfl rfl rfl (wg rfl rfl rfl g173) (r_eql rfl rfl) ?_
               refine F.q rfl rfl rfl (wanted_none rfl) (r_pick rfl rfl g173) ?_
               refine F.q rfl rfl rfl (wanted_none rfl) (r_move rfl) ?_
               iterate 3 refine F.sk rfl rfl rfl (wf rfl rfl rfl g178) ?_
               refine F.q rfl rfl rfl (wanted_none rfl) (r_pickf rfl rfl g178) ?_
               refine F.q rfl rfl rfl (wanted_none rfl) (r_move rfl) ?_
               iterate 3 refine F.sk rfl rfl rfl (wf rfl rfl rfl rfl) ?_
               refine F.q rfl rfl rfl (wanted_none rfl) (r_pickf rfl rfl rfl) ?_
               refine F.q rfl rfl rfl (wanted_none rfl) (r_move rfl) ?_
               iterate 3 refine F.sk rfl rfl rfl (wf rfl rfl rfl rfl) ?_
               refine F.q rfl rfl rfl (wanted_none rfl) (r_pickf rfl rfl rfl) ?_
               refine F.q rfl rfl rfl (wanted_none rfl) (r_assign rfl) ?_
               refine F.nil ?_
               cases hE_3
               refine Nrm.only [2] rfl ?_
               refine Nrm.pick [] rfl rfl ?_
               exact hj_3 _ _ ⟨rfl, rfl⟩
             ·replace hE_3 := if_ff g173 hE_3
              refine Tri.reg (l := [0, 1, 2, 3, 4, 5, 6, 7, 8, 9, 10, 11, 12, 13, 14, 15, 16, 17, 18, 19, 20, 21, 22, 23, 24, 25, 26, 27, 28, 29, 30, 31, 32, 33, 34, 35, 36, 37, 38, 39]) rfl ?_
              refine F.q rfl rfl rfl (wanted_none rfl) (r_move rfl) ?_
              refine F.q rfl rfl rfl (wanted_none rfl) (r_move rfl) ?_
              refine F.q rfl rfl rfl (wg rfl rfl rfl g155) (r_move rfl) ?_
              refine F.q rfl rfl rfl (wanted_none rfl) (r_pick rfl rfl g155) ?_
              refine F.q rfl rfl rfl (wanted_none rfl) (r_move rfl) ?_
              refine F.q rfl rfl rfl (wg rfl rfl rfl g158) (r_move rfl) ?_
              refine F.q rfl rfl rfl (wanted_none rfl) (r_pick rfl rfl g158) ?_
              refine F.q rfl rfl rfl (wanted_none rfl) (r_move rfl) ?_
              refine F.q rfl rfl rfl (wg rfl rfl rfl g161) (r_move rfl) ?_
              refine F.q rfl rfl rfl (wanted_none rfl) (r_pick rfl rfl g161) ?_
              refine F.q rfl rfl rfl (wanted_none rfl) (r_move rfl) ?_
              refine F.q rfl rfl rfl (wg rfl rfl rfl g164) (r_move rfl) ?_
              refine F.q rfl rfl rfl (wanted_none rfl) (r_pick rfl rfl g164) ?_
              refine F.q rfl rfl rfl (wanted_none rfl) (r_move rfl) ?_
              refine F.q rfl rfl rfl (wg rfl rfl rfl g167) (r_move rfl) ?_
              refine F.q rfl rfl rfl (wanted_none rfl) (r_pick rfl rfl g167) ?_
              refine F.q rfl rfl rfl (wanted_none rfl) (r_move rfl) ?_
              refine F.q rfl rfl rfl (wg rfl rfl rfl g170) (r_move rfl) ?_
              refine F.q rfl rfl rfl (wanted_none rfl) (r_pick rfl rfl g170) ?_
              refine F.q rfl rfl rfl (wanted_none rfl) (r_move rfl) ?_
              iterate 3 refine F.sk rfl rfl rfl (wf rfl rfl rfl g173) ?_
              refine F.q rfl rfl rfl (wanted_none rfl) (r_pickf rfl rfl g173) ?_
              refine F.q rfl rfl rfl (wanted_none rfl) (r_move rfl) ?_
              iterate 3 refine F.sk rfl rfl rfl (wf rfl rfl rfl rfl) ?_
              refine F.q rfl rfl rfl (wanted_none rfl) (r_pickf rfl rfl rfl) ?_
              refine F.q rfl rfl rfl (wanted_none rfl) (r_move rfl) ?_
              iterate 3 refine F.sk rfl rfl rfl (wf rfl rfl rfl rfl) ?_
              refine F.q rfl rfl rfl (wanted_none rfl) (r_pickf rfl rfl rfl) ?_
              refine F.q rfl rfl rfl (wanted_none rfl) (r_move rfl) ?_
              iterate 3 refine F.sk rfl rfl rfl (wf rfl rfl rfl rfl) ?_
              refine F.q rfl rfl rfl (wanted_none rfl) (r_pickf rfl rfl rfl) ?_
              refine F.q rfl rfl rfl (wanted_none rfl) (r_assign rfl) ?_
              refine F.nil ?_
              cases hE_3
              refine Nrm.only [2] rfl ?_
              refine Nrm.pick [] rfl rfl ?_
              exact hj_3 _ _ ⟨rfl, rfl⟩
            ·replace hE_3 := if_ff g170 hE_3
             refine Tri.reg (l := [0, 1, 2, 3, 4, 5, 6, 7, 8, 9, 10, 11, 12, 13, 14, 15, 16, 17, 18, 19, 20, 21, 22, 23, 24, 25, 26, 27, 28, 29, 30, 31, 32, 33, 34, 35, 36, 37, 38, 39]) rfl ?_
             refine F.q rfl rfl rfl (wanted_none rfl) (r_move rfl) ?_
             refine F.q rfl rfl rfl (wanted_none rfl) (r_move rfl) ?_
             refine F.q rfl rfl rfl (wg rfl rfl rfl g155) (r_move rfl) ?_
             refine F.q rfl rfl rfl (wanted_none rfl) (r_pick rfl rfl g155) ?_
             refine F.q rfl rfl rfl (wanted_none rfl) (r_move rfl) ?_
             refine F.q rfl rfl rfl (wg rfl rfl rfl g158) (r_move rfl) ?_
             refine F.q rfl rfl rfl (wanted_none rfl) (r_pick rfl rfl g158) ?_
             refine F.q rfl rfl rfl (wanted_none rfl) (r_move rfl) ?_
             refine F.q rfl rfl rfl (wg rfl rfl rfl g161) (r_move rfl) ?_
             refine F.q rfl rfl rfl (wanted_none rfl) (r_pick rfl rfl g161) ?_
             refine F.q rfl rfl rfl (wanted_none rfl) (r_move rfl) ?_
             refine F.q rfl rfl rfl (wg rfl rfl rfl g164) (r_move rfl) ?_
             refine F.q rfl rfl rfl (wanted_none rfl) (r_pick rfl rfl g164) ?_
             refine F.q rfl rfl rfl (wanted_none rfl) (r_move rfl) ?_
             refine F.q rfl rfl rfl (wg rfl rfl rfl g167) (r_move rfl) ?_
             refine F.q rfl rfl rfl (wanted_none rfl) (r_pick rfl rfl g167) ?_
             refine F.q rfl rfl rfl (wanted_none rfl) (r_move rfl) ?_
             refine F.sk rfl rfl rfl (wf rfl rfl rfl g170) ?_
             refine F.q rfl rfl rfl (wanted_none rfl) (r_pickf rfl rfl g170) ?_
             refine F.q rfl rfl rfl (wanted_none rfl) (r_move rfl) ?_
             iterate 3 refine F.sk rfl rfl rfl (wf rfl rfl rfl rfl) ?_
             refine F.q rfl rfl rfl (wanted_none rfl) (r_pickf rfl rfl rfl) ?_
             refine F.q rfl rfl rfl (wanted_none rfl) (r_move rfl) ?_
             iterate 3 refine F.sk rfl rfl rfl (wf rfl rfl rfl rfl) ?_
             refine F.q rfl rfl rfl (wanted_none rfl) (r_pickf rfl rfl rfl) ?_
             refine F.q rfl rfl rfl (wanted_none rfl) (r_move rfl) ?_
             iterate 3 refine F.sk rfl rfl rfl (wf rfl rfl rfl rfl) ?_
             refine F.q rfl rfl rfl (wanted_none rfl) (r_pickf rfl rfl rfl) ?_
             refine F.q rfl rfl rfl (wanted_none rfl) (r_move rfl) ?_
             iterate 3 refine F.sk rfl rfl rfl (wf rfl rfl rfl rfl) ?_
             refine F.q rfl rfl rfl (wanted_none rfl) (r_pickf rfl rfl rfl) ?_
             refine F.q rfl rfl rfl (wanted_none rfl) (r_assign rfl) ?_
             refine F.nil ?_
             cases hE_3
             refine Nrm.only [2] rfl ?_
             refine Nrm.pick [] rfl rfl ?_
             exact hj_3 _ _ ⟨rfl, rfl⟩
           ·replace hE_3 := if_ff g167 hE_3
            refine Tri.reg (l := [0, 1, 2, 3, 4, 5, 6, 7, 8, 9, 10, 11, 12, 13, 14, 15, 16, 17, 18, 19, 20, 21, 22, 23, 24, 25, 26, 27, 28, 29, 30, 31, 32, 33, 34, 35, 36, 37, 38, 39]) rfl ?_
            refine F.q rfl rfl rfl (wanted_none rfl) (r_move rfl) ?_
            refine F.q rfl rfl rfl (wanted_none rfl) (r_move rfl) ?_
            refine F.q rfl rfl rfl (wg rfl rfl rfl g155) (r_move rfl) ?_
            refine F.q rfl rfl rfl (wanted_none rfl) (r_pick rfl rfl g155) ?_
            refine F.q rfl rfl rfl (wanted_none rfl) (r_move rfl) ?_
            refine F.q rfl rfl rfl (wg rfl rfl rfl g158) (r_move rfl) ?_
            refine F.q rfl rfl rfl (wanted_none rfl) (r_pick rfl rfl g158) ?_
            refine F.q rfl rfl rfl (wanted_none rfl) (r_move rfl) ?_
            refine F.q rfl rfl rfl (wg rfl rfl rfl g161) (r_move rfl) ?_
            refine F.q rfl rfl rfl (wanted_none rfl) (r_pick rfl rfl g161) ?_
            refine F.q rfl rfl rfl (wanted_none rfl) (r_move rfl) ?_
            refine F.q rfl rfl rfl (wg rfl rfl rfl g164) (r_move rfl) ?_
            refine F.q rfl rfl rfl (wanted_none rfl) (r_pick rfl rfl g164) ?_
            refine F.q rfl rfl rfl (wanted_none rfl) (r_move rfl) ?_
            refine F.sk rfl rfl rfl (wf rfl rfl rfl g167) ?_
            refine F.q rfl rfl rfl (wanted_none rfl) (r_pickf rfl rfl g167) ?_
            refine F.q rfl rfl rfl (wanted_none rfl) (r_move rfl) ?_
            refine F.sk rfl rfl rfl (wf rfl rfl rfl rfl) ?_
            refine F.q rfl rfl rfl (wanted_none rfl) (r_pickf rfl rfl rfl) ?_
            refine F.q rfl rfl rfl (wanted_none rfl) (r_move rfl) ?_
            iterate 3 refine F.sk rfl rfl rfl (wf rfl rfl rfl rfl) ?_
            refine F.q rfl rfl rfl (wanted_none rfl) (r_pickf rfl rfl rfl) ?_
            refine F.q rfl rfl rfl (wanted_none rfl) (r_move rfl) ?_
            iterate 3 refine F.sk rfl rfl rfl (wf rfl rfl rfl rfl) ?_
            refine F.q rfl rfl rfl (wanted_none rfl) (r_pickf rfl rfl rfl) ?_
            refine F.q rfl rfl rfl (wanted_none rfl) (r_move rfl) ?_
            iterate 3 refine F.sk rfl rfl rfl (wf rfl rfl rfl rfl) ?_
            refine F.q rfl rfl rfl (wanted_none rfl) (r_pickf rfl rfl rfl) ?_
            refine F.q rfl rfl rfl (wanted_none rfl) (r_move rfl) ?_
            iterate 3 refine F.sk rfl rfl rfl (wf rfl rfl rfl rfl) ?_
            refine F.q rfl rfl rfl (wanted_none rfl) (r_pickf rfl rfl rfl) ?_
            refine F.q rfl rfl rfl (wanted_none rfl) (r_assign rfl) ?_
            refine F.nil ?_
            cases hE_3
            refine Nrm.only [2] rfl ?_
            refine Nrm.pick [] rfl rfl ?_
            exact hj_3 _ _ ⟨rfl, rfl⟩
          ·replace hE_3 := if_ff g164 hE_3
           refine Tri.reg (l := [0, 1, 2, 3, 4, 5, 6, 7, 8, 9, 10, 11, 12, 13, 14, 15, 16, 17, 18, 19, 20, 21, 22, 23, 24, 25, 26, 27, 28, 29, 30, 31, 32, 33, 34, 35, 36, 37, 38, 39]) rfl ?_
           refine F.q rfl rfl rfl (wanted_none rfl) (r_move rfl) ?_
           refine F.q rfl rfl rfl (wanted_none rfl) (r_move rfl) ?_
           refine F.q rfl rfl rfl (wg rfl rfl rfl g155) (r_move rfl) ?_
           refine F.q rfl rfl rfl (wanted_none rfl) (r_pick rfl rfl g155) ?_
           refine F.q rfl rfl rfl (wanted_none rfl) (r_move rfl) ?_
           refine F.q rfl rfl rfl (wg rfl rfl rfl g158) (r_move rfl) ?_
           refine F.q rfl rfl rfl (wanted_none rfl) (r_pick rfl rfl g158) ?_
           refine F.q rfl rfl rfl (wanted_none rfl) (r_move rfl) ?_
           refine F.q rfl rfl rfl (wg rfl rfl rfl g161) (r_move rfl) ?_
           refine F.q rfl rfl rfl (wanted_none rfl) (r_pick rfl rfl g161) ?_
           refine F.q rfl rfl rfl (wanted_none rfl) (r_move rfl) ?_
           refine F.sk rfl rfl rfl (wf rfl rfl rfl g164) ?_
           refine F.q rfl rfl rfl (wanted_none rfl) (r_pickf rfl rfl g164) ?_
           refine F.q rfl rfl rfl (wanted_none rfl) (r_move rfl) ?_
           refine F.sk rfl rfl rfl (wf rfl rfl rfl rfl) ?_
           refine F.q rfl rfl rfl (wanted_none rfl) (r_pickf rfl rfl rfl) ?_
           refine F.q rfl rfl rfl (wanted_none rfl) (r_move rfl) ?_
           refine F.sk rfl rfl rfl (wf rfl rfl rfl rfl) ?_
           refine F.q rfl rfl rfl (wanted_none rfl) (r_pickf rfl rfl rfl) ?_
           refine F.q rfl rfl rfl (wanted_none rfl) (r_move rfl) ?_
           iterate 3 refine F.sk rfl rfl rfl (wf rfl rfl rfl rfl) ?_
           refine F.q rfl rfl rfl (wanted_none rfl) (r_pickf rfl rfl rfl) ?_
           refine F.q rfl rfl rfl (wanted_none rfl) (r_move rfl) ?_
           iterate 3 refine F.sk rfl rfl rfl (wf rfl rfl rfl rfl) ?_
           refine F.q rfl rfl rfl (wanted_none rfl) (r_pickf rfl rfl rfl) ?_
           refine F.q rfl rfl rfl (wanted_none rfl) (r_move rfl) ?_
           iterate 3 refine F.sk rfl rfl rfl (wf rfl rfl rfl rfl) ?_
           refine F.q rfl rfl rfl (wanted_none rfl) (r_pickf rfl rfl rfl) ?_
           refine F.q rfl rfl rfl (wanted_none rfl) (r_move rfl) ?_
           iterate 3 refine F.sk rfl rfl rfl (wf rfl rfl rfl rfl) ?_
           refine F.q rfl rfl rfl (wanted_none rfl) (r_pickf rfl rfl rfl) ?_
           refine F.q rfl rfl rfl (wanted_none rfl) (r_assign rfl) ?_
           refine F.nil ?_
           cases hE_3
           refine Nrm.only [2] rfl ?_
           refine Nrm.pick [] rfl rfl ?_
           exact hj_3 _ _ ⟨rfl, rfl⟩
         ·replace hE_3 := if_ff g161 hE_3
          refine Tri.reg (l := [0, 1, 2, 3, 4, 5, 6, 7, 8, 9, 10, 11, 12, 13, 14, 15, 16, 17, 18, 19, 20, 21, 22, 23, 24, 25, 26, 27, 28, 29, 30, 31, 32, 33, 34, 35, 36, 37, 38, 39]) rfl ?_
          refine F.q rfl rfl rfl (wanted_none rfl) (r_move rfl) ?_
          refine F.q rfl rfl rfl (wanted_none rfl) (r_move rfl) ?_
          refine F.q rfl rfl rfl (wg rfl rfl rfl g155) (r_move rfl) ?_
          refine F.q rfl rfl rfl (wanted_none rfl) (r_pick rfl rfl g155) ?_
          refine F.q rfl rfl rfl (wanted_none rfl) (r_move rfl) ?_
          refine F.q rfl rfl rfl (wg rfl rfl rfl g158) (r_move rfl) ?_
          refine F.q rfl rfl rfl (wanted_none rfl) (r_pick rfl rfl g158) ?_
          refine F.q rfl rfl rfl (wanted_none rfl) (r_move rfl) ?_
          refine F.sk rfl rfl rfl (wf rfl rfl rfl g161) ?_
          refine F.q rfl rfl rfl (wanted_none rfl) (r_pickf rfl rfl g161) ?_
          refine F.q rfl rfl rfl (wanted_none rfl) (r_move rfl) ?_
          refine F.sk rfl rfl rfl (wf rfl rfl rfl rfl) ?_
          refine F.q rfl rfl rfl (wanted_none rfl) (r_pickf rfl rfl rfl) ?_
          refine F.q rfl rfl rfl (wanted_none rfl) (r_move rfl) ?_
          refine F.sk rfl rfl rfl (wf rfl rfl rfl rfl) ?_
          refine F.q rfl rfl rfl (wanted_none rfl) (r_pickf rfl rfl rfl) ?_
          refine F.q rfl rfl rfl (wanted_none rfl) (r_move rfl) ?_
          refine F.sk rfl rfl rfl (wf rfl rfl rfl rfl) ?_
          refine F.q rfl rfl rfl (wanted_none rfl) (r_pickf rfl rfl rfl) ?_
          refine F.q rfl rfl rfl (wanted_none rfl) (r_move rfl) ?_
          iterate 3 refine F.sk rfl rfl rfl (wf rfl rfl rfl rfl) ?_
          refine F.q rfl rfl rfl (wanted_none rfl) (r_pickf rfl rfl rfl) ?_
          refine F.q rfl rfl rfl (wanted_none rfl) (r_move rfl) ?_
          iterate 3 refine F.sk rfl rfl rfl (wf rfl rfl rfl rfl) ?_
          refine F.q rfl rfl rfl (wanted_none rfl) (r_pickf rfl rfl rfl) ?_
          refine F.q rfl rfl rfl (wanted_none rfl) (r_move rfl) ?_
          iterate 3 refine F.sk rfl rfl rfl (wf rfl rfl rfl rfl) ?_
          refine F.q rfl rfl rfl (wanted_none rfl) (r_pickf rfl rfl rfl) ?_
          refine F.q rfl rfl rfl (wanted_none rfl) (r_move rfl) ?_
          iterate 3 refine F.sk rfl rfl rfl (wf rfl rfl rfl rfl) ?_
          refine F.q rfl rfl rfl (wanted_none rfl) (r_pickf rfl rfl rfl) ?_
          refine F.q rfl rfl rfl (wanted_none rfl) (r_assign rfl) ?_
          refine F.nil ?_
          cases hE_3
          refine Nrm.only [2] rfl ?_
          refine Nrm.pick [] rfl rfl ?_
          exact hj_3 _ _ ⟨rfl, rfl⟩
        ·replace hE_3 := if_ff g158 hE_3
         refine Tri.reg (l := [0, 1, 2, 3, 4, 5, 6, 7, 8, 9, 10, 11, 12, 13, 14, 15, 16, 17, 18, 19, 20, 21, 22, 23, 24, 25, 26, 27, 28, 29, 30, 31, 32, 33, 34, 35, 36, 37, 38, 39]) rfl ?_
         refine F.q rfl rfl rfl (wanted_none rfl) (r_move rfl) ?_
         refine F.q rfl rfl rfl (wanted_none rfl) (r_move rfl) ?_
         refine F.q rfl rfl rfl (wg rfl rfl rfl g155) (r_move rfl) ?_
         refine F.q rfl rfl rfl (wanted_none rfl) (r_pick rfl rfl g155) ?_
         refine F.q rfl rfl rfl (wanted_none rfl) (r_move rfl) ?_
         refine F.sk rfl rfl rfl (wf rfl rfl rfl g158) ?_
         refine F.q rfl rfl rfl (wanted_none rfl) (r_pickf rfl rfl g158) ?_
         refine F.q rfl rfl rfl (wanted_none rfl) (r_move rfl) ?_
         refine F.sk rfl rfl rfl (wf rfl rfl rfl rfl) ?_
         refine F.q rfl rfl rfl (wanted_none rfl) (r_pickf rfl rfl rfl) ?_
         refine F.q rfl rfl rfl (wanted_none rfl) (r_move rfl) ?_
         refine F.sk rfl rfl rfl (wf rfl rfl rfl rfl) ?_
         refine F.q rfl rfl rfl (wanted_none rfl) (r_pickf rfl rfl rfl) ?_
         refine F.q rfl rfl rfl (wanted_none rfl) (r_move rfl) ?_
         refine F.sk rfl rfl rfl (wf rfl rfl rfl rfl) ?_
         refine F.q rfl rfl rfl (wanted_none rfl) (r_pickf rfl rfl rfl) ?_
         refine F.q rfl rfl rfl (wanted_none rfl) (r_move rfl) ?_
         refine F.sk rfl rfl rfl (wf rfl rfl rfl rfl) ?_
         refine F.q rfl rfl rfl (wanted_none rfl) (r_pickf rfl rfl rfl) ?_
         refine F.q rfl rfl rfl (wanted_none rfl) (r_move rfl) ?_
         iterate 3 refine F.sk rfl rfl rfl (wf rfl rfl rfl rfl) ?_
         refine F.q rfl rfl rfl (wanted_none rfl) (r_pickf rfl rfl rfl) ?_
         refine F.q rfl rfl rfl (wanted_none rfl) (r_move rfl) ?_
         iterate 3 refine F.sk rfl rfl rfl (wf rfl rfl rfl rfl) ?_
         refine F.q rfl rfl rfl (wanted_none rfl) (r_pickf rfl rfl rfl) ?_
         refine F.q rfl rfl rfl (wanted_none rfl) (r_move rfl) ?_
         iterate 3 refine F.sk rfl rfl rfl (wf rfl rfl rfl rfl) ?_
         refine F.q rfl rfl rfl (wanted_none rfl) (r_pickf rfl rfl rfl) ?_
         refine F.q rfl rfl rfl (wanted_none rfl) (r_move rfl) ?_
         iterate 3 refine F.sk rfl rfl rfl (wf rfl rfl rfl rfl) ?_
         refine F.q rfl rfl rfl (wanted_none rfl) (r_pickf rfl rfl rfl) ?_
         refine F.q rfl rfl rfl (wanted_none rfl) (r_assign rfl) ?_
         refine F.nil ?_
         cases hE_3
         refine Nrm.only [2] rfl ?_
         refine Nrm.pick [] rfl rfl ?_
         exact hj_3 _ _ ⟨rfl, rfl⟩
       ·replace hE_3 := if_ff g155 hE_3
        refine Tri.reg (l := [0, 1, 2, 3, 4, 5, 6, 7, 8, 9, 10, 11, 12, 13, 14, 15, 16, 17, 18, 19, 20, 21, 22, 23, 24, 25, 26, 27, 28, 29, 30, 31, 32, 33, 34, 35, 36, 37, 38, 39]) rfl ?_
        refine F.q rfl rfl rfl (wanted_none rfl) (r_move rfl) ?_
        refine F.q rfl rfl rfl (wanted_none rfl) (r_move rfl) ?_
        refine F.sk rfl rfl rfl (wf rfl rfl rfl g155) ?_
        refine F.q rfl rfl rfl (wanted_none rfl) (r_pickf rfl rfl g155) ?_
        refine F.q rfl rfl rfl (wanted_none rfl) (r_move rfl) ?_
        refine F.sk rfl rfl rfl (wf rfl rfl rfl rfl) ?_
        refine F.q rfl rfl rfl (wanted_none rfl) (r_pickf rfl rfl rfl) ?_
        refine F.q rfl rfl rfl (wanted_none rfl) (r_move rfl) ?_
        refine F.sk rfl rfl rfl (wf rfl rfl rfl rfl) ?_
        refine F.q rfl rfl rfl (wanted_none rfl) (r_pickf rfl rfl rfl) ?_
        refine F.q rfl rfl rfl (wanted_none rfl) (r_move rfl) ?_
        refine F.sk rfl rfl rfl (wf rfl rfl rfl rfl) ?_
        refine F.q rfl rfl rfl (wanted_none rfl) (r_pickf rfl rfl rfl) ?_
        refine F.q rfl rfl rfl (wanted_none rfl) (r_move rfl) ?_
        refine F.sk rfl rfl rfl (wf rfl rfl rfl rfl) ?_
        refine F.q rfl rfl rfl (wanted_none rfl) (r_pickf rfl rfl rfl) ?_
        refine F.q rfl rfl rfl (wanted_none rfl) (r_move rfl) ?_
        refine F.sk rfl rfl rfl (wf rfl rfl rfl rfl) ?_
        refine F.q rfl rfl rfl (wanted_none rfl) (r_pickf rfl rfl rfl) ?_
        refine F.q rfl rfl rfl (wanted_none rfl) (r_move rfl) ?_
        iterate 3 refine F.sk rfl rfl rfl (wf rfl rfl rfl rfl) ?_
        refine F.q rfl rfl rfl (wanted_none rfl) (r_pickf rfl rfl rfl) ?_
        refine F.q rfl rfl rfl (wanted_none rfl) (r_move rfl) ?_
        iterate 3 refine F.sk rfl rfl rfl (wf rfl rfl rfl rfl) ?_
        refine F.q rfl rfl rfl (wanted_none rfl) (r_pickf rfl rfl rfl) ?_
        refine F.q rfl rfl rfl (wanted_none rfl) (r_move rfl) ?_
        iterate 3 refine F.sk rfl rfl rfl (wf rfl rfl rfl rfl) ?_
        refine F.q rfl rfl rfl (wanted_none rfl) (r_pickf rfl rfl rfl) ?_
        refine F.q rfl rfl rfl (wanted_none rfl) (r_move rfl) ?_
        iterate 3 refine F.sk rfl rfl rfl (wf rfl rfl rfl rfl) ?_
        refine F.q rfl rfl rfl (wanted_none rfl) (r_pickf rfl rfl rfl) ?_
        refine F.q rfl rfl rfl (wanted_none rfl) (r_assign rfl) ?_
        refine F.nil ?_
        cases hE_3
        refine Nrm.only [2] rfl ?_
        refine Nrm.pick [] rfl rfl ?_
        exact hj_3 _ _ ⟨rfl, rfl⟩
     ·obtain ⟨hm106, hE_2⟩ := ck hE_2
      refine Tri.drawT mixedT Sep.up [0, 1, 2, 3, 4, 5, 6, 7, 8] [9] (.q 0 (.q 1 (.q 2 (.q 3 (.q 4 (.q 5 (.alt 6 (.alt 7 (.alt 8 .nil .stop) (.alt 8 (.alt 7 .nil .stop) .stop)) (.alt 8 (.alt 6 (.alt 7 .nil .stop) .stop) .stop)))))))) (by kernel_rfl) ?_
      refine T.q rfl rfl rfl (wanted_none rfl) (r_fieldAddr tf27_0 rfl) ?_
      refine T.q rfl rfl rfl (wanted_none rfl) (r_load ta3 rfl (fun w hw => cell_1 (box_cells (i := 0) rfl w hw) rfl)) ?_
      refine T.q rfl rfl rfl (wanted_none rfl) (r_fieldAddr tf27_1 rfl) ?_
      refine T.q rfl rfl rfl (wanted_none rfl) (r_load ta24 rfl (fun w hw => cell_1 (box_cells (i := 0) rfl w hw) rfl)) ?_
      refine T.q rfl rfl rfl (wanted_none rfl) (r_fieldAddr tf27_0 rfl) ?_
      refine T.q rfl rfl rfl (wanted_none rfl) (r_load ta3 rfl (fun w hw => cell_1 (box_cells (i := 0) rfl w hw) rfl)) ?_
      refine T.ef rfl rfl rfl (wanted_none rfl) (Makes.does (m_make (x0 := (0 : Int)) Try.underlying25 ti3 rfl rfl rfl hm106.1 hm106.2 (by decide))) (by rintro v106_2 _ ⟨S106_2, hl_v106_2, rfl⟩; exact upd rfl [1, 2, 3, 4, 5] rfl rfl) ?_ ?_
      ·rintro v106_2 _ ⟨S106_2, hl_v106_2, rfl⟩
       refine T.ef rfl rfl rfl (wanted_none rfl) (Runs.does (r_build (pl := [(0, 1), (1, 1), (2, 1)]) (qs := [(0, [.int .i64 t36_1]), (1, [v36_1]), (2, [v106_2])]) (cs := [.int .i64 t36_1, v36_1, v106_2]) (by kernel_rfl) ti27 rfl (.cons rfl rfl (Nat.le_of_ble_eq_true rfl) (.cons (sl_cells hl_v36_1) rfl (Nat.le_of_ble_eq_true rfl) (.cons (sl_cells hl_v106_2) rfl (Nat.le_of_ble_eq_true rfl) .nil))) rfl rfl)) (by rintro _ _ ⟨rfl, rfl⟩; exact upd rfl [1, 2, 3, 4, 5] rfl rfl) ?_ ?_
       ·rintro _ _ ⟨rfl, rfl⟩
        refine T.ef rfl rfl rfl (wanted_none rfl) (Makes.does (m_alloc ti27)) (by rintro _ _ ⟨b15_3, rfl, rfl⟩; exact upd rfl [2, 3, 4, 5, 6] rfl rfl) ?_ ?_
        ·rintro _ _ ⟨b15_3, rfl, rfl⟩
         refine T.nil ?_
         refine F.ef0 rfl rfl (wanted_none rfl) (d_storeG0 (i := 0) (cs2 := [.int .i64 t36_1, v36_1, v106_2]) ti27 rfl rfl rfl rfl rfl (Nat.le_of_ble_eq_true rfl) (lf_cons rfl (lf_cons (sl_leaf hl_v36_1) (lf_cons (sl_leaf hl_v106_2) lf_nil)))) ?_
         rintro _ _ ⟨rfl, rfl⟩
         refine F.nil ?_
         cases hE_2
         refine Nrm.only [3, 4, 7, 11, 15] rfl ?_
         refine Nrm.pick [2, 0, 1, 3, 4, 5, 6] rfl rfl ?_
         exact hj_2 _ _ ⟨v106_2, S106_2, b15_3, hl_v106_2, rfl, rfl⟩
        exact T.stop
       ·refine T.ef rfl rfl rfl (wanted_none rfl) (Makes.does (m_alloc ti27)) (by rintro _ _ ⟨b15_4, rfl, rfl⟩; exact upd rfl [2, 3, 4, 5, 6] rfl rfl) ?_ ?_
        ·rintro _ _ ⟨b15_4, rfl, rfl⟩
         refine T.ef rfl rfl rfl (wanted_none rfl) (Runs.does (r_build (pl := [(0, 1), (1, 1), (2, 1)]) (qs := [(0, [.int .i64 t36_1]), (1, [v36_1]), (2, [v106_2])]) (cs := [.int .i64 t36_1, v36_1, v106_2]) (by kernel_rfl) ti27 rfl (.cons rfl rfl (Nat.le_of_ble_eq_true rfl) (.cons (sl_cells hl_v36_1) rfl (Nat.le_of_ble_eq_true rfl) (.cons (sl_cells hl_v106_2) rfl (Nat.le_of_ble_eq_true rfl) .nil))) rfl rfl)) (by rintro _ _ ⟨rfl, rfl⟩; exact upd rfl [2, 3, 4, 5, 6] rfl rfl) ?_ ?_
         ·rintro _ _ ⟨rfl, rfl⟩
          refine T.nil ?_
          refine F.ef0 rfl rfl (wanted_none rfl) (d_storeG0 (i := 0) (cs2 := [.int .i64 t36_1, v36_1, v106_2]) ti27 rfl rfl rfl rfl rfl (Nat.le_of_ble_eq_true rfl) (lf_cons rfl (lf_cons (sl_leaf hl_v36_1) (lf_cons (sl_leaf hl_v106_2) lf_nil)))) ?_
          rintro _ _ ⟨rfl, rfl⟩
          refine F.nil ?_
          cases hE_2
          refine Nrm.only [3, 4, 7, 11, 15] rfl ?_
          refine Nrm.pick [2, 0, 1, 3, 4, 5, 6] rfl rfl ?_
          exact hj_2 _ _ ⟨v106_2, S106_2, b15_4, hl_v106_2, rfl, rfl⟩
         exact T.stop
        exact T.stop
      ·refine T.ef rfl rfl rfl (wanted_none rfl) (Makes.does (m_alloc ti27)) (by rintro _ _ ⟨b15_5, rfl, rfl⟩; exact upd rfl [1, 2, 3, 4, 5] rfl rfl) ?_ ?_
       ·rintro _ _ ⟨b15_5, rfl, rfl⟩
        refine T.ef rfl rfl rfl (wanted_none rfl) (Makes.does (m_make (x0 := (0 : Int)) Try.underlying25 ti3 rfl rfl rfl hm106.1 hm106.2 (by decide))) (by rintro v106_3 _ ⟨S106_3, hl_v106_3, rfl⟩; exact upd rfl [2, 3, 4, 5, 6] rfl rfl) ?_ ?_
        ·rintro v106_3 _ ⟨S106_3, hl_v106_3, rfl⟩
         refine T.ef rfl rfl rfl (wanted_none rfl) (Runs.does (r_build (pl := [(0, 1), (1, 1), (2, 1)]) (qs := [(0, [.int .i64 t36_1]), (1, [v36_1]), (2, [v106_3])]) (cs := [.int .i64 t36_1, v36_1, v106_3]) (by kernel_rfl) ti27 rfl (.cons rfl rfl (Nat.le_of_ble_eq_true rfl) (.cons (sl_cells hl_v36_1) rfl (Nat.le_of_ble_eq_true rfl) (.cons (sl_cells hl_v106_3) rfl (Nat.le_of_ble_eq_true rfl) .nil))) rfl rfl)) (by rintro _ _ ⟨rfl, rfl⟩; exact upd rfl [2, 3, 4, 5, 6] rfl rfl) ?_ ?_
         ·rintro _ _ ⟨rfl, rfl⟩
          refine T.nil ?_
          refine F.ef0 rfl rfl (wanted_none rfl) (d_storeG0 (i := 1) (cs2 := [.int .i64 t36_1, v36_1, v106_3]) ti27 rfl rfl rfl rfl rfl (Nat.le_of_ble_eq_true rfl) (lf_cons rfl (lf_cons (sl_leaf hl_v36_1) (lf_cons (sl_leaf hl_v106_3) lf_nil)))) ?_
          rintro _ _ ⟨rfl, rfl⟩
          refine F.nil ?_
          cases hE_2
          refine Nrm.only [3, 4, 7, 11, 15] rfl ?_
          refine Nrm.pick [2, 1, 0, 3, 4, 5, 6] rfl rfl ?_
          exact hj_2 _ _ ⟨v106_3, S106_3, b15_5, hl_v106_3, rfl, rfl⟩
         exact T.stop
        exact T.stop
       exact T.stop
  ·rcases Bool.eq_false_or_eq_true (t46_2 != t54_2) with g76 | g76
   ·replace hE_1 := if_tt g76 hE_1
    refine Tri.reg (l := [0, 1, 2, 3, 4, 5, 6, 7, 8, 9, 10, 11, 12, 13, 14, 15, 16, 17, 18, 19, 20, 21, 22, 23, 24]) rfl ?_
    refine F.q rfl rfl rfl (wanted_none rfl) (r_move rfl) ?_
    refine F.q rfl rfl rfl (wanted_none rfl) (r_move rfl) ?_
    refine F.q rfl rfl rfl (wanted_none rfl) (r_neqB Try.underlying4 rfl rfl) ?_
    refine F.q rfl rfl rfl (wanted_none rfl) (r_move rfl) ?_
    iterate 4 refine F.sk rfl rfl rfl (wf rfl rfl rfl g76) ?_
    refine F.q rfl rfl rfl (wanted_none rfl) (r_pick rfl rfl g76) ?_
    refine F.q rfl rfl rfl (wanted_none rfl) (r_move rfl) ?_
    iterate 3 refine F.sk rfl rfl rfl (wf rfl rfl rfl rfl) ?_
    refine F.q rfl rfl rfl (wanted_none rfl) (r_pick rfl rfl rfl) ?_
    refine F.q rfl rfl rfl (wanted_none rfl) (r_move rfl) ?_
    iterate 4 refine F.sk rfl rfl rfl (wf rfl rfl rfl rfl) ?_
    refine F.q rfl rfl rfl (wanted_none rfl) (r_pick rfl rfl rfl) ?_
    refine F.q rfl rfl rfl (wanted_none rfl) (r_move rfl) ?_
    iterate 3 refine F.sk rfl rfl rfl (wf rfl rfl rfl rfl) ?_
    refine F.q rfl rfl rfl (wanted_none rfl) (r_pick rfl rfl rfl) ?_
    refine F.nil ?_
    cases hE_1
    refine Nrm.only [3, 4, 7, 8, 11, 97] rfl ?_
    refine Nrm.pick [4, 5, 6, 3, 1] rfl rfl ?_
    exact hj_1 _ _ ⟨rfl, rfl⟩
   ·replace hE_1 := if_ff g76 hE_1
    obtain ⟨t79, h79, hE_1⟩ := bind_some hE_1
    rcases Bool.eq_false_or_eq_true (!t79) with g82 | g82
    ·replace hE_1 := if_tt g82 hE_1
     refine Tri.reg (l := [0, 1, 2, 3, 4, 5, 6, 7, 8, 9, 10, 11, 12, 13, 14, 15, 16, 17, 18, 19, 20, 21, 22, 23, 24]) rfl ?_
     refine F.q rfl rfl rfl (wanted_none rfl) (r_move rfl) ?_
     refine F.q rfl rfl rfl (wanted_none rfl) (r_move rfl) ?_
     refine F.q rfl rfl rfl (wanted_none rfl) (r_neqB Try.underlying4 rfl rfl) ?_
     refine F.q rfl rfl rfl (wanted_none rfl) (r_move rfl) ?_
     refine F.q rfl rfl rfl (wg rfl rfl rfl g76) (r_move rfl) ?_
     refine F.q rfl rfl rfl (wg rfl rfl rfl g76) (r_move rfl) ?_
     refine F.qc rfl rfl rfl (wg rfl rfl rfl g76) (q_callF (xs := _) rfl ok20 rfl rfl (fun w hw => laws_vInts.ok h79 w ((rd_sl (i := 3) rfl) w hw) ((rd_sl (i := 2) rfl) w hw))) ?_
     refine F.q rfl rfl rfl (wg rfl rfl rfl g76) (r_not rfl) ?_
     refine F.q rfl rfl rfl (wanted_none rfl) (r_pickf rfl rfl g76) ?_
     refine F.q rfl rfl rfl (wanted_none rfl) (r_move rfl) ?_
     iterate 3 refine F.sk rfl rfl rfl (wf rfl rfl rfl g82) ?_
     refine F.q rfl rfl rfl (wanted_none rfl) (r_pick rfl rfl g82) ?_
     refine F.q rfl rfl rfl (wanted_none rfl) (r_move rfl) ?_
     iterate 4 refine F.sk rfl rfl rfl (wf rfl rfl rfl rfl) ?_
     refine F.q rfl rfl rfl (wanted_none rfl) (r_pick rfl rfl rfl) ?_
     refine F.q rfl rfl rfl (wanted_none rfl) (r_move rfl) ?_
     iterate 3 refine F.sk rfl rfl rfl (wf rfl rfl rfl rfl) ?_
     refine F.q rfl rfl rfl (wanted_none rfl) (r_pick rfl rfl rfl) ?_
     refine F.nil ?_
     cases hE_1
     refine Nrm.only [3, 4, 7, 8, 11, 97] rfl ?_
     refine Nrm.pick [4, 5, 6, 3, 1] rfl rfl ?_
     exact hj_1 _ _ ⟨rfl, rfl⟩
    ·replace hE_1 := if_ff g82 hE_1
     rcases Bool.eq_false_or_eq_true (t62_2 != t70_2) with g87 | g87
     ·replace hE_1 := if_tt g87 hE_1
      refine Tri.reg (l := [0, 1, 2, 3, 4, 5, 6, 7, 8, 9, 10, 11, 12, 13, 14, 15, 16, 17, 18, 19, 20, 21, 22, 23, 24]) rfl ?_
      refine F.q rfl rfl rfl (wanted_none rfl) (r_move rfl) ?_
      refine F.q rfl rfl rfl (wanted_none rfl) (r_move rfl) ?_
      refine F.q rfl rfl rfl (wanted_none rfl) (r_neqB Try.underlying4 rfl rfl) ?_
      refine F.q rfl rfl rfl (wanted_none rfl) (r_move rfl) ?_
      refine F.q rfl rfl rfl (wg rfl rfl rfl g76) (r_move rfl) ?_
      refine F.q rfl rfl rfl (wg rfl rfl rfl g76) (r_move rfl) ?_
      refine F.qc rfl rfl rfl (wg rfl rfl rfl g76) (q_callF (xs := _) rfl ok20 rfl rfl (fun w hw => laws_vInts.ok h79 w ((rd_sl (i := 3) rfl) w hw) ((rd_sl (i := 2) rfl) w hw))) ?_
      refine F.q rfl rfl rfl (wg rfl rfl rfl g76) (r_not rfl) ?_
      refine F.q rfl rfl rfl (wanted_none rfl) (r_pickf rfl rfl g76) ?_
      refine F.q rfl rfl rfl (wanted_none rfl) (r_move rfl) ?_
      refine F.q rfl rfl rfl (wg rfl rfl rfl g82) (r_move rfl) ?_
      refine F.q rfl rfl rfl (wg rfl rfl rfl g82) (r_move rfl) ?_
      refine F.q rfl rfl rfl (wg rfl rfl rfl g82) (r_neqB Try.underlying4 rfl rfl) ?_
      refine F.q rfl rfl rfl (wanted_none rfl) (r_pickf rfl rfl g82) ?_
      refine F.q rfl rfl rfl (wanted_none rfl) (r_move rfl) ?_
      iterate 4 refine F.sk rfl rfl rfl (wf rfl rfl rfl g87) ?_
      refine F.q rfl rfl rfl (wanted_none rfl) (r_pick rfl rfl g87) ?_
      refine F.q rfl rfl rfl (wanted_none rfl) (r_move rfl) ?_
      iterate 3 refine F.sk rfl rfl rfl (wf rfl rfl rfl rfl) ?_
      refine F.q rfl rfl rfl (wanted_none rfl) (r_pick rfl rfl rfl) ?_
      refine F.nil ?_
      cases hE_1
      refine Nrm.only [3, 4, 7, 8, 11, 97] rfl ?_
      refine Nrm.pick [4, 5, 6, 3, 1] rfl rfl ?_
      exact hj_1 _ _ ⟨rfl, rfl⟩
     ·replace hE_1 := if_ff g87 hE_1
      obtain ⟨t90, h90, hE_1⟩ := bind_some hE_1
      rcases Bool.eq_false_or_eq_true (!t90) with g93 | g93
      ·replace hE_1 := if_tt g93 hE_1
       refine Tri.reg (l := [0, 1, 2, 3, 4, 5, 6, 7, 8, 9, 10, 11, 12, 13, 14, 15, 16, 17, 18, 19, 20, 21, 22, 23, 24]) rfl ?_
       refine F.q rfl rfl rfl (wanted_none rfl) (r_move rfl) ?_
       refine F.q rfl rfl rfl (wanted_none rfl) (r_move rfl) ?_
       refine F.q rfl rfl rfl (wanted_none rfl) (r_neqB Try.underlying4 rfl rfl) ?_
       refine F.q rfl rfl rfl (wanted_none rfl) (r_move rfl) ?_
       refine F.q rfl rfl rfl (wg rfl rfl rfl g76) (r_move rfl) ?_
       refine F.q rfl rfl rfl (wg rfl rfl rfl g76) (r_move rfl) ?_
       refine F.qc rfl rfl rfl (wg rfl rfl rfl g76) (q_callF (xs := _) rfl ok20 rfl rfl (fun w hw => laws_vInts.ok h79 w ((rd_sl (i := 3) rfl) w hw) ((rd_sl (i := 2) rfl) w hw))) ?_
       refine F.q rfl rfl rfl (wg rfl rfl rfl g76) (r_not rfl) ?_
       refine F.q rfl rfl rfl (wanted_none rfl) (r_pickf rfl rfl g76) ?_
       refine F.q rfl rfl rfl (wanted_none rfl) (r_move rfl) ?_
       refine F.q rfl rfl rfl (wg rfl rfl rfl g82) (r_move rfl) ?_
       refine F.q rfl rfl rfl (wg rfl rfl rfl g82) (r_move rfl) ?_
       refine F.q rfl rfl rfl (wg rfl rfl rfl g82) (r_neqB Try.underlying4 rfl rfl) ?_
       refine F.q rfl rfl rfl (wanted_none rfl) (r_pickf rfl rfl g82) ?_
       refine F.q rfl rfl rfl (wanted_none rfl) (r_move rfl) ?_
       refine F.q rfl rfl rfl (wg rfl rfl rfl g87) (r_move rfl) ?_
       refine F.q rfl rfl rfl (wg rfl rfl rfl g87) (r_move rfl) ?_
       refine F.qc rfl rfl rfl (wg rfl rfl rfl g87) (q_callF (xs := _) rfl ok20 rfl rfl (fun w hw => laws_vInts.ok h90 w ((rd_sl (i := 1) rfl) w hw) ((rd_sl (i := 0) rfl) w hw))) ?_
       refine F.q rfl rfl rfl (wg rfl rfl rfl g87) (r_not rfl) ?_
       refine F.q rfl rfl rfl (wanted_none rfl) (r_pickf rfl rfl g87) ?_
       refine F.q rfl rfl rfl (wanted_none rfl) (r_move rfl) ?_
       iterate 3 refine F.sk rfl rfl rfl (wf rfl rfl rfl g93) ?_
       refine F.q rfl rfl rfl (wanted_none rfl) (r_pick rfl rfl g93) ?_
       refine F.nil ?_
       cases hE_1
       refine Nrm.only [3, 4, 7, 8, 11, 97] rfl ?_
       refine Nrm.pick [4, 5, 6, 3, 1] rfl rfl ?_
       exact hj_1 _ _ ⟨rfl, rfl⟩
      ·replace hE_1 := if_ff g93 hE_1
       refine Tri.reg (l := [0, 1, 2, 3, 4, 5, 6, 7, 8, 9, 10, 11, 12, 13, 14, 15, 16, 17, 18, 19, 20, 21, 22, 23, 24]) rfl ?_
       refine F.q rfl rfl rfl (wanted_none rfl) (r_move rfl) ?_
       refine F.q rfl rfl rfl (wanted_none rfl) (r_move rfl) ?_
       refine F.q rfl rfl rfl (wanted_none rfl) (r_neqB Try.underlying4 rfl rfl) ?_
       refine F.q rfl rfl rfl (wanted_none rfl) (r_move rfl) ?_
       refine F.q rfl rfl rfl (wg rfl rfl rfl g76) (r_move rfl) ?_
       refine F.q rfl rfl rfl (wg rfl rfl rfl g76) (r_move rfl) ?_
       refine F.qc rfl rfl rfl (wg rfl rfl rfl g76) (q_callF (xs := _) rfl ok20 rfl rfl (fun w hw => laws_vInts.ok h79 w ((rd_sl (i := 3) rfl) w hw) ((rd_sl (i := 2) rfl) w hw))) ?_
       refine F.q rfl rfl rfl (wg rfl rfl rfl g76) (r_not rfl) ?_
       refine F.q rfl rfl rfl (wanted_none rfl) (r_pickf rfl rfl g76) ?_
       refine F.q rfl rfl rfl (wanted_none rfl) (r_move rfl) ?_
       refine F.q rfl rfl rfl (wg rfl rfl rfl g82) (r_move rfl) ?_
       refine F.q rfl rfl rfl (wg rfl rfl rfl g82) (r_move rfl) ?_
       refine F.q rfl rfl rfl (wg rfl rfl rfl g82) (r_neqB Try.underlying4 rfl rfl) ?_
       refine F.q rfl rfl rfl (wanted_none rfl) (r_pickf rfl rfl g82) ?_
       refine F.q rfl rfl rfl (wanted_none rfl) (r_move rfl) ?_
       refine F.q rfl rfl rfl (wg rfl rfl rfl g87) (r_move rfl) ?_
       refine F.q rfl rfl rfl (wg rfl rfl rfl g87) (r_move rfl) ?_
       refine F.qc rfl rfl rfl (wg rfl rfl rfl g87) (q_callF (xs := _) rfl ok20 rfl rfl (fun w hw => laws_vInts.ok h90 w ((rd_sl (i := 1) rfl) w hw) ((rd_sl (i := 0) rfl) w hw))) ?_
       refine F.q rfl rfl rfl (wg rfl rfl rfl g87) (r_not rfl) ?_
       refine F.q rfl rfl rfl (wanted_none rfl) (r_pickf rfl rfl g87) ?_
       refine F.q rfl rfl rfl (wanted_none rfl) (r_move rfl) ?_
       refine F.q rfl rfl rfl (wg rfl rfl rfl g93) (r_move rfl) ?_
       refine F.q rfl rfl rfl (wg rfl rfl rfl g93) (r_move rfl) ?_
       refine F.q rfl rfl rfl (wg rfl rfl rfl g93) (r_neqB Try.underlying4 rfl rfl) ?_
       refine F.q rfl rfl rfl (wanted_none rfl) (r_pickf rfl rfl g93) ?_
       refine F.nil ?_
       cases hE_1
       refine Nrm.only [3, 4, 7, 8, 11, 97] rfl ?_
       refine Nrm.pick [4, 5, 6, 3, 1] rfl rfl ?_
       exact hj_1 _ _ ⟨rfl, rfl⟩

end Go.Proofs

/- loop.example/g01158/spec.l9Filling -/
namespace Go.Proofs
open Go Go.Ga
set_option linter.unusedVariables false
set_option maxRecDepth 100000
set_option maxHeartbeats 4000000
def spec_l9Filling.l0 (k : Nat) (a0_0 : Int) (a2 : List Int) : Nat → Int → Option ((Unit) ⊕ (Bool))
 | 0, _ => none
 | n + 1, x7 => (if (decide (x7 < (a2.length : Int))) = true then (rdl a2 x7).bind fun t16 => (spec_l1In.f k t16 0 (w64 (a0_0 - 1))).bind fun t21 => (if (!t21) = true then some (Sum.inr false) else spec_l9Filling.l0 k a0_0 a2 n (w64 (x7 + 1))) else some (Sum.inl ()))

def spec_l9Filling.f (k : Nat) (a0_0 : Int) (a0_1 : List (Int × Int × Int)) (a0_2 : List Int) (a1 : Int) (a2 : List Int) : Option (Bool) := (spec_l9Filling.l0 k a0_0 a2 k 0).bind fun s => Lr s some fun _ => (spec_l2Many.f k a1).bind fun t26 => some ((a2.length : Int) == t26)

end Go.Proofs

/- loop.example/g01158/spec.l9Good -/
namespace Go.Proofs
open Go Go.Ga
set_option linter.unusedVariables false
set_option maxRecDepth 100000
set_option maxHeartbeats 4000000
def spec_l9Good.f (k : Nat) (a0_0 : Int) (a0_1 : List (Int × Int × Int)) (a0_2 : List Int) (a1 : Int) (a2 : List Int) : Option (Bool) := ((spec_l9Ask.f k a0_0 a0_1 a0_2 a1).bind fun t9 => (if t9 = true then (spec_l9Filling.f k a0_0 a0_1 a0_2 a1 a2).bind fun t14 => some t14 else some false)).bind fun y6 => some y6

end Go.Proofs

/- loop.example/g01158/spec.LayKeys -/
namespace Go.Proofs
open Go Go.Ga
set_option linter.unusedVariables false
set_option maxRecDepth 100000
set_option maxHeartbeats 4000000
def spec_LayKeys.f (k : Nat) (a0_0 : Int) (a0_1 : List (Int × Int × Int)) (a0_2 : List Int) (a1 : Int) (a2 : List Int) : Option (Int × (List (Int × Int × Int)) × (List Int) × Bool) := (spec_l9Good.f k a0_0 a0_1 a0_2 a1 a2).bind fun t11 => (if (!t11) = true then some (0, [], [], false) else (spec_l2Colours.f k a1).bind fun t16 => (spec_l9Lay.f k a0_0 a0_1 a0_2 t16 a2).bind fun (t18_1, t18_2, t18_3) => some (t18_1, t18_2, t18_3, true))

end Go.Proofs
