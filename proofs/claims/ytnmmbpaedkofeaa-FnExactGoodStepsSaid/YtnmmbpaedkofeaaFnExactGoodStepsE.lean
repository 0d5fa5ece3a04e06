/- A part of the proof of FnExactGoodSteps: what the functions of the program compute, walked on the model. No condition. -/
import Derived.Test.YtnmmbpaedkofeaaFnExactGoodStepsD
/- cmp.Compare[int] -/
namespace Go.Proofs
open Go Go.Ga
set_option linter.unusedVariables false
set_option maxRecDepth 100000
set_option maxHeartbeats 4000000
def cmp_Compare_int.f (k : Nat) (a0 : Int) (a1 : Int) : Option (Int) := (cmp_isNaN_int.f k a0).bind fun t8 => (cmp_isNaN_int.f k a1).bind fun t10 => (if t8 = true then (if t10 = true then some 0 else some (-1)) else (if t10 = true then some 1 else (if (decide (a0 < a1)) = true then some (-1) else (if (decide (a0 > a1)) = true then some 1 else some 0))))

theorem cmp_Compare_int.ok {k : Nat}  {a0 : Int} {a1 : Int} {r0 : Int} (h : cmp_Compare_int.f k a0 a1 = some r0) (w : World) :
    Calls Try.prog 172 ([.int .i64 a0, .int .i64 a1] : List Value).toArray w (fun e w' => e = .returned (.int .i64 r0) ∧ Ext w w') := by
  unfold cmp_Compare_int.f at h
  refine Calls.of_tri (N := 20) Try.func172 rfl rfl rfl (Sep.nil (M := noM)) ?_
  refine Tri.seq ?_
  refine Tri.reg (l := [0]) rfl ?_
  refine F.q rfl rfl rfl (wanted_none rfl) (r_assign rfl) ?_
  refine F.nil ?_
  refine Nrm.seq ?_
  refine Tri.seq ?_
  obtain ⟨t8, h8, h⟩ := bind_some h
  refine Tri.reg (l := [0, 1, 2]) rfl ?_
  refine F.q rfl rfl rfl (wanted_none rfl) (r_move rfl) ?_
  refine F.qc rfl rfl rfl (wanted_none rfl) (q_callF (xs := _) rfl ok166 rfl rfl (fun w hw => cmp_isNaN_int.ok h8 w )) ?_
  refine F.q rfl rfl rfl (wanted_none rfl) (r_assign rfl) ?_
  refine F.nil ?_
  refine Nrm.seq ?_
  refine Tri.seq ?_
  obtain ⟨t10, h10, h⟩ := bind_some h
  refine Tri.reg (l := [0, 1, 2]) rfl ?_
  refine F.q rfl rfl rfl (wanted_none rfl) (r_move rfl) ?_
  refine F.qc rfl rfl rfl (wanted_none rfl) (q_callF (xs := _) rfl ok166 rfl rfl (fun w hw => cmp_isNaN_int.ok h10 w )) ?_
  refine F.q rfl rfl rfl (wanted_none rfl) (r_assign rfl) ?_
  refine F.nil ?_
  refine Nrm.seq ?_
  refine Tri.seq ?_
  refine Tri.seq ?_
  refine Tri.reg (l := [0]) rfl ?_
  refine F.q rfl rfl rfl (wanted_none rfl) (r_move rfl) ?_
  refine F.nil ?_
  refine Nrm.seq ?_
  refine Tri.cond (b := t8) rfl (fun g_1 => ?_) (fun g_1 => ?_)
  · replace h := if_tt g_1 h
    refine Tri.seq ?_
    refine Tri.seq ?_
    refine Tri.reg (l := [0]) rfl ?_
    refine F.q rfl rfl rfl (wanted_none rfl) (r_move rfl) ?_
    refine F.nil ?_
    refine Nrm.seq ?_
    refine Tri.cond (b := t10) rfl (fun g_2 => ?_) (fun g_2 => ?_)
    · replace h := if_tt g_2 h
      refine Tri.seq ?_
      refine Tri.reg (l := [0]) rfl ?_
      refine F.q rfl rfl rfl (wanted_none rfl) (r_assign rfl) ?_
      refine F.nil ?_
      refine Nrm.seq ?_
      refine Tri.ret ?_
      refine Rtn.then ?_
      refine Rtn.then ?_
      cases h
      exact Rtn.body (.tmp rfl .nil) (fun w hw => ⟨rfl, hw.ext⟩)
    · replace h := if_ff g_2 h
      refine Tri.skip ?_
      refine Nrm.seq ?_
      refine Tri.seq ?_
      refine Tri.reg (l := [0]) rfl ?_
      refine F.q rfl rfl rfl (wanted_none rfl) (r_assign rfl) ?_
      refine F.nil ?_
      refine Nrm.seq ?_
      refine Tri.ret ?_
      refine Rtn.then ?_
      cases h
      exact Rtn.body (.tmp rfl .nil) (fun w hw => ⟨rfl, hw.ext⟩)
  · replace h := if_ff g_1 h
    refine Tri.skip ?_
    refine Nrm.seq ?_
    refine Tri.seq ?_
    refine Tri.seq ?_
    refine Tri.reg (l := [0]) rfl ?_
    refine F.q rfl rfl rfl (wanted_none rfl) (r_move rfl) ?_
    refine F.nil ?_
    refine Nrm.seq ?_
    refine Tri.cond (b := t10) rfl (fun g_3 => ?_) (fun g_3 => ?_)
    · replace h := if_tt g_3 h
      refine Tri.seq ?_
      refine Tri.reg (l := [0]) rfl ?_
      refine F.q rfl rfl rfl (wanted_none rfl) (r_assign rfl) ?_
      refine F.nil ?_
      refine Nrm.seq ?_
      refine Tri.ret ?_
      refine Rtn.then ?_
      cases h
      exact Rtn.body (.tmp rfl .nil) (fun w hw => ⟨rfl, hw.ext⟩)
    · replace h := if_ff g_3 h
      refine Tri.skip ?_
      refine Nrm.seq ?_
      refine Tri.seq ?_
      refine Tri.seq ?_
      refine Tri.reg (l := [0, 1, 2]) rfl ?_
      refine F.q rfl rfl rfl (wanted_none rfl) (r_move rfl) ?_
      refine F.q rfl rfl rfl (wanted_none rfl) (r_move rfl) ?_
      refine F.q rfl rfl rfl (wanted_none rfl) (r_lss rfl rfl) ?_
      refine F.nil ?_
      refine Nrm.seq ?_
      refine Tri.cond (b := decide (a0 < a1)) rfl (fun g_4 => ?_) (fun g_4 => ?_)
      · replace h := if_tt g_4 h
        refine Tri.seq ?_
        refine Tri.reg (l := [0]) rfl ?_
        refine F.q rfl rfl rfl (wanted_none rfl) (r_assign rfl) ?_
        refine F.nil ?_
        refine Nrm.seq ?_
        refine Tri.ret ?_
        refine Rtn.then ?_
        cases h
        exact Rtn.body (.tmp rfl .nil) (fun w hw => ⟨rfl, hw.ext⟩)
      · replace h := if_ff g_4 h
        refine Tri.skip ?_
        refine Nrm.seq ?_
        refine Tri.seq ?_
        refine Tri.seq ?_
        refine Tri.reg (l := [0, 1, 2]) rfl ?_
        refine F.q rfl rfl rfl (wanted_none rfl) (r_move rfl) ?_
        refine F.q rfl rfl rfl (wanted_none rfl) (r_move rfl) ?_
        refine F.q rfl rfl rfl (wanted_none rfl) (r_gtr rfl rfl) ?_
        refine F.nil ?_
        refine Nrm.seq ?_
        refine Tri.cond (b := decide (a0 > a1)) rfl (fun g_5 => ?_) (fun g_5 => ?_)
        · replace h := if_tt g_5 h
          refine Tri.seq ?_
          refine Tri.reg (l := [0]) rfl ?_
          refine F.q rfl rfl rfl (wanted_none rfl) (r_assign rfl) ?_
          refine F.nil ?_
          refine Nrm.seq ?_
          refine Tri.ret ?_
          refine Rtn.then ?_
          cases h
          exact Rtn.body (.tmp rfl .nil) (fun w hw => ⟨rfl, hw.ext⟩)
        · replace h := if_ff g_5 h
          refine Tri.skip ?_
          refine Nrm.seq ?_
          refine Tri.seq ?_
          refine Tri.reg (l := [0]) rfl ?_
          refine F.q rfl rfl rfl (wanted_none rfl) (r_assign rfl) ?_
          refine F.nil ?_
          refine Nrm.seq ?_
          refine Tri.ret ?_
          cases h
          exact Rtn.body (.tmp rfl .nil) (fun w hw => ⟨rfl, hw.ext⟩)

end Go.Proofs

/- loop.example/g01158/impl.compareDoors -/
namespace Go.Proofs
open Go Go.Ga
set_option linter.unusedVariables false
set_option maxRecDepth 100000
set_option maxHeartbeats 4000000
def impl_compareDoors.f (k : Nat) (a0_0 : Int) (a0_1 : Int) (a0_2 : Int) (a1_0 : Int) (a1_1 : Int) (a1_2 : Int) : Option (Int) := (cmp_Compare_int.f k a0_0 a1_0).bind fun t9 => (cmp_Compare_int.f k a0_1 a1_1).bind fun t14 => (cmp_Compare_int.f k a0_2 a1_2).bind fun t19 => (cmp_Or_int.f k ([t9, t14, t19] : List (Int))).bind fun t21 => some t21

theorem impl_compareDoors.ok {k : Nat}  {a0_0 : Int} {a0_1 : Int} {a0_2 : Int} {a1_0 : Int} {a1_1 : Int} {a1_2 : Int} {r0 : Int} (h : impl_compareDoors.f k a0_0 a0_1 a0_2 a1_0 a1_1 a1_2 = some r0) (w : World) :
    Calls Try.prog 159 ([.agg ([.int .i64 a0_0, .int .i64 a0_1, .int .i64 a0_2].toArray), .agg ([.int .i64 a1_0, .int .i64 a1_1, .int .i64 a1_2].toArray)] : List Value).toArray w (fun e w' => e = .returned (.int .i64 r0) ∧ Ext w w') := by
  unfold impl_compareDoors.f at h
  refine Calls.of_tri (N := 22) Try.func159 rfl rfl rfl (Sep.nil (M := noM)) ?_
  refine Tri.seq ?_
  refine Tri.reg (l := [0, 1, 2]) rfl ?_
  refine F.m rfl rfl rfl (wanted_none rfl) (m_boxG rfl rfl) ?_
  rintro _ _ ⟨b2_1, rfl, rfl⟩
  refine F.m rfl rfl rfl (wanted_none rfl) (m_boxG rfl rfl) ?_
  rintro _ _ ⟨b3_1, rfl, rfl⟩
  refine F.q rfl rfl rfl (wanted_none rfl) (r_assign rfl) ?_
  refine F.nil ?_
  refine Nrm.seq ?_
  refine Tri.seq ?_
  obtain ⟨t9, h9, h⟩ := bind_some h
  obtain ⟨t14, h14, h⟩ := bind_some h
  obtain ⟨t19, h19, h⟩ := bind_some h
  obtain ⟨t21, h21, h⟩ := bind_some h
  refine Tri.drawA mixedT Sep.up [(0, true), (1, true), (2, true), (3, true), (4, true), (5, true), (6, true), (7, true), (8, true), (9, true), (10, true), (11, true), (12, true), (13, true), (14, true), (15, false), (16, true), (17, true)] [] (by kernel_rfl) ?_
  refine S.q rfl rfl rfl (wanted_none rfl) (r_indexAddrA Try.underlying140 ti3 rfl rfl (by decide) (by decide)) ?_
  refine S.q rfl rfl rfl (wanted_none rfl) (r_load ta3 rfl (fun w hw => cell_1 (box_cells (i := 1) rfl w hw) rfl)) ?_
  refine S.q rfl rfl rfl (wanted_none rfl) (r_indexAddrA Try.underlying140 ti3 rfl rfl (by decide) (by decide)) ?_
  refine S.q rfl rfl rfl (wanted_none rfl) (r_load ta3 rfl (fun w hw => cell_1 (box_cells (i := 0) rfl w hw) rfl)) ?_
  refine S.qc rfl rfl rfl (wanted_none rfl) (q_callF (xs := _) rfl ok172 rfl rfl (fun w hw => cmp_Compare_int.ok h9 w )) ?_
  refine S.q rfl rfl rfl (wanted_none rfl) (r_indexAddrA Try.underlying140 ti3 rfl rfl (by decide) (by decide)) ?_
  refine S.q rfl rfl rfl (wanted_none rfl) (r_load ta3 rfl (fun w hw => cell_1 (box_cells (i := 1) rfl w hw) rfl)) ?_
  refine S.q rfl rfl rfl (wanted_none rfl) (r_indexAddrA Try.underlying140 ti3 rfl rfl (by decide) (by decide)) ?_
  refine S.q rfl rfl rfl (wanted_none rfl) (r_load ta3 rfl (fun w hw => cell_1 (box_cells (i := 0) rfl w hw) rfl)) ?_
  refine S.qc rfl rfl rfl (wanted_none rfl) (q_callF (xs := _) rfl ok172 rfl rfl (fun w hw => cmp_Compare_int.ok h14 w )) ?_
  refine S.q rfl rfl rfl (wanted_none rfl) (r_indexAddrA Try.underlying140 ti3 rfl rfl (by decide) (by decide)) ?_
  refine S.q rfl rfl rfl (wanted_none rfl) (r_load ta3 rfl (fun w hw => cell_1 (box_cells (i := 1) rfl w hw) rfl)) ?_
  refine S.q rfl rfl rfl (wanted_none rfl) (r_indexAddrA Try.underlying140 ti3 rfl rfl (by decide) (by decide)) ?_
  refine S.q rfl rfl rfl (wanted_none rfl) (r_load ta3 rfl (fun w hw => cell_1 (box_cells (i := 0) rfl w hw) rfl)) ?_
  refine S.qc rfl rfl rfl (wanted_none rfl) (q_callF (xs := _) rfl ok172 rfl rfl (fun w hw => cmp_Compare_int.ok h19 w )) ?_
  refine S.m rfl rfl rfl (wanted_none rfl) (m_buildF (l := ([t9, t14, t19] : List (Int))) Try.underlying38 ti3 rfl rfl rfl rfl rfl) ?_
  rintro v20_2 _ ⟨S20_2, hl_v20_2, rfl⟩
  refine S.qc rfl rfl rfl (wanted_none rfl) (q_callF (xs := _) rfl ok171 rfl rfl (fun w hw => cmp_Or_int.ok h21 w ((rd_sl (i := 0) rfl) w hw))) ?_
  refine S.q rfl rfl rfl (wanted_none rfl) (r_assign rfl) ?_
  refine S.nil ?_
  refine F.nil ?_
  refine Nrm.seq ?_
  refine Tri.ret ?_
  cases h
  exact Rtn.body (.tmp rfl .nil) (fun w hw => ⟨rfl, hw.ext⟩)

end Go.Proofs

/- loop.example/g01158/impl.IsMaze$1 -/
namespace Go.Proofs
open Go Go.Ga
set_option linter.unusedVariables false
set_option maxRecDepth 100000
set_option maxHeartbeats 4000000
def impl_IsMaze_1.f (k : Nat) (a0 : Int) : Option (Bool) := (impl_isSet.f k a0).bind fun t4 => some (!t4)

theorem impl_IsMaze_1.ok {k : Nat}  {a0 : Int} {r0 : Bool} (h : impl_IsMaze_1.f k a0 = some r0) (w : World) :
    Calls Try.prog 160 ([.int .i64 a0] : List Value).toArray w (fun e w' => e = .returned (.bool r0) ∧ Ext w w') := by
  unfold impl_IsMaze_1.f at h
  refine Calls.of_tri (N := 6) Try.func160 rfl rfl rfl (Sep.nil (M := noM)) ?_
  refine Tri.seq ?_
  refine Tri.reg (l := [0]) rfl ?_
  refine F.q rfl rfl rfl (wanted_none rfl) (r_assign rfl) ?_
  refine F.nil ?_
  refine Nrm.seq ?_
  refine Tri.seq ?_
  obtain ⟨t4, h4, h⟩ := bind_some h
  refine Tri.reg (l := [0, 1, 2, 3]) rfl ?_
  refine F.q rfl rfl rfl (wanted_none rfl) (r_move rfl) ?_
  refine F.qc rfl rfl rfl (wanted_none rfl) (q_callF (xs := _) rfl ok144 rfl rfl (fun w hw => impl_isSet.ok h4 w )) ?_
  refine F.q rfl rfl rfl (wanted_none rfl) (r_not rfl) ?_
  refine F.q rfl rfl rfl (wanted_none rfl) (r_assign rfl) ?_
  refine F.nil ?_
  refine Nrm.seq ?_
  refine Tri.ret ?_
  cases h
  exact Rtn.body (.tmp rfl .nil) (fun w hw => ⟨rfl, hw.ext⟩)

end Go.Proofs

/- loop.example/g01158/impl.IsMaze -/
namespace Go.Proofs
open Go Go.Ga
set_option linter.unusedVariables false
set_option maxRecDepth 100000
set_option maxHeartbeats 4000000
def impl_IsMaze.l0 (k : Nat) (a0_0 : Int) (a0_1 : List (Int × Int × Int)) : Nat → Int → Option ((Unit) ⊕ (Bool))
  | 0, _ => none
  | n + 1, x26 => (if (decide (x26 < (a0_1.length : Int))) = true then (rdl a0_1 x26).bind fun t29 => ((if (decide (t29.1 < 0)) = true then some true else (if (decide (t29.1 ≥ t29.2.1)) = true then some true else (if (decide (t29.2.1 ≥ a0_0)) = true then some true else (impl_isSet.f k t29.2.2).bind fun t51 => (if (!t51) = true then some true else (if (decide (x26 > 0)) = true then (rdl a0_1 (w64 (x26 - 1))).bind fun t62 => (impl_compareDoors.f k t62.1 t62.2.1 t62.2.2 t29.1 t29.2.1 t29.2.2).bind fun t65 => some (decide (t65 ≥ 0)) else some false)))))).bind fun y68 => (if y68 = true then some (Sum.inr false) else impl_IsMaze.l0 k a0_0 a0_1 n (w64 (x26 + 1))) else some (Sum.inl ()))

def impl_IsMaze.f (k : Nat) (a0_0 : Int) (a0_1 : List (Int × Int × Int)) (a0_2 : List Int) : Option (Bool) := ((impl_within.f k a0_0 1 12).bind fun t7 => (if (!t7) = true then some true else (if (decide ((a0_1.length : Int) > 30)) = true then some true else some ((a0_2.length : Int) != a0_0)))).bind fun y22 => (if y22 = true then some false else (impl_IsMaze.l0 k a0_0 a0_1 k 0).bind fun s => Lr s some fun _ => (slices_ContainsFunc_int_int.f k a0_2 (fun z0 => impl_IsMaze_1.f k z0)).bind fun t72 => some (!t72))

theorem impl_IsMaze.ok {k : Nat}  {a0_0 : Int} {a0_1 : List (Int × Int × Int)} {a0_2 : List Int} {r0 : Bool} (h : impl_IsMaze.f k a0_0 a0_1 a0_2 = some r0) (w : World) {va0_1 : Value} {va0_2 : Value} (hr_a0_1 : Rd w va0_1 a0_1) (hr_a0_2 : Rd w va0_2 a0_2) :
    Calls Try.prog 121 ([.agg ([.int .i64 a0_0, va0_1, va0_2].toArray)] : List Value).toArray w (fun e w' => e = .returned (.bool r0) ∧ Ext w w') := by
  unfold impl_IsMaze.f at h
  have hl_va0_1 := hr_a0_1.len
  have hl_va0_2 := hr_a0_2.len
  refine Calls.of_tri (N := 74) Try.func121 rfl rfl rfl (Sep.nil (M := noM)) ?_
  refine Tri.seq ?_
  refine Tri.reg (l := [0, 1]) rfl ?_
  refine F.m rfl rfl rfl (wanted_none rfl) (m_boxG rfl rfl) ?_
  rintro _ _ ⟨b1_1, rfl, rfl⟩
  refine F.q rfl rfl rfl (wanted_none rfl) (r_assign rfl) ?_
  refine F.nil ?_
  refine Nrm.seq ?_
  refine Tri.seq ?_
  refine Tri.seq ?_
  obtain ⟨y22, hE_1, h⟩ := bind_some h
  refine Tri.cut (fun e' C' => e' = [(1, .pointer (some ⟨b1_1, 0, none⟩)), (22, .bool y22)] ∧ C' = Sep w noM [R.box b1_1 55 [.int .i64 a0_0, va0_1, va0_2]]) ?_ (fun hj_1 => ?_)
  · rintro _ _ ⟨rfl, rfl⟩
    refine Nrm.seq ?_
    refine Tri.cond (b := y22) rfl (fun g_1 => ?_) (fun g_1 => ?_)
    · replace h := if_tt g_1 h
      refine Tri.seq ?_
      refine Tri.reg (l := [0]) rfl ?_
      refine F.q rfl rfl rfl (wanted_none rfl) (r_assign rfl) ?_
      refine F.nil ?_
      refine Nrm.seq ?_
      refine Tri.ret ?_
      refine Rtn.then ?_
      cases h
      exact Rtn.body (.tmp rfl .nil) (fun w hw => ⟨rfl, hw.ext⟩)
    · replace h := if_ff g_1 h
      refine Tri.skip ?_
      refine Nrm.seq ?_
      refine Tri.seq ?_
      refine Tri.seq ?_
      refine Tri.reg (l := [0, 1, 2, 3]) rfl ?_
      refine F.q rfl rfl rfl (wanted_none rfl) (r_fieldAddr tf55_1 rfl) ?_
      refine F.q rfl rfl rfl (wanted_none rfl) (r_load ta49 rfl (fun w hw => cell_1 (box_cells (i := 0) rfl w hw) rfl)) ?_
      refine F.q rfl rfl rfl (wanted_none rfl) (r_len Try.underlying49 rfl hl_va0_1) ?_
      refine F.q rfl rfl rfl (wanted_none rfl) (r_move rfl) ?_
      refine F.nil ?_
      refine Nrm.seq ?_
      obtain ⟨s0, hE_2, h⟩ := bind_some h
      refine Tri.block ?_
      refine Tri.only [1, 24, 25, 26] rfl ?_
      refine Tri.pick [0] rfl rfl ?_
      refine Tri.rounds (fun n e' C' => ∃ (x26' : Int), impl_IsMaze.l0 k a0_0 a0_1 n x26' = some s0 ∧ e' = [(1, .pointer (some ⟨b1_1, 0, none⟩)), (24, va0_1), (25, .int .i64 (a0_1.length : Int)), (26, .int .i64 x26')] ∧ C' = Sep w noM [R.box b1_1 55 [.int .i64 a0_0, va0_1, va0_2]]) k ?_ ?_ ?_
      · exact ⟨0, hE_2, rfl, rfl⟩
      · rintro _ _ ⟨_, hE_2, _⟩
        rw [impl_IsMaze.l0.eq_1] at hE_2; cases hE_2
      · rintro n_1 _ _ ⟨x26, hE_2, rfl, rfl⟩ ih_1
        rw [impl_IsMaze.l0.eq_2] at hE_2
        refine Tri.seq ?_
        refine Tri.reg (l := [0]) rfl ?_
        refine F.q rfl rfl rfl (wanted_none rfl) (r_lss rfl rfl) ?_
        refine F.nil ?_
        refine Nrm.seq ?_
        refine Tri.seq ?_
        refine Tri.cond (b := decide (x26 < (a0_1.length : Int))) rfl (fun g_2 => ?_) (fun g_2 => ?_)
        · replace hE_2 := if_tt g_2 hE_2
          refine Tri.skip ?_
          refine Nrm.seq ?_
          refine Tri.seq ?_
          refine Tri.block ?_
          refine Tri.seq ?_
          obtain ⟨t29, h29, hE_2⟩ := bind_some hE_2
          refine Tri.reg (l := [0, 1, 2, 3, 4, 5]) rfl ?_
          refine F.q rfl rfl rfl (wanted_none rfl) (r_move rfl) ?_
          refine F.q rfl rfl rfl (wanted_none rfl) (r_indexAddrS Try.underlying49 ti140 rfl hl_va0_1 rfl (rdl_some h29).1 (rdl_some h29).2.1) ?_
          refine F.q rfl rfl rfl (wanted_none rfl) (r_loadA ta140 ti140 rfl rfl (fun w hw => (Rd.flat ((fun _ hw => hr_a0_1.sep hw) w hw) (rdl_some h29).2.2))) ?_
          refine F.m rfl rfl rfl (wanted_none rfl) (m_alloc ti140) ?_
          rintro _ _ ⟨b4_1, rfl, rfl⟩
          refine F.q rfl rfl rfl (wanted_none rfl) (r_assign rfl) ?_
          refine F.ef0 rfl rfl (wanted_none rfl) (d_storeG0 (i := 0) (cs2 := [.int .i64 t29.1, .int .i64 t29.2.1, .int .i64 t29.2.2]) ti140 rfl rfl rfl rfl rfl (Nat.le_of_ble_eq_true rfl) (lf_cons rfl (lf_cons rfl (lf_cons rfl lf_nil)))) ?_
          rintro _ _ ⟨rfl, rfl⟩
          refine F.nil ?_
          refine Nrm.seq ?_
          refine Tri.seq ?_
          obtain ⟨y68, hE_3, hE_2⟩ := bind_some hE_2
          refine Tri.cut (fun e' C' => e' = [(1, .pointer (some ⟨b1_1, 0, none⟩)), (24, va0_1), (25, .int .i64 (a0_1.length : Int)), (26, .int .i64 x26), (68, .bool y68)] ∧ C' = Sep w noM [R.box b1_1 55 [.int .i64 a0_0, va0_1, va0_2]]) ?_ (fun hj_2 => ?_)
          · rintro _ _ ⟨rfl, rfl⟩
            refine Nrm.seq ?_
            refine Tri.cond (b := y68) rfl (fun g_3 => ?_) (fun g_3 => ?_)
            · replace hE_2 := if_tt g_3 hE_2
              refine Tri.seq ?_
              refine Tri.reg (l := [0]) rfl ?_
              refine F.q rfl rfl rfl (wanted_none rfl) (r_assign rfl) ?_
              refine F.nil ?_
              refine Nrm.seq ?_
              refine Tri.ret ?_
              refine Rtn.block ?_
              refine Rtn.then ?_
              refine Rtn.then ?_
              refine Rtn.block ?_
              refine Rtn.then ?_
              cases hE_2
              replace h := Lr_inr h
              cases h
              exact Rtn.body (.tmp rfl .nil) (fun w hw => ⟨rfl, hw.ext⟩)
            · replace hE_2 := if_ff g_3 hE_2
              refine Tri.skip ?_
              refine Nrm.block ?_
              refine Nrm.seq ?_
              refine Tri.reg (l := [0, 1]) rfl ?_
              refine F.q rfl rfl rfl (wanted_none rfl) (r_add rfl rfl) ?_
              refine F.q rfl rfl rfl (wanted_none rfl) (r_move rfl) ?_
              refine F.nil ?_
              refine Nrm.round ?_
              refine Rnd.only [1, 24, 25, 26] rfl ?_
              refine Rnd.pick [0] rfl rfl ?_
              exact ih_1 _ _ ⟨w64 (x26 + 1), hE_2, rfl, rfl⟩
          · rcases Bool.eq_false_or_eq_true (decide (t29.1 < 0)) with g34 | g34
            · replace hE_3 := if_tt g34 hE_3
              refine Tri.drawA mixedT Sep.up [(0, true), (1, true), (2, true), (3, true), (4, true), (5, true), (6, true), (7, true), (8, true), (9, true), (10, true), (11, true), (12, true), (13, true), (14, true), (15, true), (16, true), (17, true), (18, true), (19, true), (20, true), (21, true), (22, true), (23, true), (24, true), (25, true), (26, true), (27, true), (28, true), (29, true), (30, true), (31, true), (32, true), (33, true), (34, true), (35, true), (36, true), (37, true)] [] (by kernel_rfl) ?_
              refine S.q rfl rfl rfl (wanted_none rfl) (r_indexAddrA Try.underlying140 ti3 rfl rfl (by decide) (by decide)) ?_
              refine S.q rfl rfl rfl (wanted_none rfl) (r_load ta3 rfl (fun w hw => cell_1 (box_cells (i := 0) rfl w hw) rfl)) ?_
              refine S.q rfl rfl rfl (wanted_none rfl) (r_lss rfl rfl) ?_
              refine S.q rfl rfl rfl (wanted_none rfl) (r_move rfl) ?_
              refine S.sk rfl rfl rfl (wf rfl rfl rfl g34) ?_
              refine S.sk rfl rfl rfl (wf rfl rfl rfl g34) ?_
              refine S.sk rfl rfl rfl (wf rfl rfl rfl g34) ?_
              refine S.sk rfl rfl rfl (wf rfl rfl rfl g34) ?_
              refine S.sk rfl rfl rfl (wf rfl rfl rfl g34) ?_
              refine S.q rfl rfl rfl (wanted_none rfl) (r_pick rfl rfl g34) ?_
              refine S.q rfl rfl rfl (wanted_none rfl) (r_move rfl) ?_
              refine S.sk rfl rfl rfl (wf rfl rfl rfl rfl) ?_
              refine S.sk rfl rfl rfl (wf rfl rfl rfl rfl) ?_
              refine S.sk rfl rfl rfl (wf rfl rfl rfl rfl) ?_
              refine S.sk rfl rfl rfl (wf rfl rfl rfl rfl) ?_
              refine S.sk rfl rfl rfl (wf rfl rfl rfl rfl) ?_
              refine S.q rfl rfl rfl (wanted_none rfl) (r_pick rfl rfl rfl) ?_
              refine S.q rfl rfl rfl (wanted_none rfl) (r_move rfl) ?_
              refine S.sk rfl rfl rfl (wf rfl rfl rfl rfl) ?_
              refine S.sk rfl rfl rfl (wf rfl rfl rfl rfl) ?_
              refine S.sk rfl rfl rfl (wf rfl rfl rfl rfl) ?_
              refine S.sk rfl rfl rfl (wf rfl rfl rfl rfl) ?_
              refine S.q rfl rfl rfl (wanted_none rfl) (r_pick rfl rfl rfl) ?_
              refine S.q rfl rfl rfl (wanted_none rfl) (r_move rfl) ?_
              refine S.sk rfl rfl rfl (wf rfl rfl rfl rfl) ?_
              refine S.sk rfl rfl rfl (wf rfl rfl rfl rfl) ?_
              refine S.sk rfl rfl rfl (wf rfl rfl rfl rfl) ?_
              refine S.sk rfl rfl rfl (wanted_undef rfl rfl rfl) ?_
              refine S.sk rfl rfl rfl (wanted_undef rfl rfl rfl) ?_
              refine S.sk rfl rfl rfl (wanted_undef rfl rfl rfl) ?_
              refine S.sk rfl rfl rfl (wanted_undef rfl rfl rfl) ?_
              refine S.sk rfl rfl rfl (wanted_undef rfl rfl rfl) ?_
              refine S.sk rfl rfl rfl (wanted_undef rfl rfl rfl) ?_
              refine S.sk rfl rfl rfl (wanted_undef rfl rfl rfl) ?_
              refine S.sk rfl rfl rfl (wanted_undef rfl rfl rfl) ?_
              refine S.sk rfl rfl rfl (wanted_undef rfl rfl rfl) ?_
              refine S.sk rfl rfl rfl (wf rfl rfl rfl rfl) ?_
              refine S.q rfl rfl rfl (wanted_none rfl) (r_pick rfl rfl rfl) ?_
              refine S.nil ?_
              refine F.nil ?_
              cases hE_3
              refine Nrm.only [1, 24, 25, 26, 68] rfl ?_
              refine Nrm.pick [1] rfl rfl ?_
              exact hj_2 _ _ ⟨rfl, rfl⟩
            · replace hE_3 := if_ff g34 hE_3
              rcases Bool.eq_false_or_eq_true (decide (t29.1 ≥ t29.2.1)) with g41 | g41
              · replace hE_3 := if_tt g41 hE_3
                refine Tri.drawA mixedT Sep.up [(0, true), (1, true), (2, true), (3, true), (4, true), (5, true), (6, true), (7, true), (8, true), (9, true), (10, true), (11, true), (12, true), (13, true), (14, true), (15, true), (16, true), (17, true), (18, true), (19, true), (20, true), (21, true), (22, true), (23, true), (24, true), (25, true), (26, true), (27, true), (28, true), (29, true), (30, true), (31, true), (32, true), (33, true), (34, true), (35, true), (36, true), (37, true)] [] (by kernel_rfl) ?_
                refine S.q rfl rfl rfl (wanted_none rfl) (r_indexAddrA Try.underlying140 ti3 rfl rfl (by decide) (by decide)) ?_
                refine S.q rfl rfl rfl (wanted_none rfl) (r_load ta3 rfl (fun w hw => cell_1 (box_cells (i := 0) rfl w hw) rfl)) ?_
                refine S.q rfl rfl rfl (wanted_none rfl) (r_lss rfl rfl) ?_
                refine S.q rfl rfl rfl (wanted_none rfl) (r_move rfl) ?_
                refine S.q rfl rfl rfl (wg rfl rfl rfl g34) (r_indexAddrA Try.underlying140 ti3 rfl rfl (by decide) (by decide)) ?_
                refine S.q rfl rfl rfl (wg rfl rfl rfl g34) (r_load ta3 rfl (fun w hw => cell_1 (box_cells (i := 0) rfl w hw) rfl)) ?_
                refine S.q rfl rfl rfl (wg rfl rfl rfl g34) (r_indexAddrA Try.underlying140 ti3 rfl rfl (by decide) (by decide)) ?_
                refine S.q rfl rfl rfl (wg rfl rfl rfl g34) (r_load ta3 rfl (fun w hw => cell_1 (box_cells (i := 0) rfl w hw) rfl)) ?_
                refine S.q rfl rfl rfl (wg rfl rfl rfl g34) (r_geq rfl rfl) ?_
                refine S.q rfl rfl rfl (wanted_none rfl) (r_pickf rfl rfl g34) ?_
                refine S.q rfl rfl rfl (wanted_none rfl) (r_move rfl) ?_
                refine S.sk rfl rfl rfl (wf rfl rfl rfl g41) ?_
                refine S.sk rfl rfl rfl (wf rfl rfl rfl g41) ?_
                refine S.sk rfl rfl rfl (wf rfl rfl rfl g41) ?_
                refine S.sk rfl rfl rfl (wf rfl rfl rfl g41) ?_
                refine S.sk rfl rfl rfl (wf rfl rfl rfl g41) ?_
                refine S.q rfl rfl rfl (wanted_none rfl) (r_pick rfl rfl g41) ?_
                refine S.q rfl rfl rfl (wanted_none rfl) (r_move rfl) ?_
                refine S.sk rfl rfl rfl (wf rfl rfl rfl rfl) ?_
                refine S.sk rfl rfl rfl (wf rfl rfl rfl rfl) ?_
                refine S.sk rfl rfl rfl (wf rfl rfl rfl rfl) ?_
                refine S.sk rfl rfl rfl (wf rfl rfl rfl rfl) ?_
                refine S.q rfl rfl rfl (wanted_none rfl) (r_pick rfl rfl rfl) ?_
                refine S.q rfl rfl rfl (wanted_none rfl) (r_move rfl) ?_
                refine S.sk rfl rfl rfl (wf rfl rfl rfl rfl) ?_
                refine S.sk rfl rfl rfl (wf rfl rfl rfl rfl) ?_
                refine S.sk rfl rfl rfl (wf rfl rfl rfl rfl) ?_
                refine S.sk rfl rfl rfl (wanted_undef rfl rfl rfl) ?_
                refine S.sk rfl rfl rfl (wanted_undef rfl rfl rfl) ?_
                refine S.sk rfl rfl rfl (wanted_undef rfl rfl rfl) ?_
                refine S.sk rfl rfl rfl (wanted_undef rfl rfl rfl) ?_
                refine S.sk rfl rfl rfl (wanted_undef rfl rfl rfl) ?_
                refine S.sk rfl rfl rfl (wanted_undef rfl rfl rfl) ?_
                refine S.sk rfl rfl rfl (wanted_undef rfl rfl rfl) ?_
                refine S.sk rfl rfl rfl (wanted_undef rfl rfl rfl) ?_
                refine S.sk rfl rfl rfl (wanted_undef rfl rfl rfl) ?_
                refine S.sk rfl rfl rfl (wf rfl rfl rfl rfl) ?_
                refine S.q rfl rfl rfl (wanted_none rfl) (r_pick rfl rfl rfl) ?_
                refine S.nil ?_
                refine F.nil ?_
                cases hE_3
                refine Nrm.only [1, 24, 25, 26, 68] rfl ?_
                refine Nrm.pick [1] rfl rfl ?_
                exact hj_2 _ _ ⟨rfl, rfl⟩
              · replace hE_3 := if_ff g41 hE_3
                rcases Bool.eq_false_or_eq_true (decide (t29.2.1 ≥ a0_0)) with g48 | g48
                · replace hE_3 := if_tt g48 hE_3
                  refine Tri.drawA mixedT Sep.up [(0, true), (1, true), (2, true), (3, true), (4, true), (5, true), (6, true), (7, true), (8, true), (9, true), (10, true), (11, true), (12, true), (13, true), (14, true), (15, true), (16, true), (17, true), (18, true), (19, true), (20, true), (21, true), (22, true), (23, true), (24, true), (25, true), (26, true), (27, true), (28, true), (29, true), (30, true), (31, true), (32, true), (33, true), (34, true), (35, true), (36, true), (37, true)] [] (by kernel_rfl) ?_
                  refine S.q rfl rfl rfl (wanted_none rfl) (r_indexAddrA Try.underlying140 ti3 rfl rfl (by decide) (by decide)) ?_
                  refine S.q rfl rfl rfl (wanted_none rfl) (r_load ta3 rfl (fun w hw => cell_1 (box_cells (i := 0) rfl w hw) rfl)) ?_
                  refine S.q rfl rfl rfl (wanted_none rfl) (r_lss rfl rfl) ?_
                  refine S.q rfl rfl rfl (wanted_none rfl) (r_move rfl) ?_
                  refine S.q rfl rfl rfl (wg rfl rfl rfl g34) (r_indexAddrA Try.underlying140 ti3 rfl rfl (by decide) (by decide)) ?_
                  refine S.q rfl rfl rfl (wg rfl rfl rfl g34) (r_load ta3 rfl (fun w hw => cell_1 (box_cells (i := 0) rfl w hw) rfl)) ?_
                  refine S.q rfl rfl rfl (wg rfl rfl rfl g34) (r_indexAddrA Try.underlying140 ti3 rfl rfl (by decide) (by decide)) ?_
                  refine S.q rfl rfl rfl (wg rfl rfl rfl g34) (r_load ta3 rfl (fun w hw => cell_1 (box_cells (i := 0) rfl w hw) rfl)) ?_
                  refine S.q rfl rfl rfl (wg rfl rfl rfl g34) (r_geq rfl rfl) ?_
                  refine S.q rfl rfl rfl (wanted_none rfl) (r_pickf rfl rfl g34) ?_
                  refine S.q rfl rfl rfl (wanted_none rfl) (r_move rfl) ?_
                  refine S.q rfl rfl rfl (wg rfl rfl rfl g41) (r_indexAddrA Try.underlying140 ti3 rfl rfl (by decide) (by decide)) ?_
                  refine S.q rfl rfl rfl (wg rfl rfl rfl g41) (r_load ta3 rfl (fun w hw => cell_1 (box_cells (i := 0) rfl w hw) rfl)) ?_
                  refine S.q rfl rfl rfl (wg rfl rfl rfl g41) (r_fieldAddr tf55_0 rfl) ?_
                  refine S.q rfl rfl rfl (wg rfl rfl rfl g41) (r_load ta3 rfl (fun w hw => cell_1 (box_cells (i := 1) rfl w hw) rfl)) ?_
                  refine S.q rfl rfl rfl (wg rfl rfl rfl g41) (r_geq rfl rfl) ?_
                  refine S.q rfl rfl rfl (wanted_none rfl) (r_pickf rfl rfl g41) ?_
                  refine S.q rfl rfl rfl (wanted_none rfl) (r_move rfl) ?_
                  refine S.sk rfl rfl rfl (wf rfl rfl rfl g48) ?_
                  refine S.sk rfl rfl rfl (wf rfl rfl rfl g48) ?_
                  refine S.sk rfl rfl rfl (wf rfl rfl rfl g48) ?_
                  refine S.sk rfl rfl rfl (wf rfl rfl rfl g48) ?_
                  refine S.q rfl rfl rfl (wanted_none rfl) (r_pick rfl rfl g48) ?_
                  refine S.q rfl rfl rfl (wanted_none rfl) (r_move rfl) ?_
                  refine S.sk rfl rfl rfl (wf rfl rfl rfl rfl) ?_
                  refine S.sk rfl rfl rfl (wf rfl rfl rfl rfl) ?_
                  refine S.sk rfl rfl rfl (wf rfl rfl rfl rfl) ?_
                  refine S.sk rfl rfl rfl (wanted_undef rfl rfl rfl) ?_
                  refine S.sk rfl rfl rfl (wanted_undef rfl rfl rfl) ?_
                  refine S.sk rfl rfl rfl (wanted_undef rfl rfl rfl) ?_
                  refine S.sk rfl rfl rfl (wanted_undef rfl rfl rfl) ?_
                  refine S.sk rfl rfl rfl (wanted_undef rfl rfl rfl) ?_
                  refine S.sk rfl rfl rfl (wanted_undef rfl rfl rfl) ?_
                  refine S.sk rfl rfl rfl (wanted_undef rfl rfl rfl) ?_
                  refine S.sk rfl rfl rfl (wanted_undef rfl rfl rfl) ?_
                  refine S.sk rfl rfl rfl (wanted_undef rfl rfl rfl) ?_
                  refine S.sk rfl rfl rfl (wf rfl rfl rfl rfl) ?_
                  refine S.q rfl rfl rfl (wanted_none rfl) (r_pick rfl rfl rfl) ?_
                  refine S.nil ?_
                  refine F.nil ?_
                  cases hE_3
                  refine Nrm.only [1, 24, 25, 26, 68] rfl ?_
                  refine Nrm.pick [1] rfl rfl ?_
                  exact hj_2 _ _ ⟨rfl, rfl⟩
                · replace hE_3 := if_ff g48 hE_3
                  obtain ⟨t51, h51, hE_3⟩ := bind_some hE_3
                  rcases Bool.eq_false_or_eq_true (!t51) with g54 | g54
                  · replace hE_3 := if_tt g54 hE_3
                    refine Tri.drawA mixedT Sep.up [(0, true), (1, true), (2, true), (3, true), (4, true), (5, true), (6, true), (7, true), (8, true), (9, true), (10, true), (11, true), (12, true), (13, true), (14, true), (15, true), (16, true), (17, true), (18, true), (19, true), (20, true), (21, true), (22, true), (23, true), (24, true), (25, true), (26, true), (27, true), (28, true), (29, true), (30, true), (31, true), (32, true), (33, true), (34, true), (35, true), (36, true), (37, true)] [] (by kernel_rfl) ?_
                    refine S.q rfl rfl rfl (wanted_none rfl) (r_indexAddrA Try.underlying140 ti3 rfl rfl (by decide) (by decide)) ?_
                    refine S.q rfl rfl rfl (wanted_none rfl) (r_load ta3 rfl (fun w hw => cell_1 (box_cells (i := 0) rfl w hw) rfl)) ?_
                    refine S.q rfl rfl rfl (wanted_none rfl) (r_lss rfl rfl) ?_
                    refine S.q rfl rfl rfl (wanted_none rfl) (r_move rfl) ?_
                    refine S.q rfl rfl rfl (wg rfl rfl rfl g34) (r_indexAddrA Try.underlying140 ti3 rfl rfl (by decide) (by decide)) ?_
                    refine S.q rfl rfl rfl (wg rfl rfl rfl g34) (r_load ta3 rfl (fun w hw => cell_1 (box_cells (i := 0) rfl w hw) rfl)) ?_
                    refine S.q rfl rfl rfl (wg rfl rfl rfl g34) (r_indexAddrA Try.underlying140 ti3 rfl rfl (by decide) (by decide)) ?_
                    refine S.q rfl rfl rfl (wg rfl rfl rfl g34) (r_load ta3 rfl (fun w hw => cell_1 (box_cells (i := 0) rfl w hw) rfl)) ?_
                    refine S.q rfl rfl rfl (wg rfl rfl rfl g34) (r_geq rfl rfl) ?_
                    refine S.q rfl rfl rfl (wanted_none rfl) (r_pickf rfl rfl g34) ?_
                    refine S.q rfl rfl rfl (wanted_none rfl) (r_move rfl) ?_
                    refine S.q rfl rfl rfl (wg rfl rfl rfl g41) (r_indexAddrA Try.underlying140 ti3 rfl rfl (by decide) (by decide)) ?_
                    refine S.q rfl rfl rfl (wg rfl rfl rfl g41) (r_load ta3 rfl (fun w hw => cell_1 (box_cells (i := 0) rfl w hw) rfl)) ?_
                    refine S.q rfl rfl rfl (wg rfl rfl rfl g41) (r_fieldAddr tf55_0 rfl) ?_
                    refine S.q rfl rfl rfl (wg rfl rfl rfl g41) (r_load ta3 rfl (fun w hw => cell_1 (box_cells (i := 1) rfl w hw) rfl)) ?_
                    refine S.q rfl rfl rfl (wg rfl rfl rfl g41) (r_geq rfl rfl) ?_
                    refine S.q rfl rfl rfl (wanted_none rfl) (r_pickf rfl rfl g41) ?_
                    refine S.q rfl rfl rfl (wanted_none rfl) (r_move rfl) ?_
                    refine S.q rfl rfl rfl (wg rfl rfl rfl g48) (r_indexAddrA Try.underlying140 ti3 rfl rfl (by decide) (by decide)) ?_
                    refine S.q rfl rfl rfl (wg rfl rfl rfl g48) (r_load ta3 rfl (fun w hw => cell_1 (box_cells (i := 0) rfl w hw) rfl)) ?_
                    refine S.qc rfl rfl rfl (wg rfl rfl rfl g48) (q_callF (xs := _) rfl ok144 rfl rfl (fun w hw => impl_isSet.ok h51 w )) ?_
                    refine S.q rfl rfl rfl (wg rfl rfl rfl g48) (r_not rfl) ?_
                    refine S.q rfl rfl rfl (wanted_none rfl) (r_pickf rfl rfl g48) ?_
                    refine S.q rfl rfl rfl (wanted_none rfl) (r_move rfl) ?_
                    refine S.sk rfl rfl rfl (wf rfl rfl rfl g54) ?_
                    refine S.sk rfl rfl rfl (wf rfl rfl rfl g54) ?_
                    refine S.sk rfl rfl rfl (wf rfl rfl rfl g54) ?_
                    refine S.sk rfl rfl rfl (wanted_undef rfl rfl rfl) ?_
                    refine S.sk rfl rfl rfl (wanted_undef rfl rfl rfl) ?_
                    refine S.sk rfl rfl rfl (wanted_undef rfl rfl rfl) ?_
                    refine S.sk rfl rfl rfl (wanted_undef rfl rfl rfl) ?_
                    refine S.sk rfl rfl rfl (wanted_undef rfl rfl rfl) ?_
                    refine S.sk rfl rfl rfl (wanted_undef rfl rfl rfl) ?_
                    refine S.sk rfl rfl rfl (wanted_undef rfl rfl rfl) ?_
                    refine S.sk rfl rfl rfl (wanted_undef rfl rfl rfl) ?_
                    refine S.sk rfl rfl rfl (wanted_undef rfl rfl rfl) ?_
                    refine S.sk rfl rfl rfl (wf rfl rfl rfl g54) ?_
                    refine S.q rfl rfl rfl (wanted_none rfl) (r_pick rfl rfl g54) ?_
                    refine S.nil ?_
                    refine F.nil ?_
                    cases hE_3
                    refine Nrm.only [1, 24, 25, 26, 68] rfl ?_
                    refine Nrm.pick [1] rfl rfl ?_
                    exact hj_2 _ _ ⟨rfl, rfl⟩
                  · replace hE_3 := if_ff g54 hE_3
                    rcases Bool.eq_false_or_eq_true (decide (x26 > 0)) with g57 | g57
                    · replace hE_3 := if_tt g57 hE_3
                      obtain ⟨t62, h62, hE_3⟩ := bind_some hE_3
                      obtain ⟨t65, h65, hE_3⟩ := bind_some hE_3
                      refine Tri.drawA mixedT Sep.up [(0, true), (1, true), (2, true), (3, true), (4, true), (5, true), (6, true), (7, true), (8, true), (9, true), (10, true), (11, true), (12, true), (13, true), (14, true), (15, true), (16, true), (17, true), (18, true), (19, true), (20, true), (21, true), (22, true), (23, true), (24, true), (25, true), (26, true), (27, true), (28, true), (29, true), (30, true), (31, true), (32, true), (33, true), (34, true), (35, true), (36, true), (37, true)] [] (by kernel_rfl) ?_
                      refine S.q rfl rfl rfl (wanted_none rfl) (r_indexAddrA Try.underlying140 ti3 rfl rfl (by decide) (by decide)) ?_
                      refine S.q rfl rfl rfl (wanted_none rfl) (r_load ta3 rfl (fun w hw => cell_1 (box_cells (i := 0) rfl w hw) rfl)) ?_
                      refine S.q rfl rfl rfl (wanted_none rfl) (r_lss rfl rfl) ?_
                      refine S.q rfl rfl rfl (wanted_none rfl) (r_move rfl) ?_
                      refine S.q rfl rfl rfl (wg rfl rfl rfl g34) (r_indexAddrA Try.underlying140 ti3 rfl rfl (by decide) (by decide)) ?_
                      refine S.q rfl rfl rfl (wg rfl rfl rfl g34) (r_load ta3 rfl (fun w hw => cell_1 (box_cells (i := 0) rfl w hw) rfl)) ?_
                      refine S.q rfl rfl rfl (wg rfl rfl rfl g34) (r_indexAddrA Try.underlying140 ti3 rfl rfl (by decide) (by decide)) ?_
                      refine S.q rfl rfl rfl (wg rfl rfl rfl g34) (r_load ta3 rfl (fun w hw => cell_1 (box_cells (i := 0) rfl w hw) rfl)) ?_
                      refine S.q rfl rfl rfl (wg rfl rfl rfl g34) (r_geq rfl rfl) ?_
                      refine S.q rfl rfl rfl (wanted_none rfl) (r_pickf rfl rfl g34) ?_
                      refine S.q rfl rfl rfl (wanted_none rfl) (r_move rfl) ?_
                      refine S.q rfl rfl rfl (wg rfl rfl rfl g41) (r_indexAddrA Try.underlying140 ti3 rfl rfl (by decide) (by decide)) ?_
                      refine S.q rfl rfl rfl (wg rfl rfl rfl g41) (r_load ta3 rfl (fun w hw => cell_1 (box_cells (i := 0) rfl w hw) rfl)) ?_
                      refine S.q rfl rfl rfl (wg rfl rfl rfl g41) (r_fieldAddr tf55_0 rfl) ?_
                      refine S.q rfl rfl rfl (wg rfl rfl rfl g41) (r_load ta3 rfl (fun w hw => cell_1 (box_cells (i := 1) rfl w hw) rfl)) ?_
                      refine S.q rfl rfl rfl (wg rfl rfl rfl g41) (r_geq rfl rfl) ?_
                      refine S.q rfl rfl rfl (wanted_none rfl) (r_pickf rfl rfl g41) ?_
                      refine S.q rfl rfl rfl (wanted_none rfl) (r_move rfl) ?_
                      refine S.q rfl rfl rfl (wg rfl rfl rfl g48) (r_indexAddrA Try.underlying140 ti3 rfl rfl (by decide) (by decide)) ?_
                      refine S.q rfl rfl rfl (wg rfl rfl rfl g48) (r_load ta3 rfl (fun w hw => cell_1 (box_cells (i := 0) rfl w hw) rfl)) ?_
                      refine S.qc rfl rfl rfl (wg rfl rfl rfl g48) (q_callF (xs := _) rfl ok144 rfl rfl (fun w hw => impl_isSet.ok h51 w )) ?_
                      refine S.q rfl rfl rfl (wg rfl rfl rfl g48) (r_not rfl) ?_
                      refine S.q rfl rfl rfl (wanted_none rfl) (r_pickf rfl rfl g48) ?_
                      refine S.q rfl rfl rfl (wanted_none rfl) (r_move rfl) ?_
                      refine S.q rfl rfl rfl (wg rfl rfl rfl g54) (r_move rfl) ?_
                      refine S.q rfl rfl rfl (wg rfl rfl rfl g54) (r_gtr rfl rfl) ?_
                      refine S.q rfl rfl rfl (wg rfl rfl rfl g54) (r_move rfl) ?_
                      refine S.q rfl rfl rfl (wg rfl rfl rfl g57) (r_fieldAddr tf55_1 rfl) ?_
                      refine S.q rfl rfl rfl (wg rfl rfl rfl g57) (r_load ta49 rfl (fun w hw => cell_1 (box_cells (i := 1) rfl w hw) rfl)) ?_
                      refine S.q rfl rfl rfl (wg rfl rfl rfl g57) (r_move rfl) ?_
                      refine S.q rfl rfl rfl (wg rfl rfl rfl g57) (r_sub rfl rfl) ?_
                      refine S.q rfl rfl rfl (wg rfl rfl rfl g57) (r_indexAddrS Try.underlying49 ti140 rfl hl_va0_1 rfl (rdl_some h62).1 (rdl_some h62).2.1) ?_
                      refine S.q rfl rfl rfl (wg rfl rfl rfl g57) (r_loadA ta140 ti140 rfl rfl (fun w hw => (Rd.flat ((fun _ hw => hr_a0_1.sep hw) w hw) (rdl_some h62).2.2))) ?_
                      refine S.q rfl rfl rfl (wg rfl rfl rfl g57) (r_loadA ta140 ti140 rfl rfl (fun w hw => (box_cells (i := 0) rfl w hw))) ?_
                      refine S.qc rfl rfl rfl (wg rfl rfl rfl g57) (q_callF (xs := _) rfl ok159 rfl rfl (fun w hw => impl_compareDoors.ok h65 w )) ?_
                      refine S.q rfl rfl rfl (wg rfl rfl rfl g57) (r_geq rfl rfl) ?_
                      refine S.q rfl rfl rfl (wg rfl rfl rfl g54) (r_pick rfl rfl g57) ?_
                      refine S.q rfl rfl rfl (wanted_none rfl) (r_pickf rfl rfl g54) ?_
                      refine S.nil ?_
                      refine F.nil ?_
                      cases hE_3
                      refine Nrm.only [1, 24, 25, 26, 68] rfl ?_
                      refine Nrm.pick [1] rfl rfl ?_
                      exact hj_2 _ _ ⟨rfl, rfl⟩
                    · replace hE_3 := if_ff g57 hE_3
                      refine Tri.drawA mixedT Sep.up [(0, true), (1, true), (2, true), (3, true), (4, true), (5, true), (6, true), (7, true), (8, true), (9, true), (10, true), (11, true), (12, true), (13, true), (14, true), (15, true), (16, true), (17, true), (18, true), (19, true), (20, true), (21, true), (22, true), (23, true), (24, true), (25, true), (26, true), (27, true), (28, true), (29, true), (30, true), (31, true), (32, true), (33, true), (34, true), (35, true), (36, true), (37, true)] [] (by kernel_rfl) ?_
                      refine S.q rfl rfl rfl (wanted_none rfl) (r_indexAddrA Try.underlying140 ti3 rfl rfl (by decide) (by decide)) ?_
                      refine S.q rfl rfl rfl (wanted_none rfl) (r_load ta3 rfl (fun w hw => cell_1 (box_cells (i := 0) rfl w hw) rfl)) ?_
                      refine S.q rfl rfl rfl (wanted_none rfl) (r_lss rfl rfl) ?_
                      refine S.q rfl rfl rfl (wanted_none rfl) (r_move rfl) ?_
                      refine S.q rfl rfl rfl (wg rfl rfl rfl g34) (r_indexAddrA Try.underlying140 ti3 rfl rfl (by decide) (by decide)) ?_
                      refine S.q rfl rfl rfl (wg rfl rfl rfl g34) (r_load ta3 rfl (fun w hw => cell_1 (box_cells (i := 0) rfl w hw) rfl)) ?_
                      refine S.q rfl rfl rfl (wg rfl rfl rfl g34) (r_indexAddrA Try.underlying140 ti3 rfl rfl (by decide) (by decide)) ?_
                      refine S.q rfl rfl rfl (wg rfl rfl rfl g34) (r_load ta3 rfl (fun w hw => cell_1 (box_cells (i := 0) rfl w hw) rfl)) ?_
                      refine S.q rfl rfl rfl (wg rfl rfl rfl g34) (r_geq rfl rfl) ?_
                      refine S.q rfl rfl rfl (wanted_none rfl) (r_pickf rfl rfl g34) ?_
                      refine S.q rfl rfl rfl (wanted_none rfl) (r_move rfl) ?_
                      refine S.q rfl rfl rfl (wg rfl rfl rfl g41) (r_indexAddrA Try.underlying140 ti3 rfl rfl (by decide) (by decide)) ?_
                      refine S.q rfl rfl rfl (wg rfl rfl rfl g41) (r_load ta3 rfl (fun w hw => cell_1 (box_cells (i := 0) rfl w hw) rfl)) ?_
                      refine S.q rfl rfl rfl (wg rfl rfl rfl g41) (r_fieldAddr tf55_0 rfl) ?_
                      refine S.q rfl rfl rfl (wg rfl rfl rfl g41) (r_load ta3 rfl (fun w hw => cell_1 (box_cells (i := 1) rfl w hw) rfl)) ?_
                      refine S.q rfl rfl rfl (wg rfl rfl rfl g41) (r_geq rfl rfl) ?_
                      refine S.q rfl rfl rfl (wanted_none rfl) (r_pickf rfl rfl g41) ?_
                      refine S.q rfl rfl rfl (wanted_none rfl) (r_move rfl) ?_
                      refine S.q rfl rfl rfl (wg rfl rfl rfl g48) (r_indexAddrA Try.underlying140 ti3 rfl rfl (by decide) (by decide)) ?_
                      refine S.q rfl rfl rfl (wg rfl rfl rfl g48) (r_load ta3 rfl (fun w hw => cell_1 (box_cells (i := 0) rfl w hw) rfl)) ?_
                      refine S.qc rfl rfl rfl (wg rfl rfl rfl g48) (q_callF (xs := _) rfl ok144 rfl rfl (fun w hw => impl_isSet.ok h51 w )) ?_
                      refine S.q rfl rfl rfl (wg rfl rfl rfl g48) (r_not rfl) ?_
                      refine S.q rfl rfl rfl (wanted_none rfl) (r_pickf rfl rfl g48) ?_
                      refine S.q rfl rfl rfl (wanted_none rfl) (r_move rfl) ?_
                      refine S.q rfl rfl rfl (wg rfl rfl rfl g54) (r_move rfl) ?_
                      refine S.q rfl rfl rfl (wg rfl rfl rfl g54) (r_gtr rfl rfl) ?_
                      refine S.q rfl rfl rfl (wg rfl rfl rfl g54) (r_move rfl) ?_
                      refine S.sk rfl rfl rfl (wf rfl rfl rfl g57) ?_
                      refine S.sk rfl rfl rfl (wf rfl rfl rfl g57) ?_
                      refine S.sk rfl rfl rfl (wf rfl rfl rfl g57) ?_
                      refine S.sk rfl rfl rfl (wf rfl rfl rfl g57) ?_
                      refine S.sk rfl rfl rfl (wf rfl rfl rfl g57) ?_
                      refine S.sk rfl rfl rfl (wf rfl rfl rfl g57) ?_
                      refine S.sk rfl rfl rfl (wf rfl rfl rfl g57) ?_
                      refine S.sk rfl rfl rfl (wf rfl rfl rfl g57) ?_
                      refine S.sk rfl rfl rfl (wf rfl rfl rfl g57) ?_
                      refine S.q rfl rfl rfl (wg rfl rfl rfl g54) (r_pickf rfl rfl g57) ?_
                      refine S.q rfl rfl rfl (wanted_none rfl) (r_pickf rfl rfl g54) ?_
                      refine S.nil ?_
                      refine F.nil ?_
                      cases hE_3
                      refine Nrm.only [1, 24, 25, 26, 68] rfl ?_
                      refine Nrm.pick [1] rfl rfl ?_
                      exact hj_2 _ _ ⟨rfl, rfl⟩
        · replace hE_2 := if_ff g_2 hE_2
          refine Tri.exit ?_
          refine Exi.then ?_
          refine Exi.then ?_
          refine Exi.same ?_
          cases hE_2
          replace h := Lr_inl h
          refine Nrm.seq ?_
          refine Tri.seq ?_
          obtain ⟨t72, h72, h⟩ := bind_some h
          refine Tri.reg (l := [0, 1, 2, 3, 4]) rfl ?_
          refine F.q rfl rfl rfl (wanted_none rfl) (r_fieldAddr tf55_2 rfl) ?_
          refine F.q rfl rfl rfl (wanted_none rfl) (r_load ta38 rfl (fun w hw => cell_1 (box_cells (i := 0) rfl w hw) rfl)) ?_
          refine F.qc rfl rfl rfl (wanted_none rfl) (q_callF (xs := _) rfl ok122 rfl rfl (fun w hw => slices_ContainsFunc_int_int.ok h72 w ((fun _ hw => hr_a0_2.sep hw) w hw) ok160 (fun w2 he2 z0 y2 hy2 => impl_IsMaze_1.ok hy2 w2 ))) ?_
          refine F.q rfl rfl rfl (wanted_none rfl) (r_not rfl) ?_
          refine F.q rfl rfl rfl (wanted_none rfl) (r_assign rfl) ?_
          refine F.nil ?_
          refine Nrm.seq ?_
          refine Tri.ret ?_
          cases h
          exact Rtn.body (.tmp rfl .nil) (fun w hw => ⟨rfl, hw.ext⟩)
  · obtain ⟨t7, h7, hE_1⟩ := bind_some hE_1
    rcases Bool.eq_false_or_eq_true (!t7) with g9 | g9
    · replace hE_1 := if_tt g9 hE_1
      refine Tri.reg (l := [0, 1, 2, 3, 4, 5, 6, 7, 8, 9, 10, 11, 12, 13, 14, 15, 16, 17]) rfl ?_
      refine F.q rfl rfl rfl (wanted_none rfl) (r_fieldAddr tf55_0 rfl) ?_
      refine F.q rfl rfl rfl (wanted_none rfl) (r_load ta3 rfl (fun w hw => cell_1 (box_cells (i := 0) rfl w hw) rfl)) ?_
      refine F.qc rfl rfl rfl (wanted_none rfl) (q_callF (xs := _) rfl ok88 rfl rfl (fun w hw => impl_within.ok h7 w )) ?_
      refine F.q rfl rfl rfl (wanted_none rfl) (r_not rfl) ?_
      refine F.q rfl rfl rfl (wanted_none rfl) (r_move rfl) ?_
      refine F.sk rfl rfl rfl (wf rfl rfl rfl g9) ?_
      refine F.sk rfl rfl rfl (wf rfl rfl rfl g9) ?_
      refine F.sk rfl rfl rfl (wf rfl rfl rfl g9) ?_
      refine F.sk rfl rfl rfl (wf rfl rfl rfl g9) ?_
      refine F.q rfl rfl rfl (wanted_none rfl) (r_pick rfl rfl g9) ?_
      refine F.q rfl rfl rfl (wanted_none rfl) (r_move rfl) ?_
      refine F.sk rfl rfl rfl (wf rfl rfl rfl rfl) ?_
      refine F.sk rfl rfl rfl (wf rfl rfl rfl rfl) ?_
      refine F.sk rfl rfl rfl (wf rfl rfl rfl rfl) ?_
      refine F.sk rfl rfl rfl (wf rfl rfl rfl rfl) ?_
      refine F.sk rfl rfl rfl (wf rfl rfl rfl rfl) ?_
      refine F.sk rfl rfl rfl (wf rfl rfl rfl rfl) ?_
      refine F.q rfl rfl rfl (wanted_none rfl) (r_pick rfl rfl rfl) ?_
      refine F.nil ?_
      cases hE_1
      refine Nrm.only [1, 22] rfl ?_
      refine Nrm.pick [0] rfl rfl ?_
      exact hj_1 _ _ ⟨rfl, rfl⟩
    · replace hE_1 := if_ff g9 hE_1
      rcases Bool.eq_false_or_eq_true (decide ((a0_1.length : Int) > 30)) with g15 | g15
      · replace hE_1 := if_tt g15 hE_1
        refine Tri.reg (l := [0, 1, 2, 3, 4, 5, 6, 7, 8, 9, 10, 11, 12, 13, 14, 15, 16, 17]) rfl ?_
        refine F.q rfl rfl rfl (wanted_none rfl) (r_fieldAddr tf55_0 rfl) ?_
        refine F.q rfl rfl rfl (wanted_none rfl) (r_load ta3 rfl (fun w hw => cell_1 (box_cells (i := 0) rfl w hw) rfl)) ?_
        refine F.qc rfl rfl rfl (wanted_none rfl) (q_callF (xs := _) rfl ok88 rfl rfl (fun w hw => impl_within.ok h7 w )) ?_
        refine F.q rfl rfl rfl (wanted_none rfl) (r_not rfl) ?_
        refine F.q rfl rfl rfl (wanted_none rfl) (r_move rfl) ?_
        refine F.q rfl rfl rfl (wg rfl rfl rfl g9) (r_fieldAddr tf55_1 rfl) ?_
        refine F.q rfl rfl rfl (wg rfl rfl rfl g9) (r_load ta49 rfl (fun w hw => cell_1 (box_cells (i := 0) rfl w hw) rfl)) ?_
        refine F.q rfl rfl rfl (wg rfl rfl rfl g9) (r_len Try.underlying49 rfl hl_va0_1) ?_
        refine F.q rfl rfl rfl (wg rfl rfl rfl g9) (r_gtr rfl rfl) ?_
        refine F.q rfl rfl rfl (wanted_none rfl) (r_pickf rfl rfl g9) ?_
        refine F.q rfl rfl rfl (wanted_none rfl) (r_move rfl) ?_
        refine F.sk rfl rfl rfl (wf rfl rfl rfl g15) ?_
        refine F.sk rfl rfl rfl (wf rfl rfl rfl g15) ?_
        refine F.sk rfl rfl rfl (wf rfl rfl rfl g15) ?_
        refine F.sk rfl rfl rfl (wf rfl rfl rfl g15) ?_
        refine F.sk rfl rfl rfl (wf rfl rfl rfl g15) ?_
        refine F.sk rfl rfl rfl (wf rfl rfl rfl g15) ?_
        refine F.q rfl rfl rfl (wanted_none rfl) (r_pick rfl rfl g15) ?_
        refine F.nil ?_
        cases hE_1
        refine Nrm.only [1, 22] rfl ?_
        refine Nrm.pick [0] rfl rfl ?_
        exact hj_1 _ _ ⟨rfl, rfl⟩
      · replace hE_1 := if_ff g15 hE_1
        refine Tri.reg (l := [0, 1, 2, 3, 4, 5, 6, 7, 8, 9, 10, 11, 12, 13, 14, 15, 16, 17]) rfl ?_
        refine F.q rfl rfl rfl (wanted_none rfl) (r_fieldAddr tf55_0 rfl) ?_
        refine F.q rfl rfl rfl (wanted_none rfl) (r_load ta3 rfl (fun w hw => cell_1 (box_cells (i := 0) rfl w hw) rfl)) ?_
        refine F.qc rfl rfl rfl (wanted_none rfl) (q_callF (xs := _) rfl ok88 rfl rfl (fun w hw => impl_within.ok h7 w )) ?_
        refine F.q rfl rfl rfl (wanted_none rfl) (r_not rfl) ?_
        refine F.q rfl rfl rfl (wanted_none rfl) (r_move rfl) ?_
        refine F.q rfl rfl rfl (wg rfl rfl rfl g9) (r_fieldAddr tf55_1 rfl) ?_
        refine F.q rfl rfl rfl (wg rfl rfl rfl g9) (r_load ta49 rfl (fun w hw => cell_1 (box_cells (i := 0) rfl w hw) rfl)) ?_
        refine F.q rfl rfl rfl (wg rfl rfl rfl g9) (r_len Try.underlying49 rfl hl_va0_1) ?_
        refine F.q rfl rfl rfl (wg rfl rfl rfl g9) (r_gtr rfl rfl) ?_
        refine F.q rfl rfl rfl (wanted_none rfl) (r_pickf rfl rfl g9) ?_
        refine F.q rfl rfl rfl (wanted_none rfl) (r_move rfl) ?_
        refine F.q rfl rfl rfl (wg rfl rfl rfl g15) (r_fieldAddr tf55_2 rfl) ?_
        refine F.q rfl rfl rfl (wg rfl rfl rfl g15) (r_load ta38 rfl (fun w hw => cell_1 (box_cells (i := 0) rfl w hw) rfl)) ?_
        refine F.q rfl rfl rfl (wg rfl rfl rfl g15) (r_len Try.underlying38 rfl hl_va0_2) ?_
        refine F.q rfl rfl rfl (wg rfl rfl rfl g15) (r_fieldAddr tf55_0 rfl) ?_
        refine F.q rfl rfl rfl (wg rfl rfl rfl g15) (r_load ta3 rfl (fun w hw => cell_1 (box_cells (i := 0) rfl w hw) rfl)) ?_
        refine F.q rfl rfl rfl (wg rfl rfl rfl g15) (r_neq rfl rfl) ?_
        refine F.q rfl rfl rfl (wanted_none rfl) (r_pickf rfl rfl g15) ?_
        refine F.nil ?_
        cases hE_1
        refine Nrm.only [1, 22] rfl ?_
        refine Nrm.pick [0] rfl rfl ?_
        exact hj_1 _ _ ⟨rfl, rfl⟩

end Go.Proofs

/- loop.example/g01158/impl.IsTrap -/
namespace Go.Proofs
open Go Go.Ga
set_option linter.unusedVariables false
set_option maxRecDepth 100000
set_option maxHeartbeats 4000000
def impl_IsTrap.l0 (k : Nat) (a0_1 : List (Int × Int × Int)) (a0_3 : List Int) : Nat → Int → Option ((Unit) ⊕ (Bool))
  | 0, _ => none
  | n + 1, x12 => (if (decide (x12 < (a0_3.length : Int))) = true then (rdl a0_3 x12).bind fun t15 => ((impl_within.f k t15 0 (w64 ((a0_1.length : Int) - 1))).bind fun t23 => (if (!t23) = true then some true else (if (decide (x12 > 0)) = true then (rdl a0_3 (w64 (x12 - 1))).bind fun t34 => some (decide (t15 ≤ t34)) else some false))).bind fun y38 => (if y38 = true then some (Sum.inr false) else impl_IsTrap.l0 k a0_1 a0_3 n (w64 (x12 + 1))) else some (Sum.inl ()))

def impl_IsTrap.f (k : Nat) (a0_0 : Int) (a0_1 : List (Int × Int × Int)) (a0_2 : List Int) (a0_3 : List Int) : Option (Bool) := (impl_IsMaze.f k a0_0 a0_1 a0_2).bind fun t7 => (if (!t7) = true then some false else (impl_IsTrap.l0 k a0_1 a0_3 k 0).bind fun s => Lr s some fun _ => some true)

theorem impl_IsTrap.ok {k : Nat}  {a0_0 : Int} {a0_1 : List (Int × Int × Int)} {a0_2 : List Int} {a0_3 : List Int} {r0 : Bool} (h : impl_IsTrap.f k a0_0 a0_1 a0_2 a0_3 = some r0) (w : World) {va0_1 : Value} {va0_2 : Value} {va0_3 : Value} (hr_a0_1 : Rd w va0_1 a0_1) (hr_a0_2 : Rd w va0_2 a0_2) (hr_a0_3 : Rd w va0_3 a0_3) :
    Calls Try.prog 87 ([.agg ([.int .i64 a0_0, va0_1, va0_2, va0_3].toArray)] : List Value).toArray w (fun e w' => e = .returned (.bool r0) ∧ Ext w w') := by
  unfold impl_IsTrap.f at h
  have hl_va0_1 := hr_a0_1.len
  have hl_va0_2 := hr_a0_2.len
  have hl_va0_3 := hr_a0_3.len
  refine Calls.of_tri (N := 40) Try.func87 rfl rfl rfl (Sep.nil (M := noM)) ?_
  refine Tri.seq ?_
  refine Tri.reg (l := [0, 1]) rfl ?_
  refine F.m rfl rfl rfl (wanted_none rfl) (m_boxG rfl rfl) ?_
  rintro _ _ ⟨b1_1, rfl, rfl⟩
  refine F.q rfl rfl rfl (wanted_none rfl) (r_assign rfl) ?_
  refine F.nil ?_
  refine Nrm.seq ?_
  refine Tri.seq ?_
  refine Tri.seq ?_
  obtain ⟨t7, h7, h⟩ := bind_some h
  refine Tri.reg (l := [0, 1, 2, 3]) rfl ?_
  refine F.q rfl rfl rfl (wanted_none rfl) (r_fieldAddr tf57_0 rfl) ?_
  refine F.q rfl rfl rfl (wanted_none rfl) (r_loadA ta55 ti55 rfl rfl (fun w hw => cells_1 (cs' := [.int .i64 a0_0, va0_1, va0_2]) (box_cells (i := 0) rfl w hw) rfl)) ?_
  refine F.qc rfl rfl rfl (wanted_none rfl) (q_callF (xs := _) rfl ok121 rfl rfl (fun w hw => impl_IsMaze.ok h7 w ((fun _ hw => hr_a0_1.sep hw) w hw) ((fun _ hw => hr_a0_2.sep hw) w hw))) ?_
  refine F.q rfl rfl rfl (wanted_none rfl) (r_not rfl) ?_
  refine F.nil ?_
  refine Nrm.seq ?_
  refine Tri.cond (b := !t7) rfl (fun g_1 => ?_) (fun g_1 => ?_)
  · replace h := if_tt g_1 h
    refine Tri.seq ?_
    refine Tri.reg (l := [0]) rfl ?_
    refine F.q rfl rfl rfl (wanted_none rfl) (r_assign rfl) ?_
    refine F.nil ?_
    refine Nrm.seq ?_
    refine Tri.ret ?_
    refine Rtn.then ?_
    cases h
    exact Rtn.body (.tmp rfl .nil) (fun w hw => ⟨rfl, hw.ext⟩)
  · replace h := if_ff g_1 h
    refine Tri.skip ?_
    refine Nrm.seq ?_
    refine Tri.seq ?_
    refine Tri.seq ?_
    refine Tri.reg (l := [0, 1, 2, 3]) rfl ?_
    refine F.q rfl rfl rfl (wanted_none rfl) (r_fieldAddr tf57_1 rfl) ?_
    refine F.q rfl rfl rfl (wanted_none rfl) (r_load ta38 rfl (fun w hw => cell_1 (box_cells (i := 0) rfl w hw) rfl)) ?_
    refine F.q rfl rfl rfl (wanted_none rfl) (r_len Try.underlying38 rfl hl_va0_3) ?_
    refine F.q rfl rfl rfl (wanted_none rfl) (r_move rfl) ?_
    refine F.nil ?_
    refine Nrm.seq ?_
    obtain ⟨s0, hE_1, h⟩ := bind_some h
    refine Tri.block ?_
    refine Tri.only [1, 10, 11, 12] rfl ?_
    refine Tri.pick [0] rfl rfl ?_
    refine Tri.rounds (fun n e' C' => ∃ (x12' : Int), impl_IsTrap.l0 k a0_1 a0_3 n x12' = some s0 ∧ e' = [(1, .pointer (some ⟨b1_1, 0, none⟩)), (10, va0_3), (11, .int .i64 (a0_3.length : Int)), (12, .int .i64 x12')] ∧ C' = Sep w noM [R.box b1_1 57 [.int .i64 a0_0, va0_1, va0_2, va0_3]]) k ?_ ?_ ?_
    · exact ⟨0, hE_1, rfl, rfl⟩
    · rintro _ _ ⟨_, hE_1, _⟩
      rw [impl_IsTrap.l0.eq_1] at hE_1; cases hE_1
    · rintro n_1 _ _ ⟨x12, hE_1, rfl, rfl⟩ ih_1
      rw [impl_IsTrap.l0.eq_2] at hE_1
      refine Tri.seq ?_
      refine Tri.reg (l := [0]) rfl ?_
      refine F.q rfl rfl rfl (wanted_none rfl) (r_lss rfl rfl) ?_
      refine F.nil ?_
      refine Nrm.seq ?_
      refine Tri.seq ?_
      refine Tri.cond (b := decide (x12 < (a0_3.length : Int))) rfl (fun g_2 => ?_) (fun g_2 => ?_)
      · replace hE_1 := if_tt g_2 hE_1
        refine Tri.skip ?_
        refine Nrm.seq ?_
        refine Tri.seq ?_
        refine Tri.block ?_
        refine Tri.seq ?_
        obtain ⟨t15, h15, hE_1⟩ := bind_some hE_1
        refine Tri.reg (l := [0, 1, 2, 3, 4]) rfl ?_
        refine F.q rfl rfl rfl (wanted_none rfl) (r_move rfl) ?_
        refine F.q rfl rfl rfl (wanted_none rfl) (r_indexAddrS Try.underlying38 ti3 rfl hl_va0_3 rfl (rdl_some h15).1 (rdl_some h15).2.1) ?_
        refine F.q rfl rfl rfl (wanted_none rfl) (r_load ta3 rfl (fun w hw => cell_0 (Rd.flat ((fun _ hw => hr_a0_3.sep hw) w hw) (rdl_some h15).2.2) rfl)) ?_
        refine F.q rfl rfl rfl (wanted_none rfl) (r_assign rfl) ?_
        refine F.q rfl rfl rfl (wanted_none rfl) (r_assign rfl) ?_
        refine F.nil ?_
        refine Nrm.seq ?_
        refine Tri.seq ?_
        obtain ⟨y38, hE_2, hE_1⟩ := bind_some hE_1
        refine Tri.cut (fun e' C' => e' = [(1, .pointer (some ⟨b1_1, 0, none⟩)), (10, va0_3), (11, .int .i64 (a0_3.length : Int)), (12, .int .i64 x12), (38, .bool y38)] ∧ C' = Sep w noM [R.box b1_1 57 [.int .i64 a0_0, va0_1, va0_2, va0_3]]) ?_ (fun hj_1 => ?_)
        · rintro _ _ ⟨rfl, rfl⟩
          refine Nrm.seq ?_
          refine Tri.cond (b := y38) rfl (fun g_3 => ?_) (fun g_3 => ?_)
          · replace hE_1 := if_tt g_3 hE_1
            refine Tri.seq ?_
            refine Tri.reg (l := [0]) rfl ?_
            refine F.q rfl rfl rfl (wanted_none rfl) (r_assign rfl) ?_
            refine F.nil ?_
            refine Nrm.seq ?_
            refine Tri.ret ?_
            refine Rtn.block ?_
            refine Rtn.then ?_
            refine Rtn.then ?_
            refine Rtn.block ?_
            refine Rtn.then ?_
            cases hE_1
            replace h := Lr_inr h
            cases h
            exact Rtn.body (.tmp rfl .nil) (fun w hw => ⟨rfl, hw.ext⟩)
          · replace hE_1 := if_ff g_3 hE_1
            refine Tri.skip ?_
            refine Nrm.block ?_
            refine Nrm.seq ?_
            refine Tri.reg (l := [0, 1]) rfl ?_
            refine F.q rfl rfl rfl (wanted_none rfl) (r_add rfl rfl) ?_
            refine F.q rfl rfl rfl (wanted_none rfl) (r_move rfl) ?_
            refine F.nil ?_
            refine Nrm.round ?_
            refine Rnd.only [1, 10, 11, 12] rfl ?_
            refine Rnd.pick [0] rfl rfl ?_
            exact ih_1 _ _ ⟨w64 (x12 + 1), hE_1, rfl, rfl⟩
        · obtain ⟨t23, h23, hE_2⟩ := bind_some hE_2
          rcases Bool.eq_false_or_eq_true (!t23) with g25 | g25
          · replace hE_2 := if_tt g25 hE_2
            refine Tri.reg (l := [0, 1, 2, 3, 4, 5, 6, 7, 8, 9, 10, 11, 12, 13, 14, 15, 16, 17, 18, 19, 20, 21]) rfl ?_
            refine F.q rfl rfl rfl (wanted_none rfl) (r_move rfl) ?_
            refine F.q rfl rfl rfl (wanted_none rfl) (r_fieldAddr tf57_0 rfl) ?_
            refine F.q rfl rfl rfl (wanted_none rfl) (r_fieldAddr tf55_1 rfl) ?_
            refine F.q rfl rfl rfl (wanted_none rfl) (r_load ta49 rfl (fun w hw => cell_2 (box_cells (i := 0) rfl w hw) rfl)) ?_
            refine F.q rfl rfl rfl (wanted_none rfl) (r_len Try.underlying49 rfl hl_va0_1) ?_
            refine F.q rfl rfl rfl (wanted_none rfl) (r_sub rfl rfl) ?_
            refine F.qc rfl rfl rfl (wanted_none rfl) (q_callF (xs := _) rfl ok88 rfl rfl (fun w hw => impl_within.ok h23 w )) ?_
            refine F.q rfl rfl rfl (wanted_none rfl) (r_not rfl) ?_
            refine F.q rfl rfl rfl (wanted_none rfl) (r_move rfl) ?_
            refine F.sk rfl rfl rfl (wf rfl rfl rfl g25) ?_
            refine F.sk rfl rfl rfl (wf rfl rfl rfl g25) ?_
            refine F.sk rfl rfl rfl (wf rfl rfl rfl g25) ?_
            refine F.sk rfl rfl rfl (wanted_undef rfl rfl rfl) ?_
            refine F.sk rfl rfl rfl (wanted_undef rfl rfl rfl) ?_
            refine F.sk rfl rfl rfl (wanted_undef rfl rfl rfl) ?_
            refine F.sk rfl rfl rfl (wanted_undef rfl rfl rfl) ?_
            refine F.sk rfl rfl rfl (wanted_undef rfl rfl rfl) ?_
            refine F.sk rfl rfl rfl (wanted_undef rfl rfl rfl) ?_
            refine F.sk rfl rfl rfl (wanted_undef rfl rfl rfl) ?_
            refine F.sk rfl rfl rfl (wanted_undef rfl rfl rfl) ?_
            refine F.sk rfl rfl rfl (wf rfl rfl rfl g25) ?_
            refine F.q rfl rfl rfl (wanted_none rfl) (r_pick rfl rfl g25) ?_
            refine F.nil ?_
            cases hE_2
            refine Nrm.only [1, 10, 11, 12, 38] rfl ?_
            refine Nrm.pick [0] rfl rfl ?_
            exact hj_1 _ _ ⟨rfl, rfl⟩
          · replace hE_2 := if_ff g25 hE_2
            rcases Bool.eq_false_or_eq_true (decide (x12 > 0)) with g28 | g28
            · replace hE_2 := if_tt g28 hE_2
              obtain ⟨t34, h34, hE_2⟩ := bind_some hE_2
              refine Tri.reg (l := [0, 1, 2, 3, 4, 5, 6, 7, 8, 9, 10, 11, 12, 13, 14, 15, 16, 17, 18, 19, 20, 21]) rfl ?_
              refine F.q rfl rfl rfl (wanted_none rfl) (r_move rfl) ?_
              refine F.q rfl rfl rfl (wanted_none rfl) (r_fieldAddr tf57_0 rfl) ?_
              refine F.q rfl rfl rfl (wanted_none rfl) (r_fieldAddr tf55_1 rfl) ?_
              refine F.q rfl rfl rfl (wanted_none rfl) (r_load ta49 rfl (fun w hw => cell_2 (box_cells (i := 0) rfl w hw) rfl)) ?_
              refine F.q rfl rfl rfl (wanted_none rfl) (r_len Try.underlying49 rfl hl_va0_1) ?_
              refine F.q rfl rfl rfl (wanted_none rfl) (r_sub rfl rfl) ?_
              refine F.qc rfl rfl rfl (wanted_none rfl) (q_callF (xs := _) rfl ok88 rfl rfl (fun w hw => impl_within.ok h23 w )) ?_
              refine F.q rfl rfl rfl (wanted_none rfl) (r_not rfl) ?_
              refine F.q rfl rfl rfl (wanted_none rfl) (r_move rfl) ?_
              refine F.q rfl rfl rfl (wg rfl rfl rfl g25) (r_move rfl) ?_
              refine F.q rfl rfl rfl (wg rfl rfl rfl g25) (r_gtr rfl rfl) ?_
              refine F.q rfl rfl rfl (wg rfl rfl rfl g25) (r_move rfl) ?_
              refine F.q rfl rfl rfl (wg rfl rfl rfl g28) (r_move rfl) ?_
              refine F.q rfl rfl rfl (wg rfl rfl rfl g28) (r_fieldAddr tf57_1 rfl) ?_
              refine F.q rfl rfl rfl (wg rfl rfl rfl g28) (r_load ta38 rfl (fun w hw => cell_1 (box_cells (i := 0) rfl w hw) rfl)) ?_
              refine F.q rfl rfl rfl (wg rfl rfl rfl g28) (r_move rfl) ?_
              refine F.q rfl rfl rfl (wg rfl rfl rfl g28) (r_sub rfl rfl) ?_
              refine F.q rfl rfl rfl (wg rfl rfl rfl g28) (r_indexAddrS Try.underlying38 ti3 rfl hl_va0_3 rfl (rdl_some h34).1 (rdl_some h34).2.1) ?_
              refine F.q rfl rfl rfl (wg rfl rfl rfl g28) (r_load ta3 rfl (fun w hw => cell_0 (Rd.flat ((fun _ hw => hr_a0_3.sep hw) w hw) (rdl_some h34).2.2) rfl)) ?_
              refine F.q rfl rfl rfl (wg rfl rfl rfl g28) (r_leq rfl rfl) ?_
              refine F.q rfl rfl rfl (wg rfl rfl rfl g25) (r_pick rfl rfl g28) ?_
              refine F.q rfl rfl rfl (wanted_none rfl) (r_pickf rfl rfl g25) ?_
              refine F.nil ?_
              cases hE_2
              refine Nrm.only [1, 10, 11, 12, 38] rfl ?_
              refine Nrm.pick [0] rfl rfl ?_
              exact hj_1 _ _ ⟨rfl, rfl⟩
            · replace hE_2 := if_ff g28 hE_2
              refine Tri.reg (l := [0, 1, 2, 3, 4, 5, 6, 7, 8, 9, 10, 11, 12, 13, 14, 15, 16, 17, 18, 19, 20, 21]) rfl ?_
              refine F.q rfl rfl rfl (wanted_none rfl) (r_move rfl) ?_
              refine F.q rfl rfl rfl (wanted_none rfl) (r_fieldAddr tf57_0 rfl) ?_
              refine F.q rfl rfl rfl (wanted_none rfl) (r_fieldAddr tf55_1 rfl) ?_
              refine F.q rfl rfl rfl (wanted_none rfl) (r_load ta49 rfl (fun w hw => cell_2 (box_cells (i := 0) rfl w hw) rfl)) ?_
              refine F.q rfl rfl rfl (wanted_none rfl) (r_len Try.underlying49 rfl hl_va0_1) ?_
              refine F.q rfl rfl rfl (wanted_none rfl) (r_sub rfl rfl) ?_
              refine F.qc rfl rfl rfl (wanted_none rfl) (q_callF (xs := _) rfl ok88 rfl rfl (fun w hw => impl_within.ok h23 w )) ?_
              refine F.q rfl rfl rfl (wanted_none rfl) (r_not rfl) ?_
              refine F.q rfl rfl rfl (wanted_none rfl) (r_move rfl) ?_
              refine F.q rfl rfl rfl (wg rfl rfl rfl g25) (r_move rfl) ?_
              refine F.q rfl rfl rfl (wg rfl rfl rfl g25) (r_gtr rfl rfl) ?_
              refine F.q rfl rfl rfl (wg rfl rfl rfl g25) (r_move rfl) ?_
              refine F.sk rfl rfl rfl (wf rfl rfl rfl g28) ?_
              refine F.sk rfl rfl rfl (wf rfl rfl rfl g28) ?_
              refine F.sk rfl rfl rfl (wf rfl rfl rfl g28) ?_
              refine F.sk rfl rfl rfl (wf rfl rfl rfl g28) ?_
              refine F.sk rfl rfl rfl (wf rfl rfl rfl g28) ?_
              refine F.sk rfl rfl rfl (wf rfl rfl rfl g28) ?_
              refine F.sk rfl rfl rfl (wf rfl rfl rfl g28) ?_
              refine F.sk rfl rfl rfl (wf rfl rfl rfl g28) ?_
              refine F.q rfl rfl rfl (wg rfl rfl rfl g25) (r_pickf rfl rfl g28) ?_
              refine F.q rfl rfl rfl (wanted_none rfl) (r_pickf rfl rfl g25) ?_
              refine F.nil ?_
              cases hE_2
              refine Nrm.only [1, 10, 11, 12, 38] rfl ?_
              refine Nrm.pick [0] rfl rfl ?_
              exact hj_1 _ _ ⟨rfl, rfl⟩
      · replace hE_1 := if_ff g_2 hE_1
        refine Tri.exit ?_
        refine Exi.then ?_
        refine Exi.then ?_
        refine Exi.same ?_
        cases hE_1
        replace h := Lr_inl h
        refine Nrm.seq ?_
        refine Tri.seq ?_
        refine Tri.reg (l := [0]) rfl ?_
        refine F.q rfl rfl rfl (wanted_none rfl) (r_assign rfl) ?_
        refine F.nil ?_
        refine Nrm.seq ?_
        refine Tri.ret ?_
        cases h
        exact Rtn.body (.tmp rfl .nil) (fun w hw => ⟨rfl, hw.ext⟩)

end Go.Proofs

/- loop.example/g01158/impl.trapWalk -/
namespace Go.Proofs
open Go Go.Ga
set_option linter.unusedVariables false
set_option maxRecDepth 100000
set_option maxHeartbeats 4000000
def impl_trapWalk.l0 (k : Nat) (a0_0 : Int) (a0_1 : List (Int × Int × Int)) (a0_2 : List Int) (a0_3 : List Int) (t26 : List (Int)) : Nat → Int → Int → Int → Option ((Int × Int) ⊕ (Int × Int × Bool))
  | 0, _, _, _ => none
  | n + 1, x7, x8, x28 => (if (decide (x28 < (t26.length : Int))) = true then (rdl t26 x28).bind fun t30 => ((impl_within.f k t30 0 (w64 (a0_0 - 1))).bind fun t37 => (if (!t37) = true then some true else (impl_trapSteps.f k a0_0 a0_1 a0_2 a0_3 x7 x8).bind fun t43 => if ¬ t30 < 0 then some ((band (shr t43 t30) 1) == 0) else none)).bind fun y48 => (if y48 = true then some (Sum.inr (0, 0, false)) else (rdl a0_2 t30).bind fun t55 => impl_trapWalk.l0 k a0_0 a0_1 a0_2 a0_3 t26 n t30 (bor x8 t55) (w64 (x28 + 1))) else some (Sum.inl (x7, x8)))

def impl_trapWalk.f (k : Nat) (a0_0 : Int) (a0_1 : List (Int × Int × Int)) (a0_2 : List Int) (a0_3 : List Int) (a1 : List Int) : Option (Int × Int × Bool) := ((if ((a1.length : Int) == 0) = true then some true else (rdl a1 0).bind fun t16 => some (t16 != 0))).bind fun y19 => (if y19 = true then some (0, 0, false) else (rdl a0_2 0).bind fun t23 => (slc a1 1 (a1.length : Int)).bind fun t26 => (impl_trapWalk.l0 k a0_0 a0_1 a0_2 a0_3 t26 k 0 t23 0).bind fun s => Lr s some fun (x7, x8) => some (x7, x8, true))

theorem impl_trapWalk.ok {k : Nat}  {a0_0 : Int} {a0_1 : List (Int × Int × Int)} {a0_2 : List Int} {a0_3 : List Int} {a1 : List Int} {r0 : Int} {r1 : Int} {r2 : Bool} (h : impl_trapWalk.f k a0_0 a0_1 a0_2 a0_3 a1 = some (r0, r1, r2)) (w : World) {va0_1 : Value} {va0_2 : Value} {va0_3 : Value} {va1 : Value} (hr_a0_1 : Rd w va0_1 a0_1) (hr_a0_2 : Rd w va0_2 a0_2) (hr_a0_3 : Rd w va0_3 a0_3) (hr_a1 : Rd w va1 a1) :
    Calls Try.prog 152 ([.agg ([.int .i64 a0_0, va0_1, va0_2, va0_3].toArray), va1] : List Value).toArray w (fun e w' => e = .returned (.tuple #[.int .i64 r0, .int .i64 r1, .bool r2]) ∧ Ext w w') := by
  unfold impl_trapWalk.f at h
  have hl_va0_1 := hr_a0_1.len
  have hl_va0_2 := hr_a0_2.len
  have hl_va0_3 := hr_a0_3.len
  have hl_va1 := hr_a1.len
  refine Calls.of_tri (N := 61) Try.func152 rfl rfl rfl (Sep.nil (M := noM)) ?_
  refine Tri.seq ?_
  refine Tri.reg (l := [0, 1, 2, 3]) rfl ?_
  refine F.m rfl rfl rfl (wanted_none rfl) (m_boxG rfl rfl) ?_
  rintro _ _ ⟨b2_1, rfl, rfl⟩
  refine F.q rfl rfl rfl (wanted_none rfl) (r_assign rfl) ?_
  refine F.q rfl rfl rfl (wanted_none rfl) (r_assign rfl) ?_
  refine F.q rfl rfl rfl (wanted_none rfl) (r_assign rfl) ?_
  refine F.nil ?_
  refine Nrm.seq ?_
  refine Tri.seq ?_
  refine Tri.seq ?_
  obtain ⟨y19, hE_1, h⟩ := bind_some h
  refine Tri.cut (fun e' C' => e' = [(1, va1), (2, .pointer (some ⟨b2_1, 0, none⟩)), (19, .bool y19)] ∧ C' = Sep w noM [R.box b2_1 57 [.int .i64 a0_0, va0_1, va0_2, va0_3]]) ?_ (fun hj_1 => ?_)
  · rintro _ _ ⟨rfl, rfl⟩
    refine Nrm.seq ?_
    refine Tri.cond (b := y19) rfl (fun g_1 => ?_) (fun g_1 => ?_)
    · replace h := if_tt g_1 h
      refine Tri.seq ?_
      refine Tri.reg (l := [0, 1, 2]) rfl ?_
      refine F.q rfl rfl rfl (wanted_none rfl) (r_assign rfl) ?_
      refine F.q rfl rfl rfl (wanted_none rfl) (r_assign rfl) ?_
      refine F.q rfl rfl rfl (wanted_none rfl) (r_assign rfl) ?_
      refine F.nil ?_
      refine Nrm.seq ?_
      refine Tri.ret ?_
      refine Rtn.then ?_
      cases h
      exact Rtn.body (.tmp rfl (.tmp rfl (.tmp rfl .nil))) (fun w hw => ⟨rfl, hw.ext⟩)
    · replace h := if_ff g_1 h
      refine Tri.skip ?_
      refine Nrm.seq ?_
      refine Tri.seq ?_
      obtain ⟨t23, h23, h⟩ := bind_some h
      refine Tri.drawA mixedT Sep.up [(0, true), (1, true), (2, true), (3, true), (4, true), (5, true), (6, true)] [] (by kernel_rfl) ?_
      refine S.q rfl rfl rfl (wanted_none rfl) (r_fieldAddr tf57_0 rfl) ?_
      refine S.q rfl rfl rfl (wanted_none rfl) (r_fieldAddr tf55_2 rfl) ?_
      refine S.q rfl rfl rfl (wanted_none rfl) (r_load ta38 rfl (fun w hw => cell_2 (box_cells (i := 0) rfl w hw) rfl)) ?_
      refine S.q rfl rfl rfl (wanted_none rfl) (r_indexAddrS Try.underlying38 ti3 rfl hl_va0_2 rfl (rdl_some h23).1 (rdl_some h23).2.1) ?_
      refine S.q rfl rfl rfl (wanted_none rfl) (r_load ta3 rfl (fun w hw => cell_0 (Rd.flat ((fun _ hw => hr_a0_2.sep hw) w hw) (rdl_some h23).2.2) rfl)) ?_
      refine S.q rfl rfl rfl (wanted_none rfl) (r_assign rfl) ?_
      refine S.q rfl rfl rfl (wanted_none rfl) (r_assign rfl) ?_
      refine S.nil ?_
      refine F.nil ?_
      refine Nrm.seq ?_
      refine Tri.seq ?_
      refine Tri.seq ?_
      obtain ⟨t26, h26, h⟩ := bind_some h
      refine Tri.reg (l := [0, 1, 2, 3]) rfl ?_
      refine F.q rfl rfl rfl (wanted_none rfl) (r_move rfl) ?_
      refine F.q rfl rfl rfl (wanted_none rfl) (r_sliceL Try.underlying38 ti3 rfl (fun _ hw => hr_a1.sep hw) rfl h26) ?_
      refine F.q rfl rfl rfl (wanted_none rfl) (r_len Try.underlying38 rfl (slc_len hl_va1 h26)) ?_
      refine F.q rfl rfl rfl (wanted_none rfl) (r_move rfl) ?_
      refine F.nil ?_
      refine Nrm.seq ?_
      obtain ⟨s0, hE_2, h⟩ := bind_some h
      refine Tri.block ?_
      refine Tri.only [2, 7, 8, 26, 27, 28] rfl ?_
      refine Tri.pick [0] rfl rfl ?_
      refine Tri.rounds (fun n e' C' => ∃ (x7' : Int) (x8' : Int) (x28' : Int), impl_trapWalk.l0 k a0_0 a0_1 a0_2 a0_3 t26 n x7' x8' x28' = some s0 ∧ e' = [(2, .pointer (some ⟨b2_1, 0, none⟩)), (7, .int .i64 x7'), (8, .int .i64 x8'), (26, (slSub va1 1 (1 : Int).toNat (a1.length : Int).toNat)), (27, .int .i64 (t26.length : Int)), (28, .int .i64 x28')] ∧ C' = Sep w noM [R.box b2_1 57 [.int .i64 a0_0, va0_1, va0_2, va0_3]]) k ?_ ?_ ?_
      · exact ⟨0, t23, 0, hE_2, rfl, rfl⟩
      · rintro _ _ ⟨_, _, _, hE_2, _⟩
        rw [impl_trapWalk.l0.eq_1] at hE_2; cases hE_2
      · rintro n_1 _ _ ⟨x7, x8, x28, hE_2, rfl, rfl⟩ ih_1
        rw [impl_trapWalk.l0.eq_2] at hE_2
        refine Tri.seq ?_
        refine Tri.reg (l := [0]) rfl ?_
        refine F.q rfl rfl rfl (wanted_none rfl) (r_lss rfl rfl) ?_
        refine F.nil ?_
        refine Nrm.seq ?_
        refine Tri.seq ?_
        refine Tri.cond (b := decide (x28 < (t26.length : Int))) rfl (fun g_2 => ?_) (fun g_2 => ?_)
        · replace hE_2 := if_tt g_2 hE_2
          refine Tri.skip ?_
          refine Nrm.seq ?_
          refine Tri.seq ?_
          refine Tri.block ?_
          refine Tri.seq ?_
          obtain ⟨t30, h30, hE_2⟩ := bind_some hE_2
          refine Tri.reg (l := [0, 1, 2]) rfl ?_
          refine F.q rfl rfl rfl (wanted_none rfl) (r_indexAddrS Try.underlying38 ti3 rfl (slc_len hl_va1 h26) rfl (rdl_some h30).1 (rdl_some h30).2.1) ?_
          refine F.q rfl rfl rfl (wanted_none rfl) (r_load ta3 rfl (fun w hw => cell_0 (Rd.flat ((fun w hw => rd_slc ((fun _ hw => hr_a1.sep hw) w hw) h26) w hw) (rdl_some h30).2.2) rfl)) ?_
          refine F.q rfl rfl rfl (wanted_none rfl) (r_assign rfl) ?_
          refine F.nil ?_
          refine Nrm.seq ?_
          refine Tri.seq ?_
          refine Tri.seq ?_
          obtain ⟨y48, hE_3, hE_2⟩ := bind_some hE_2
          refine Tri.cut (fun e' C' => e' = [(2, .pointer (some ⟨b2_1, 0, none⟩)), (8, .int .i64 x8), (10, .int .i64 t30), (26, (slSub va1 1 (1 : Int).toNat (a1.length : Int).toNat)), (27, .int .i64 (t26.length : Int)), (28, .int .i64 x28), (48, .bool y48)] ∧ C' = Sep w noM [R.box b2_1 57 [.int .i64 a0_0, va0_1, va0_2, va0_3]]) ?_ (fun hj_2 => ?_)
          · rintro _ _ ⟨rfl, rfl⟩
            refine Nrm.seq ?_
            refine Tri.cond (b := y48) rfl (fun g_3 => ?_) (fun g_3 => ?_)
            · replace hE_2 := if_tt g_3 hE_2
              refine Tri.seq ?_
              refine Tri.reg (l := [0, 1, 2]) rfl ?_
              refine F.q rfl rfl rfl (wanted_none rfl) (r_assign rfl) ?_
              refine F.q rfl rfl rfl (wanted_none rfl) (r_assign rfl) ?_
              refine F.q rfl rfl rfl (wanted_none rfl) (r_assign rfl) ?_
              refine F.nil ?_
              refine Nrm.seq ?_
              refine Tri.ret ?_
              refine Rtn.then ?_
              refine Rtn.block ?_
              refine Rtn.then ?_
              refine Rtn.then ?_
              refine Rtn.block ?_
              refine Rtn.then ?_
              cases hE_2
              replace h := Lr_inr h
              cases h
              exact Rtn.body (.tmp rfl (.tmp rfl (.tmp rfl .nil))) (fun w hw => ⟨rfl, hw.ext⟩)
            · replace hE_2 := if_ff g_3 hE_2
              refine Tri.skip ?_
              refine Nrm.seq ?_
              obtain ⟨t55, h55, hE_2⟩ := bind_some hE_2
              refine Tri.drawA mixedT Sep.up [(0, true), (1, true), (2, true), (3, true), (4, true), (5, true), (6, true), (7, true), (8, true), (9, true), (10, true)] [] (by kernel_rfl) ?_
              refine S.q rfl rfl rfl (wanted_none rfl) (r_move rfl) ?_
              refine S.q rfl rfl rfl (wanted_none rfl) (r_move rfl) ?_
              refine S.q rfl rfl rfl (wanted_none rfl) (r_fieldAddr tf57_0 rfl) ?_
              refine S.q rfl rfl rfl (wanted_none rfl) (r_fieldAddr tf55_2 rfl) ?_
              refine S.q rfl rfl rfl (wanted_none rfl) (r_load ta38 rfl (fun w hw => cell_2 (box_cells (i := 0) rfl w hw) rfl)) ?_
              refine S.q rfl rfl rfl (wanted_none rfl) (r_move rfl) ?_
              refine S.q rfl rfl rfl (wanted_none rfl) (r_indexAddrS Try.underlying38 ti3 rfl hl_va0_2 rfl (rdl_some h55).1 (rdl_some h55).2.1) ?_
              refine S.q rfl rfl rfl (wanted_none rfl) (r_load ta3 rfl (fun w hw => cell_0 (Rd.flat ((fun _ hw => hr_a0_2.sep hw) w hw) (rdl_some h55).2.2) rfl)) ?_
              refine S.q rfl rfl rfl (wanted_none rfl) (r_or rfl rfl) ?_
              refine S.q rfl rfl rfl (wanted_none rfl) (r_assign rfl) ?_
              refine S.q rfl rfl rfl (wanted_none rfl) (r_assign rfl) ?_
              refine S.nil ?_
              refine F.nil ?_
              refine Nrm.block ?_
              refine Nrm.seq ?_
              refine Tri.reg (l := [0, 1]) rfl ?_
              refine F.q rfl rfl rfl (wanted_none rfl) (r_add rfl rfl) ?_
              refine F.q rfl rfl rfl (wanted_none rfl) (r_move rfl) ?_
              refine F.nil ?_
              refine Nrm.round ?_
              refine Rnd.only [2, 7, 8, 26, 27, 28] rfl ?_
              refine Rnd.pick [0] rfl rfl ?_
              exact ih_1 _ _ ⟨t30, bor x8 t55, w64 (x28 + 1), hE_2, rfl, rfl⟩
          · obtain ⟨t37, h37, hE_3⟩ := bind_some hE_3
            rcases Bool.eq_false_or_eq_true (!t37) with g39 | g39
            · replace hE_3 := if_tt g39 hE_3
              refine Tri.reg (l := [0, 1, 2, 3, 4, 5, 6, 7, 8, 9, 10, 11, 12, 13, 14, 15, 16]) rfl ?_
              refine F.q rfl rfl rfl (wanted_none rfl) (r_move rfl) ?_
              refine F.q rfl rfl rfl (wanted_none rfl) (r_fieldAddr tf57_0 rfl) ?_
              refine F.q rfl rfl rfl (wanted_none rfl) (r_fieldAddr tf55_0 rfl) ?_
              refine F.q rfl rfl rfl (wanted_none rfl) (r_load ta3 rfl (fun w hw => cell_2 (box_cells (i := 0) rfl w hw) rfl)) ?_
              refine F.q rfl rfl rfl (wanted_none rfl) (r_sub rfl rfl) ?_
              refine F.qc rfl rfl rfl (wanted_none rfl) (q_callF (xs := _) rfl ok88 rfl rfl (fun w hw => impl_within.ok h37 w )) ?_
              refine F.q rfl rfl rfl (wanted_none rfl) (r_not rfl) ?_
              refine F.q rfl rfl rfl (wanted_none rfl) (r_move rfl) ?_
              refine F.sk rfl rfl rfl (wf rfl rfl rfl g39) ?_
              refine F.sk rfl rfl rfl (wf rfl rfl rfl g39) ?_
              refine F.sk rfl rfl rfl (wf rfl rfl rfl g39) ?_
              refine F.sk rfl rfl rfl (wf rfl rfl rfl g39) ?_
              refine F.sk rfl rfl rfl (wf rfl rfl rfl g39) ?_
              refine F.sk rfl rfl rfl (wf rfl rfl rfl g39) ?_
              refine F.sk rfl rfl rfl (wf rfl rfl rfl g39) ?_
              refine F.sk rfl rfl rfl (wf rfl rfl rfl g39) ?_
              refine F.q rfl rfl rfl (wanted_none rfl) (r_pick rfl rfl g39) ?_
              refine F.nil ?_
              cases hE_3
              refine Nrm.only [2, 8, 10, 26, 27, 28, 48] rfl ?_
              refine Nrm.pick [0] rfl rfl ?_
              exact hj_2 _ _ ⟨rfl, rfl⟩
            · replace hE_3 := if_ff g39 hE_3
              obtain ⟨t43, h43, hE_3⟩ := bind_some hE_3
              obtain ⟨hs45, hE_3⟩ := ck hE_3
              refine Tri.reg (l := [0, 1, 2, 3, 4, 5, 6, 7, 8, 9, 10, 11, 12, 13, 14, 15, 16]) rfl ?_
              refine F.q rfl rfl rfl (wanted_none rfl) (r_move rfl) ?_
              refine F.q rfl rfl rfl (wanted_none rfl) (r_fieldAddr tf57_0 rfl) ?_
              refine F.q rfl rfl rfl (wanted_none rfl) (r_fieldAddr tf55_0 rfl) ?_
              refine F.q rfl rfl rfl (wanted_none rfl) (r_load ta3 rfl (fun w hw => cell_2 (box_cells (i := 0) rfl w hw) rfl)) ?_
              refine F.q rfl rfl rfl (wanted_none rfl) (r_sub rfl rfl) ?_
              refine F.qc rfl rfl rfl (wanted_none rfl) (q_callF (xs := _) rfl ok88 rfl rfl (fun w hw => impl_within.ok h37 w )) ?_
              refine F.q rfl rfl rfl (wanted_none rfl) (r_not rfl) ?_
              refine F.q rfl rfl rfl (wanted_none rfl) (r_move rfl) ?_
              refine F.q rfl rfl rfl (wg rfl rfl rfl g39) (r_loadA ta57 ti57 rfl rfl (fun w hw => (box_cells (i := 0) rfl w hw))) ?_
              refine F.q rfl rfl rfl (wg rfl rfl rfl g39) (r_move rfl) ?_
              refine F.q rfl rfl rfl (wg rfl rfl rfl g39) (r_move rfl) ?_
              refine F.qc rfl rfl rfl (wg rfl rfl rfl g39) (q_callF (xs := _) rfl ok113 rfl rfl (fun w hw => impl_trapSteps.ok h43 w ((fun _ hw => hr_a0_1.sep hw) w hw) ((fun _ hw => hr_a0_2.sep hw) w hw) ((fun _ hw => hr_a0_3.sep hw) w hw))) ?_
              refine F.q rfl rfl rfl (wg rfl rfl rfl g39) (r_move rfl) ?_
              refine F.q rfl rfl rfl (wg rfl rfl rfl g39) (r_shr rfl rfl hs45) ?_
              refine F.q rfl rfl rfl (wg rfl rfl rfl g39) (r_and rfl rfl) ?_
              refine F.q rfl rfl rfl (wg rfl rfl rfl g39) (r_eql rfl rfl) ?_
              refine F.q rfl rfl rfl (wanted_none rfl) (r_pickf rfl rfl g39) ?_
              refine F.nil ?_
              cases hE_3
              refine Nrm.only [2, 8, 10, 26, 27, 28, 48] rfl ?_
              refine Nrm.pick [0] rfl rfl ?_
              exact hj_2 _ _ ⟨rfl, rfl⟩
        · replace hE_2 := if_ff g_2 hE_2
          refine Tri.exit ?_
          refine Exi.then ?_
          refine Exi.then ?_
          refine Exi.same ?_
          cases hE_2
          replace h := Lr_inl h
          refine Nrm.seq ?_
          refine Tri.seq ?_
          refine Tri.reg (l := [0, 1, 2, 3, 4]) rfl ?_
          refine F.q rfl rfl rfl (wanted_none rfl) (r_move rfl) ?_
          refine F.q rfl rfl rfl (wanted_none rfl) (r_move rfl) ?_
          refine F.q rfl rfl rfl (wanted_none rfl) (r_assign rfl) ?_
          refine F.q rfl rfl rfl (wanted_none rfl) (r_assign rfl) ?_
          refine F.q rfl rfl rfl (wanted_none rfl) (r_assign rfl) ?_
          refine F.nil ?_
          refine Nrm.seq ?_
          refine Tri.ret ?_
          cases h
          exact Rtn.body (.tmp rfl (.tmp rfl (.tmp rfl .nil))) (fun w hw => ⟨rfl, hw.ext⟩)
  · rcases Bool.eq_false_or_eq_true ((a1.length : Int) == 0) with g14 | g14
    · replace hE_1 := if_tt g14 hE_1
      refine Tri.reg (l := [0, 1, 2, 3, 4, 5, 6, 7, 8]) rfl ?_
      refine F.q rfl rfl rfl (wanted_none rfl) (r_move rfl) ?_
      refine F.q rfl rfl rfl (wanted_none rfl) (r_len Try.underlying38 rfl hl_va1) ?_
      refine F.q rfl rfl rfl (wanted_none rfl) (r_eql rfl rfl) ?_
      refine F.q rfl rfl rfl (wanted_none rfl) (r_move rfl) ?_
      refine F.sk rfl rfl rfl (wf rfl rfl rfl g14) ?_
      refine F.sk rfl rfl rfl (wf rfl rfl rfl g14) ?_
      refine F.sk rfl rfl rfl (wf rfl rfl rfl g14) ?_
      refine F.sk rfl rfl rfl (wf rfl rfl rfl g14) ?_
      refine F.q rfl rfl rfl (wanted_none rfl) (r_pick rfl rfl g14) ?_
      refine F.nil ?_
      cases hE_1
      refine Nrm.only [1, 2, 19] rfl ?_
      refine Nrm.pick [0] rfl rfl ?_
      exact hj_1 _ _ ⟨rfl, rfl⟩
    · replace hE_1 := if_ff g14 hE_1
      obtain ⟨t16, h16, hE_1⟩ := bind_some hE_1
      refine Tri.reg (l := [0, 1, 2, 3, 4, 5, 6, 7, 8]) rfl ?_
      refine F.q rfl rfl rfl (wanted_none rfl) (r_move rfl) ?_
      refine F.q rfl rfl rfl (wanted_none rfl) (r_len Try.underlying38 rfl hl_va1) ?_
      refine F.q rfl rfl rfl (wanted_none rfl) (r_eql rfl rfl) ?_
      refine F.q rfl rfl rfl (wanted_none rfl) (r_move rfl) ?_
      refine F.q rfl rfl rfl (wg rfl rfl rfl g14) (r_move rfl) ?_
      refine F.q rfl rfl rfl (wg rfl rfl rfl g14) (r_indexAddrS Try.underlying38 ti3 rfl hl_va1 rfl (rdl_some h16).1 (rdl_some h16).2.1) ?_
      refine F.q rfl rfl rfl (wg rfl rfl rfl g14) (r_load ta3 rfl (fun w hw => cell_0 (Rd.flat ((fun _ hw => hr_a1.sep hw) w hw) (rdl_some h16).2.2) rfl)) ?_
      refine F.q rfl rfl rfl (wg rfl rfl rfl g14) (r_neq rfl rfl) ?_
      refine F.q rfl rfl rfl (wanted_none rfl) (r_pickf rfl rfl g14) ?_
      refine F.nil ?_
      cases hE_1
      refine Nrm.only [1, 2, 19] rfl ?_
      refine Nrm.pick [0] rfl rfl ?_
      exact hj_1 _ _ ⟨rfl, rfl⟩

end Go.Proofs

/- loop.example/g01158/impl.StateBehind -/
namespace Go.Proofs
open Go Go.Ga
set_option linter.unusedVariables false
set_option maxRecDepth 100000
set_option maxHeartbeats 4000000
def impl_StateBehind.f (k : Nat) (a0_0 : Int) (a0_1 : List (Int × Int × Int)) (a0_2 : List Int) (a0_3 : List Int) (a1 : List Int) : Option (Int × Int × Bool) := (impl_IsTrap.f k a0_0 a0_1 a0_2 a0_3).bind fun t8 => (if (!t8) = true then some (0, 0, false) else (impl_trapWalk.f k a0_0 a0_1 a0_2 a0_3 a1).bind fun (t12_1, t12_2, t12_3) => some (t12_1, t12_2, t12_3))

theorem impl_StateBehind.ok {k : Nat}  {a0_0 : Int} {a0_1 : List (Int × Int × Int)} {a0_2 : List Int} {a0_3 : List Int} {a1 : List Int} {r0 : Int} {r1 : Int} {r2 : Bool} (h : impl_StateBehind.f k a0_0 a0_1 a0_2 a0_3 a1 = some (r0, r1, r2)) (w : World) {va0_1 : Value} {va0_2 : Value} {va0_3 : Value} {va1 : Value} (hr_a0_1 : Rd w va0_1 a0_1) (hr_a0_2 : Rd w va0_2 a0_2) (hr_a0_3 : Rd w va0_3 a0_3) (hr_a1 : Rd w va1 a1) :
    Calls Try.prog 110 ([.agg ([.int .i64 a0_0, va0_1, va0_2, va0_3].toArray), va1] : List Value).toArray w (fun e w' => e = .returned (.tuple #[.int .i64 r0, .int .i64 r1, .bool r2]) ∧ Ext w w') := by
  unfold impl_StateBehind.f at h
  have hl_va0_1 := hr_a0_1.len
  have hl_va0_2 := hr_a0_2.len
  have hl_va0_3 := hr_a0_3.len
  have hl_va1 := hr_a1.len
  refine Calls.of_tri (N := 16) Try.func110 rfl rfl rfl (Sep.nil (M := noM)) ?_
  refine Tri.seq ?_
  refine Tri.reg (l := [0, 1, 2, 3]) rfl ?_
  refine F.m rfl rfl rfl (wanted_none rfl) (m_boxG rfl rfl) ?_
  rintro _ _ ⟨b2_1, rfl, rfl⟩
  refine F.q rfl rfl rfl (wanted_none rfl) (r_assign rfl) ?_
  refine F.q rfl rfl rfl (wanted_none rfl) (r_assign rfl) ?_
  refine F.q rfl rfl rfl (wanted_none rfl) (r_assign rfl) ?_
  refine F.nil ?_
  refine Nrm.seq ?_
  refine Tri.seq ?_
  refine Tri.seq ?_
  obtain ⟨t8, h8, h⟩ := bind_some h
  refine Tri.reg (l := [0, 1, 2]) rfl ?_
  refine F.q rfl rfl rfl (wanted_none rfl) (r_loadA ta57 ti57 rfl rfl (fun w hw => (box_cells (i := 0) rfl w hw))) ?_
  refine F.qc rfl rfl rfl (wanted_none rfl) (q_callF (xs := _) rfl ok87 rfl rfl (fun w hw => impl_IsTrap.ok h8 w ((fun _ hw => hr_a0_1.sep hw) w hw) ((fun _ hw => hr_a0_2.sep hw) w hw) ((fun _ hw => hr_a0_3.sep hw) w hw))) ?_
  refine F.q rfl rfl rfl (wanted_none rfl) (r_not rfl) ?_
  refine F.nil ?_
  refine Nrm.seq ?_
  refine Tri.cond (b := !t8) rfl (fun g_1 => ?_) (fun g_1 => ?_)
  · replace h := if_tt g_1 h
    refine Tri.seq ?_
    refine Tri.reg (l := [0, 1, 2]) rfl ?_
    refine F.q rfl rfl rfl (wanted_none rfl) (r_assign rfl) ?_
    refine F.q rfl rfl rfl (wanted_none rfl) (r_assign rfl) ?_
    refine F.q rfl rfl rfl (wanted_none rfl) (r_assign rfl) ?_
    refine F.nil ?_
    refine Nrm.seq ?_
    refine Tri.ret ?_
    refine Rtn.then ?_
    cases h
    exact Rtn.body (.tmp rfl (.tmp rfl (.tmp rfl .nil))) (fun w hw => ⟨rfl, hw.ext⟩)
  · replace h := if_ff g_1 h
    refine Tri.skip ?_
    refine Nrm.seq ?_
    refine Tri.seq ?_
    obtain ⟨⟨t12_1, t12_2, t12_3⟩, h12, h⟩ := bind_some h
    refine Tri.reg (l := [0, 1, 2, 3, 4, 5, 6, 7, 8]) rfl ?_
    refine F.q rfl rfl rfl (wanted_none rfl) (r_loadA ta57 ti57 rfl rfl (fun w hw => (box_cells (i := 0) rfl w hw))) ?_
    refine F.q rfl rfl rfl (wanted_none rfl) (r_move rfl) ?_
    refine F.qc rfl rfl rfl (wanted_none rfl) (q_callF (xs := _) rfl ok152 rfl rfl (fun w hw => impl_trapWalk.ok h12 w ((fun _ hw => hr_a0_1.sep hw) w hw) ((fun _ hw => hr_a0_2.sep hw) w hw) ((fun _ hw => hr_a0_3.sep hw) w hw) ((fun _ hw => hr_a1.sep hw) w hw))) ?_
    refine F.q rfl rfl rfl (wanted_none rfl) (r_extract rfl rfl) ?_
    refine F.q rfl rfl rfl (wanted_none rfl) (r_extract rfl rfl) ?_
    refine F.q rfl rfl rfl (wanted_none rfl) (r_extract rfl rfl) ?_
    refine F.q rfl rfl rfl (wanted_none rfl) (r_assign rfl) ?_
    refine F.q rfl rfl rfl (wanted_none rfl) (r_assign rfl) ?_
    refine F.q rfl rfl rfl (wanted_none rfl) (r_assign rfl) ?_
    refine F.nil ?_
    refine Nrm.seq ?_
    refine Tri.ret ?_
    cases h
    exact Rtn.body (.tmp rfl (.tmp rfl (.tmp rfl .nil))) (fun w hw => ⟨rfl, hw.ext⟩)

end Go.Proofs

/- slices.DeleteFunc[[]int,int] -/
namespace Go.Proofs
open Go Go.Ga
set_option linter.unusedVariables false
set_option maxRecDepth 100000
set_option maxHeartbeats 4000000
def slices_DeleteFunc_int_int.l0 (k : Nat) (a1 : (Int → Option (Bool))) : Nat → (List (Int)) → Int → Int → Option ((List (Int)) × Int)
  | 0, _, _, _ => none
  | n + 1, x0, x5, x6 => (if (decide (x6 < (x0.length : Int))) = true then (rdl x0 x6).bind fun t24 => (a1 t24).bind fun t28 => ((if (!t28) = true then (rdl x0 x5).bind fun t33 => some (x0.set x5.toNat t24, w64 (x5 + 1)) else some (x0, x5))).bind fun (y0, y5) => slices_DeleteFunc_int_int.l0 k a1 n y0 y5 (w64 (x6 + 1)) else some (x0, x5))

def slices_DeleteFunc_int_int.f (k : Nat) (a0 : List Int) (a1 : (Int → Option (Bool))) : Option ((List Int)) := (slices_IndexFunc_int_int.f k a0 a1).bind fun t10 => (if (t10 == (-1)) = true then some a0 else (slices_DeleteFunc_int_int.l0 k a1 k a0 t10 (w64 (t10 + 1))).bind fun (x0, x5) => (slc x0 x5 (x0.length : Int)).bind fun t38 => (slc (x0.take (x5 : Int).toNat ++ List.replicate (((x0.length : Int) : Int).toNat - (x5 : Int).toNat) (0 : Int) ++ x0.drop ((x0.length : Int) : Int).toNat) 0 x5).bind fun t41 => some t41)

theorem slices_DeleteFunc_int_int.ok {k : Nat}  {a0 : List Int} {a1 : (Int → Option (Bool))} {r0 : List Int} (h : slices_DeleteFunc_int_int.f k a0 a1 = some r0) (w : World) {va0 : Value} {Sa0 : Nat → Prop} (hl_va0 : SlLen va0 a0.length) {fi_a1 : FuncId} {ca_a1 : Array Value} (ho_a1 : CallOk Try.prog fi_a1) (hf_a1 : ∀ w2, Kp (footM [R.sl Sa0 va0 a0]) w w2 → ∀ (z0 : Int) (y : Bool), a1 z0 = some y → Calls Try.prog fi_a1 (([.int .i64 z0] : List Value) ++ ca_a1.toList).toArray w2 (fun e w3 => e = .returned (.bool y) ∧ Ext w2 w3)) (hw0 : Sep w (footM [R.sl Sa0 va0 a0]) [R.sl Sa0 va0 a0] w) :
    Calls Try.prog 111 ([va0, .func (.func fi_a1) #[] ca_a1] : List Value).toArray w (PostM (footM [R.sl Sa0 va0 a0]) (fun u ns => ∃ (Sr0 : Nat → Prop), SlLen u r0.length ∧ ns = [R.sl Sr0 u r0]) w) := by
  unfold slices_DeleteFunc_int_int.f at h
  refine Calls.of_tri (N := 42) Try.func111 rfl rfl rfl hw0 ?_
  refine Tri.seq ?_
  refine Tri.reg (l := [0]) rfl ?_
  refine F.q rfl rfl rfl (wanted_none rfl) (r_assign rfl) ?_
  refine F.nil ?_
  refine Nrm.seq ?_
  refine Tri.seq ?_
  obtain ⟨t10, h10, h⟩ := bind_some h
  refine Tri.reg (l := [0, 1, 2, 3]) rfl ?_
  refine F.q rfl rfl rfl (wanted_none rfl) (r_move rfl) ?_
  refine F.q rfl rfl rfl (wanted_none rfl) (r_move rfl) ?_
  refine F.qc rfl rfl rfl (wanted_none rfl) (q_callF (xs := _) rfl ok153 rfl rfl (fun w hw => slices_IndexFunc_int_int.ok h10 w ((rd_sl (i := 0) rfl) w hw) ho_a1 (fun w2 he2 => hf_a1 w2 (hw.kp.trans (he2.kp _))))) ?_
  refine F.q rfl rfl rfl (wanted_none rfl) (r_assign rfl) ?_
  refine F.nil ?_
  refine Nrm.seq ?_
  refine Tri.seq ?_
  refine Tri.seq ?_
  refine Tri.reg (l := [0, 1]) rfl ?_
  refine F.q rfl rfl rfl (wanted_none rfl) (r_move rfl) ?_
  refine F.q rfl rfl rfl (wanted_none rfl) (r_eql rfl rfl) ?_
  refine F.nil ?_
  refine Nrm.seq ?_
  refine Tri.cond (b := t10 == (-1)) rfl (fun g_1 => ?_) (fun g_1 => ?_)
  · replace h := if_tt g_1 h
    refine Tri.seq ?_
    refine Tri.reg (l := [0, 1]) rfl ?_
    refine F.q rfl rfl rfl (wanted_none rfl) (r_move rfl) ?_
    refine F.q rfl rfl rfl (wanted_none rfl) (r_assign rfl) ?_
    refine F.nil ?_
    refine Nrm.seq ?_
    refine Tri.ret ?_
    refine Rtn.then ?_
    cases h
    exact Rtn.body (.tmp rfl .nil) (fun w hw => ⟨_, _, rfl, ⟨Sa0, hl_va0, rfl⟩, Sep.pick (is := [0]) rfl rfl hw⟩)
  · replace h := if_ff g_1 h
    refine Tri.skip ?_
    refine Nrm.seq ?_
    refine Tri.seq ?_
    refine Tri.seq ?_
    refine Tri.reg (l := [0, 1, 2]) rfl ?_
    refine F.q rfl rfl rfl (wanted_none rfl) (r_move rfl) ?_
    refine F.q rfl rfl rfl (wanted_none rfl) (r_add rfl rfl) ?_
    refine F.q rfl rfl rfl (wanted_none rfl) (r_assign rfl) ?_
    refine F.nil ?_
    refine Nrm.seq ?_
    obtain ⟨⟨x0, x5⟩, hE_1, h⟩ := bind_some h
    refine Tri.block ?_
    refine Tri.only [0, 1, 5, 6] rfl ?_
    refine Tri.pick [0] rfl rfl ?_
    refine Tri.rounds (fun n e' C' => ∃ (x0' : List (Int)) (x5' : Int) (x6' : Int) (w0 : Value) (T0 : Nat → Prop), slices_DeleteFunc_int_int.l0 k a1 n x0' x5' x6' = some (x0, x5) ∧ SlLen w0 (x0').length ∧ e' = [(0, w0), (1, .func (.func fi_a1) #[] ca_a1), (5, .int .i64 x5'), (6, .int .i64 x6')] ∧ C' = Sep w (footM [R.sl Sa0 va0 a0]) [R.sl T0 w0 (x0' : List (Int))]) k ?_ ?_ ?_
    · exact ⟨a0, t10, w64 (t10 + 1), va0, Sa0, hE_1, hl_va0, rfl, rfl⟩
    · rintro _ _ ⟨_, _, _, _, _, hE_1, _⟩
      rw [slices_DeleteFunc_int_int.l0.eq_1] at hE_1; cases hE_1
    · rintro n_1 _ _ ⟨x0, x5, x6, w0, T0, hE_1, hl_w0, rfl, rfl⟩ ih_1
      rw [slices_DeleteFunc_int_int.l0.eq_2] at hE_1
      refine Tri.seq ?_
      refine Tri.seq ?_
      refine Tri.reg (l := [0, 1, 2, 3]) rfl ?_
      refine F.q rfl rfl rfl (wanted_none rfl) (r_move rfl) ?_
      refine F.q rfl rfl rfl (wanted_none rfl) (r_move rfl) ?_
      refine F.q rfl rfl rfl (wanted_none rfl) (r_len Try.underlying38 rfl hl_w0) ?_
      refine F.q rfl rfl rfl (wanted_none rfl) (r_lss rfl rfl) ?_
      refine F.nil ?_
      refine Nrm.seq ?_
      refine Tri.cond (b := decide (x6 < (x0.length : Int))) rfl (fun g_2 => ?_) (fun g_2 => ?_)
      · replace hE_1 := if_tt g_2 hE_1
        refine Tri.skip ?_
        refine Nrm.seq ?_
        refine Tri.seq ?_
        refine Tri.block ?_
        refine Tri.seq ?_
        obtain ⟨t24, h24, hE_1⟩ := bind_some hE_1
        refine Tri.reg (l := [0, 1, 2, 3, 4]) rfl ?_
        refine F.q rfl rfl rfl (wanted_none rfl) (r_move rfl) ?_
        refine F.q rfl rfl rfl (wanted_none rfl) (r_move rfl) ?_
        refine F.q rfl rfl rfl (wanted_none rfl) (r_indexAddrS Try.underlying38 ti3 rfl hl_w0 rfl (rdl_some h24).1 (rdl_some h24).2.1) ?_
        refine F.q rfl rfl rfl (wanted_none rfl) (r_load ta3 rfl (fun w hw => cell_0 (Rd.flat ((rd_sl (i := 0) rfl) w hw) (rdl_some h24).2.2) rfl)) ?_
        refine F.q rfl rfl rfl (wanted_none rfl) (r_assign rfl) ?_
        refine F.nil ?_
        refine Nrm.seq ?_
        refine Tri.seq ?_
        obtain ⟨t28, h28, hE_1⟩ := bind_some hE_1
        refine Tri.reg (l := [0, 1, 2, 3]) rfl ?_
        refine F.q rfl rfl rfl (wanted_none rfl) (r_move rfl) ?_
        refine F.q rfl rfl rfl (wanted_none rfl) (r_move rfl) ?_
        refine F.qc rfl rfl rfl (wanted_none rfl) (q_callC (xs := _) rfl ho_a1 rfl rfl (fun w hw => hf_a1 w hw.kp _  _ h28)) ?_
        refine F.q rfl rfl rfl (wanted_none rfl) (r_not rfl) ?_
        refine F.nil ?_
        refine Nrm.seq ?_
        obtain ⟨⟨y0, y5⟩, hE_2, hE_1⟩ := bind_some hE_1
        refine Tri.cut (fun e' C' => ∃ (v0_1 : Value) (S0_1 : Nat → Prop), SlLen v0_1 (y0).length ∧ e' = [(0, v0_1), (1, .func (.func fi_a1) #[] ca_a1), (5, .int .i64 y5), (6, .int .i64 x6)] ∧ C' = Sep w (footM [R.sl Sa0 va0 a0]) [R.sl S0_1 v0_1 (y0 : List (Int))]) ?_ (fun hj_1 => ?_)
        · rintro _ _ ⟨v0_1, S0_1, hl_v0_1, rfl, rfl⟩
          refine Nrm.block ?_
          refine Nrm.seq ?_
          refine Tri.reg (l := [0, 1, 2]) rfl ?_
          refine F.q rfl rfl rfl (wanted_none rfl) (r_move rfl) ?_
          refine F.q rfl rfl rfl (wanted_none rfl) (r_add rfl rfl) ?_
          refine F.q rfl rfl rfl (wanted_none rfl) (r_assign rfl) ?_
          refine F.nil ?_
          refine Nrm.round ?_
          refine Rnd.only [0, 1, 5, 6] rfl ?_
          refine Rnd.pick [0] rfl rfl ?_
          exact ih_1 _ _ ⟨y0, y5, w64 (x6 + 1), v0_1, S0_1, hE_1, hl_v0_1, rfl, rfl⟩
        · refine Tri.cond (b := !t28) rfl (fun g_3 => ?_) (fun g_3 => ?_)
          · replace hE_2 := if_tt g_3 hE_2
            refine Tri.seq ?_
            obtain ⟨t33, h33, hE_2⟩ := bind_some hE_2
            refine Tri.reg (l := [0, 1, 2, 3, 4]) rfl ?_
            refine F.q rfl rfl rfl (wanted_none rfl) (r_move rfl) ?_
            refine F.q rfl rfl rfl (wanted_none rfl) (r_move rfl) ?_
            refine F.q rfl rfl rfl (wanted_none rfl) (r_move rfl) ?_
            refine F.q rfl rfl rfl (wanted_none rfl) (r_indexAddrS Try.underlying38 ti3 rfl hl_w0 rfl (rdl_some h33).1 (rdl_some h33).2.1) ?_
            refine F.ef0 rfl rfl (wanted_none rfl) (d_storeE (i := 0) (x1 := t24) ti3 rfl rfl rfl (rdl_some h33) rfl) ?_
            rintro _ _ ⟨rfl, rfl⟩
            refine F.nil ?_
            refine Nrm.seq ?_
            refine Tri.reg (l := [0, 1, 2]) rfl ?_
            refine F.q rfl rfl rfl (wanted_none rfl) (r_move rfl) ?_
            refine F.q rfl rfl rfl (wanted_none rfl) (r_add rfl rfl) ?_
            refine F.q rfl rfl rfl (wanted_none rfl) (r_assign rfl) ?_
            refine F.nil ?_
            cases hE_2
            refine Nrm.only [0, 1, 5, 6] rfl ?_
            refine Nrm.pick [0] rfl rfl ?_
            exact hj_1 _ _ ⟨w0, T0, (len_set hl_w0), rfl, rfl⟩
          · replace hE_2 := if_ff g_3 hE_2
            refine Tri.skip ?_
            cases hE_2
            refine Nrm.only [0, 1, 5, 6] rfl ?_
            refine Nrm.pick [0] rfl rfl ?_
            exact hj_1 _ _ ⟨w0, T0, hl_w0, rfl, rfl⟩
      · replace hE_1 := if_ff g_2 hE_1
        refine Tri.exit ?_
        refine Exi.then ?_
        refine Exi.then ?_
        refine Exi.same ?_
        cases hE_1
        refine Nrm.seq ?_
        refine Tri.seq ?_
        obtain ⟨t38, h38, h⟩ := bind_some h
        refine Tri.reg (l := [0, 1, 2, 3]) rfl ?_
        refine F.q rfl rfl rfl (wanted_none rfl) (r_move rfl) ?_
        refine F.q rfl rfl rfl (wanted_none rfl) (r_move rfl) ?_
        refine F.q rfl rfl rfl (wanted_none rfl) (r_sliceL Try.underlying38 ti3 rfl (rd_sl (i := 0) rfl) rfl h38) ?_
        refine F.ef0 rfl rfl (wanted_none rfl) (d_clear (i := 0) (x0 := (0 : Int)) Try.underlying38 ti3 rfl rfl rfl h38) ?_
        rintro _ _ rfl
        refine F.nil ?_
        refine Nrm.seq ?_
        refine Tri.seq ?_
        obtain ⟨t41, h41, h⟩ := bind_some h
        refine Tri.reg (l := [0, 1, 2, 3]) rfl ?_
        refine F.q rfl rfl rfl (wanted_none rfl) (r_move rfl) ?_
        refine F.q rfl rfl rfl (wanted_none rfl) (r_move rfl) ?_
        refine F.q rfl rfl rfl (wanted_none rfl) (r_sliceH Try.underlying38 ti3 rfl (rd_sl (i := 0) rfl) rfl h41) ?_
        refine F.q rfl rfl rfl (wanted_none rfl) (r_assign rfl) ?_
        refine F.nil ?_
        refine Nrm.imp (fun w hw => Sep.resl (i := 0) rfl h41 hw) ?_
        refine Nrm.seq ?_
        refine Tri.ret ?_
        cases h
        exact Rtn.body (.tmp rfl .nil) (fun w hw => ⟨_, _, rfl, ⟨T0, (slc_len (clr_len hl_w0 (slc_b h38).1 (slc_b h38).2) h41), rfl⟩, Sep.pick (is := [0]) rfl rfl hw⟩)

end Go.Proofs

/- loop.example/g01158/impl.GoodSteps$1 -/

namespace Go.Proofs
open Go Go.Ga
set_option linter.unusedVariables false
set_option maxRecDepth 100000
set_option maxHeartbeats 4000000
def impl_GoodSteps_1.f (k : Nat) (a0 : Int) (c0 : Arr 768) (c1 : Int) (c2_0 : Int) (c2_1 : List (Int × Int × Int)) (c2_2 : List Int) (c2_3 : List Int) : Option (Bool) := (rdl c2_2 a0).bind fun t12 => if 0 ≤ a0 ∧ a0 < 12 then if 0 ≤ bor c1 t12 ∧ bor c1 t12 < 64 then some (decide ((Arr.at c0 (a0 * 64 + (bor c1 t12))) < 0)) else none else none

theorem impl_GoodSteps_1.ok {k : Nat} {pc0 : Addr} {pc1 : Addr} {pc2 : Addr} {a0 : Int} {c0 : Arr 768} {c1 : Int} {c2_0 : Int} {c2_1 : List (Int × Int × Int)} {c2_2 : List Int} {c2_3 : List Int} {r0 : Bool} (h : impl_GoodSteps_1.f k a0 c0 c1 c2_0 c2_1 c2_2 c2_3 = some r0) (w : World) {vc2_1 : Value} {vc2_2 : Value} {vc2_3 : Value} (hb_c0 : CellsAt w pc0 (encA c0)) (hb_c1 : CellsAt w pc1 [.int .i64 c1]) (hb_c2 : CellsAt w pc2 [.int .i64 c2_0, vc2_1, vc2_2, vc2_3]) (hr_c2_1 : Rd w vc2_1 c2_1) (hr_c2_2 : Rd w vc2_2 c2_2) (hr_c2_3 : Rd w vc2_3 c2_3) :
    Calls Try.prog 114 ([.int .i64 a0, .pointer (some pc0), .pointer (some pc1), .pointer (some pc2)] : List Value).toArray w (fun e w' => e = .returned (.bool r0) ∧ Ext w w') := by
  unfold impl_GoodSteps_1.f at h
  have hl_vc2_1 := hr_c2_1.len
  have hl_vc2_2 := hr_c2_2.len
  have hl_vc2_3 := hr_c2_3.len
  refine Calls.of_tri (N := 19) Try.func114 rfl rfl rfl (Sep.nil (M := noM)) ?_
  refine Tri.seq ?_
  refine Tri.reg (l := [0]) rfl ?_
  refine F.q rfl rfl rfl (wanted_none rfl) (r_assign rfl) ?_
  refine F.nil ?_
  refine Nrm.seq ?_
  refine Tri.seq ?_
  obtain ⟨t12, h12, h⟩ := bind_some h
  obtain ⟨hb15, h⟩ := ck h
  obtain ⟨hb16, h⟩ := ck h
  refine Tri.drawA mixedT Sep.up [(0, true), (1, true), (2, true), (3, true), (4, true), (5, true), (6, true), (7, true), (8, true), (9, true), (10, true), (11, true), (12, true), (13, true)] [] (by kernel_rfl) ?_
  refine S.q rfl rfl rfl (wanted_none rfl) (r_move rfl) ?_
  refine S.q rfl rfl rfl (wanted_none rfl) (r_load ta3 rfl (fun w hw => cell_0 (hb_c1.sep hw) rfl)) ?_
  refine S.q rfl rfl rfl (wanted_none rfl) (r_fieldAddr tf57_0 rfl) ?_
  refine S.q rfl rfl rfl (wanted_none rfl) (r_fieldAddr tf55_2 rfl) ?_
  refine S.q rfl rfl rfl (wanted_none rfl) (r_load ta38 rfl (fun w hw => cell_2 (hb_c2.sep hw) rfl)) ?_
  refine S.q rfl rfl rfl (wanted_none rfl) (r_move rfl) ?_
  refine S.q rfl rfl rfl (wanted_none rfl) (r_indexAddrS Try.underlying38 ti3 rfl hl_vc2_2 rfl (rdl_some h12).1 (rdl_some h12).2.1) ?_
  refine S.q rfl rfl rfl (wanted_none rfl) (r_load ta3 rfl (fun w hw => cell_0 (Rd.flat ((fun _ hw => hr_c2_2.sep hw) w hw) (rdl_some h12).2.2) rfl)) ?_
  refine S.q rfl rfl rfl (wanted_none rfl) (r_or rfl rfl) ?_
  refine S.q rfl rfl rfl (wanted_none rfl) (r_indexAddrA Try.underlying114 ti112 rfl rfl hb15.1 hb15.2) ?_
  refine S.q rfl rfl rfl (wanted_none rfl) (r_indexAddrA Try.underlying112 ti3 rfl rfl hb16.1 hb16.2) ?_
  refine S.q rfl rfl rfl (wanted_none rfl) (r_load ta3 rfl (fun w hw => cell_tab (g := c0) (m := 64) (hb_c0.sep hw) (tabB 12 64 768 hb15 rfl) hb16)) ?_
  refine S.q rfl rfl rfl (wanted_none rfl) (r_lss rfl rfl) ?_
  refine S.q rfl rfl rfl (wanted_none rfl) (r_assign rfl) ?_
  refine S.nil ?_
  refine F.nil ?_
  refine Nrm.seq ?_
  refine Tri.ret ?_
  cases h
  exact Rtn.body (.tmp rfl .nil) (fun w hw => ⟨rfl, hw.ext⟩)

end Go.Proofs

/- loop.example/g01158/impl.GoodSteps -/
namespace Go.Proofs
open Go Go.Ga
set_option linter.unusedVariables false
set_option maxRecDepth 100000
set_option maxHeartbeats 4000000
def impl_GoodSteps.f (k : Nat) (a0_0 : Int) (a0_1 : List (Int × Int × Int)) (a0_2 : List Int) (a0_3 : List Int) (a1 : List Int) : Option ((List Int) × Bool) := (impl_StateBehind.f k a0_0 a0_1 a0_2 a0_3 a1).bind fun (t13_1, t13_2, t13_3) => (if (!t13_3) = true then some ([], false) else (impl_toTrapGoal.f k a0_0 a0_1 a0_2 a0_3).bind fun t20 => (impl_trapSteps.f k a0_0 a0_1 a0_2 a0_3 t13_1 t13_2).bind fun t24 => (impl_members.f k t24).bind fun t25 => (slices_DeleteFunc_int_int.f k t25 (fun z0 => impl_GoodSteps_1.f k z0 t20 t13_2 a0_0 a0_1 a0_2 a0_3)).bind fun t27 => some (t27, true))

theorem impl_GoodSteps.ok {k : Nat}  {a0_0 : Int} {a0_1 : List (Int × Int × Int)} {a0_2 : List Int} {a0_3 : List Int} {a1 : List Int} {r0 : List Int} {r1 : Bool} (h : impl_GoodSteps.f k a0_0 a0_1 a0_2 a0_3 a1 = some (r0, r1)) (w : World) {va0_1 : Value} {va0_2 : Value} {va0_3 : Value} {va1 : Value} (hr_a0_1 : Rd w va0_1 a0_1) (hr_a0_2 : Rd w va0_2 a0_2) (hr_a0_3 : Rd w va0_3 a0_3) (hr_a1 : Rd w va1 a1) :
    Calls Try.prog 54 ([.agg ([.int .i64 a0_0, va0_1, va0_2, va0_3].toArray), va1] : List Value).toArray w (Post (fun u ns => ∃ (ur0 : Value) (Sr0 : Nat → Prop), u = .tuple #[ur0, .bool r1] ∧ SlLen ur0 r0.length ∧ ns = [R.sl Sr0 ur0 r0]) w) := by
  unfold impl_GoodSteps.f at h
  have hl_va0_1 := hr_a0_1.len
  have hl_va0_2 := hr_a0_2.len
  have hl_va0_3 := hr_a0_3.len
  have hl_va1 := hr_a1.len
  refine Calls.of_tri (N := 28) Try.func54 rfl rfl rfl (Sep.nil (M := noM)) ?_
  refine Tri.seq ?_
  refine Tri.reg (l := [0, 1, 2]) rfl ?_
  refine F.m rfl rfl rfl (wanted_none rfl) (m_boxG rfl rfl) ?_
  rintro _ _ ⟨b2_1, rfl, rfl⟩
  refine F.q rfl rfl rfl (wanted_none rfl) (r_assign rfl) ?_
  refine F.q rfl rfl rfl (wanted_none rfl) (r_assign rfl) ?_
  refine F.nil ?_
  refine Nrm.seq ?_
  refine Tri.seq ?_
  obtain ⟨⟨t13_1, t13_2, t13_3⟩, h13, h⟩ := bind_some h
  refine Tri.reg (l := [0, 1, 2, 3, 4, 5, 6, 7, 8, 9, 10]) rfl ?_
  refine F.q rfl rfl rfl (wanted_none rfl) (r_loadA ta57 ti57 rfl rfl (fun w hw => (box_cells (i := 0) rfl w hw))) ?_
  refine F.q rfl rfl rfl (wanted_none rfl) (r_move rfl) ?_
  refine F.qc rfl rfl rfl (wanted_none rfl) (q_callF (xs := _) rfl ok110 rfl rfl (fun w hw => impl_StateBehind.ok h13 w ((fun _ hw => hr_a0_1.sep hw) w hw) ((fun _ hw => hr_a0_2.sep hw) w hw) ((fun _ hw => hr_a0_3.sep hw) w hw) ((fun _ hw => hr_a1.sep hw) w hw))) ?_
  refine F.q rfl rfl rfl (wanted_none rfl) (r_move rfl) ?_
  refine F.q rfl rfl rfl (wanted_none rfl) (r_extract rfl rfl) ?_
  refine F.q rfl rfl rfl (wanted_none rfl) (r_extract rfl rfl) ?_
  refine F.q rfl rfl rfl (wanted_none rfl) (r_extract rfl rfl) ?_
  refine F.m rfl rfl rfl (wanted_none rfl) (m_alloc ti3) ?_
  rintro _ _ ⟨b7_1, rfl, rfl⟩
  refine F.q rfl rfl rfl (wanted_none rfl) (r_assign rfl) ?_
  refine F.ef0 rfl rfl (wanted_none rfl) (d_storeG0 (i := 0) (cs2 := [.int .i64 t13_2]) ti3 rfl rfl rfl rfl rfl (Nat.le_of_ble_eq_true rfl) (lf_cons rfl lf_nil)) ?_
  rintro _ _ ⟨rfl, rfl⟩
  refine F.q rfl rfl rfl (wanted_none rfl) (r_assign rfl) ?_
  refine F.nil ?_
  refine Nrm.seq ?_
  refine Tri.seq ?_
  refine Tri.seq ?_
  refine Tri.reg (l := [0, 1]) rfl ?_
  refine F.q rfl rfl rfl (wanted_none rfl) (r_move rfl) ?_
  refine F.q rfl rfl rfl (wanted_none rfl) (r_not rfl) ?_
  refine F.nil ?_
  refine Nrm.seq ?_
  refine Tri.cond (b := !t13_3) rfl (fun g_1 => ?_) (fun g_1 => ?_)
  · replace h := if_tt g_1 h
    refine Tri.seq ?_
    refine Tri.reg (l := [0, 1]) rfl ?_
    refine F.q rfl rfl rfl (wanted_none rfl) (r_assign rfl) ?_
    refine F.q rfl rfl rfl (wanted_none rfl) (r_assign rfl) ?_
    refine F.nil ?_
    refine Nrm.seq ?_
    refine Tri.ret ?_
    refine Rtn.then ?_
    cases h
    exact Rtn.body (.tmp rfl (.tmp rfl .nil)) (fun w hw => ⟨_, _, rfl, ⟨.slice none 0 0, fun _ => False, rfl, len_nil, rfl⟩, Sep.pick (is := [0]) rfl rfl hw.pushNil⟩)
  · replace h := if_ff g_1 h
    refine Tri.skip ?_
    refine Nrm.seq ?_
    refine Tri.seq ?_
    obtain ⟨t20, h20, h⟩ := bind_some h
    refine Tri.reg (l := [0, 1, 2, 3]) rfl ?_
    refine F.q rfl rfl rfl (wanted_none rfl) (r_loadA ta57 ti57 rfl rfl (fun w hw => (box_cells (i := 1) rfl w hw))) ?_
    refine F.qc rfl rfl rfl (wanted_none rfl) (q_callF (xs := _) rfl ok100 rfl rfl (fun w hw => impl_toTrapGoal.ok h20 w ((fun _ hw => hr_a0_1.sep hw) w hw) ((fun _ hw => hr_a0_2.sep hw) w hw) ((fun _ hw => hr_a0_3.sep hw) w hw))) ?_
    refine F.m rfl rfl rfl (wanted_none rfl) (m_alloc ti114) ?_
    rintro _ _ ⟨b9_1, rfl, rfl⟩
    refine F.ef0 rfl rfl (wanted_none rfl) (d_storeArr (i := 0) (g := (Arr.rep 768 0)) (h := t20) ti114 rfl rfl rfl) ?_
    rintro _ _ ⟨rfl, rfl⟩
    refine F.nil ?_
    refine Nrm.seq ?_
    refine Tri.seq ?_
    obtain ⟨t24, h24, h⟩ := bind_some h
    obtain ⟨t25, h25, h⟩ := bind_some h
    obtain ⟨t27, h27, h⟩ := bind_some h
    refine Tri.reg (l := [0, 1, 2, 3, 4, 5, 6, 7, 8]) rfl ?_
    refine F.q rfl rfl rfl (wanted_none rfl) (r_loadA ta57 ti57 rfl rfl (fun w hw => (box_cells (i := 2) rfl w hw))) ?_
    refine F.q rfl rfl rfl (wanted_none rfl) (r_move rfl) ?_
    refine F.q rfl rfl rfl (wanted_none rfl) (r_load ta3 rfl (fun w hw => cell_0 (box_cells (i := 1) rfl w hw) rfl)) ?_
    refine F.qc rfl rfl rfl (wanted_none rfl) (q_callF (xs := _) rfl ok113 rfl rfl (fun w hw => impl_trapSteps.ok h24 w ((fun _ hw => hr_a0_1.sep hw) w hw) ((fun _ hw => hr_a0_2.sep hw) w hw) ((fun _ hw => hr_a0_3.sep hw) w hw))) ?_
    refine F.m rfl rfl rfl (wanted_none rfl) (m_callF (xs := _) rfl ok112 rfl rfl (fun w hw => impl_members.ok h25 w )) ?_
    rintro v25_1 _ ⟨_, ⟨S25_1, hl_v25_1, rfl⟩, rfl⟩
    refine F.q rfl rfl rfl (wanted_none rfl) (r_makeFunc rfl) ?_
    refine F.ef rfl rfl rfl (wanted_none rfl) (d_callM (xs := _) (cs := [R.sl S25_1 v25_1 (t25 : List (Int))]) (rest := [R.box b9_1 114 (encA t20), R.box b7_1 3 [.int .i64 t13_2], R.box b2_1 57 [.int .i64 a0_0, va0_1, va0_2, va0_3]]) [0] [1, 2, 3] rfl ok111 rfl rfl rfl rfl (fun w hw => slices_DeleteFunc_int_int.ok h27 w hl_v25_1 ok114 (fun w2 he2 z0 y2 hy2 => impl_GoodSteps_1.ok hy2 w2 (boxM (i := 0) rfl hw he2) (boxM (i := 1) rfl hw he2) (boxM (i := 2) rfl hw he2) (((hr_a0_1.down hw)).kp he2) (((hr_a0_2.down hw)).kp he2) (((hr_a0_3.down hw)).kp he2)) (Sep.sub hw))) ?_
    rintro v27_1 _ ⟨_, ⟨S27_1, hl_v27_1, rfl⟩, rfl⟩
    refine F.q rfl rfl rfl (wanted_none rfl) (r_assign rfl) ?_
    refine F.q rfl rfl rfl (wanted_none rfl) (r_assign rfl) ?_
    refine F.nil ?_
    refine Nrm.seq ?_
    refine Tri.ret ?_
    cases h
    exact Rtn.body (.tmp rfl (.tmp rfl .nil)) (fun w hw => ⟨_, _, rfl, ⟨v27_1, S27_1, rfl, hl_v27_1, rfl⟩, Sep.pick (is := [0]) rfl rfl hw⟩)

end Go.Proofs

/- loop.example/g01158/laws.FnExactGoodSteps -/
namespace Go.Proofs
open Go Go.Ga
set_option linter.unusedVariables false
set_option maxRecDepth 100000
set_option maxHeartbeats 4000000
def laws_FnExactGoodSteps.f (k : Nat) (a0_0 : Int) (a0_1 : List (Int × Int × Int)) (a0_2 : List Int) (a0_3 : List Int) (a1 : List Int) : Option (Bool) := (if (decide ((a1.length : Int) > 1048576)) = true then some true else (laws_szTrap.f k a0_0 a0_1 a0_2 a0_3 1048576).bind fun t22 => (if (decide (t22 < 0)) = true then some true else (laws_toTrap.f k a0_0 a0_1 a0_2 a0_3).bind fun (t27_1, t27_2, t27_3, t27_4) => (laws_toIntS.f k a1).bind fun t29 => (spec_GoodSteps.f k t27_1 t27_2 t27_3 t27_4 t29).bind fun (t30_1, t30_2) => (laws_toTrap.f k a0_0 a0_1 a0_2 a0_3).bind fun (t34_1, t34_2, t34_3, t34_4) => (laws_toIntS.f k a1).bind fun t36 => (impl_GoodSteps.f k t34_1 t34_2 t34_3 t34_4 t36).bind fun (t40_1, t40_2) => ((laws_eqIntS.f k t40_1 t30_1).bind fun t45 => (if (!t45) = true then some true else some (t40_2 != t30_2))).bind fun y51 => (if y51 = true then some false else (laws_toTrap.f k a0_0 a0_1 a0_2 a0_3).bind fun (t54_1, t54_2, t54_3, t54_4) => (laws_eqTrap.f k t34_1 t34_2 t34_3 t34_4 t54_1 t54_2 t54_3 t54_4).bind fun t55 => (if (!t55) = true then some false else (laws_toIntS.f k a1).bind fun t59 => (laws_eqIntS.f k t36 t59).bind fun t60 => (if (!t60) = true then some false else (laws_markTrap.f k t34_1 t34_2 t34_3 t34_4 1).bind fun (t64_1, t64_2, t64_3, t64_4) => (laws_markIntS.f k t36 t64_1).bind fun (t67_1, t67_2) => ((if (decide (t67_1 < 0)) = true then some true else (laws_eqIntS.f k t40_1 t30_1).bind fun t73 => (if (!t73) = true then some true else some (t40_2 != t30_2)))).bind fun y80 => (if y80 = true then some false else (laws_markIntS.f k t40_1 1).bind fun (t83_1, t83_2) => (laws_heldIntS.f k t83_2 1).bind fun t86 => (if (decide (t86 < 0)) = true then some false else (if (t86 != t83_1) = true then some false else (laws_toTrap.f k a0_0 a0_1 a0_2 a0_3).bind fun (t94_1, t94_2, t94_3, t94_4) => (laws_toIntS.f k a1).bind fun t96 => (impl_GoodSteps.f k t94_1 t94_2 t94_3 t94_4 t96).bind fun (t97_1, t97_2) => ((laws_eqIntS.f k t97_1 t30_1).bind fun t102 => (if (!t102) = true then some true else some (t97_2 != t30_2))).bind fun y108 => (if y108 = true then some false else (laws_heldIntS.f k t83_2 1).bind fun t111 => (if (decide (t111 < 0)) = true then some false else (if (t111 != t83_1) = true then some false else some true)))))))))))

theorem laws_FnExactGoodSteps.ok {k : Nat}  {a0_0 : Int} {a0_1 : List (Int × Int × Int)} {a0_2 : List Int} {a0_3 : List Int} {a1 : List Int} {r0 : Bool} (h : laws_FnExactGoodSteps.f k a0_0 a0_1 a0_2 a0_3 a1 = some r0) (w : World) {va0_1 : Value} {va0_2 : Value} {va0_3 : Value} {va1 : Value} (hr_a0_1 : Rd w va0_1 a0_1) (hr_a0_2 : Rd w va0_2 a0_2) (hr_a0_3 : Rd w va0_3 a0_3) (hr_a1 : Rd w va1 a1) :
    Calls Try.prog 12 ([.agg ([.int .i64 a0_0, va0_1, va0_2, va0_3].toArray), va1] : List Value).toArray w (fun e w' => e = .returned (.bool r0) ∧ Ext w w') := by
  unfold laws_FnExactGoodSteps.f at h
  have hl_va0_1 := hr_a0_1.len
  have hl_va0_2 := hr_a0_2.len
  have hl_va0_3 := hr_a0_3.len
  have hl_va1 := hr_a1.len
  refine Calls.of_tri (N := 117) Try.func12 rfl rfl rfl (Sep.nil (M := noM)) ?_
  refine Tri.seq ?_
  refine Tri.reg (l := [0, 1]) rfl ?_
  refine F.m rfl rfl rfl (wanted_none rfl) (m_boxG rfl rfl) ?_
  rintro _ _ ⟨b2_1, rfl, rfl⟩
  refine F.q rfl rfl rfl (wanted_none rfl) (r_assign rfl) ?_
  refine F.nil ?_
  refine Nrm.seq ?_
  refine Tri.seq ?_
  refine Tri.seq ?_
  refine Tri.reg (l := [0, 1, 2]) rfl ?_
  refine F.q rfl rfl rfl (wanted_none rfl) (r_move rfl) ?_
  refine F.q rfl rfl rfl (wanted_none rfl) (r_len Try.underlying38 rfl hl_va1) ?_
  refine F.q rfl rfl rfl (wanted_none rfl) (r_gtr rfl rfl) ?_
  refine F.nil ?_
  refine Nrm.seq ?_
  refine Tri.cond (b := decide ((a1.length : Int) > 1048576)) rfl (fun g_1 => ?_) (fun g_1 => ?_)
  · replace h := if_tt g_1 h
    refine Tri.seq ?_
    refine Tri.reg (l := [0]) rfl ?_
    refine F.q rfl rfl rfl (wanted_none rfl) (r_assign rfl) ?_
    refine F.nil ?_
    refine Nrm.seq ?_
    refine Tri.ret ?_
    refine Rtn.then ?_
    cases h
    exact Rtn.body (.tmp rfl .nil) (fun w hw => ⟨rfl, hw.ext⟩)
  · replace h := if_ff g_1 h
    refine Tri.skip ?_
    refine Nrm.seq ?_
    refine Tri.seq ?_
    refine Tri.reg (l := [0]) rfl ?_
    refine F.q rfl rfl rfl (wanted_none rfl) (r_assign rfl) ?_
    refine F.nil ?_
    refine Nrm.seq ?_
    refine Tri.seq ?_
    obtain ⟨t22, h22, h⟩ := bind_some h
    refine Tri.reg (l := [0, 1, 2, 3]) rfl ?_
    refine F.q rfl rfl rfl (wanted_none rfl) (r_loadA ta53 ti53 rfl rfl (fun w hw => (box_cells (i := 0) rfl w hw))) ?_
    refine F.q rfl rfl rfl (wanted_none rfl) (r_move rfl) ?_
    refine F.qc rfl rfl rfl (wanted_none rfl) (q_callF (xs := _) rfl ok35 rfl rfl (fun w hw => laws_szTrap.ok h22 w ((fun _ hw => hr_a0_1.sep hw) w hw) ((fun _ hw => hr_a0_2.sep hw) w hw) ((fun _ hw => hr_a0_3.sep hw) w hw))) ?_
    refine F.q rfl rfl rfl (wanted_none rfl) (r_assign rfl) ?_
    refine F.nil ?_
    refine Nrm.seq ?_
    refine Tri.seq ?_
    refine Tri.seq ?_
    refine Tri.reg (l := [0, 1]) rfl ?_
    refine F.q rfl rfl rfl (wanted_none rfl) (r_move rfl) ?_
    refine F.q rfl rfl rfl (wanted_none rfl) (r_lss rfl rfl) ?_
    refine F.nil ?_
    refine Nrm.seq ?_
    refine Tri.cond (b := decide (t22 < 0)) rfl (fun g_2 => ?_) (fun g_2 => ?_)
    · replace h := if_tt g_2 h
      refine Tri.seq ?_
      refine Tri.reg (l := [0]) rfl ?_
      refine F.q rfl rfl rfl (wanted_none rfl) (r_assign rfl) ?_
      refine F.nil ?_
      refine Nrm.seq ?_
      refine Tri.ret ?_
      refine Rtn.then ?_
      cases h
      exact Rtn.body (.tmp rfl .nil) (fun w hw => ⟨rfl, hw.ext⟩)
    · replace h := if_ff g_2 h
      refine Tri.skip ?_
      refine Nrm.seq ?_
      refine Tri.seq ?_
      obtain ⟨⟨t27_1, t27_2, t27_3, t27_4⟩, h27, h⟩ := bind_some h
      obtain ⟨t29, h29, h⟩ := bind_some h
      obtain ⟨⟨t30_1, t30_2⟩, h30, h⟩ := bind_some h
      refine Tri.reg (l := [0, 1, 2, 3, 4, 5, 6, 7, 8, 9]) rfl ?_
      refine F.q rfl rfl rfl (wanted_none rfl) (r_loadA ta53 ti53 rfl rfl (fun w hw => (box_cells (i := 0) rfl w hw))) ?_
      refine F.m rfl rfl rfl (wanted_none rfl) (m_callF (xs := _) rfl ok37 rfl rfl (fun w hw => laws_toTrap.ok h27 w ((fun _ hw => hr_a0_1.sep hw) w hw) ((fun _ hw => hr_a0_2.sep hw) w hw) ((fun _ hw => hr_a0_3.sep hw) w hw))) ?_
      rintro _ _ ⟨_, ⟨v27_1, S27_1, v27_2, S27_2, v27_3, S27_3, rfl, hl_v27_1, hl_v27_2, hl_v27_3, rfl⟩, rfl⟩
      refine F.q rfl rfl rfl (wanted_none rfl) (r_move rfl) ?_
      refine F.m rfl rfl rfl (wanted_none rfl) (m_callF (xs := _) rfl ok32 rfl rfl (fun w hw => laws_toIntS.ok h29 w ((fun _ hw => hr_a1.sep hw) w hw))) ?_
      rintro v29_1 _ ⟨_, ⟨S29_1, hl_v29_1, rfl⟩, rfl⟩
      refine F.m rfl rfl rfl (wanted_none rfl) (m_callF (xs := _) rfl ok53 rfl rfl (fun w hw => spec_GoodSteps.ok h30 w ((rd_sl (i := 1) rfl) w hw) ((rd_sl (i := 2) rfl) w hw) ((rd_sl (i := 3) rfl) w hw) ((rd_sl (i := 0) rfl) w hw))) ?_
      rintro _ _ ⟨_, ⟨v30_1, S30_1, rfl, hl_v30_1, rfl⟩, rfl⟩
      refine F.q rfl rfl rfl (wanted_none rfl) (r_move rfl) ?_
      refine F.q rfl rfl rfl (wanted_none rfl) (r_extract rfl rfl) ?_
      refine F.q rfl rfl rfl (wanted_none rfl) (r_extract rfl rfl) ?_
      refine F.q rfl rfl rfl (wanted_none rfl) (r_assign rfl) ?_
      refine F.q rfl rfl rfl (wanted_none rfl) (r_assign rfl) ?_
      refine F.nil ?_
      refine Nrm.seq ?_
      refine Tri.seq ?_
      obtain ⟨⟨t34_1, t34_2, t34_3, t34_4⟩, h34, h⟩ := bind_some h
      refine Tri.reg (l := [0, 1, 2, 3]) rfl ?_
      refine F.q rfl rfl rfl (wanted_none rfl) (r_loadA ta53 ti53 rfl rfl (fun w hw => (box_cells (i := 5) rfl w hw))) ?_
      refine F.m rfl rfl rfl (wanted_none rfl) (m_callF (xs := _) rfl ok37 rfl rfl (fun w hw => laws_toTrap.ok h34 w ((fun _ hw => hr_a0_1.sep hw) w hw) ((fun _ hw => hr_a0_2.sep hw) w hw) ((fun _ hw => hr_a0_3.sep hw) w hw))) ?_
      rintro _ _ ⟨_, ⟨v34_1, S34_1, v34_2, S34_2, v34_3, S34_3, rfl, hl_v34_1, hl_v34_2, hl_v34_3, rfl⟩, rfl⟩
      refine F.m rfl rfl rfl (wanted_none rfl) (m_alloc ti57) ?_
      rintro _ _ ⟨b8_1, rfl, rfl⟩
      refine F.ef0 rfl rfl (wanted_none rfl) (d_storeG0 (i := 0) (cs2 := [.int .i64 t34_1, v34_1, v34_2, v34_3]) ti57 rfl rfl rfl rfl rfl (Nat.le_of_ble_eq_true rfl) (lf_cons rfl (lf_cons (sl_leaf hl_v34_1) (lf_cons (sl_leaf hl_v34_2) (lf_cons (sl_leaf hl_v34_3) lf_nil))))) ?_
      rintro _ _ ⟨rfl, rfl⟩
      refine F.nil ?_
      refine Nrm.seq ?_
      refine Tri.seq ?_
      obtain ⟨t36, h36, h⟩ := bind_some h
      refine Tri.reg (l := [0, 1, 2]) rfl ?_
      refine F.q rfl rfl rfl (wanted_none rfl) (r_move rfl) ?_
      refine F.m rfl rfl rfl (wanted_none rfl) (m_callF (xs := _) rfl ok32 rfl rfl (fun w hw => laws_toIntS.ok h36 w ((fun _ hw => hr_a1.sep hw) w hw))) ?_
      rintro v36_1 _ ⟨_, ⟨S36_1, hl_v36_1, rfl⟩, rfl⟩
      refine F.q rfl rfl rfl (wanted_none rfl) (r_assign rfl) ?_
      refine F.nil ?_
      refine Nrm.seq ?_
      refine Tri.seq ?_
      obtain ⟨⟨t40_1, t40_2⟩, h40, h⟩ := bind_some h
      refine Tri.reg (l := [0, 1, 2, 3, 4, 5, 6, 7]) rfl ?_
      refine F.q rfl rfl rfl (wanted_none rfl) (r_loadA ta57 ti57 rfl rfl (fun w hw => (box_cells (i := 1) rfl w hw))) ?_
      refine F.q rfl rfl rfl (wanted_none rfl) (r_move rfl) ?_
      refine F.m rfl rfl rfl (wanted_none rfl) (m_callF (xs := _) rfl ok54 rfl rfl (fun w hw => impl_GoodSteps.ok h40 w ((rd_sl (i := 2) rfl) w hw) ((rd_sl (i := 3) rfl) w hw) ((rd_sl (i := 4) rfl) w hw) ((rd_sl (i := 0) rfl) w hw))) ?_
      rintro _ _ ⟨_, ⟨v40_1, S40_1, rfl, hl_v40_1, rfl⟩, rfl⟩
      refine F.q rfl rfl rfl (wanted_none rfl) (r_move rfl) ?_
      refine F.q rfl rfl rfl (wanted_none rfl) (r_extract rfl rfl) ?_
      refine F.q rfl rfl rfl (wanted_none rfl) (r_extract rfl rfl) ?_
      refine F.q rfl rfl rfl (wanted_none rfl) (r_assign rfl) ?_
      refine F.q rfl rfl rfl (wanted_none rfl) (r_assign rfl) ?_
      refine F.nil ?_
      refine Nrm.seq ?_
      refine Tri.seq ?_
      refine Tri.seq ?_
      obtain ⟨y51, hE_1, h⟩ := bind_some h
      refine Tri.cut (fun e' C' => e' = [(1, va1), (2, .pointer (some ⟨b2_1, 0, none⟩)), (6, v30_1), (7, .bool t30_2), (8, .pointer (some ⟨b8_1, 0, none⟩)), (9, v36_1), (10, v40_1), (11, .bool t40_2), (51, .bool y51)] ∧ C' = Sep w noM [R.box b8_1 57 [.int .i64 t34_1, v34_1, v34_2, v34_3], R.box b2_1 53 [.int .i64 a0_0, va0_1, va0_2, va0_3], R.sl S30_1 v30_1 (t30_1 : List (Int)), R.sl S34_1 v34_1 (t34_2 : List (Int × Int × Int)), R.sl S34_2 v34_2 (t34_3 : List (Int)), R.sl S34_3 v34_3 (t34_4 : List (Int)), R.sl S36_1 v36_1 (t36 : List (Int)), R.sl S40_1 v40_1 (t40_1 : List (Int))]) ?_ (fun hj_1 => ?_)
      · rintro _ _ ⟨rfl, rfl⟩
        refine Nrm.seq ?_
        refine Tri.cond (b := y51) rfl (fun g_3 => ?_) (fun g_3 => ?_)
        · replace h := if_tt g_3 h
          refine Tri.seq ?_
          refine Tri.reg (l := [0]) rfl ?_
          refine F.q rfl rfl rfl (wanted_none rfl) (r_assign rfl) ?_
          refine F.nil ?_
          refine Nrm.seq ?_
          refine Tri.ret ?_
          refine Rtn.then ?_
          cases h
          exact Rtn.body (.tmp rfl .nil) (fun w hw => ⟨rfl, hw.ext⟩)
        · replace h := if_ff g_3 h
          refine Tri.skip ?_
          refine Nrm.seq ?_
          refine Tri.seq ?_
          refine Tri.seq ?_
          obtain ⟨⟨t54_1, t54_2, t54_3, t54_4⟩, h54, h⟩ := bind_some h
          obtain ⟨t55, h55, h⟩ := bind_some h
          refine Tri.drawA mixedT Sep.up [(0, true), (1, true), (2, false), (3, true), (4, true)] [] (by kernel_rfl) ?_
          refine S.q rfl rfl rfl (wanted_none rfl) (r_loadA ta57 ti57 rfl rfl (fun w hw => (box_cells (i := 0) rfl w hw))) ?_
          refine S.q rfl rfl rfl (wanted_none rfl) (r_loadA ta53 ti53 rfl rfl (fun w hw => (box_cells (i := 1) rfl w hw))) ?_
          refine S.m rfl rfl rfl (wanted_none rfl) (m_callF (xs := _) rfl ok37 rfl rfl (fun w hw => laws_toTrap.ok h54 w ((fun _ hw => hr_a0_1.sep hw) w hw) ((fun _ hw => hr_a0_2.sep hw) w hw) ((fun _ hw => hr_a0_3.sep hw) w hw))) ?_
          rintro _ _ ⟨_, ⟨v54_4, S54_4, v54_5, S54_5, v54_6, S54_6, rfl, hl_v54_4, hl_v54_5, hl_v54_6, rfl⟩, rfl⟩
          refine S.qc rfl rfl rfl (wanted_none rfl) (q_callF (xs := _) rfl ok39 rfl rfl (fun w hw => laws_eqTrap.ok h55 w ((rd_sl (i := 6) rfl) w hw) ((rd_sl (i := 7) rfl) w hw) ((rd_sl (i := 8) rfl) w hw) ((rd_sl (i := 0) rfl) w hw) ((rd_sl (i := 1) rfl) w hw) ((rd_sl (i := 2) rfl) w hw))) ?_
          refine S.q rfl rfl rfl (wanted_none rfl) (r_not rfl) ?_
          refine S.nil ?_
          refine F.nil ?_
          refine Nrm.seq ?_
          refine Tri.cond (b := !t55) rfl (fun g_4 => ?_) (fun g_4 => ?_)
          · replace h := if_tt g_4 h
            refine Tri.seq ?_
            refine Tri.reg (l := [0]) rfl ?_
            refine F.q rfl rfl rfl (wanted_none rfl) (r_assign rfl) ?_
            refine F.nil ?_
            refine Nrm.seq ?_
            refine Tri.ret ?_
            refine Rtn.then ?_
            cases h
            exact Rtn.body (.tmp rfl .nil) (fun w hw => ⟨rfl, hw.ext⟩)
          · replace h := if_ff g_4 h
            refine Tri.skip ?_
            refine Nrm.seq ?_
            refine Tri.seq ?_
            refine Tri.seq ?_
            obtain ⟨t59, h59, h⟩ := bind_some h
            obtain ⟨t60, h60, h⟩ := bind_some h
            refine Tri.reg (l := [0, 1, 2, 3, 4]) rfl ?_
            refine F.q rfl rfl rfl (wanted_none rfl) (r_move rfl) ?_
            refine F.q rfl rfl rfl (wanted_none rfl) (r_move rfl) ?_
            refine F.m rfl rfl rfl (wanted_none rfl) (m_callF (xs := _) rfl ok32 rfl rfl (fun w hw => laws_toIntS.ok h59 w ((fun _ hw => hr_a1.sep hw) w hw))) ?_
            rintro v59_1 _ ⟨_, ⟨S59_1, hl_v59_1, rfl⟩, rfl⟩
            refine F.qc rfl rfl rfl (wanted_none rfl) (q_callF (xs := _) rfl ok26 rfl rfl (fun w hw => laws_eqIntS.ok h60 w ((rd_sl (i := 10) rfl) w hw) ((rd_sl (i := 0) rfl) w hw))) ?_
            refine F.q rfl rfl rfl (wanted_none rfl) (r_not rfl) ?_
            refine F.nil ?_
            refine Nrm.seq ?_
            refine Tri.cond (b := !t60) rfl (fun g_5 => ?_) (fun g_5 => ?_)
            · replace h := if_tt g_5 h
              refine Tri.seq ?_
              refine Tri.reg (l := [0]) rfl ?_
              refine F.q rfl rfl rfl (wanted_none rfl) (r_assign rfl) ?_
              refine F.nil ?_
              refine Nrm.seq ?_
              refine Tri.ret ?_
              refine Rtn.then ?_
              cases h
              exact Rtn.body (.tmp rfl .nil) (fun w hw => ⟨rfl, hw.ext⟩)
            · replace h := if_ff g_5 h
              refine Tri.skip ?_
              refine Nrm.seq ?_
              refine Tri.seq ?_
              refine Tri.reg (l := [0]) rfl ?_
              refine F.q rfl rfl rfl (wanted_none rfl) (r_assign rfl) ?_
              refine F.nil ?_
              refine Nrm.seq ?_
              refine Tri.seq ?_
              obtain ⟨⟨t64_1, t64_2, t64_3, t64_4⟩, h64, h⟩ := bind_some h
              refine Tri.reg (l := [0, 1, 2, 3]) rfl ?_
              refine F.q rfl rfl rfl (wanted_none rfl) (r_loadA ta57 ti57 rfl rfl (fun w hw => (box_cells (i := 4) rfl w hw))) ?_
              refine F.q rfl rfl rfl (wanted_none rfl) (r_move rfl) ?_
              refine F.ef rfl rfl rfl (wanted_none rfl) (d_callM (xs := _) (cs := [R.sl S34_1 v34_1 (t34_2 : List (Int × Int × Int)), R.sl S34_2 v34_2 (t34_3 : List (Int)), R.sl S34_3 v34_3 (t34_4 : List (Int))]) (rest := [R.sl S59_1 v59_1 (t59 : List (Int)), R.sl S54_4 v54_4 (t54_2 : List (Int × Int × Int)), R.sl S54_5 v54_5 (t54_3 : List (Int)), R.sl S54_6 v54_6 (t54_4 : List (Int)), R.box b8_1 57 [.int .i64 t34_1, v34_1, v34_2, v34_3], R.box b2_1 53 [.int .i64 a0_0, va0_1, va0_2, va0_3], R.sl S30_1 v30_1 (t30_1 : List (Int)), R.sl S36_1 v36_1 (t36 : List (Int)), R.sl S40_1 v40_1 (t40_1 : List (Int))]) [7, 8, 9] [0, 1, 2, 3, 4, 5, 6, 10, 11] rfl ok40 rfl rfl rfl rfl (fun w hw => laws_markTrap.ok h64 w hl_v34_1 hl_v34_2 hl_v34_3 (Sep.sub hw))) ?_
              rintro _ _ ⟨_, ⟨rfl, hl_t64_2, hl_t64_3, hl_t64_4, rfl⟩, rfl⟩
              refine F.q rfl rfl rfl (wanted_none rfl) (r_assign rfl) ?_
              refine F.nil ?_
              refine Nrm.seq ?_
              refine Tri.seq ?_
              obtain ⟨⟨t67_1, t67_2⟩, h67, h⟩ := bind_some h
              refine Tri.reg (l := [0, 1, 2, 3]) rfl ?_
              refine F.q rfl rfl rfl (wanted_none rfl) (r_move rfl) ?_
              refine F.q rfl rfl rfl (wanted_none rfl) (r_move rfl) ?_
              refine F.ef rfl rfl rfl (wanted_none rfl) (d_callM (xs := _) (cs := [R.sl S36_1 v36_1 (t36 : List (Int))]) (rest := [R.sl S34_1 v34_1 (t64_2 : List (Int × Int × Int)), R.sl S34_2 v34_2 (t64_3 : List (Int)), R.sl S34_3 v34_3 (t64_4 : List (Int)), R.sl S59_1 v59_1 (t59 : List (Int)), R.sl S54_4 v54_4 (t54_2 : List (Int × Int × Int)), R.sl S54_5 v54_5 (t54_3 : List (Int)), R.sl S54_6 v54_6 (t54_4 : List (Int)), R.box b8_1 57 [.int .i64 t34_1, v34_1, v34_2, v34_3], R.box b2_1 53 [.int .i64 a0_0, va0_1, va0_2, va0_3], R.sl S30_1 v30_1 (t30_1 : List (Int)), R.sl S40_1 v40_1 (t40_1 : List (Int))]) [10] [0, 1, 2, 3, 4, 5, 6, 7, 8, 9, 11] rfl ok27 rfl rfl rfl rfl (fun w hw => laws_markIntS.ok h67 w hl_v36_1 (Sep.sub hw))) ?_
              rintro _ _ ⟨_, ⟨rfl, hl_t67_2, rfl⟩, rfl⟩
              refine F.q rfl rfl rfl (wanted_none rfl) (r_assign rfl) ?_
              refine F.nil ?_
              refine Nrm.seq ?_
              refine Tri.seq ?_
              refine Tri.seq ?_
              obtain ⟨y80, hE_2, h⟩ := bind_some h
              refine Tri.cut (fun e' C' => e' = [(1, va1), (2, .pointer (some ⟨b2_1, 0, none⟩)), (6, v30_1), (7, .bool t30_2), (10, v40_1), (80, .bool y80)] ∧ C' = Sep w noM [R.box b2_1 53 [.int .i64 a0_0, va0_1, va0_2, va0_3], R.sl S30_1 v30_1 (t30_1 : List (Int)), R.sl S40_1 v40_1 (t40_1 : List (Int))]) ?_ (fun hj_2 => ?_)
              · rintro _ _ ⟨rfl, rfl⟩
                refine Nrm.seq ?_
                refine Tri.cond (b := y80) rfl (fun g_6 => ?_) (fun g_6 => ?_)
                · replace h := if_tt g_6 h
                  refine Tri.seq ?_
                  refine Tri.reg (l := [0]) rfl ?_
                  refine F.q rfl rfl rfl (wanted_none rfl) (r_assign rfl) ?_
                  refine F.nil ?_
                  refine Nrm.seq ?_
                  refine Tri.ret ?_
                  refine Rtn.then ?_
                  cases h
                  exact Rtn.body (.tmp rfl .nil) (fun w hw => ⟨rfl, hw.ext⟩)
                · replace h := if_ff g_6 h
                  refine Tri.skip ?_
                  refine Nrm.seq ?_
                  refine Tri.seq ?_
                  refine Tri.reg (l := [0]) rfl ?_
                  refine F.q rfl rfl rfl (wanted_none rfl) (r_assign rfl) ?_
                  refine F.nil ?_
                  refine Nrm.seq ?_
                  refine Tri.seq ?_
                  obtain ⟨⟨t83_1, t83_2⟩, h83, h⟩ := bind_some h
                  refine Tri.reg (l := [0, 1, 2, 3]) rfl ?_
                  refine F.q rfl rfl rfl (wanted_none rfl) (r_move rfl) ?_
                  refine F.q rfl rfl rfl (wanted_none rfl) (r_move rfl) ?_
                  refine F.ef rfl rfl rfl (wanted_none rfl) (d_callM (xs := _) (cs := [R.sl S40_1 v40_1 (t40_1 : List (Int))]) (rest := [R.box b2_1 53 [.int .i64 a0_0, va0_1, va0_2, va0_3], R.sl S30_1 v30_1 (t30_1 : List (Int))]) [2] [0, 1] rfl ok27 rfl rfl rfl rfl (fun w hw => laws_markIntS.ok h83 w hl_v40_1 (Sep.sub hw))) ?_
                  rintro _ _ ⟨_, ⟨rfl, hl_t83_2, rfl⟩, rfl⟩
                  refine F.q rfl rfl rfl (wanted_none rfl) (r_assign rfl) ?_
                  refine F.nil ?_
                  refine Nrm.seq ?_
                  refine Tri.seq ?_
                  refine Tri.reg (l := [0]) rfl ?_
                  refine F.q rfl rfl rfl (wanted_none rfl) (r_assign rfl) ?_
                  refine F.nil ?_
                  refine Nrm.seq ?_
                  refine Tri.seq ?_
                  obtain ⟨t86, h86, h⟩ := bind_some h
                  refine Tri.reg (l := [0, 1, 2, 3]) rfl ?_
                  refine F.q rfl rfl rfl (wanted_none rfl) (r_move rfl) ?_
                  refine F.q rfl rfl rfl (wanted_none rfl) (r_move rfl) ?_
                  refine F.qc rfl rfl rfl (wanted_none rfl) (q_callF (xs := _) rfl ok28 rfl rfl (fun w hw => laws_heldIntS.ok h86 w ((rd_sl (i := 0) rfl) w hw))) ?_
                  refine F.q rfl rfl rfl (wanted_none rfl) (r_assign rfl) ?_
                  refine F.nil ?_
                  refine Nrm.seq ?_
                  refine Tri.seq ?_
                  refine Tri.seq ?_
                  refine Tri.reg (l := [0, 1]) rfl ?_
                  refine F.q rfl rfl rfl (wanted_none rfl) (r_move rfl) ?_
                  refine F.q rfl rfl rfl (wanted_none rfl) (r_lss rfl rfl) ?_
                  refine F.nil ?_
                  refine Nrm.seq ?_
                  refine Tri.cond (b := decide (t86 < 0)) rfl (fun g_7 => ?_) (fun g_7 => ?_)
                  · replace h := if_tt g_7 h
                    refine Tri.seq ?_
                    refine Tri.reg (l := [0]) rfl ?_
                    refine F.q rfl rfl rfl (wanted_none rfl) (r_assign rfl) ?_
                    refine F.nil ?_
                    refine Nrm.seq ?_
                    refine Tri.ret ?_
                    refine Rtn.then ?_
                    cases h
                    exact Rtn.body (.tmp rfl .nil) (fun w hw => ⟨rfl, hw.ext⟩)
                  · replace h := if_ff g_7 h
                    refine Tri.skip ?_
                    refine Nrm.seq ?_
                    refine Tri.seq ?_
                    refine Tri.seq ?_
                    refine Tri.reg (l := [0, 1, 2]) rfl ?_
                    refine F.q rfl rfl rfl (wanted_none rfl) (r_move rfl) ?_
                    refine F.q rfl rfl rfl (wanted_none rfl) (r_move rfl) ?_
                    refine F.q rfl rfl rfl (wanted_none rfl) (r_neq rfl rfl) ?_
                    refine F.nil ?_
                    refine Nrm.seq ?_
                    refine Tri.cond (b := t86 != t83_1) rfl (fun g_8 => ?_) (fun g_8 => ?_)
                    · replace h := if_tt g_8 h
                      refine Tri.seq ?_
                      refine Tri.reg (l := [0]) rfl ?_
                      refine F.q rfl rfl rfl (wanted_none rfl) (r_assign rfl) ?_
                      refine F.nil ?_
                      refine Nrm.seq ?_
                      refine Tri.ret ?_
                      refine Rtn.then ?_
                      cases h
                      exact Rtn.body (.tmp rfl .nil) (fun w hw => ⟨rfl, hw.ext⟩)
                    · replace h := if_ff g_8 h
                      refine Tri.skip ?_
                      refine Nrm.seq ?_
                      refine Tri.seq ?_
                      obtain ⟨⟨t94_1, t94_2, t94_3, t94_4⟩, h94, h⟩ := bind_some h
                      obtain ⟨t96, h96, h⟩ := bind_some h
                      obtain ⟨⟨t97_1, t97_2⟩, h97, h⟩ := bind_some h
                      refine Tri.reg (l := [0, 1, 2, 3, 4, 5, 6, 7, 8, 9]) rfl ?_
                      refine F.q rfl rfl rfl (wanted_none rfl) (r_loadA ta53 ti53 rfl rfl (fun w hw => (box_cells (i := 1) rfl w hw))) ?_
                      refine F.m rfl rfl rfl (wanted_none rfl) (m_callF (xs := _) rfl ok37 rfl rfl (fun w hw => laws_toTrap.ok h94 w ((fun _ hw => hr_a0_1.sep hw) w hw) ((fun _ hw => hr_a0_2.sep hw) w hw) ((fun _ hw => hr_a0_3.sep hw) w hw))) ?_
                      rintro _ _ ⟨_, ⟨v94_1, S94_1, v94_2, S94_2, v94_3, S94_3, rfl, hl_v94_1, hl_v94_2, hl_v94_3, rfl⟩, rfl⟩
                      refine F.q rfl rfl rfl (wanted_none rfl) (r_move rfl) ?_
                      refine F.m rfl rfl rfl (wanted_none rfl) (m_callF (xs := _) rfl ok32 rfl rfl (fun w hw => laws_toIntS.ok h96 w ((fun _ hw => hr_a1.sep hw) w hw))) ?_
                      rintro v96_1 _ ⟨_, ⟨S96_1, hl_v96_1, rfl⟩, rfl⟩
                      refine F.m rfl rfl rfl (wanted_none rfl) (m_callF (xs := _) rfl ok54 rfl rfl (fun w hw => impl_GoodSteps.ok h97 w ((rd_sl (i := 1) rfl) w hw) ((rd_sl (i := 2) rfl) w hw) ((rd_sl (i := 3) rfl) w hw) ((rd_sl (i := 0) rfl) w hw))) ?_
                      rintro _ _ ⟨_, ⟨v97_1, S97_1, rfl, hl_v97_1, rfl⟩, rfl⟩
                      refine F.q rfl rfl rfl (wanted_none rfl) (r_move rfl) ?_
                      refine F.q rfl rfl rfl (wanted_none rfl) (r_extract rfl rfl) ?_
                      refine F.q rfl rfl rfl (wanted_none rfl) (r_extract rfl rfl) ?_
                      refine F.q rfl rfl rfl (wanted_none rfl) (r_assign rfl) ?_
                      refine F.q rfl rfl rfl (wanted_none rfl) (r_assign rfl) ?_
                      refine F.nil ?_
                      refine Nrm.seq ?_
                      refine Tri.seq ?_
                      refine Tri.seq ?_
                      obtain ⟨y108, hE_3, h⟩ := bind_some h
                      refine Tri.cut (fun e' C' => e' = [(10, v40_1), (13, .int .i64 t83_1), (108, .bool y108)] ∧ C' = Sep w noM [R.sl S40_1 v40_1 (t83_2 : List (Int))]) ?_ (fun hj_3 => ?_)
                      · rintro _ _ ⟨rfl, rfl⟩
                        refine Nrm.seq ?_
                        refine Tri.cond (b := y108) rfl (fun g_9 => ?_) (fun g_9 => ?_)
                        · replace h := if_tt g_9 h
                          refine Tri.seq ?_
                          refine Tri.reg (l := [0]) rfl ?_
                          refine F.q rfl rfl rfl (wanted_none rfl) (r_assign rfl) ?_
                          refine F.nil ?_
                          refine Nrm.seq ?_
                          refine Tri.ret ?_
                          refine Rtn.then ?_
                          cases h
                          exact Rtn.body (.tmp rfl .nil) (fun w hw => ⟨rfl, hw.ext⟩)
                        · replace h := if_ff g_9 h
                          refine Tri.skip ?_
                          refine Nrm.seq ?_
                          refine Tri.seq ?_
                          refine Tri.reg (l := [0]) rfl ?_
                          refine F.q rfl rfl rfl (wanted_none rfl) (r_assign rfl) ?_
                          refine F.nil ?_
                          refine Nrm.seq ?_
                          refine Tri.seq ?_
                          obtain ⟨t111, h111, h⟩ := bind_some h
                          refine Tri.reg (l := [0, 1, 2, 3]) rfl ?_
                          refine F.q rfl rfl rfl (wanted_none rfl) (r_move rfl) ?_
                          refine F.q rfl rfl rfl (wanted_none rfl) (r_move rfl) ?_
                          refine F.qc rfl rfl rfl (wanted_none rfl) (q_callF (xs := _) rfl ok28 rfl rfl (fun w hw => laws_heldIntS.ok h111 w ((rd_sl (i := 0) rfl) w hw))) ?_
                          refine F.q rfl rfl rfl (wanted_none rfl) (r_assign rfl) ?_
                          refine F.nil ?_
                          refine Nrm.seq ?_
                          refine Tri.seq ?_
                          refine Tri.seq ?_
                          refine Tri.reg (l := [0, 1]) rfl ?_
                          refine F.q rfl rfl rfl (wanted_none rfl) (r_move rfl) ?_
                          refine F.q rfl rfl rfl (wanted_none rfl) (r_lss rfl rfl) ?_
                          refine F.nil ?_
                          refine Nrm.seq ?_
                          refine Tri.cond (b := decide (t111 < 0)) rfl (fun g_10 => ?_) (fun g_10 => ?_)
                          · replace h := if_tt g_10 h
                            refine Tri.seq ?_
                            refine Tri.reg (l := [0]) rfl ?_
                            refine F.q rfl rfl rfl (wanted_none rfl) (r_assign rfl) ?_
                            refine F.nil ?_
                            refine Nrm.seq ?_
                            refine Tri.ret ?_
                            refine Rtn.then ?_
                            cases h
                            exact Rtn.body (.tmp rfl .nil) (fun w hw => ⟨rfl, hw.ext⟩)
                          · replace h := if_ff g_10 h
                            refine Tri.skip ?_
                            refine Nrm.seq ?_
                            refine Tri.seq ?_
                            refine Tri.seq ?_
                            refine Tri.reg (l := [0, 1, 2]) rfl ?_
                            refine F.q rfl rfl rfl (wanted_none rfl) (r_move rfl) ?_
                            refine F.q rfl rfl rfl (wanted_none rfl) (r_move rfl) ?_
                            refine F.q rfl rfl rfl (wanted_none rfl) (r_neq rfl rfl) ?_
                            refine F.nil ?_
                            refine Nrm.seq ?_
                            refine Tri.cond (b := t111 != t83_1) rfl (fun g_11 => ?_) (fun g_11 => ?_)
                            · replace h := if_tt g_11 h
                              refine Tri.seq ?_
                              refine Tri.reg (l := [0]) rfl ?_
                              refine F.q rfl rfl rfl (wanted_none rfl) (r_assign rfl) ?_
                              refine F.nil ?_
                              refine Nrm.seq ?_
                              refine Tri.ret ?_
                              refine Rtn.then ?_
                              cases h
                              exact Rtn.body (.tmp rfl .nil) (fun w hw => ⟨rfl, hw.ext⟩)
                            · replace h := if_ff g_11 h
                              refine Tri.skip ?_
                              refine Nrm.seq ?_
                              refine Tri.seq ?_
                              refine Tri.reg (l := [0]) rfl ?_
                              refine F.q rfl rfl rfl (wanted_none rfl) (r_assign rfl) ?_
                              refine F.nil ?_
                              refine Nrm.seq ?_
                              refine Tri.ret ?_
                              cases h
                              exact Rtn.body (.tmp rfl .nil) (fun w hw => ⟨rfl, hw.ext⟩)
                      · obtain ⟨t102, h102, hE_3⟩ := bind_some hE_3
                        rcases Bool.eq_false_or_eq_true (!t102) with g104 | g104
                        · replace hE_3 := if_tt g104 hE_3
                          refine Tri.reg (l := [0, 1, 2, 3, 4, 5, 6, 7, 8]) rfl ?_
                          refine F.q rfl rfl rfl (wanted_none rfl) (r_move rfl) ?_
                          refine F.q rfl rfl rfl (wanted_none rfl) (r_move rfl) ?_
                          refine F.qc rfl rfl rfl (wanted_none rfl) (q_callF (xs := _) rfl ok26 rfl rfl (fun w hw => laws_eqIntS.ok h102 w ((rd_sl (i := 0) rfl) w hw) ((rd_sl (i := 7) rfl) w hw))) ?_
                          refine F.q rfl rfl rfl (wanted_none rfl) (r_not rfl) ?_
                          refine F.q rfl rfl rfl (wanted_none rfl) (r_move rfl) ?_
                          refine F.sk rfl rfl rfl (wf rfl rfl rfl g104) ?_
                          refine F.sk rfl rfl rfl (wf rfl rfl rfl g104) ?_
                          refine F.sk rfl rfl rfl (wf rfl rfl rfl g104) ?_
                          refine F.q rfl rfl rfl (wanted_none rfl) (r_pick rfl rfl g104) ?_
                          refine F.nil ?_
                          cases hE_3
                          refine Nrm.only [10, 13, 108] rfl ?_
                          refine Nrm.pick [5] rfl rfl ?_
                          exact hj_3 _ _ ⟨rfl, rfl⟩
                        · replace hE_3 := if_ff g104 hE_3
                          refine Tri.reg (l := [0, 1, 2, 3, 4, 5, 6, 7, 8]) rfl ?_
                          refine F.q rfl rfl rfl (wanted_none rfl) (r_move rfl) ?_
                          refine F.q rfl rfl rfl (wanted_none rfl) (r_move rfl) ?_
                          refine F.qc rfl rfl rfl (wanted_none rfl) (q_callF (xs := _) rfl ok26 rfl rfl (fun w hw => laws_eqIntS.ok h102 w ((rd_sl (i := 0) rfl) w hw) ((rd_sl (i := 7) rfl) w hw))) ?_
                          refine F.q rfl rfl rfl (wanted_none rfl) (r_not rfl) ?_
                          refine F.q rfl rfl rfl (wanted_none rfl) (r_move rfl) ?_
                          refine F.q rfl rfl rfl (wg rfl rfl rfl g104) (r_move rfl) ?_
                          refine F.q rfl rfl rfl (wg rfl rfl rfl g104) (r_move rfl) ?_
                          refine F.q rfl rfl rfl (wg rfl rfl rfl g104) (r_neqB Try.underlying4 rfl rfl) ?_
                          refine F.q rfl rfl rfl (wanted_none rfl) (r_pickf rfl rfl g104) ?_
                          refine F.nil ?_
                          cases hE_3
                          refine Nrm.only [10, 13, 108] rfl ?_
                          refine Nrm.pick [5] rfl rfl ?_
                          exact hj_3 _ _ ⟨rfl, rfl⟩
              · rcases Bool.eq_false_or_eq_true (decide (t67_1 < 0)) with g70 | g70
                · replace hE_2 := if_tt g70 hE_2
                  refine Tri.reg (l := [0, 1, 2, 3, 4, 5, 6, 7, 8, 9, 10, 11, 12]) rfl ?_
                  refine F.q rfl rfl rfl (wanted_none rfl) (r_move rfl) ?_
                  refine F.q rfl rfl rfl (wanted_none rfl) (r_lss rfl rfl) ?_
                  refine F.q rfl rfl rfl (wanted_none rfl) (r_move rfl) ?_
                  refine F.sk rfl rfl rfl (wf rfl rfl rfl g70) ?_
                  refine F.sk rfl rfl rfl (wf rfl rfl rfl g70) ?_
                  refine F.sk rfl rfl rfl (wf rfl rfl rfl g70) ?_
                  refine F.sk rfl rfl rfl (wf rfl rfl rfl g70) ?_
                  refine F.q rfl rfl rfl (wanted_none rfl) (r_pick rfl rfl g70) ?_
                  refine F.q rfl rfl rfl (wanted_none rfl) (r_move rfl) ?_
                  refine F.sk rfl rfl rfl (wf rfl rfl rfl rfl) ?_
                  refine F.sk rfl rfl rfl (wf rfl rfl rfl rfl) ?_
                  refine F.sk rfl rfl rfl (wf rfl rfl rfl rfl) ?_
                  refine F.q rfl rfl rfl (wanted_none rfl) (r_pick rfl rfl rfl) ?_
                  refine F.nil ?_
                  cases hE_2
                  refine Nrm.only [1, 2, 6, 7, 10, 80] rfl ?_
                  refine Nrm.pick [9, 10, 11] rfl rfl ?_
                  exact hj_2 _ _ ⟨rfl, rfl⟩
                · replace hE_2 := if_ff g70 hE_2
                  obtain ⟨t73, h73, hE_2⟩ := bind_some hE_2
                  rcases Bool.eq_false_or_eq_true (!t73) with g76 | g76
                  · replace hE_2 := if_tt g76 hE_2
                    refine Tri.reg (l := [0, 1, 2, 3, 4, 5, 6, 7, 8, 9, 10, 11, 12]) rfl ?_
                    refine F.q rfl rfl rfl (wanted_none rfl) (r_move rfl) ?_
                    refine F.q rfl rfl rfl (wanted_none rfl) (r_lss rfl rfl) ?_
                    refine F.q rfl rfl rfl (wanted_none rfl) (r_move rfl) ?_
                    refine F.q rfl rfl rfl (wg rfl rfl rfl g70) (r_move rfl) ?_
                    refine F.q rfl rfl rfl (wg rfl rfl rfl g70) (r_move rfl) ?_
                    refine F.qc rfl rfl rfl (wg rfl rfl rfl g70) (q_callF (xs := _) rfl ok26 rfl rfl (fun w hw => laws_eqIntS.ok h73 w ((rd_sl (i := 11) rfl) w hw) ((rd_sl (i := 10) rfl) w hw))) ?_
                    refine F.q rfl rfl rfl (wg rfl rfl rfl g70) (r_not rfl) ?_
                    refine F.q rfl rfl rfl (wanted_none rfl) (r_pickf rfl rfl g70) ?_
                    refine F.q rfl rfl rfl (wanted_none rfl) (r_move rfl) ?_
                    refine F.sk rfl rfl rfl (wf rfl rfl rfl g76) ?_
                    refine F.sk rfl rfl rfl (wf rfl rfl rfl g76) ?_
                    refine F.sk rfl rfl rfl (wf rfl rfl rfl g76) ?_
                    refine F.q rfl rfl rfl (wanted_none rfl) (r_pick rfl rfl g76) ?_
                    refine F.nil ?_
                    cases hE_2
                    refine Nrm.only [1, 2, 6, 7, 10, 80] rfl ?_
                    refine Nrm.pick [9, 10, 11] rfl rfl ?_
                    exact hj_2 _ _ ⟨rfl, rfl⟩
                  · replace hE_2 := if_ff g76 hE_2
                    refine Tri.reg (l := [0, 1, 2, 3, 4, 5, 6, 7, 8, 9, 10, 11, 12]) rfl ?_
                    refine F.q rfl rfl rfl (wanted_none rfl) (r_move rfl) ?_
                    refine F.q rfl rfl rfl (wanted_none rfl) (r_lss rfl rfl) ?_
                    refine F.q rfl rfl rfl (wanted_none rfl) (r_move rfl) ?_
                    refine F.q rfl rfl rfl (wg rfl rfl rfl g70) (r_move rfl) ?_
                    refine F.q rfl rfl rfl (wg rfl rfl rfl g70) (r_move rfl) ?_
                    refine F.qc rfl rfl rfl (wg rfl rfl rfl g70) (q_callF (xs := _) rfl ok26 rfl rfl (fun w hw => laws_eqIntS.ok h73 w ((rd_sl (i := 11) rfl) w hw) ((rd_sl (i := 10) rfl) w hw))) ?_
                    refine F.q rfl rfl rfl (wg rfl rfl rfl g70) (r_not rfl) ?_
                    refine F.q rfl rfl rfl (wanted_none rfl) (r_pickf rfl rfl g70) ?_
                    refine F.q rfl rfl rfl (wanted_none rfl) (r_move rfl) ?_
                    refine F.q rfl rfl rfl (wg rfl rfl rfl g76) (r_move rfl) ?_
                    refine F.q rfl rfl rfl (wg rfl rfl rfl g76) (r_move rfl) ?_
                    refine F.q rfl rfl rfl (wg rfl rfl rfl g76) (r_neqB Try.underlying4 rfl rfl) ?_
                    refine F.q rfl rfl rfl (wanted_none rfl) (r_pickf rfl rfl g76) ?_
                    refine F.nil ?_
                    cases hE_2
                    refine Nrm.only [1, 2, 6, 7, 10, 80] rfl ?_
                    refine Nrm.pick [9, 10, 11] rfl rfl ?_
                    exact hj_2 _ _ ⟨rfl, rfl⟩
      · obtain ⟨t45, h45, hE_1⟩ := bind_some hE_1
        rcases Bool.eq_false_or_eq_true (!t45) with g47 | g47
        · replace hE_1 := if_tt g47 hE_1
          refine Tri.reg (l := [0, 1, 2, 3, 4, 5, 6, 7, 8]) rfl ?_
          refine F.q rfl rfl rfl (wanted_none rfl) (r_move rfl) ?_
          refine F.q rfl rfl rfl (wanted_none rfl) (r_move rfl) ?_
          refine F.qc rfl rfl rfl (wanted_none rfl) (q_callF (xs := _) rfl ok26 rfl rfl (fun w hw => laws_eqIntS.ok h45 w ((rd_sl (i := 0) rfl) w hw) ((rd_sl (i := 6) rfl) w hw))) ?_
          refine F.q rfl rfl rfl (wanted_none rfl) (r_not rfl) ?_
          refine F.q rfl rfl rfl (wanted_none rfl) (r_move rfl) ?_
          refine F.sk rfl rfl rfl (wf rfl rfl rfl g47) ?_
          refine F.sk rfl rfl rfl (wf rfl rfl rfl g47) ?_
          refine F.sk rfl rfl rfl (wf rfl rfl rfl g47) ?_
          refine F.q rfl rfl rfl (wanted_none rfl) (r_pick rfl rfl g47) ?_
          refine F.nil ?_
          cases hE_1
          refine Nrm.only [1, 2, 6, 7, 8, 9, 10, 11, 51] rfl ?_
          refine Nrm.pick [2, 11, 6, 3, 4, 5, 1, 0] rfl rfl ?_
          exact hj_1 _ _ ⟨rfl, rfl⟩
        · replace hE_1 := if_ff g47 hE_1
          refine Tri.reg (l := [0, 1, 2, 3, 4, 5, 6, 7, 8]) rfl ?_
          refine F.q rfl rfl rfl (wanted_none rfl) (r_move rfl) ?_
          refine F.q rfl rfl rfl (wanted_none rfl) (r_move rfl) ?_
          refine F.qc rfl rfl rfl (wanted_none rfl) (q_callF (xs := _) rfl ok26 rfl rfl (fun w hw => laws_eqIntS.ok h45 w ((rd_sl (i := 0) rfl) w hw) ((rd_sl (i := 6) rfl) w hw))) ?_
          refine F.q rfl rfl rfl (wanted_none rfl) (r_not rfl) ?_
          refine F.q rfl rfl rfl (wanted_none rfl) (r_move rfl) ?_
          refine F.q rfl rfl rfl (wg rfl rfl rfl g47) (r_move rfl) ?_
          refine F.q rfl rfl rfl (wg rfl rfl rfl g47) (r_move rfl) ?_
          refine F.q rfl rfl rfl (wg rfl rfl rfl g47) (r_neqB Try.underlying4 rfl rfl) ?_
          refine F.q rfl rfl rfl (wanted_none rfl) (r_pickf rfl rfl g47) ?_
          refine F.nil ?_
          cases hE_1
          refine Nrm.only [1, 2, 6, 7, 8, 9, 10, 11, 51] rfl ?_
          refine Nrm.pick [2, 11, 6, 3, 4, 5, 1, 0] rfl rfl ?_
          exact hj_1 _ _ ⟨rfl, rfl⟩

end Go.Proofs
