/- A part of the proof of FnExactGoodSteps: what the functions of the program compute, walked on the model. No condition. -/
import Derived.Test.YtnmmbpaedkofeaaFnExactGoodStepsC
/- loop.example/g01158/spec.l2Before -/

namespace Go.Proofs
open Go Go.Ga
set_option linter.unusedVariables false
set_option maxRecDepth 100000
set_option maxHeartbeats 4000000
def spec_l2Before.l0 (k : Nat) (a0_0 : Int) (a0_1 : Int) (a0_2 : Int) (a1_0 : Int) (a1_1 : Int) (a1_2 : Int) : Nat → Int → Option ((Unit) ⊕ (Bool))
  | 0, _ => none
  | n + 1, x5 => (if (decide (x5 < 3)) = true then (rdl [a0_0, a0_1, a0_2] x5).bind fun t11 => (rdl [a1_0, a1_1, a1_2] x5).bind fun t14 => (if (t11 != t14) = true then (rdl [a0_0, a0_1, a0_2] x5).bind fun t18 => (rdl [a1_0, a1_1, a1_2] x5).bind fun t21 => some (Sum.inr (decide (t18 < t21))) else spec_l2Before.l0 k a0_0 a0_1 a0_2 a1_0 a1_1 a1_2 n (w64 (x5 + 1))) else some (Sum.inl ()))

def spec_l2Before.f (k : Nat) (a0_0 : Int) (a0_1 : Int) (a0_2 : Int) (a1_0 : Int) (a1_1 : Int) (a1_2 : Int) : Option (Bool) := (spec_l2Before.l0 k a0_0 a0_1 a0_2 a1_0 a1_1 a1_2 k 0).bind fun s => Lr s some fun _ => some false

theorem spec_l2Before.ok {k : Nat}  {a0_0 : Int} {a0_1 : Int} {a0_2 : Int} {a1_0 : Int} {a1_1 : Int} {a1_2 : Int} {r0 : Bool} (h : spec_l2Before.f k a0_0 a0_1 a0_2 a1_0 a1_1 a1_2 = some r0) (w : World) :
    Calls Try.prog 157 ([.agg ([.int .i64 a0_0, .int .i64 a0_1, .int .i64 a0_2].toArray), .agg ([.int .i64 a1_0, .int .i64 a1_1, .int .i64 a1_2].toArray)] : List Value).toArray w (fun e w' => e = .returned (.bool r0) ∧ Ext w w') := by
  unfold spec_l2Before.f at h
  refine Calls.of_tri (N := 24) Try.func157 rfl rfl rfl (Sep.nil (M := noM)) ?_
  refine Tri.seq ?_
  refine Tri.reg (l := [0, 1, 2]) rfl ?_
  refine F.m rfl rfl rfl (wanted_none rfl) (m_boxG rfl rfl) ?_
  rintro _ _ ⟨b2_1, rfl, rfl⟩
  refine F.m rfl rfl rfl (wanted_none rfl) (m_boxG rfl rfl) ?_
  rintro _ _ ⟨b3_1, rfl, rfl⟩
  refine F.q rfl rfl rfl (wanted_none rfl) (r_assign rfl) ?_
  refine F.nil ?_
  refine Nrm.seq ?_
  refine Tri.seq ?_
  refine Tri.seq ?_
  refine Tri.reg (l := [0]) rfl ?_
  refine F.q rfl rfl rfl (wanted_none rfl) (r_assign rfl) ?_
  refine F.nil ?_
  refine Nrm.seq ?_
  obtain ⟨s0, hE_1, h⟩ := bind_some h
  refine Tri.block ?_
  refine Tri.only [2, 3, 5] rfl ?_
  refine Tri.pick [0, 1] rfl rfl ?_
  refine Tri.rounds (fun n e' C' => ∃ (x5' : Int), spec_l2Before.l0 k a0_0 a0_1 a0_2 a1_0 a1_1 a1_2 n x5' = some s0 ∧ e' = [(2, .pointer (some ⟨b2_1, 0, none⟩)), (3, .pointer (some ⟨b3_1, 0, none⟩)), (5, .int .i64 x5')] ∧ C' = Sep w noM [R.box b3_1 140 [.int .i64 a1_0, .int .i64 a1_1, .int .i64 a1_2], R.box b2_1 140 [.int .i64 a0_0, .int .i64 a0_1, .int .i64 a0_2]]) k ?_ ?_ ?_
  · exact ⟨0, hE_1, rfl, rfl⟩
  · rintro _ _ ⟨_, hE_1, _⟩
    rw [spec_l2Before.l0.eq_1] at hE_1; cases hE_1
  · rintro n_1 _ _ ⟨x5, hE_1, rfl, rfl⟩ ih_1
    rw [spec_l2Before.l0.eq_2] at hE_1
    refine Tri.seq ?_
    refine Tri.seq ?_
    refine Tri.reg (l := [0, 1]) rfl ?_
    refine F.q rfl rfl rfl (wanted_none rfl) (r_move rfl) ?_
    refine F.q rfl rfl rfl (wanted_none rfl) (r_lss rfl rfl) ?_
    refine F.nil ?_
    refine Nrm.seq ?_
    refine Tri.cond (b := decide (x5 < 3)) rfl (fun g_1 => ?_) (fun g_1 => ?_)
    · replace hE_1 := if_tt g_1 hE_1
      refine Tri.skip ?_
      refine Nrm.seq ?_
      refine Tri.seq ?_
      refine Tri.block ?_
      refine Tri.seq ?_
      obtain ⟨t11, h11, hE_1⟩ := bind_some hE_1
      obtain ⟨t14, h14, hE_1⟩ := bind_some hE_1
      refine Tri.drawA mixedT Sep.up [(0, true), (1, true), (2, true), (3, true), (4, true), (5, true), (6, true)] [] (by kernel_rfl) ?_
      refine S.q rfl rfl rfl (wanted_none rfl) (r_move rfl) ?_
      refine S.q rfl rfl rfl (wanted_none rfl) (r_indexAddrA Try.underlying140 ti3 rfl rfl (rdl_some h11).1 (rdl_some h11).2.1) ?_
      refine S.q rfl rfl rfl (wanted_none rfl) (r_load ta3 rfl (fun w hw => cell_dynB (box_cells (i := 1) rfl w hw) rfl h11)) ?_
      refine S.q rfl rfl rfl (wanted_none rfl) (r_move rfl) ?_
      refine S.q rfl rfl rfl (wanted_none rfl) (r_indexAddrA Try.underlying140 ti3 rfl rfl (rdl_some h14).1 (rdl_some h14).2.1) ?_
      refine S.q rfl rfl rfl (wanted_none rfl) (r_load ta3 rfl (fun w hw => cell_dynB (box_cells (i := 0) rfl w hw) rfl h14)) ?_
      refine S.q rfl rfl rfl (wanted_none rfl) (r_neq rfl rfl) ?_
      refine S.nil ?_
      refine F.nil ?_
      refine Nrm.seq ?_
      refine Tri.cond (b := t11 != t14) rfl (fun g_2 => ?_) (fun g_2 => ?_)
      · replace hE_1 := if_tt g_2 hE_1
        refine Tri.seq ?_
        obtain ⟨t18, h18, hE_1⟩ := bind_some hE_1
        obtain ⟨t21, h21, hE_1⟩ := bind_some hE_1
        refine Tri.drawA mixedT Sep.up [(0, true), (1, true), (2, true), (3, true), (4, true), (5, true), (6, true), (7, true)] [] (by kernel_rfl) ?_
        refine S.q rfl rfl rfl (wanted_none rfl) (r_move rfl) ?_
        refine S.q rfl rfl rfl (wanted_none rfl) (r_indexAddrA Try.underlying140 ti3 rfl rfl (rdl_some h18).1 (rdl_some h18).2.1) ?_
        refine S.q rfl rfl rfl (wanted_none rfl) (r_load ta3 rfl (fun w hw => cell_dynB (box_cells (i := 1) rfl w hw) rfl h18)) ?_
        refine S.q rfl rfl rfl (wanted_none rfl) (r_move rfl) ?_
        refine S.q rfl rfl rfl (wanted_none rfl) (r_indexAddrA Try.underlying140 ti3 rfl rfl (rdl_some h21).1 (rdl_some h21).2.1) ?_
        refine S.q rfl rfl rfl (wanted_none rfl) (r_load ta3 rfl (fun w hw => cell_dynB (box_cells (i := 0) rfl w hw) rfl h21)) ?_
        refine S.q rfl rfl rfl (wanted_none rfl) (r_lss rfl rfl) ?_
        refine S.q rfl rfl rfl (wanted_none rfl) (r_assign rfl) ?_
        refine S.nil ?_
        refine F.nil ?_
        refine Nrm.seq ?_
        refine Tri.ret ?_
        refine Rtn.block ?_
        refine Rtn.then ?_
        refine Rtn.then ?_
        refine Rtn.block ?_
        refine Rtn.then ?_
        cases hE_1
        replace h := Lr_inr h
        cases h
        exact Rtn.body (.tmp rfl .nil) (fun w hw => ⟨rfl, hw.ext⟩)
      · replace hE_1 := if_ff g_2 hE_1
        refine Tri.skip ?_
        refine Nrm.block ?_
        refine Nrm.seq ?_
        refine Tri.reg (l := [0, 1, 2]) rfl ?_
        refine F.q rfl rfl rfl (wanted_none rfl) (r_move rfl) ?_
        refine F.q rfl rfl rfl (wanted_none rfl) (r_add rfl rfl) ?_
        refine F.q rfl rfl rfl (wanted_none rfl) (r_assign rfl) ?_
        refine F.nil ?_
        refine Nrm.round ?_
        refine Rnd.only [2, 3, 5] rfl ?_
        refine Rnd.pick [0, 1] rfl rfl ?_
        exact ih_1 _ _ ⟨w64 (x5 + 1), hE_1, rfl, rfl⟩
    · replace hE_1 := if_ff g_1 hE_1
      refine Tri.exit ?_
      refine Exi.then ?_
      refine Exi.then ?_
      refine Exi.same ?_
      cases hE_1
      replace h := Lr_inl h
      refine Nrm.seq ?_
      refine Tri.seq ?_
      refine Tri.reg (l := [0]) rfl ?_
      refine F.q rfl rfl rfl (wanted_none rfl) (r_assign rfl) ?_
      refine F.nil ?_
      refine Nrm.seq ?_
      refine Tri.ret ?_
      cases h
      exact Rtn.body (.tmp rfl .nil) (fun w hw => ⟨rfl, hw.ext⟩)

end Go.Proofs

/- loop.example/g01158/spec.l2Maze -/
namespace Go.Proofs
open Go Go.Ga
set_option linter.unusedVariables false
set_option maxRecDepth 100000
set_option maxHeartbeats 4000000
def spec_l2Maze.l1 (k : Nat) (a0_0 : Int) (a0_2 : List Int) : Nat → Int → Option ((Unit) ⊕ (Bool))
  | 0, _ => none
  | n + 1, x5 => (if (decide (x5 < a0_0)) = true then (rdl a0_2 x5).bind fun t85 => (spec_l2Set.f k t85).bind fun t87 => (if (!t87) = true then some (Sum.inr false) else spec_l2Maze.l1 k a0_0 a0_2 n (w64 (x5 + 1))) else some (Sum.inl ()))

def spec_l2Maze.l0 (k : Nat) (a0_0 : Int) (a0_1 : List (Int × Int × Int)) : Nat → Int → Option ((Unit) ⊕ (Bool))
  | 0, _ => none
  | n + 1, x3 => (if (decide (x3 < (a0_1.length : Int))) = true then (rdl a0_1 x3).bind fun t34 => ((spec_l1In.f k t34.1 0 (w64 (a0_0 - 1))).bind fun t41 => (if (!t41) = true then some true else (spec_l1In.f k t34.2.1 (w64 (t34.1 + 1)) (w64 (a0_0 - 1))).bind fun t52 => (if (!t52) = true then some true else (spec_l2Set.f k t34.2.2).bind fun t58 => (if (!t58) = true then some true else (if (decide (x3 > 0)) = true then (rdl a0_1 (w64 (x3 - 1))).bind fun t69 => (spec_l2Before.f k t69.1 t69.2.1 t69.2.2 t34.1 t34.2.1 t34.2.2).bind fun t72 => some (!t72) else some false))))).bind fun y75 => (if y75 = true then some (Sum.inr false) else spec_l2Maze.l0 k a0_0 a0_1 n (w64 (x3 + 1))) else some (Sum.inl ()))

def spec_l2Maze.f (k : Nat) (a0_0 : Int) (a0_1 : List (Int × Int × Int)) (a0_2 : List Int) : Option (Bool) := ((spec_l1In.f k a0_0 1 12).bind fun t8 => (if (!t8) = true then some true else (if (decide ((a0_1.length : Int) > 30)) = true then some true else some ((a0_2.length : Int) != a0_0)))).bind fun y23 => (if y23 = true then some false else (spec_l2Maze.l0 k a0_0 a0_1 k 0).bind fun s => Lr s some fun _ => (spec_l2Maze.l1 k a0_0 a0_2 k 0).bind fun s => Lr s some fun _ => some true)

theorem spec_l2Maze.ok {k : Nat}  {a0_0 : Int} {a0_1 : List (Int × Int × Int)} {a0_2 : List Int} {r0 : Bool} (h : spec_l2Maze.f k a0_0 a0_1 a0_2 = some r0) (w : World) {va0_1 : Value} {va0_2 : Value} (hr_a0_1 : Rd w va0_1 a0_1) (hr_a0_2 : Rd w va0_2 a0_2) :
    Calls Try.prog 117 ([.agg ([.int .i64 a0_0, va0_1, va0_2].toArray)] : List Value).toArray w (fun e w' => e = .returned (.bool r0) ∧ Ext w w') := by
  unfold spec_l2Maze.f at h
  have hl_va0_1 := hr_a0_1.len
  have hl_va0_2 := hr_a0_2.len
  refine Calls.of_tri (N := 89) Try.func117 rfl rfl rfl (Sep.nil (M := noM)) ?_
  refine Tri.seq ?_
  refine Tri.reg (l := [0, 1]) rfl ?_
  refine F.m rfl rfl rfl (wanted_none rfl) (m_boxG rfl rfl) ?_
  rintro _ _ ⟨b1_1, rfl, rfl⟩
  refine F.q rfl rfl rfl (wanted_none rfl) (r_assign rfl) ?_
  refine F.nil ?_
  refine Nrm.seq ?_
  refine Tri.seq ?_
  refine Tri.seq ?_
  obtain ⟨y23, hE_1, h⟩ := bind_some h
  refine Tri.cut (fun e' C' => e' = [(1, .pointer (some ⟨b1_1, 0, none⟩)), (23, .bool y23)] ∧ C' = Sep w noM [R.box b1_1 55 [.int .i64 a0_0, va0_1, va0_2]]) ?_ (fun hj_1 => ?_)
  · rintro _ _ ⟨rfl, rfl⟩
    refine Nrm.seq ?_
    refine Tri.cond (b := y23) rfl (fun g_1 => ?_) (fun g_1 => ?_)
    · replace h := if_tt g_1 h
      refine Tri.seq ?_
      refine Tri.reg (l := [0]) rfl ?_
      refine F.q rfl rfl rfl (wanted_none rfl) (r_assign rfl) ?_
      refine F.nil ?_
      refine Nrm.seq ?_
      refine Tri.ret ?_
      refine Rtn.then ?_
      cases h
      exact Rtn.body (.tmp rfl .nil) (fun w hw => ⟨rfl, hw.ext⟩)
    · replace h := if_ff g_1 h
      refine Tri.skip ?_
      refine Nrm.seq ?_
      refine Tri.seq ?_
      refine Tri.seq ?_
      refine Tri.reg (l := [0]) rfl ?_
      refine F.q rfl rfl rfl (wanted_none rfl) (r_assign rfl) ?_
      refine F.nil ?_
      refine Nrm.seq ?_
      obtain ⟨s0, hE_2, h⟩ := bind_some h
      refine Tri.block ?_
      refine Tri.only [1, 3] rfl ?_
      refine Tri.pick [0] rfl rfl ?_
      refine Tri.rounds (fun n e' C' => ∃ (x3' : Int), spec_l2Maze.l0 k a0_0 a0_1 n x3' = some s0 ∧ e' = [(1, .pointer (some ⟨b1_1, 0, none⟩)), (3, .int .i64 x3')] ∧ C' = Sep w noM [R.box b1_1 55 [.int .i64 a0_0, va0_1, va0_2]]) k ?_ ?_ ?_
      · exact ⟨0, hE_2, rfl, rfl⟩
      · rintro _ _ ⟨_, hE_2, _⟩
        rw [spec_l2Maze.l0.eq_1] at hE_2; cases hE_2
      · rintro n_1 _ _ ⟨x3, hE_2, rfl, rfl⟩ ih_1
        rw [spec_l2Maze.l0.eq_2] at hE_2
        refine Tri.seq ?_
        refine Tri.seq ?_
        refine Tri.reg (l := [0, 1, 2, 3, 4]) rfl ?_
        refine F.q rfl rfl rfl (wanted_none rfl) (r_move rfl) ?_
        refine F.q rfl rfl rfl (wanted_none rfl) (r_fieldAddr tf55_1 rfl) ?_
        refine F.q rfl rfl rfl (wanted_none rfl) (r_load ta49 rfl (fun w hw => cell_1 (box_cells (i := 0) rfl w hw) rfl)) ?_
        refine F.q rfl rfl rfl (wanted_none rfl) (r_len Try.underlying49 rfl hl_va0_1) ?_
        refine F.q rfl rfl rfl (wanted_none rfl) (r_lss rfl rfl) ?_
        refine F.nil ?_
        refine Nrm.seq ?_
        refine Tri.cond (b := decide (x3 < (a0_1.length : Int))) rfl (fun g_2 => ?_) (fun g_2 => ?_)
        · replace hE_2 := if_tt g_2 hE_2
          refine Tri.skip ?_
          refine Nrm.seq ?_
          refine Tri.seq ?_
          refine Tri.block ?_
          refine Tri.seq ?_
          obtain ⟨t34, h34, hE_2⟩ := bind_some hE_2
          refine Tri.reg (l := [0, 1, 2, 3, 4, 5, 6]) rfl ?_
          refine F.q rfl rfl rfl (wanted_none rfl) (r_fieldAddr tf55_1 rfl) ?_
          refine F.q rfl rfl rfl (wanted_none rfl) (r_load ta49 rfl (fun w hw => cell_1 (box_cells (i := 0) rfl w hw) rfl)) ?_
          refine F.q rfl rfl rfl (wanted_none rfl) (r_move rfl) ?_
          refine F.q rfl rfl rfl (wanted_none rfl) (r_indexAddrS Try.underlying49 ti140 rfl hl_va0_1 rfl (rdl_some h34).1 (rdl_some h34).2.1) ?_
          refine F.q rfl rfl rfl (wanted_none rfl) (r_loadA ta140 ti140 rfl rfl (fun w hw => (Rd.flat ((fun _ hw => hr_a0_1.sep hw) w hw) (rdl_some h34).2.2))) ?_
          refine F.m rfl rfl rfl (wanted_none rfl) (m_alloc ti140) ?_
          rintro _ _ ⟨b4_1, rfl, rfl⟩
          refine F.ef0 rfl rfl (wanted_none rfl) (d_storeG0 (i := 0) (cs2 := [.int .i64 t34.1, .int .i64 t34.2.1, .int .i64 t34.2.2]) ti140 rfl rfl rfl rfl rfl (Nat.le_of_ble_eq_true rfl) (lf_cons rfl (lf_cons rfl (lf_cons rfl lf_nil)))) ?_
          rintro _ _ ⟨rfl, rfl⟩
          refine F.nil ?_
          refine Nrm.seq ?_
          refine Tri.seq ?_
          obtain ⟨y75, hE_3, hE_2⟩ := bind_some hE_2
          refine Tri.cut (fun e' C' => e' = [(1, .pointer (some ⟨b1_1, 0, none⟩)), (3, .int .i64 x3), (75, .bool y75)] ∧ C' = Sep w noM [R.box b1_1 55 [.int .i64 a0_0, va0_1, va0_2]]) ?_ (fun hj_2 => ?_)
          · rintro _ _ ⟨rfl, rfl⟩
            refine Nrm.seq ?_
            refine Tri.cond (b := y75) rfl (fun g_3 => ?_) (fun g_3 => ?_)
            · replace hE_2 := if_tt g_3 hE_2
              refine Tri.seq ?_
              refine Tri.reg (l := [0]) rfl ?_
              refine F.q rfl rfl rfl (wanted_none rfl) (r_assign rfl) ?_
              refine F.nil ?_
              refine Nrm.seq ?_
              refine Tri.ret ?_
              refine Rtn.block ?_
              refine Rtn.then ?_
              refine Rtn.then ?_
              refine Rtn.block ?_
              refine Rtn.then ?_
              cases hE_2
              replace h := Lr_inr h
              cases h
              exact Rtn.body (.tmp rfl .nil) (fun w hw => ⟨rfl, hw.ext⟩)
            · replace hE_2 := if_ff g_3 hE_2
              refine Tri.skip ?_
              refine Nrm.block ?_
              refine Nrm.seq ?_
              refine Tri.reg (l := [0, 1, 2]) rfl ?_
              refine F.q rfl rfl rfl (wanted_none rfl) (r_move rfl) ?_
              refine F.q rfl rfl rfl (wanted_none rfl) (r_add rfl rfl) ?_
              refine F.q rfl rfl rfl (wanted_none rfl) (r_assign rfl) ?_
              refine F.nil ?_
              refine Nrm.round ?_
              refine Rnd.only [1, 3] rfl ?_
              refine Rnd.pick [0] rfl rfl ?_
              exact ih_1 _ _ ⟨w64 (x3 + 1), hE_2, rfl, rfl⟩
          · obtain ⟨t41, h41, hE_3⟩ := bind_some hE_3
            rcases Bool.eq_false_or_eq_true (!t41) with g43 | g43
            · replace hE_3 := if_tt g43 hE_3
              refine Tri.drawA mixedT Sep.up [(0, true), (1, true), (2, true), (3, true), (4, true), (5, true), (6, true), (7, true), (8, true), (9, true), (10, true), (11, true), (12, true), (13, true), (14, true), (15, true), (16, true), (17, true), (18, true), (19, true), (20, true), (21, true), (22, true), (23, true), (24, true), (25, true), (26, true), (27, true), (28, true), (29, true), (30, true), (31, true), (32, true), (33, true), (34, true), (35, true), (36, true), (37, true), (38, true), (39, true)] [] (by kernel_rfl) ?_
              refine S.q rfl rfl rfl (wanted_none rfl) (r_indexAddrA Try.underlying140 ti3 rfl rfl (by decide) (by decide)) ?_
              refine S.q rfl rfl rfl (wanted_none rfl) (r_load ta3 rfl (fun w hw => cell_1 (box_cells (i := 0) rfl w hw) rfl)) ?_
              refine S.q rfl rfl rfl (wanted_none rfl) (r_fieldAddr tf55_0 rfl) ?_
              refine S.q rfl rfl rfl (wanted_none rfl) (r_load ta3 rfl (fun w hw => cell_1 (box_cells (i := 1) rfl w hw) rfl)) ?_
              refine S.q rfl rfl rfl (wanted_none rfl) (r_sub rfl rfl) ?_
              refine S.qc rfl rfl rfl (wanted_none rfl) (q_callF (xs := _) rfl ok84 rfl rfl (fun w hw => spec_l1In.ok h41 w )) ?_
              refine S.q rfl rfl rfl (wanted_none rfl) (r_not rfl) ?_
              refine S.q rfl rfl rfl (wanted_none rfl) (r_move rfl) ?_
              refine S.sk rfl rfl rfl (wf rfl rfl rfl g43) ?_
              refine S.sk rfl rfl rfl (wf rfl rfl rfl g43) ?_
              refine S.sk rfl rfl rfl (wf rfl rfl rfl g43) ?_
              refine S.sk rfl rfl rfl (wf rfl rfl rfl g43) ?_
              refine S.sk rfl rfl rfl (wf rfl rfl rfl g43) ?_
              refine S.sk rfl rfl rfl (wf rfl rfl rfl g43) ?_
              refine S.sk rfl rfl rfl (wf rfl rfl rfl g43) ?_
              refine S.sk rfl rfl rfl (wf rfl rfl rfl g43) ?_
              refine S.sk rfl rfl rfl (wf rfl rfl rfl g43) ?_
              refine S.sk rfl rfl rfl (wf rfl rfl rfl g43) ?_
              refine S.q rfl rfl rfl (wanted_none rfl) (r_pick rfl rfl g43) ?_
              refine S.q rfl rfl rfl (wanted_none rfl) (r_move rfl) ?_
              refine S.sk rfl rfl rfl (wf rfl rfl rfl rfl) ?_
              refine S.sk rfl rfl rfl (wf rfl rfl rfl rfl) ?_
              refine S.sk rfl rfl rfl (wf rfl rfl rfl rfl) ?_
              refine S.sk rfl rfl rfl (wf rfl rfl rfl rfl) ?_
              refine S.q rfl rfl rfl (wanted_none rfl) (r_pick rfl rfl rfl) ?_
              refine S.q rfl rfl rfl (wanted_none rfl) (r_move rfl) ?_
              refine S.sk rfl rfl rfl (wf rfl rfl rfl rfl) ?_
              refine S.sk rfl rfl rfl (wf rfl rfl rfl rfl) ?_
              refine S.sk rfl rfl rfl (wf rfl rfl rfl rfl) ?_
              refine S.sk rfl rfl rfl (wanted_undef rfl rfl rfl) ?_
              refine S.sk rfl rfl rfl (wanted_undef rfl rfl rfl) ?_
              refine S.sk rfl rfl rfl (wanted_undef rfl rfl rfl) ?_
              refine S.sk rfl rfl rfl (wanted_undef rfl rfl rfl) ?_
              refine S.sk rfl rfl rfl (wanted_undef rfl rfl rfl) ?_
              refine S.sk rfl rfl rfl (wanted_undef rfl rfl rfl) ?_
              refine S.sk rfl rfl rfl (wanted_undef rfl rfl rfl) ?_
              refine S.sk rfl rfl rfl (wanted_undef rfl rfl rfl) ?_
              refine S.sk rfl rfl rfl (wanted_undef rfl rfl rfl) ?_
              refine S.sk rfl rfl rfl (wf rfl rfl rfl rfl) ?_
              refine S.q rfl rfl rfl (wanted_none rfl) (r_pick rfl rfl rfl) ?_
              refine S.nil ?_
              refine F.nil ?_
              cases hE_3
              refine Nrm.only [1, 3, 75] rfl ?_
              refine Nrm.pick [1] rfl rfl ?_
              exact hj_2 _ _ ⟨rfl, rfl⟩
            · replace hE_3 := if_ff g43 hE_3
              obtain ⟨t52, h52, hE_3⟩ := bind_some hE_3
              rcases Bool.eq_false_or_eq_true (!t52) with g55 | g55
              · replace hE_3 := if_tt g55 hE_3
                refine Tri.drawA mixedT Sep.up [(0, true), (1, true), (2, true), (3, true), (4, true), (5, true), (6, true), (7, true), (8, true), (9, true), (10, true), (11, true), (12, true), (13, true), (14, true), (15, true), (16, true), (17, true), (18, true), (19, true), (20, true), (21, true), (22, true), (23, true), (24, true), (25, true), (26, true), (27, true), (28, true), (29, true), (30, true), (31, true), (32, true), (33, true), (34, true), (35, true), (36, true), (37, true), (38, true), (39, true)] [] (by kernel_rfl) ?_
                refine S.q rfl rfl rfl (wanted_none rfl) (r_indexAddrA Try.underlying140 ti3 rfl rfl (by decide) (by decide)) ?_
                refine S.q rfl rfl rfl (wanted_none rfl) (r_load ta3 rfl (fun w hw => cell_1 (box_cells (i := 0) rfl w hw) rfl)) ?_
                refine S.q rfl rfl rfl (wanted_none rfl) (r_fieldAddr tf55_0 rfl) ?_
                refine S.q rfl rfl rfl (wanted_none rfl) (r_load ta3 rfl (fun w hw => cell_1 (box_cells (i := 1) rfl w hw) rfl)) ?_
                refine S.q rfl rfl rfl (wanted_none rfl) (r_sub rfl rfl) ?_
                refine S.qc rfl rfl rfl (wanted_none rfl) (q_callF (xs := _) rfl ok84 rfl rfl (fun w hw => spec_l1In.ok h41 w )) ?_
                refine S.q rfl rfl rfl (wanted_none rfl) (r_not rfl) ?_
                refine S.q rfl rfl rfl (wanted_none rfl) (r_move rfl) ?_
                refine S.q rfl rfl rfl (wg rfl rfl rfl g43) (r_indexAddrA Try.underlying140 ti3 rfl rfl (by decide) (by decide)) ?_
                refine S.q rfl rfl rfl (wg rfl rfl rfl g43) (r_load ta3 rfl (fun w hw => cell_1 (box_cells (i := 0) rfl w hw) rfl)) ?_
                refine S.q rfl rfl rfl (wg rfl rfl rfl g43) (r_indexAddrA Try.underlying140 ti3 rfl rfl (by decide) (by decide)) ?_
                refine S.q rfl rfl rfl (wg rfl rfl rfl g43) (r_load ta3 rfl (fun w hw => cell_1 (box_cells (i := 0) rfl w hw) rfl)) ?_
                refine S.q rfl rfl rfl (wg rfl rfl rfl g43) (r_add rfl rfl) ?_
                refine S.q rfl rfl rfl (wg rfl rfl rfl g43) (r_fieldAddr tf55_0 rfl) ?_
                refine S.q rfl rfl rfl (wg rfl rfl rfl g43) (r_load ta3 rfl (fun w hw => cell_1 (box_cells (i := 1) rfl w hw) rfl)) ?_
                refine S.q rfl rfl rfl (wg rfl rfl rfl g43) (r_sub rfl rfl) ?_
                refine S.qc rfl rfl rfl (wg rfl rfl rfl g43) (q_callF (xs := _) rfl ok84 rfl rfl (fun w hw => spec_l1In.ok h52 w )) ?_
                refine S.q rfl rfl rfl (wg rfl rfl rfl g43) (r_not rfl) ?_
                refine S.q rfl rfl rfl (wanted_none rfl) (r_pickf rfl rfl g43) ?_
                refine S.q rfl rfl rfl (wanted_none rfl) (r_move rfl) ?_
                refine S.sk rfl rfl rfl (wf rfl rfl rfl g55) ?_
                refine S.sk rfl rfl rfl (wf rfl rfl rfl g55) ?_
                refine S.sk rfl rfl rfl (wf rfl rfl rfl g55) ?_
                refine S.sk rfl rfl rfl (wf rfl rfl rfl g55) ?_
                refine S.q rfl rfl rfl (wanted_none rfl) (r_pick rfl rfl g55) ?_
                refine S.q rfl rfl rfl (wanted_none rfl) (r_move rfl) ?_
                refine S.sk rfl rfl rfl (wf rfl rfl rfl rfl) ?_
                refine S.sk rfl rfl rfl (wf rfl rfl rfl rfl) ?_
                refine S.sk rfl rfl rfl (wf rfl rfl rfl rfl) ?_
                refine S.sk rfl rfl rfl (wanted_undef rfl rfl rfl) ?_
                refine S.sk rfl rfl rfl (wanted_undef rfl rfl rfl) ?_
                refine S.sk rfl rfl rfl (wanted_undef rfl rfl rfl) ?_
                refine S.sk rfl rfl rfl (wanted_undef rfl rfl rfl) ?_
                refine S.sk rfl rfl rfl (wanted_undef rfl rfl rfl) ?_
                refine S.sk rfl rfl rfl (wanted_undef rfl rfl rfl) ?_
                refine S.sk rfl rfl rfl (wanted_undef rfl rfl rfl) ?_
                refine S.sk rfl rfl rfl (wanted_undef rfl rfl rfl) ?_
                refine S.sk rfl rfl rfl (wanted_undef rfl rfl rfl) ?_
                refine S.sk rfl rfl rfl (wf rfl rfl rfl rfl) ?_
                refine S.q rfl rfl rfl (wanted_none rfl) (r_pick rfl rfl rfl) ?_
                refine S.nil ?_
                refine F.nil ?_
                cases hE_3
                refine Nrm.only [1, 3, 75] rfl ?_
                refine Nrm.pick [1] rfl rfl ?_
                exact hj_2 _ _ ⟨rfl, rfl⟩
              · replace hE_3 := if_ff g55 hE_3
                obtain ⟨t58, h58, hE_3⟩ := bind_some hE_3
                rcases Bool.eq_false_or_eq_true (!t58) with g61 | g61
                · replace hE_3 := if_tt g61 hE_3
                  refine Tri.drawA mixedT Sep.up [(0, true), (1, true), (2, true), (3, true), (4, true), (5, true), (6, true), (7, true), (8, true), (9, true), (10, true), (11, true), (12, true), (13, true), (14, true), (15, true), (16, true), (17, true), (18, true), (19, true), (20, true), (21, true), (22, true), (23, true), (24, true), (25, true), (26, true), (27, true), (28, true), (29, true), (30, true), (31, true), (32, true), (33, true), (34, true), (35, true), (36, true), (37, true), (38, true), (39, true)] [] (by kernel_rfl) ?_
                  refine S.q rfl rfl rfl (wanted_none rfl) (r_indexAddrA Try.underlying140 ti3 rfl rfl (by decide) (by decide)) ?_
                  refine S.q rfl rfl rfl (wanted_none rfl) (r_load ta3 rfl (fun w hw => cell_1 (box_cells (i := 0) rfl w hw) rfl)) ?_
                  refine S.q rfl rfl rfl (wanted_none rfl) (r_fieldAddr tf55_0 rfl) ?_
                  refine S.q rfl rfl rfl (wanted_none rfl) (r_load ta3 rfl (fun w hw => cell_1 (box_cells (i := 1) rfl w hw) rfl)) ?_
                  refine S.q rfl rfl rfl (wanted_none rfl) (r_sub rfl rfl) ?_
                  refine S.qc rfl rfl rfl (wanted_none rfl) (q_callF (xs := _) rfl ok84 rfl rfl (fun w hw => spec_l1In.ok h41 w )) ?_
                  refine S.q rfl rfl rfl (wanted_none rfl) (r_not rfl) ?_
                  refine S.q rfl rfl rfl (wanted_none rfl) (r_move rfl) ?_
                  refine S.q rfl rfl rfl (wg rfl rfl rfl g43) (r_indexAddrA Try.underlying140 ti3 rfl rfl (by decide) (by decide)) ?_
                  refine S.q rfl rfl rfl (wg rfl rfl rfl g43) (r_load ta3 rfl (fun w hw => cell_1 (box_cells (i := 0) rfl w hw) rfl)) ?_
                  refine S.q rfl rfl rfl (wg rfl rfl rfl g43) (r_indexAddrA Try.underlying140 ti3 rfl rfl (by decide) (by decide)) ?_
                  refine S.q rfl rfl rfl (wg rfl rfl rfl g43) (r_load ta3 rfl (fun w hw => cell_1 (box_cells (i := 0) rfl w hw) rfl)) ?_
                  refine S.q rfl rfl rfl (wg rfl rfl rfl g43) (r_add rfl rfl) ?_
                  refine S.q rfl rfl rfl (wg rfl rfl rfl g43) (r_fieldAddr tf55_0 rfl) ?_
                  refine S.q rfl rfl rfl (wg rfl rfl rfl g43) (r_load ta3 rfl (fun w hw => cell_1 (box_cells (i := 1) rfl w hw) rfl)) ?_
                  refine S.q rfl rfl rfl (wg rfl rfl rfl g43) (r_sub rfl rfl) ?_
                  refine S.qc rfl rfl rfl (wg rfl rfl rfl g43) (q_callF (xs := _) rfl ok84 rfl rfl (fun w hw => spec_l1In.ok h52 w )) ?_
                  refine S.q rfl rfl rfl (wg rfl rfl rfl g43) (r_not rfl) ?_
                  refine S.q rfl rfl rfl (wanted_none rfl) (r_pickf rfl rfl g43) ?_
                  refine S.q rfl rfl rfl (wanted_none rfl) (r_move rfl) ?_
                  refine S.q rfl rfl rfl (wg rfl rfl rfl g55) (r_indexAddrA Try.underlying140 ti3 rfl rfl (by decide) (by decide)) ?_
                  refine S.q rfl rfl rfl (wg rfl rfl rfl g55) (r_load ta3 rfl (fun w hw => cell_1 (box_cells (i := 0) rfl w hw) rfl)) ?_
                  refine S.qc rfl rfl rfl (wg rfl rfl rfl g55) (q_callF (xs := _) rfl ok142 rfl rfl (fun w hw => spec_l2Set.ok h58 w )) ?_
                  refine S.q rfl rfl rfl (wg rfl rfl rfl g55) (r_not rfl) ?_
                  refine S.q rfl rfl rfl (wanted_none rfl) (r_pickf rfl rfl g55) ?_
                  refine S.q rfl rfl rfl (wanted_none rfl) (r_move rfl) ?_
                  refine S.sk rfl rfl rfl (wf rfl rfl rfl g61) ?_
                  refine S.sk rfl rfl rfl (wf rfl rfl rfl g61) ?_
                  refine S.sk rfl rfl rfl (wf rfl rfl rfl g61) ?_
                  refine S.sk rfl rfl rfl (wanted_undef rfl rfl rfl) ?_
                  refine S.sk rfl rfl rfl (wanted_undef rfl rfl rfl) ?_
                  refine S.sk rfl rfl rfl (wanted_undef rfl rfl rfl) ?_
                  refine S.sk rfl rfl rfl (wanted_undef rfl rfl rfl) ?_
                  refine S.sk rfl rfl rfl (wanted_undef rfl rfl rfl) ?_
                  refine S.sk rfl rfl rfl (wanted_undef rfl rfl rfl) ?_
                  refine S.sk rfl rfl rfl (wanted_undef rfl rfl rfl) ?_
                  refine S.sk rfl rfl rfl (wanted_undef rfl rfl rfl) ?_
                  refine S.sk rfl rfl rfl (wanted_undef rfl rfl rfl) ?_
                  refine S.sk rfl rfl rfl (wf rfl rfl rfl g61) ?_
                  refine S.q rfl rfl rfl (wanted_none rfl) (r_pick rfl rfl g61) ?_
                  refine S.nil ?_
                  refine F.nil ?_
                  cases hE_3
                  refine Nrm.only [1, 3, 75] rfl ?_
                  refine Nrm.pick [1] rfl rfl ?_
                  exact hj_2 _ _ ⟨rfl, rfl⟩
                · replace hE_3 := if_ff g61 hE_3
                  rcases Bool.eq_false_or_eq_true (decide (x3 > 0)) with g64 | g64
                  · replace hE_3 := if_tt g64 hE_3
                    obtain ⟨t69, h69, hE_3⟩ := bind_some hE_3
                    obtain ⟨t72, h72, hE_3⟩ := bind_some hE_3
                    refine Tri.drawA mixedT Sep.up [(0, true), (1, true), (2, true), (3, true), (4, true), (5, true), (6, true), (7, true), (8, true), (9, true), (10, true), (11, true), (12, true), (13, true), (14, true), (15, true), (16, true), (17, true), (18, true), (19, true), (20, true), (21, true), (22, true), (23, true), (24, true), (25, true), (26, true), (27, true), (28, true), (29, true), (30, true), (31, true), (32, true), (33, true), (34, true), (35, true), (36, true), (37, true), (38, true), (39, true)] [] (by kernel_rfl) ?_
                    refine S.q rfl rfl rfl (wanted_none rfl) (r_indexAddrA Try.underlying140 ti3 rfl rfl (by decide) (by decide)) ?_
                    refine S.q rfl rfl rfl (wanted_none rfl) (r_load ta3 rfl (fun w hw => cell_1 (box_cells (i := 0) rfl w hw) rfl)) ?_
                    refine S.q rfl rfl rfl (wanted_none rfl) (r_fieldAddr tf55_0 rfl) ?_
                    refine S.q rfl rfl rfl (wanted_none rfl) (r_load ta3 rfl (fun w hw => cell_1 (box_cells (i := 1) rfl w hw) rfl)) ?_
                    refine S.q rfl rfl rfl (wanted_none rfl) (r_sub rfl rfl) ?_
                    refine S.qc rfl rfl rfl (wanted_none rfl) (q_callF (xs := _) rfl ok84 rfl rfl (fun w hw => spec_l1In.ok h41 w )) ?_
                    refine S.q rfl rfl rfl (wanted_none rfl) (r_not rfl) ?_
                    refine S.q rfl rfl rfl (wanted_none rfl) (r_move rfl) ?_
                    refine S.q rfl rfl rfl (wg rfl rfl rfl g43) (r_indexAddrA Try.underlying140 ti3 rfl rfl (by decide) (by decide)) ?_
                    refine S.q rfl rfl rfl (wg rfl rfl rfl g43) (r_load ta3 rfl (fun w hw => cell_1 (box_cells (i := 0) rfl w hw) rfl)) ?_
                    refine S.q rfl rfl rfl (wg rfl rfl rfl g43) (r_indexAddrA Try.underlying140 ti3 rfl rfl (by decide) (by decide)) ?_
                    refine S.q rfl rfl rfl (wg rfl rfl rfl g43) (r_load ta3 rfl (fun w hw => cell_1 (box_cells (i := 0) rfl w hw) rfl)) ?_
                    refine S.q rfl rfl rfl (wg rfl rfl rfl g43) (r_add rfl rfl) ?_
                    refine S.q rfl rfl rfl (wg rfl rfl rfl g43) (r_fieldAddr tf55_0 rfl) ?_
                    refine S.q rfl rfl rfl (wg rfl rfl rfl g43) (r_load ta3 rfl (fun w hw => cell_1 (box_cells (i := 1) rfl w hw) rfl)) ?_
                    refine S.q rfl rfl rfl (wg rfl rfl rfl g43) (r_sub rfl rfl) ?_
                    refine S.qc rfl rfl rfl (wg rfl rfl rfl g43) (q_callF (xs := _) rfl ok84 rfl rfl (fun w hw => spec_l1In.ok h52 w )) ?_
                    refine S.q rfl rfl rfl (wg rfl rfl rfl g43) (r_not rfl) ?_
                    refine S.q rfl rfl rfl (wanted_none rfl) (r_pickf rfl rfl g43) ?_
                    refine S.q rfl rfl rfl (wanted_none rfl) (r_move rfl) ?_
                    refine S.q rfl rfl rfl (wg rfl rfl rfl g55) (r_indexAddrA Try.underlying140 ti3 rfl rfl (by decide) (by decide)) ?_
                    refine S.q rfl rfl rfl (wg rfl rfl rfl g55) (r_load ta3 rfl (fun w hw => cell_1 (box_cells (i := 0) rfl w hw) rfl)) ?_
                    refine S.qc rfl rfl rfl (wg rfl rfl rfl g55) (q_callF (xs := _) rfl ok142 rfl rfl (fun w hw => spec_l2Set.ok h58 w )) ?_
                    refine S.q rfl rfl rfl (wg rfl rfl rfl g55) (r_not rfl) ?_
                    refine S.q rfl rfl rfl (wanted_none rfl) (r_pickf rfl rfl g55) ?_
                    refine S.q rfl rfl rfl (wanted_none rfl) (r_move rfl) ?_
                    refine S.q rfl rfl rfl (wg rfl rfl rfl g61) (r_move rfl) ?_
                    refine S.q rfl rfl rfl (wg rfl rfl rfl g61) (r_gtr rfl rfl) ?_
                    refine S.q rfl rfl rfl (wg rfl rfl rfl g61) (r_move rfl) ?_
                    refine S.q rfl rfl rfl (wg rfl rfl rfl g64) (r_fieldAddr tf55_1 rfl) ?_
                    refine S.q rfl rfl rfl (wg rfl rfl rfl g64) (r_load ta49 rfl (fun w hw => cell_1 (box_cells (i := 1) rfl w hw) rfl)) ?_
                    refine S.q rfl rfl rfl (wg rfl rfl rfl g64) (r_move rfl) ?_
                    refine S.q rfl rfl rfl (wg rfl rfl rfl g64) (r_sub rfl rfl) ?_
                    refine S.q rfl rfl rfl (wg rfl rfl rfl g64) (r_indexAddrS Try.underlying49 ti140 rfl hl_va0_1 rfl (rdl_some h69).1 (rdl_some h69).2.1) ?_
                    refine S.q rfl rfl rfl (wg rfl rfl rfl g64) (r_loadA ta140 ti140 rfl rfl (fun w hw => (Rd.flat ((fun _ hw => hr_a0_1.sep hw) w hw) (rdl_some h69).2.2))) ?_
                    refine S.q rfl rfl rfl (wg rfl rfl rfl g64) (r_loadA ta140 ti140 rfl rfl (fun w hw => (box_cells (i := 0) rfl w hw))) ?_
                    refine S.qc rfl rfl rfl (wg rfl rfl rfl g64) (q_callF (xs := _) rfl ok157 rfl rfl (fun w hw => spec_l2Before.ok h72 w )) ?_
                    refine S.q rfl rfl rfl (wg rfl rfl rfl g64) (r_not rfl) ?_
                    refine S.q rfl rfl rfl (wg rfl rfl rfl g61) (r_pick rfl rfl g64) ?_
                    refine S.q rfl rfl rfl (wanted_none rfl) (r_pickf rfl rfl g61) ?_
                    refine S.nil ?_
                    refine F.nil ?_
                    cases hE_3
                    refine Nrm.only [1, 3, 75] rfl ?_
                    refine Nrm.pick [1] rfl rfl ?_
                    exact hj_2 _ _ ⟨rfl, rfl⟩
                  · replace hE_3 := if_ff g64 hE_3
                    refine Tri.drawA mixedT Sep.up [(0, true), (1, true), (2, true), (3, true), (4, true), (5, true), (6, true), (7, true), (8, true), (9, true), (10, true), (11, true), (12, true), (13, true), (14, true), (15, true), (16, true), (17, true), (18, true), (19, true), (20, true), (21, true), (22, true), (23, true), (24, true), (25, true), (26, true), (27, true), (28, true), (29, true), (30, true), (31, true), (32, true), (33, true), (34, true), (35, true), (36, true), (37, true), (38, true), (39, true)] [] (by kernel_rfl) ?_
                    refine S.q rfl rfl rfl (wanted_none rfl) (r_indexAddrA Try.underlying140 ti3 rfl rfl (by decide) (by decide)) ?_
                    refine S.q rfl rfl rfl (wanted_none rfl) (r_load ta3 rfl (fun w hw => cell_1 (box_cells (i := 0) rfl w hw) rfl)) ?_
                    refine S.q rfl rfl rfl (wanted_none rfl) (r_fieldAddr tf55_0 rfl) ?_
                    refine S.q rfl rfl rfl (wanted_none rfl) (r_load ta3 rfl (fun w hw => cell_1 (box_cells (i := 1) rfl w hw) rfl)) ?_
                    refine S.q rfl rfl rfl (wanted_none rfl) (r_sub rfl rfl) ?_
                    refine S.qc rfl rfl rfl (wanted_none rfl) (q_callF (xs := _) rfl ok84 rfl rfl (fun w hw => spec_l1In.ok h41 w )) ?_
                    refine S.q rfl rfl rfl (wanted_none rfl) (r_not rfl) ?_
                    refine S.q rfl rfl rfl (wanted_none rfl) (r_move rfl) ?_
                    refine S.q rfl rfl rfl (wg rfl rfl rfl g43) (r_indexAddrA Try.underlying140 ti3 rfl rfl (by decide) (by decide)) ?_
                    refine S.q rfl rfl rfl (wg rfl rfl rfl g43) (r_load ta3 rfl (fun w hw => cell_1 (box_cells (i := 0) rfl w hw) rfl)) ?_
                    refine S.q rfl rfl rfl (wg rfl rfl rfl g43) (r_indexAddrA Try.underlying140 ti3 rfl rfl (by decide) (by decide)) ?_
                    refine S.q rfl rfl rfl (wg rfl rfl rfl g43) (r_load ta3 rfl (fun w hw => cell_1 (box_cells (i := 0) rfl w hw) rfl)) ?_
                    refine S.q rfl rfl rfl (wg rfl rfl rfl g43) (r_add rfl rfl) ?_
                    refine S.q rfl rfl rfl (wg rfl rfl rfl g43) (r_fieldAddr tf55_0 rfl) ?_
                    refine S.q rfl rfl rfl (wg rfl rfl rfl g43) (r_load ta3 rfl (fun w hw => cell_1 (box_cells (i := 1) rfl w hw) rfl)) ?_
                    refine S.q rfl rfl rfl (wg rfl rfl rfl g43) (r_sub rfl rfl) ?_
                    refine S.qc rfl rfl rfl (wg rfl rfl rfl g43) (q_callF (xs := _) rfl ok84 rfl rfl (fun w hw => spec_l1In.ok h52 w )) ?_
                    refine S.q rfl rfl rfl (wg rfl rfl rfl g43) (r_not rfl) ?_
                    refine S.q rfl rfl rfl (wanted_none rfl) (r_pickf rfl rfl g43) ?_
                    refine S.q rfl rfl rfl (wanted_none rfl) (r_move rfl) ?_
                    refine S.q rfl rfl rfl (wg rfl rfl rfl g55) (r_indexAddrA Try.underlying140 ti3 rfl rfl (by decide) (by decide)) ?_
                    refine S.q rfl rfl rfl (wg rfl rfl rfl g55) (r_load ta3 rfl (fun w hw => cell_1 (box_cells (i := 0) rfl w hw) rfl)) ?_
                    refine S.qc rfl rfl rfl (wg rfl rfl rfl g55) (q_callF (xs := _) rfl ok142 rfl rfl (fun w hw => spec_l2Set.ok h58 w )) ?_
                    refine S.q rfl rfl rfl (wg rfl rfl rfl g55) (r_not rfl) ?_
                    refine S.q rfl rfl rfl (wanted_none rfl) (r_pickf rfl rfl g55) ?_
                    refine S.q rfl rfl rfl (wanted_none rfl) (r_move rfl) ?_
                    refine S.q rfl rfl rfl (wg rfl rfl rfl g61) (r_move rfl) ?_
                    refine S.q rfl rfl rfl (wg rfl rfl rfl g61) (r_gtr rfl rfl) ?_
                    refine S.q rfl rfl rfl (wg rfl rfl rfl g61) (r_move rfl) ?_
                    refine S.sk rfl rfl rfl (wf rfl rfl rfl g64) ?_
                    refine S.sk rfl rfl rfl (wf rfl rfl rfl g64) ?_
                    refine S.sk rfl rfl rfl (wf rfl rfl rfl g64) ?_
                    refine S.sk rfl rfl rfl (wf rfl rfl rfl g64) ?_
                    refine S.sk rfl rfl rfl (wf rfl rfl rfl g64) ?_
                    refine S.sk rfl rfl rfl (wf rfl rfl rfl g64) ?_
                    refine S.sk rfl rfl rfl (wf rfl rfl rfl g64) ?_
                    refine S.sk rfl rfl rfl (wf rfl rfl rfl g64) ?_
                    refine S.sk rfl rfl rfl (wf rfl rfl rfl g64) ?_
                    refine S.q rfl rfl rfl (wg rfl rfl rfl g61) (r_pickf rfl rfl g64) ?_
                    refine S.q rfl rfl rfl (wanted_none rfl) (r_pickf rfl rfl g61) ?_
                    refine S.nil ?_
                    refine F.nil ?_
                    cases hE_3
                    refine Nrm.only [1, 3, 75] rfl ?_
                    refine Nrm.pick [1] rfl rfl ?_
                    exact hj_2 _ _ ⟨rfl, rfl⟩
        · replace hE_2 := if_ff g_2 hE_2
          refine Tri.exit ?_
          refine Exi.then ?_
          refine Exi.then ?_
          refine Exi.same ?_
          cases hE_2
          replace h := Lr_inl h
          refine Nrm.seq ?_
          refine Tri.seq ?_
          refine Tri.seq ?_
          refine Tri.reg (l := [0]) rfl ?_
          refine F.q rfl rfl rfl (wanted_none rfl) (r_assign rfl) ?_
          refine F.nil ?_
          refine Nrm.seq ?_
          obtain ⟨s1, hE_4, h⟩ := bind_some h
          refine Tri.block ?_
          refine Tri.only [1, 5] rfl ?_
          refine Tri.pick [0] rfl rfl ?_
          refine Tri.rounds (fun n e' C' => ∃ (x5' : Int), spec_l2Maze.l1 k a0_0 a0_2 n x5' = some s1 ∧ e' = [(1, .pointer (some ⟨b1_1, 0, none⟩)), (5, .int .i64 x5')] ∧ C' = Sep w noM [R.box b1_1 55 [.int .i64 a0_0, va0_1, va0_2]]) k ?_ ?_ ?_
          · exact ⟨0, hE_4, rfl, rfl⟩
          · rintro _ _ ⟨_, hE_4, _⟩
            rw [spec_l2Maze.l1.eq_1] at hE_4; cases hE_4
          · rintro n_2 _ _ ⟨x5, hE_4, rfl, rfl⟩ ih_2
            rw [spec_l2Maze.l1.eq_2] at hE_4
            refine Tri.seq ?_
            refine Tri.seq ?_
            refine Tri.reg (l := [0, 1, 2, 3]) rfl ?_
            refine F.q rfl rfl rfl (wanted_none rfl) (r_move rfl) ?_
            refine F.q rfl rfl rfl (wanted_none rfl) (r_fieldAddr tf55_0 rfl) ?_
            refine F.q rfl rfl rfl (wanted_none rfl) (r_load ta3 rfl (fun w hw => cell_1 (box_cells (i := 0) rfl w hw) rfl)) ?_
            refine F.q rfl rfl rfl (wanted_none rfl) (r_lss rfl rfl) ?_
            refine F.nil ?_
            refine Nrm.seq ?_
            refine Tri.cond (b := decide (x5 < a0_0)) rfl (fun g_4 => ?_) (fun g_4 => ?_)
            · replace hE_4 := if_tt g_4 hE_4
              refine Tri.skip ?_
              refine Nrm.seq ?_
              refine Tri.seq ?_
              refine Tri.block ?_
              refine Tri.seq ?_
              obtain ⟨t85, h85, hE_4⟩ := bind_some hE_4
              obtain ⟨t87, h87, hE_4⟩ := bind_some hE_4
              refine Tri.reg (l := [0, 1, 2, 3, 4, 5, 6]) rfl ?_
              refine F.q rfl rfl rfl (wanted_none rfl) (r_fieldAddr tf55_2 rfl) ?_
              refine F.q rfl rfl rfl (wanted_none rfl) (r_load ta38 rfl (fun w hw => cell_1 (box_cells (i := 0) rfl w hw) rfl)) ?_
              refine F.q rfl rfl rfl (wanted_none rfl) (r_move rfl) ?_
              refine F.q rfl rfl rfl (wanted_none rfl) (r_indexAddrS Try.underlying38 ti3 rfl hl_va0_2 rfl (rdl_some h85).1 (rdl_some h85).2.1) ?_
              refine F.q rfl rfl rfl (wanted_none rfl) (r_load ta3 rfl (fun w hw => cell_0 (Rd.flat ((fun _ hw => hr_a0_2.sep hw) w hw) (rdl_some h85).2.2) rfl)) ?_
              refine F.qc rfl rfl rfl (wanted_none rfl) (q_callF (xs := _) rfl ok142 rfl rfl (fun w hw => spec_l2Set.ok h87 w )) ?_
              refine F.q rfl rfl rfl (wanted_none rfl) (r_not rfl) ?_
              refine F.nil ?_
              refine Nrm.seq ?_
              refine Tri.cond (b := !t87) rfl (fun g_5 => ?_) (fun g_5 => ?_)
              · replace hE_4 := if_tt g_5 hE_4
                refine Tri.seq ?_
                refine Tri.reg (l := [0]) rfl ?_
                refine F.q rfl rfl rfl (wanted_none rfl) (r_assign rfl) ?_
                refine F.nil ?_
                refine Nrm.seq ?_
                refine Tri.ret ?_
                refine Rtn.block ?_
                refine Rtn.then ?_
                refine Rtn.then ?_
                refine Rtn.block ?_
                refine Rtn.then ?_
                cases hE_4
                replace h := Lr_inr h
                cases h
                exact Rtn.body (.tmp rfl .nil) (fun w hw => ⟨rfl, hw.ext⟩)
              · replace hE_4 := if_ff g_5 hE_4
                refine Tri.skip ?_
                refine Nrm.block ?_
                refine Nrm.seq ?_
                refine Tri.reg (l := [0, 1, 2]) rfl ?_
                refine F.q rfl rfl rfl (wanted_none rfl) (r_move rfl) ?_
                refine F.q rfl rfl rfl (wanted_none rfl) (r_add rfl rfl) ?_
                refine F.q rfl rfl rfl (wanted_none rfl) (r_assign rfl) ?_
                refine F.nil ?_
                refine Nrm.round ?_
                refine Rnd.only [1, 5] rfl ?_
                refine Rnd.pick [0] rfl rfl ?_
                exact ih_2 _ _ ⟨w64 (x5 + 1), hE_4, rfl, rfl⟩
            · replace hE_4 := if_ff g_4 hE_4
              refine Tri.exit ?_
              refine Exi.then ?_
              refine Exi.then ?_
              refine Exi.same ?_
              cases hE_4
              replace h := Lr_inl h
              refine Nrm.seq ?_
              refine Tri.seq ?_
              refine Tri.reg (l := [0]) rfl ?_
              refine F.q rfl rfl rfl (wanted_none rfl) (r_assign rfl) ?_
              refine F.nil ?_
              refine Nrm.seq ?_
              refine Tri.ret ?_
              cases h
              exact Rtn.body (.tmp rfl .nil) (fun w hw => ⟨rfl, hw.ext⟩)
  · obtain ⟨t8, h8, hE_1⟩ := bind_some hE_1
    rcases Bool.eq_false_or_eq_true (!t8) with g10 | g10
    · replace hE_1 := if_tt g10 hE_1
      refine Tri.reg (l := [0, 1, 2, 3, 4, 5, 6, 7, 8, 9, 10, 11, 12, 13, 14, 15, 16, 17]) rfl ?_
      refine F.q rfl rfl rfl (wanted_none rfl) (r_fieldAddr tf55_0 rfl) ?_
      refine F.q rfl rfl rfl (wanted_none rfl) (r_load ta3 rfl (fun w hw => cell_1 (box_cells (i := 0) rfl w hw) rfl)) ?_
      refine F.qc rfl rfl rfl (wanted_none rfl) (q_callF (xs := _) rfl ok84 rfl rfl (fun w hw => spec_l1In.ok h8 w )) ?_
      refine F.q rfl rfl rfl (wanted_none rfl) (r_not rfl) ?_
      refine F.q rfl rfl rfl (wanted_none rfl) (r_move rfl) ?_
      refine F.sk rfl rfl rfl (wf rfl rfl rfl g10) ?_
      refine F.sk rfl rfl rfl (wf rfl rfl rfl g10) ?_
      refine F.sk rfl rfl rfl (wf rfl rfl rfl g10) ?_
      refine F.sk rfl rfl rfl (wf rfl rfl rfl g10) ?_
      refine F.q rfl rfl rfl (wanted_none rfl) (r_pick rfl rfl g10) ?_
      refine F.q rfl rfl rfl (wanted_none rfl) (r_move rfl) ?_
      refine F.sk rfl rfl rfl (wf rfl rfl rfl rfl) ?_
      refine F.sk rfl rfl rfl (wf rfl rfl rfl rfl) ?_
      refine F.sk rfl rfl rfl (wf rfl rfl rfl rfl) ?_
      refine F.sk rfl rfl rfl (wf rfl rfl rfl rfl) ?_
      refine F.sk rfl rfl rfl (wf rfl rfl rfl rfl) ?_
      refine F.sk rfl rfl rfl (wf rfl rfl rfl rfl) ?_
      refine F.q rfl rfl rfl (wanted_none rfl) (r_pick rfl rfl rfl) ?_
      refine F.nil ?_
      cases hE_1
      refine Nrm.only [1, 23] rfl ?_
      refine Nrm.pick [0] rfl rfl ?_
      exact hj_1 _ _ ⟨rfl, rfl⟩
    · replace hE_1 := if_ff g10 hE_1
      rcases Bool.eq_false_or_eq_true (decide ((a0_1.length : Int) > 30)) with g16 | g16
      · replace hE_1 := if_tt g16 hE_1
        refine Tri.reg (l := [0, 1, 2, 3, 4, 5, 6, 7, 8, 9, 10, 11, 12, 13, 14, 15, 16, 17]) rfl ?_
        refine F.q rfl rfl rfl (wanted_none rfl) (r_fieldAddr tf55_0 rfl) ?_
        refine F.q rfl rfl rfl (wanted_none rfl) (r_load ta3 rfl (fun w hw => cell_1 (box_cells (i := 0) rfl w hw) rfl)) ?_
        refine F.qc rfl rfl rfl (wanted_none rfl) (q_callF (xs := _) rfl ok84 rfl rfl (fun w hw => spec_l1In.ok h8 w )) ?_
        refine F.q rfl rfl rfl (wanted_none rfl) (r_not rfl) ?_
        refine F.q rfl rfl rfl (wanted_none rfl) (r_move rfl) ?_
        refine F.q rfl rfl rfl (wg rfl rfl rfl g10) (r_fieldAddr tf55_1 rfl) ?_
        refine F.q rfl rfl rfl (wg rfl rfl rfl g10) (r_load ta49 rfl (fun w hw => cell_1 (box_cells (i := 0) rfl w hw) rfl)) ?_
        refine F.q rfl rfl rfl (wg rfl rfl rfl g10) (r_len Try.underlying49 rfl hl_va0_1) ?_
        refine F.q rfl rfl rfl (wg rfl rfl rfl g10) (r_gtr rfl rfl) ?_
        refine F.q rfl rfl rfl (wanted_none rfl) (r_pickf rfl rfl g10) ?_
        refine F.q rfl rfl rfl (wanted_none rfl) (r_move rfl) ?_
        refine F.sk rfl rfl rfl (wf rfl rfl rfl g16) ?_
        refine F.sk rfl rfl rfl (wf rfl rfl rfl g16) ?_
        refine F.sk rfl rfl rfl (wf rfl rfl rfl g16) ?_
        refine F.sk rfl rfl rfl (wf rfl rfl rfl g16) ?_
        refine F.sk rfl rfl rfl (wf rfl rfl rfl g16) ?_
        refine F.sk rfl rfl rfl (wf rfl rfl rfl g16) ?_
        refine F.q rfl rfl rfl (wanted_none rfl) (r_pick rfl rfl g16) ?_
        refine F.nil ?_
        cases hE_1
        refine Nrm.only [1, 23] rfl ?_
        refine Nrm.pick [0] rfl rfl ?_
        exact hj_1 _ _ ⟨rfl, rfl⟩
      · replace hE_1 := if_ff g16 hE_1
        refine Tri.reg (l := [0, 1, 2, 3, 4, 5, 6, 7, 8, 9, 10, 11, 12, 13, 14, 15, 16, 17]) rfl ?_
        refine F.q rfl rfl rfl (wanted_none rfl) (r_fieldAddr tf55_0 rfl) ?_
        refine F.q rfl rfl rfl (wanted_none rfl) (r_load ta3 rfl (fun w hw => cell_1 (box_cells (i := 0) rfl w hw) rfl)) ?_
        refine F.qc rfl rfl rfl (wanted_none rfl) (q_callF (xs := _) rfl ok84 rfl rfl (fun w hw => spec_l1In.ok h8 w )) ?_
        refine F.q rfl rfl rfl (wanted_none rfl) (r_not rfl) ?_
        refine F.q rfl rfl rfl (wanted_none rfl) (r_move rfl) ?_
        refine F.q rfl rfl rfl (wg rfl rfl rfl g10) (r_fieldAddr tf55_1 rfl) ?_
        refine F.q rfl rfl rfl (wg rfl rfl rfl g10) (r_load ta49 rfl (fun w hw => cell_1 (box_cells (i := 0) rfl w hw) rfl)) ?_
        refine F.q rfl rfl rfl (wg rfl rfl rfl g10) (r_len Try.underlying49 rfl hl_va0_1) ?_
        refine F.q rfl rfl rfl (wg rfl rfl rfl g10) (r_gtr rfl rfl) ?_
        refine F.q rfl rfl rfl (wanted_none rfl) (r_pickf rfl rfl g10) ?_
        refine F.q rfl rfl rfl (wanted_none rfl) (r_move rfl) ?_
        refine F.q rfl rfl rfl (wg rfl rfl rfl g16) (r_fieldAddr tf55_2 rfl) ?_
        refine F.q rfl rfl rfl (wg rfl rfl rfl g16) (r_load ta38 rfl (fun w hw => cell_1 (box_cells (i := 0) rfl w hw) rfl)) ?_
        refine F.q rfl rfl rfl (wg rfl rfl rfl g16) (r_len Try.underlying38 rfl hl_va0_2) ?_
        refine F.q rfl rfl rfl (wg rfl rfl rfl g16) (r_fieldAddr tf55_0 rfl) ?_
        refine F.q rfl rfl rfl (wg rfl rfl rfl g16) (r_load ta3 rfl (fun w hw => cell_1 (box_cells (i := 0) rfl w hw) rfl)) ?_
        refine F.q rfl rfl rfl (wg rfl rfl rfl g16) (r_neq rfl rfl) ?_
        refine F.q rfl rfl rfl (wanted_none rfl) (r_pickf rfl rfl g16) ?_
        refine F.nil ?_
        cases hE_1
        refine Nrm.only [1, 23] rfl ?_
        refine Nrm.pick [0] rfl rfl ?_
        exact hj_1 _ _ ⟨rfl, rfl⟩

end Go.Proofs

/- loop.example/g01158/spec.l1Rising -/
namespace Go.Proofs
open Go Go.Ga
set_option linter.unusedVariables false
set_option maxRecDepth 100000
set_option maxHeartbeats 4000000
def spec_l1Rising.l0 (k : Nat) (a0 : List Int) (a1 : Int) (a2 : Int) : Nat → Int → Option ((Unit) ⊕ (Bool))
  | 0, _ => none
  | n + 1, x7 => (if (decide (x7 < (a0.length : Int))) = true then ((rdl a0 x7).bind fun t16 => (spec_l1In.f k t16 a1 a2).bind fun t20 => (if (!t20) = true then some true else (if (decide (x7 > 0)) = true then (rdl a0 (w64 (x7 - 1))).bind fun t29 => (rdl a0 x7).bind fun t33 => some (decide (t29 ≥ t33)) else some false))).bind fun y37 => (if y37 = true then some (Sum.inr false) else spec_l1Rising.l0 k a0 a1 a2 n (w64 (x7 + 1))) else some (Sum.inl ()))

def spec_l1Rising.f (k : Nat) (a0 : List Int) (a1 : Int) (a2 : Int) : Option (Bool) := (spec_l1Rising.l0 k a0 a1 a2 k 0).bind fun s => Lr s some fun _ => some true

theorem spec_l1Rising.ok {k : Nat}  {a0 : List Int} {a1 : Int} {a2 : Int} {r0 : Bool} (h : spec_l1Rising.f k a0 a1 a2 = some r0) (w : World) {va0 : Value} (hr_a0 : Rd w va0 a0) :
    Calls Try.prog 135 ([va0, .int .i64 a1, .int .i64 a2] : List Value).toArray w (fun e w' => e = .returned (.bool r0) ∧ Ext w w') := by
  unfold spec_l1Rising.f at h
  have hl_va0 := hr_a0.len
  refine Calls.of_tri (N := 38) Try.func135 rfl rfl rfl (Sep.nil (M := noM)) ?_
  refine Tri.seq ?_
  refine Tri.reg (l := [0]) rfl ?_
  refine F.q rfl rfl rfl (wanted_none rfl) (r_assign rfl) ?_
  refine F.nil ?_
  refine Nrm.seq ?_
  refine Tri.seq ?_
  refine Tri.seq ?_
  refine Tri.reg (l := [0]) rfl ?_
  refine F.q rfl rfl rfl (wanted_none rfl) (r_assign rfl) ?_
  refine F.nil ?_
  refine Nrm.seq ?_
  obtain ⟨s0, hE_1, h⟩ := bind_some h
  refine Tri.block ?_
  refine Tri.only [0, 1, 2, 7] rfl ?_
  refine Tri.pick [] rfl rfl ?_
  refine Tri.rounds (fun n e' C' => ∃ (x7' : Int), spec_l1Rising.l0 k a0 a1 a2 n x7' = some s0 ∧ e' = [(0, va0), (1, .int .i64 a1), (2, .int .i64 a2), (7, .int .i64 x7')] ∧ C' = Sep w noM []) k ?_ ?_ ?_
  · exact ⟨0, hE_1, rfl, rfl⟩
  · rintro _ _ ⟨_, hE_1, _⟩
    rw [spec_l1Rising.l0.eq_1] at hE_1; cases hE_1
  · rintro n_1 _ _ ⟨x7, hE_1, rfl, rfl⟩ ih_1
    rw [spec_l1Rising.l0.eq_2] at hE_1
    refine Tri.seq ?_
    refine Tri.seq ?_
    refine Tri.reg (l := [0, 1, 2, 3]) rfl ?_
    refine F.q rfl rfl rfl (wanted_none rfl) (r_move rfl) ?_
    refine F.q rfl rfl rfl (wanted_none rfl) (r_move rfl) ?_
    refine F.q rfl rfl rfl (wanted_none rfl) (r_len Try.underlying38 rfl hl_va0) ?_
    refine F.q rfl rfl rfl (wanted_none rfl) (r_lss rfl rfl) ?_
    refine F.nil ?_
    refine Nrm.seq ?_
    refine Tri.cond (b := decide (x7 < (a0.length : Int))) rfl (fun g_1 => ?_) (fun g_1 => ?_)
    · replace hE_1 := if_tt g_1 hE_1
      refine Tri.skip ?_
      refine Nrm.seq ?_
      refine Tri.seq ?_
      refine Tri.block ?_
      refine Tri.seq ?_
      obtain ⟨y37, hE_2, hE_1⟩ := bind_some hE_1
      refine Tri.cut (fun e' C' => e' = [(0, va0), (1, .int .i64 a1), (2, .int .i64 a2), (7, .int .i64 x7), (37, .bool y37)] ∧ C' = Sep w noM []) ?_ (fun hj_1 => ?_)
      · rintro _ _ ⟨rfl, rfl⟩
        refine Nrm.seq ?_
        refine Tri.cond (b := y37) rfl (fun g_2 => ?_) (fun g_2 => ?_)
        · replace hE_1 := if_tt g_2 hE_1
          refine Tri.seq ?_
          refine Tri.reg (l := [0]) rfl ?_
          refine F.q rfl rfl rfl (wanted_none rfl) (r_assign rfl) ?_
          refine F.nil ?_
          refine Nrm.seq ?_
          refine Tri.ret ?_
          refine Rtn.block ?_
          refine Rtn.then ?_
          refine Rtn.then ?_
          refine Rtn.block ?_
          refine Rtn.then ?_
          cases hE_1
          replace h := Lr_inr h
          cases h
          exact Rtn.body (.tmp rfl .nil) (fun w hw => ⟨rfl, hw.ext⟩)
        · replace hE_1 := if_ff g_2 hE_1
          refine Tri.skip ?_
          refine Nrm.block ?_
          refine Nrm.seq ?_
          refine Tri.reg (l := [0, 1, 2]) rfl ?_
          refine F.q rfl rfl rfl (wanted_none rfl) (r_move rfl) ?_
          refine F.q rfl rfl rfl (wanted_none rfl) (r_add rfl rfl) ?_
          refine F.q rfl rfl rfl (wanted_none rfl) (r_assign rfl) ?_
          refine F.nil ?_
          refine Nrm.round ?_
          refine Rnd.only [0, 1, 2, 7] rfl ?_
          refine Rnd.pick [] rfl rfl ?_
          exact ih_1 _ _ ⟨w64 (x7 + 1), hE_1, rfl, rfl⟩
      · obtain ⟨t16, h16, hE_2⟩ := bind_some hE_2
        obtain ⟨t20, h20, hE_2⟩ := bind_some hE_2
        rcases Bool.eq_false_or_eq_true (!t20) with g22 | g22
        · replace hE_2 := if_tt g22 hE_2
          refine Tri.drawA mixedT Sep.up [(0, true), (1, true), (2, true), (3, true), (4, true), (5, true), (6, true), (7, true), (8, true), (9, true), (10, true), (11, true), (12, true), (13, true), (14, true), (15, true), (16, true), (17, true), (18, true), (19, true), (20, true), (21, true), (22, true), (23, true)] [] (by kernel_rfl) ?_
          refine S.q rfl rfl rfl (wanted_none rfl) (r_move rfl) ?_
          refine S.q rfl rfl rfl (wanted_none rfl) (r_move rfl) ?_
          refine S.q rfl rfl rfl (wanted_none rfl) (r_indexAddrS Try.underlying38 ti3 rfl hl_va0 rfl (rdl_some h16).1 (rdl_some h16).2.1) ?_
          refine S.q rfl rfl rfl (wanted_none rfl) (r_load ta3 rfl (fun w hw => cell_0 (Rd.flat ((fun _ hw => hr_a0.sep hw) w hw) (rdl_some h16).2.2) rfl)) ?_
          refine S.q rfl rfl rfl (wanted_none rfl) (r_move rfl) ?_
          refine S.q rfl rfl rfl (wanted_none rfl) (r_move rfl) ?_
          refine S.qc rfl rfl rfl (wanted_none rfl) (q_callF (xs := _) rfl ok84 rfl rfl (fun w hw => spec_l1In.ok h20 w )) ?_
          refine S.q rfl rfl rfl (wanted_none rfl) (r_not rfl) ?_
          refine S.q rfl rfl rfl (wanted_none rfl) (r_move rfl) ?_
          refine S.sk rfl rfl rfl (wf rfl rfl rfl g22) ?_
          refine S.sk rfl rfl rfl (wf rfl rfl rfl g22) ?_
          refine S.sk rfl rfl rfl (wf rfl rfl rfl g22) ?_
          refine S.sk rfl rfl rfl (wanted_undef rfl rfl rfl) ?_
          refine S.sk rfl rfl rfl (wanted_undef rfl rfl rfl) ?_
          refine S.sk rfl rfl rfl (wanted_undef rfl rfl rfl) ?_
          refine S.sk rfl rfl rfl (wanted_undef rfl rfl rfl) ?_
          refine S.sk rfl rfl rfl (wanted_undef rfl rfl rfl) ?_
          refine S.sk rfl rfl rfl (wanted_undef rfl rfl rfl) ?_
          refine S.sk rfl rfl rfl (wanted_undef rfl rfl rfl) ?_
          refine S.sk rfl rfl rfl (wanted_undef rfl rfl rfl) ?_
          refine S.sk rfl rfl rfl (wanted_undef rfl rfl rfl) ?_
          refine S.sk rfl rfl rfl (wanted_undef rfl rfl rfl) ?_
          refine S.sk rfl rfl rfl (wf rfl rfl rfl g22) ?_
          refine S.q rfl rfl rfl (wanted_none rfl) (r_pick rfl rfl g22) ?_
          refine S.nil ?_
          refine F.nil ?_
          cases hE_2
          refine Nrm.only [0, 1, 2, 7, 37] rfl ?_
          refine Nrm.pick [] rfl rfl ?_
          exact hj_1 _ _ ⟨rfl, rfl⟩
        · replace hE_2 := if_ff g22 hE_2
          rcases Bool.eq_false_or_eq_true (decide (x7 > 0)) with g25 | g25
          · replace hE_2 := if_tt g25 hE_2
            obtain ⟨t29, h29, hE_2⟩ := bind_some hE_2
            obtain ⟨t33, h33, hE_2⟩ := bind_some hE_2
            refine Tri.drawA mixedT Sep.up [(0, true), (1, true), (2, true), (3, true), (4, true), (5, true), (6, true), (7, true), (8, true), (9, true), (10, true), (11, true), (12, true), (13, true), (14, true), (15, true), (16, true), (17, true), (18, true), (19, true), (20, true), (21, true), (22, true), (23, true)] [] (by kernel_rfl) ?_
            refine S.q rfl rfl rfl (wanted_none rfl) (r_move rfl) ?_
            refine S.q rfl rfl rfl (wanted_none rfl) (r_move rfl) ?_
            refine S.q rfl rfl rfl (wanted_none rfl) (r_indexAddrS Try.underlying38 ti3 rfl hl_va0 rfl (rdl_some h16).1 (rdl_some h16).2.1) ?_
            refine S.q rfl rfl rfl (wanted_none rfl) (r_load ta3 rfl (fun w hw => cell_0 (Rd.flat ((fun _ hw => hr_a0.sep hw) w hw) (rdl_some h16).2.2) rfl)) ?_
            refine S.q rfl rfl rfl (wanted_none rfl) (r_move rfl) ?_
            refine S.q rfl rfl rfl (wanted_none rfl) (r_move rfl) ?_
            refine S.qc rfl rfl rfl (wanted_none rfl) (q_callF (xs := _) rfl ok84 rfl rfl (fun w hw => spec_l1In.ok h20 w )) ?_
            refine S.q rfl rfl rfl (wanted_none rfl) (r_not rfl) ?_
            refine S.q rfl rfl rfl (wanted_none rfl) (r_move rfl) ?_
            refine S.q rfl rfl rfl (wg rfl rfl rfl g22) (r_move rfl) ?_
            refine S.q rfl rfl rfl (wg rfl rfl rfl g22) (r_gtr rfl rfl) ?_
            refine S.q rfl rfl rfl (wg rfl rfl rfl g22) (r_move rfl) ?_
            refine S.q rfl rfl rfl (wg rfl rfl rfl g25) (r_move rfl) ?_
            refine S.q rfl rfl rfl (wg rfl rfl rfl g25) (r_move rfl) ?_
            refine S.q rfl rfl rfl (wg rfl rfl rfl g25) (r_sub rfl rfl) ?_
            refine S.q rfl rfl rfl (wg rfl rfl rfl g25) (r_indexAddrS Try.underlying38 ti3 rfl hl_va0 rfl (rdl_some h29).1 (rdl_some h29).2.1) ?_
            refine S.q rfl rfl rfl (wg rfl rfl rfl g25) (r_load ta3 rfl (fun w hw => cell_0 (Rd.flat ((fun _ hw => hr_a0.sep hw) w hw) (rdl_some h29).2.2) rfl)) ?_
            refine S.q rfl rfl rfl (wg rfl rfl rfl g25) (r_move rfl) ?_
            refine S.q rfl rfl rfl (wg rfl rfl rfl g25) (r_move rfl) ?_
            refine S.q rfl rfl rfl (wg rfl rfl rfl g25) (r_indexAddrS Try.underlying38 ti3 rfl hl_va0 rfl (rdl_some h33).1 (rdl_some h33).2.1) ?_
            refine S.q rfl rfl rfl (wg rfl rfl rfl g25) (r_load ta3 rfl (fun w hw => cell_0 (Rd.flat ((fun _ hw => hr_a0.sep hw) w hw) (rdl_some h33).2.2) rfl)) ?_
            refine S.q rfl rfl rfl (wg rfl rfl rfl g25) (r_geq rfl rfl) ?_
            refine S.q rfl rfl rfl (wg rfl rfl rfl g22) (r_pick rfl rfl g25) ?_
            refine S.q rfl rfl rfl (wanted_none rfl) (r_pickf rfl rfl g22) ?_
            refine S.nil ?_
            refine F.nil ?_
            cases hE_2
            refine Nrm.only [0, 1, 2, 7, 37] rfl ?_
            refine Nrm.pick [] rfl rfl ?_
            exact hj_1 _ _ ⟨rfl, rfl⟩
          · replace hE_2 := if_ff g25 hE_2
            refine Tri.drawA mixedT Sep.up [(0, true), (1, true), (2, true), (3, true), (4, true), (5, true), (6, true), (7, true), (8, true), (9, true), (10, true), (11, true), (12, true), (13, true), (14, true), (15, true), (16, true), (17, true), (18, true), (19, true), (20, true), (21, true), (22, true), (23, true)] [] (by kernel_rfl) ?_
            refine S.q rfl rfl rfl (wanted_none rfl) (r_move rfl) ?_
            refine S.q rfl rfl rfl (wanted_none rfl) (r_move rfl) ?_
            refine S.q rfl rfl rfl (wanted_none rfl) (r_indexAddrS Try.underlying38 ti3 rfl hl_va0 rfl (rdl_some h16).1 (rdl_some h16).2.1) ?_
            refine S.q rfl rfl rfl (wanted_none rfl) (r_load ta3 rfl (fun w hw => cell_0 (Rd.flat ((fun _ hw => hr_a0.sep hw) w hw) (rdl_some h16).2.2) rfl)) ?_
            refine S.q rfl rfl rfl (wanted_none rfl) (r_move rfl) ?_
            refine S.q rfl rfl rfl (wanted_none rfl) (r_move rfl) ?_
            refine S.qc rfl rfl rfl (wanted_none rfl) (q_callF (xs := _) rfl ok84 rfl rfl (fun w hw => spec_l1In.ok h20 w )) ?_
            refine S.q rfl rfl rfl (wanted_none rfl) (r_not rfl) ?_
            refine S.q rfl rfl rfl (wanted_none rfl) (r_move rfl) ?_
            refine S.q rfl rfl rfl (wg rfl rfl rfl g22) (r_move rfl) ?_
            refine S.q rfl rfl rfl (wg rfl rfl rfl g22) (r_gtr rfl rfl) ?_
            refine S.q rfl rfl rfl (wg rfl rfl rfl g22) (r_move rfl) ?_
            refine S.sk rfl rfl rfl (wf rfl rfl rfl g25) ?_
            refine S.sk rfl rfl rfl (wf rfl rfl rfl g25) ?_
            refine S.sk rfl rfl rfl (wf rfl rfl rfl g25) ?_
            refine S.sk rfl rfl rfl (wf rfl rfl rfl g25) ?_
            refine S.sk rfl rfl rfl (wf rfl rfl rfl g25) ?_
            refine S.sk rfl rfl rfl (wf rfl rfl rfl g25) ?_
            refine S.sk rfl rfl rfl (wf rfl rfl rfl g25) ?_
            refine S.sk rfl rfl rfl (wf rfl rfl rfl g25) ?_
            refine S.sk rfl rfl rfl (wf rfl rfl rfl g25) ?_
            refine S.sk rfl rfl rfl (wf rfl rfl rfl g25) ?_
            refine S.q rfl rfl rfl (wg rfl rfl rfl g22) (r_pickf rfl rfl g25) ?_
            refine S.q rfl rfl rfl (wanted_none rfl) (r_pickf rfl rfl g22) ?_
            refine S.nil ?_
            refine F.nil ?_
            cases hE_2
            refine Nrm.only [0, 1, 2, 7, 37] rfl ?_
            refine Nrm.pick [] rfl rfl ?_
            exact hj_1 _ _ ⟨rfl, rfl⟩
    · replace hE_1 := if_ff g_1 hE_1
      refine Tri.exit ?_
      refine Exi.then ?_
      refine Exi.then ?_
      refine Exi.same ?_
      cases hE_1
      replace h := Lr_inl h
      refine Nrm.seq ?_
      refine Tri.seq ?_
      refine Tri.reg (l := [0]) rfl ?_
      refine F.q rfl rfl rfl (wanted_none rfl) (r_assign rfl) ?_
      refine F.nil ?_
      refine Nrm.seq ?_
      refine Tri.ret ?_
      cases h
      exact Rtn.body (.tmp rfl .nil) (fun w hw => ⟨rfl, hw.ext⟩)

end Go.Proofs

/- loop.example/g01158/spec.l11Trap -/
namespace Go.Proofs
open Go Go.Ga
set_option linter.unusedVariables false
set_option maxRecDepth 100000
set_option maxHeartbeats 4000000
def spec_l11Trap.f (k : Nat) (a0_0 : Int) (a0_1 : List (Int × Int × Int)) (a0_2 : List Int) (a0_3 : List Int) : Option (Bool) := ((spec_l2Maze.f k a0_0 a0_1 a0_2).bind fun t5 => (if t5 = true then (spec_l1Rising.f k a0_3 0 (w64 ((a0_1.length : Int) - 1))).bind fun t14 => some t14 else some false)).bind fun y2 => some y2

theorem spec_l11Trap.ok {k : Nat}  {a0_0 : Int} {a0_1 : List (Int × Int × Int)} {a0_2 : List Int} {a0_3 : List Int} {r0 : Bool} (h : spec_l11Trap.f k a0_0 a0_1 a0_2 a0_3 = some r0) (w : World) {va0_1 : Value} {va0_2 : Value} {va0_3 : Value} (hr_a0_1 : Rd w va0_1 a0_1) (hr_a0_2 : Rd w va0_2 a0_2) (hr_a0_3 : Rd w va0_3 a0_3) :
    Calls Try.prog 83 ([.agg ([.int .i64 a0_0, va0_1, va0_2, va0_3].toArray)] : List Value).toArray w (fun e w' => e = .returned (.bool r0) ∧ Ext w w') := by
  unfold spec_l11Trap.f at h
  have hl_va0_1 := hr_a0_1.len
  have hl_va0_2 := hr_a0_2.len
  have hl_va0_3 := hr_a0_3.len
  refine Calls.of_tri (N := 16) Try.func83 rfl rfl rfl (Sep.nil (M := noM)) ?_
  refine Tri.seq ?_
  refine Tri.reg (l := [0, 1]) rfl ?_
  refine F.m rfl rfl rfl (wanted_none rfl) (m_boxG rfl rfl) ?_
  rintro _ _ ⟨b1_1, rfl, rfl⟩
  refine F.q rfl rfl rfl (wanted_none rfl) (r_assign rfl) ?_
  refine F.nil ?_
  refine Nrm.seq ?_
  refine Tri.seq ?_
  obtain ⟨y2, hE_1, h⟩ := bind_some h
  refine Tri.cut (fun e' C' => e' = [(2, .bool y2)] ∧ C' = Sep w noM []) ?_ (fun hj_1 => ?_)
  · rintro _ _ ⟨rfl, rfl⟩
    refine Nrm.seq ?_
    refine Tri.ret ?_
    cases h
    exact Rtn.body (.tmp rfl .nil) (fun w hw => ⟨rfl, hw.ext⟩)
  · obtain ⟨t5, h5, hE_1⟩ := bind_some hE_1
    rcases Bool.eq_false_or_eq_true (t5) with g6 | g6
    · replace hE_1 := if_tt g6 hE_1
      obtain ⟨t14, h14, hE_1⟩ := bind_some hE_1
      refine Tri.reg (l := [0, 1, 2, 3, 4, 5, 6, 7, 8, 9, 10, 11, 12, 13]) rfl ?_
      refine F.q rfl rfl rfl (wanted_none rfl) (r_fieldAddr tf57_0 rfl) ?_
      refine F.q rfl rfl rfl (wanted_none rfl) (r_loadA ta55 ti55 rfl rfl (fun w hw => cells_1 (cs' := [.int .i64 a0_0, va0_1, va0_2]) (box_cells (i := 0) rfl w hw) rfl)) ?_
      refine F.qc rfl rfl rfl (wanted_none rfl) (q_callF (xs := _) rfl ok117 rfl rfl (fun w hw => spec_l2Maze.ok h5 w ((fun _ hw => hr_a0_1.sep hw) w hw) ((fun _ hw => hr_a0_2.sep hw) w hw))) ?_
      refine F.q rfl rfl rfl (wanted_none rfl) (r_move rfl) ?_
      refine F.q rfl rfl rfl (wg rfl rfl rfl g6) (r_fieldAddr tf57_1 rfl) ?_
      refine F.q rfl rfl rfl (wg rfl rfl rfl g6) (r_load ta38 rfl (fun w hw => cell_1 (box_cells (i := 0) rfl w hw) rfl)) ?_
      refine F.q rfl rfl rfl (wg rfl rfl rfl g6) (r_fieldAddr tf57_0 rfl) ?_
      refine F.q rfl rfl rfl (wg rfl rfl rfl g6) (r_fieldAddr tf55_1 rfl) ?_
      refine F.q rfl rfl rfl (wg rfl rfl rfl g6) (r_load ta49 rfl (fun w hw => cell_2 (box_cells (i := 0) rfl w hw) rfl)) ?_
      refine F.q rfl rfl rfl (wg rfl rfl rfl g6) (r_len Try.underlying49 rfl hl_va0_1) ?_
      refine F.q rfl rfl rfl (wg rfl rfl rfl g6) (r_sub rfl rfl) ?_
      refine F.qc rfl rfl rfl (wg rfl rfl rfl g6) (q_callF (xs := _) rfl ok135 rfl rfl (fun w hw => spec_l1Rising.ok h14 w ((fun _ hw => hr_a0_3.sep hw) w hw))) ?_
      refine F.q rfl rfl rfl (wanted_none rfl) (r_pick rfl rfl g6) ?_
      refine F.q rfl rfl rfl (wanted_none rfl) (r_assign rfl) ?_
      refine F.nil ?_
      cases hE_1
      refine Nrm.only [2] rfl ?_
      refine Nrm.pick [] rfl rfl ?_
      exact hj_1 _ _ ⟨rfl, rfl⟩
    · replace hE_1 := if_ff g6 hE_1
      refine Tri.reg (l := [0, 1, 2, 3, 4, 5, 6, 7, 8, 9, 10, 11, 12, 13]) rfl ?_
      refine F.q rfl rfl rfl (wanted_none rfl) (r_fieldAddr tf57_0 rfl) ?_
      refine F.q rfl rfl rfl (wanted_none rfl) (r_loadA ta55 ti55 rfl rfl (fun w hw => cells_1 (cs' := [.int .i64 a0_0, va0_1, va0_2]) (box_cells (i := 0) rfl w hw) rfl)) ?_
      refine F.qc rfl rfl rfl (wanted_none rfl) (q_callF (xs := _) rfl ok117 rfl rfl (fun w hw => spec_l2Maze.ok h5 w ((fun _ hw => hr_a0_1.sep hw) w hw) ((fun _ hw => hr_a0_2.sep hw) w hw))) ?_
      refine F.q rfl rfl rfl (wanted_none rfl) (r_move rfl) ?_
      refine F.sk rfl rfl rfl (wf rfl rfl rfl g6) ?_
      refine F.sk rfl rfl rfl (wf rfl rfl rfl g6) ?_
      refine F.sk rfl rfl rfl (wf rfl rfl rfl g6) ?_
      refine F.sk rfl rfl rfl (wf rfl rfl rfl g6) ?_
      refine F.sk rfl rfl rfl (wf rfl rfl rfl g6) ?_
      refine F.sk rfl rfl rfl (wf rfl rfl rfl g6) ?_
      refine F.sk rfl rfl rfl (wf rfl rfl rfl g6) ?_
      refine F.sk rfl rfl rfl (wf rfl rfl rfl g6) ?_
      refine F.q rfl rfl rfl (wanted_none rfl) (r_pickf rfl rfl g6) ?_
      refine F.q rfl rfl rfl (wanted_none rfl) (r_assign rfl) ?_
      refine F.nil ?_
      cases hE_1
      refine Nrm.only [2] rfl ?_
      refine Nrm.pick [] rfl rfl ?_
      exact hj_1 _ _ ⟨rfl, rfl⟩

end Go.Proofs

/- loop.example/g01158/spec.l11Behind -/
namespace Go.Proofs
open Go Go.Ga
set_option linter.unusedVariables false
set_option maxRecDepth 100000
set_option maxHeartbeats 4000000
def spec_l11Behind.l0 (k : Nat) (a0_0 : Int) (a0_1 : List (Int × Int × Int)) (a0_2 : List Int) (a0_3 : List Int) (a1 : List Int) : Nat → Int → Int → Option ((Int) ⊕ (Int × Int × Bool))
  | 0, _, _ => none
  | n + 1, x7, x8 => (if (decide (x8 < (a1.length : Int))) = true then ((rdl a1 x8).bind fun t36 => (spec_l1In.f k t36 0 (w64 (a0_0 - 1))).bind fun t42 => (if (!t42) = true then some true else (rdl a1 (w64 (x8 - 1))).bind fun t49 => (rdl a1 x8).bind fun t53 => (spec_l11Goes.f k a0_0 a0_1 a0_2 a0_3 t49 t53 x7).bind fun t56 => some (!t56))).bind fun y58 => (if y58 = true then some (Sum.inr (0, 0, false)) else (rdl a1 x8).bind fun t65 => (rdl a0_2 t65).bind fun t67 => spec_l11Behind.l0 k a0_0 a0_1 a0_2 a0_3 a1 n (bor x7 t67) (w64 (x8 + 1))) else some (Sum.inl x7))

def spec_l11Behind.f (k : Nat) (a0_0 : Int) (a0_1 : List (Int × Int × Int)) (a0_2 : List Int) (a0_3 : List Int) (a1 : List Int) : Option (Int × Int × Bool) := ((spec_l11Trap.f k a0_0 a0_1 a0_2 a0_3).bind fun t10 => (if (!t10) = true then some true else (if ((a1.length : Int) == 0) = true then some true else (rdl a1 0).bind fun t19 => some (t19 != 0)))).bind fun y22 => (if y22 = true then some (0, 0, false) else (rdl a0_2 0).bind fun t26 => (spec_l11Behind.l0 k a0_0 a0_1 a0_2 a0_3 a1 k t26 1).bind fun s => Lr s some fun x7 => (rdl a1 (w64 ((a1.length : Int) - 1))).bind fun t74 => some (t74, x7, true))

theorem spec_l11Behind.ok {k : Nat}  {a0_0 : Int} {a0_1 : List (Int × Int × Int)} {a0_2 : List Int} {a0_3 : List Int} {a1 : List Int} {r0 : Int} {r1 : Int} {r2 : Bool} (h : spec_l11Behind.f k a0_0 a0_1 a0_2 a0_3 a1 = some (r0, r1, r2)) (w : World) {va0_1 : Value} {va0_2 : Value} {va0_3 : Value} {va1 : Value} (hr_a0_1 : Rd w va0_1 a0_1) (hr_a0_2 : Rd w va0_2 a0_2) (hr_a0_3 : Rd w va0_3 a0_3) (hr_a1 : Rd w va1 a1) :
    Calls Try.prog 108 ([.agg ([.int .i64 a0_0, va0_1, va0_2, va0_3].toArray), va1] : List Value).toArray w (fun e w' => e = .returned (.tuple #[.int .i64 r0, .int .i64 r1, .bool r2]) ∧ Ext w w') := by
  unfold spec_l11Behind.f at h
  have hl_va0_1 := hr_a0_1.len
  have hl_va0_2 := hr_a0_2.len
  have hl_va0_3 := hr_a0_3.len
  have hl_va1 := hr_a1.len
  refine Calls.of_tri (N := 77) Try.func108 rfl rfl rfl (Sep.nil (M := noM)) ?_
  refine Tri.seq ?_
  refine Tri.reg (l := [0, 1, 2, 3]) rfl ?_
  refine F.m rfl rfl rfl (wanted_none rfl) (m_boxG rfl rfl) ?_
  rintro _ _ ⟨b2_1, rfl, rfl⟩
  refine F.q rfl rfl rfl (wanted_none rfl) (r_assign rfl) ?_
  refine F.q rfl rfl rfl (wanted_none rfl) (r_assign rfl) ?_
  refine F.q rfl rfl rfl (wanted_none rfl) (r_assign rfl) ?_
  refine F.nil ?_
  refine Nrm.seq ?_
  refine Tri.seq ?_
  refine Tri.seq ?_
  obtain ⟨y22, hE_1, h⟩ := bind_some h
  refine Tri.cut (fun e' C' => e' = [(1, va1), (2, .pointer (some ⟨b2_1, 0, none⟩)), (22, .bool y22)] ∧ C' = Sep w noM [R.box b2_1 57 [.int .i64 a0_0, va0_1, va0_2, va0_3]]) ?_ (fun hj_1 => ?_)
  · rintro _ _ ⟨rfl, rfl⟩
    refine Nrm.seq ?_
    refine Tri.cond (b := y22) rfl (fun g_1 => ?_) (fun g_1 => ?_)
    · replace h := if_tt g_1 h
      refine Tri.seq ?_
      refine Tri.reg (l := [0, 1, 2]) rfl ?_
      refine F.q rfl rfl rfl (wanted_none rfl) (r_assign rfl) ?_
      refine F.q rfl rfl rfl (wanted_none rfl) (r_assign rfl) ?_
      refine F.q rfl rfl rfl (wanted_none rfl) (r_assign rfl) ?_
      refine F.nil ?_
      refine Nrm.seq ?_
      refine Tri.ret ?_
      refine Rtn.then ?_
      cases h
      exact Rtn.body (.tmp rfl (.tmp rfl (.tmp rfl .nil))) (fun w hw => ⟨rfl, hw.ext⟩)
    · replace h := if_ff g_1 h
      refine Tri.skip ?_
      refine Nrm.seq ?_
      refine Tri.seq ?_
      obtain ⟨t26, h26, h⟩ := bind_some h
      refine Tri.reg (l := [0, 1, 2, 3, 4, 5]) rfl ?_
      refine F.q rfl rfl rfl (wanted_none rfl) (r_fieldAddr tf57_0 rfl) ?_
      refine F.q rfl rfl rfl (wanted_none rfl) (r_fieldAddr tf55_2 rfl) ?_
      refine F.q rfl rfl rfl (wanted_none rfl) (r_load ta38 rfl (fun w hw => cell_2 (box_cells (i := 0) rfl w hw) rfl)) ?_
      refine F.q rfl rfl rfl (wanted_none rfl) (r_indexAddrS Try.underlying38 ti3 rfl hl_va0_2 rfl (rdl_some h26).1 (rdl_some h26).2.1) ?_
      refine F.q rfl rfl rfl (wanted_none rfl) (r_load ta3 rfl (fun w hw => cell_0 (Rd.flat ((fun _ hw => hr_a0_2.sep hw) w hw) (rdl_some h26).2.2) rfl)) ?_
      refine F.q rfl rfl rfl (wanted_none rfl) (r_assign rfl) ?_
      refine F.nil ?_
      refine Nrm.seq ?_
      refine Tri.seq ?_
      refine Tri.seq ?_
      refine Tri.reg (l := [0]) rfl ?_
      refine F.q rfl rfl rfl (wanted_none rfl) (r_assign rfl) ?_
      refine F.nil ?_
      refine Nrm.seq ?_
      obtain ⟨s0, hE_2, h⟩ := bind_some h
      refine Tri.block ?_
      refine Tri.only [1, 2, 7, 8] rfl ?_
      refine Tri.pick [0] rfl rfl ?_
      refine Tri.rounds (fun n e' C' => ∃ (x7' : Int) (x8' : Int), spec_l11Behind.l0 k a0_0 a0_1 a0_2 a0_3 a1 n x7' x8' = some s0 ∧ e' = [(1, va1), (2, .pointer (some ⟨b2_1, 0, none⟩)), (7, .int .i64 x7'), (8, .int .i64 x8')] ∧ C' = Sep w noM [R.box b2_1 57 [.int .i64 a0_0, va0_1, va0_2, va0_3]]) k ?_ ?_ ?_
      · exact ⟨t26, 1, hE_2, rfl, rfl⟩
      · rintro _ _ ⟨_, _, hE_2, _⟩
        rw [spec_l11Behind.l0.eq_1] at hE_2; cases hE_2
      · rintro n_1 _ _ ⟨x7, x8, hE_2, rfl, rfl⟩ ih_1
        rw [spec_l11Behind.l0.eq_2] at hE_2
        refine Tri.seq ?_
        refine Tri.seq ?_
        refine Tri.reg (l := [0, 1, 2, 3]) rfl ?_
        refine F.q rfl rfl rfl (wanted_none rfl) (r_move rfl) ?_
        refine F.q rfl rfl rfl (wanted_none rfl) (r_move rfl) ?_
        refine F.q rfl rfl rfl (wanted_none rfl) (r_len Try.underlying38 rfl hl_va1) ?_
        refine F.q rfl rfl rfl (wanted_none rfl) (r_lss rfl rfl) ?_
        refine F.nil ?_
        refine Nrm.seq ?_
        refine Tri.cond (b := decide (x8 < (a1.length : Int))) rfl (fun g_2 => ?_) (fun g_2 => ?_)
        · replace hE_2 := if_tt g_2 hE_2
          refine Tri.skip ?_
          refine Nrm.seq ?_
          refine Tri.seq ?_
          refine Tri.block ?_
          refine Tri.seq ?_
          refine Tri.seq ?_
          obtain ⟨y58, hE_3, hE_2⟩ := bind_some hE_2
          refine Tri.cut (fun e' C' => e' = [(1, va1), (2, .pointer (some ⟨b2_1, 0, none⟩)), (7, .int .i64 x7), (8, .int .i64 x8), (58, .bool y58)] ∧ C' = Sep w noM [R.box b2_1 57 [.int .i64 a0_0, va0_1, va0_2, va0_3]]) ?_ (fun hj_2 => ?_)
          · rintro _ _ ⟨rfl, rfl⟩
            refine Nrm.seq ?_
            refine Tri.cond (b := y58) rfl (fun g_3 => ?_) (fun g_3 => ?_)
            · replace hE_2 := if_tt g_3 hE_2
              refine Tri.seq ?_
              refine Tri.reg (l := [0, 1, 2]) rfl ?_
              refine F.q rfl rfl rfl (wanted_none rfl) (r_assign rfl) ?_
              refine F.q rfl rfl rfl (wanted_none rfl) (r_assign rfl) ?_
              refine F.q rfl rfl rfl (wanted_none rfl) (r_assign rfl) ?_
              refine F.nil ?_
              refine Nrm.seq ?_
              refine Tri.ret ?_
              refine Rtn.then ?_
              refine Rtn.block ?_
              refine Rtn.then ?_
              refine Rtn.then ?_
              refine Rtn.block ?_
              refine Rtn.then ?_
              cases hE_2
              replace h := Lr_inr h
              cases h
              exact Rtn.body (.tmp rfl (.tmp rfl (.tmp rfl .nil))) (fun w hw => ⟨rfl, hw.ext⟩)
            · replace hE_2 := if_ff g_3 hE_2
              refine Tri.skip ?_
              refine Nrm.seq ?_
              obtain ⟨t65, h65, hE_2⟩ := bind_some hE_2
              obtain ⟨t67, h67, hE_2⟩ := bind_some hE_2
              refine Tri.drawA mixedT Sep.up [(0, true), (1, true), (2, true), (3, true), (4, true), (5, true), (6, true), (7, true), (8, true), (9, true), (10, true), (11, true)] [] (by kernel_rfl) ?_
              refine S.q rfl rfl rfl (wanted_none rfl) (r_move rfl) ?_
              refine S.q rfl rfl rfl (wanted_none rfl) (r_fieldAddr tf57_0 rfl) ?_
              refine S.q rfl rfl rfl (wanted_none rfl) (r_fieldAddr tf55_2 rfl) ?_
              refine S.q rfl rfl rfl (wanted_none rfl) (r_load ta38 rfl (fun w hw => cell_2 (box_cells (i := 0) rfl w hw) rfl)) ?_
              refine S.q rfl rfl rfl (wanted_none rfl) (r_move rfl) ?_
              refine S.q rfl rfl rfl (wanted_none rfl) (r_move rfl) ?_
              refine S.q rfl rfl rfl (wanted_none rfl) (r_indexAddrS Try.underlying38 ti3 rfl hl_va1 rfl (rdl_some h65).1 (rdl_some h65).2.1) ?_
              refine S.q rfl rfl rfl (wanted_none rfl) (r_load ta3 rfl (fun w hw => cell_0 (Rd.flat ((fun _ hw => hr_a1.sep hw) w hw) (rdl_some h65).2.2) rfl)) ?_
              refine S.q rfl rfl rfl (wanted_none rfl) (r_indexAddrS Try.underlying38 ti3 rfl hl_va0_2 rfl (rdl_some h67).1 (rdl_some h67).2.1) ?_
              refine S.q rfl rfl rfl (wanted_none rfl) (r_load ta3 rfl (fun w hw => cell_0 (Rd.flat ((fun _ hw => hr_a0_2.sep hw) w hw) (rdl_some h67).2.2) rfl)) ?_
              refine S.q rfl rfl rfl (wanted_none rfl) (r_or rfl rfl) ?_
              refine S.q rfl rfl rfl (wanted_none rfl) (r_assign rfl) ?_
              refine S.nil ?_
              refine F.nil ?_
              refine Nrm.block ?_
              refine Nrm.seq ?_
              refine Tri.reg (l := [0, 1, 2]) rfl ?_
              refine F.q rfl rfl rfl (wanted_none rfl) (r_move rfl) ?_
              refine F.q rfl rfl rfl (wanted_none rfl) (r_add rfl rfl) ?_
              refine F.q rfl rfl rfl (wanted_none rfl) (r_assign rfl) ?_
              refine F.nil ?_
              refine Nrm.round ?_
              refine Rnd.only [1, 2, 7, 8] rfl ?_
              refine Rnd.pick [0] rfl rfl ?_
              exact ih_1 _ _ ⟨bor x7 t67, w64 (x8 + 1), hE_2, rfl, rfl⟩
          · obtain ⟨t36, h36, hE_3⟩ := bind_some hE_3
            obtain ⟨t42, h42, hE_3⟩ := bind_some hE_3
            rcases Bool.eq_false_or_eq_true (!t42) with g44 | g44
            · replace hE_3 := if_tt g44 hE_3
              refine Tri.drawA mixedT Sep.up [(0, true), (1, true), (2, true), (3, true), (4, true), (5, true), (6, true), (7, true), (8, true), (9, true), (10, true), (11, true), (12, true), (13, true), (14, true), (15, true), (16, true), (17, true), (18, true), (19, true), (20, true), (21, true), (22, true), (23, true), (24, true)] [] (by kernel_rfl) ?_
              refine S.q rfl rfl rfl (wanted_none rfl) (r_move rfl) ?_
              refine S.q rfl rfl rfl (wanted_none rfl) (r_move rfl) ?_
              refine S.q rfl rfl rfl (wanted_none rfl) (r_indexAddrS Try.underlying38 ti3 rfl hl_va1 rfl (rdl_some h36).1 (rdl_some h36).2.1) ?_
              refine S.q rfl rfl rfl (wanted_none rfl) (r_load ta3 rfl (fun w hw => cell_0 (Rd.flat ((fun _ hw => hr_a1.sep hw) w hw) (rdl_some h36).2.2) rfl)) ?_
              refine S.q rfl rfl rfl (wanted_none rfl) (r_fieldAddr tf57_0 rfl) ?_
              refine S.q rfl rfl rfl (wanted_none rfl) (r_fieldAddr tf55_0 rfl) ?_
              refine S.q rfl rfl rfl (wanted_none rfl) (r_load ta3 rfl (fun w hw => cell_2 (box_cells (i := 0) rfl w hw) rfl)) ?_
              refine S.q rfl rfl rfl (wanted_none rfl) (r_sub rfl rfl) ?_
              refine S.qc rfl rfl rfl (wanted_none rfl) (q_callF (xs := _) rfl ok84 rfl rfl (fun w hw => spec_l1In.ok h42 w )) ?_
              refine S.q rfl rfl rfl (wanted_none rfl) (r_not rfl) ?_
              refine S.q rfl rfl rfl (wanted_none rfl) (r_move rfl) ?_
              refine S.sk rfl rfl rfl (wf rfl rfl rfl g44) ?_
              refine S.sk rfl rfl rfl (wf rfl rfl rfl g44) ?_
              refine S.sk rfl rfl rfl (wf rfl rfl rfl g44) ?_
              refine S.sk rfl rfl rfl (wf rfl rfl rfl g44) ?_
              refine S.sk rfl rfl rfl (wf rfl rfl rfl g44) ?_
              refine S.sk rfl rfl rfl (wf rfl rfl rfl g44) ?_
              refine S.sk rfl rfl rfl (wf rfl rfl rfl g44) ?_
              refine S.sk rfl rfl rfl (wf rfl rfl rfl g44) ?_
              refine S.sk rfl rfl rfl (wf rfl rfl rfl g44) ?_
              refine S.sk rfl rfl rfl (wf rfl rfl rfl g44) ?_
              refine S.sk rfl rfl rfl (wf rfl rfl rfl g44) ?_
              refine S.sk rfl rfl rfl (wf rfl rfl rfl g44) ?_
              refine S.sk rfl rfl rfl (wf rfl rfl rfl g44) ?_
              refine S.q rfl rfl rfl (wanted_none rfl) (r_pick rfl rfl g44) ?_
              refine S.nil ?_
              refine F.nil ?_
              cases hE_3
              refine Nrm.only [1, 2, 7, 8, 58] rfl ?_
              refine Nrm.pick [0] rfl rfl ?_
              exact hj_2 _ _ ⟨rfl, rfl⟩
            · replace hE_3 := if_ff g44 hE_3
              obtain ⟨t49, h49, hE_3⟩ := bind_some hE_3
              obtain ⟨t53, h53, hE_3⟩ := bind_some hE_3
              obtain ⟨t56, h56, hE_3⟩ := bind_some hE_3
              refine Tri.drawA mixedT Sep.up [(0, true), (1, true), (2, true), (3, true), (4, true), (5, true), (6, true), (7, true), (8, true), (9, true), (10, true), (11, true), (12, true), (13, true), (14, true), (15, true), (16, true), (17, true), (18, true), (19, true), (20, true), (21, true), (22, true), (23, true), (24, true)] [] (by kernel_rfl) ?_
              refine S.q rfl rfl rfl (wanted_none rfl) (r_move rfl) ?_
              refine S.q rfl rfl rfl (wanted_none rfl) (r_move rfl) ?_
              refine S.q rfl rfl rfl (wanted_none rfl) (r_indexAddrS Try.underlying38 ti3 rfl hl_va1 rfl (rdl_some h36).1 (rdl_some h36).2.1) ?_
              refine S.q rfl rfl rfl (wanted_none rfl) (r_load ta3 rfl (fun w hw => cell_0 (Rd.flat ((fun _ hw => hr_a1.sep hw) w hw) (rdl_some h36).2.2) rfl)) ?_
              refine S.q rfl rfl rfl (wanted_none rfl) (r_fieldAddr tf57_0 rfl) ?_
              refine S.q rfl rfl rfl (wanted_none rfl) (r_fieldAddr tf55_0 rfl) ?_
              refine S.q rfl rfl rfl (wanted_none rfl) (r_load ta3 rfl (fun w hw => cell_2 (box_cells (i := 0) rfl w hw) rfl)) ?_
              refine S.q rfl rfl rfl (wanted_none rfl) (r_sub rfl rfl) ?_
              refine S.qc rfl rfl rfl (wanted_none rfl) (q_callF (xs := _) rfl ok84 rfl rfl (fun w hw => spec_l1In.ok h42 w )) ?_
              refine S.q rfl rfl rfl (wanted_none rfl) (r_not rfl) ?_
              refine S.q rfl rfl rfl (wanted_none rfl) (r_move rfl) ?_
              refine S.q rfl rfl rfl (wg rfl rfl rfl g44) (r_loadA ta57 ti57 rfl rfl (fun w hw => (box_cells (i := 0) rfl w hw))) ?_
              refine S.q rfl rfl rfl (wg rfl rfl rfl g44) (r_move rfl) ?_
              refine S.q rfl rfl rfl (wg rfl rfl rfl g44) (r_move rfl) ?_
              refine S.q rfl rfl rfl (wg rfl rfl rfl g44) (r_sub rfl rfl) ?_
              refine S.q rfl rfl rfl (wg rfl rfl rfl g44) (r_indexAddrS Try.underlying38 ti3 rfl hl_va1 rfl (rdl_some h49).1 (rdl_some h49).2.1) ?_
              refine S.q rfl rfl rfl (wg rfl rfl rfl g44) (r_load ta3 rfl (fun w hw => cell_0 (Rd.flat ((fun _ hw => hr_a1.sep hw) w hw) (rdl_some h49).2.2) rfl)) ?_
              refine S.q rfl rfl rfl (wg rfl rfl rfl g44) (r_move rfl) ?_
              refine S.q rfl rfl rfl (wg rfl rfl rfl g44) (r_move rfl) ?_
              refine S.q rfl rfl rfl (wg rfl rfl rfl g44) (r_indexAddrS Try.underlying38 ti3 rfl hl_va1 rfl (rdl_some h53).1 (rdl_some h53).2.1) ?_
              refine S.q rfl rfl rfl (wg rfl rfl rfl g44) (r_load ta3 rfl (fun w hw => cell_0 (Rd.flat ((fun _ hw => hr_a1.sep hw) w hw) (rdl_some h53).2.2) rfl)) ?_
              refine S.q rfl rfl rfl (wg rfl rfl rfl g44) (r_move rfl) ?_
              refine S.qc rfl rfl rfl (wg rfl rfl rfl g44) (q_callF (xs := _) rfl ok151 rfl rfl (fun w hw => spec_l11Goes.ok h56 w ((fun _ hw => hr_a0_1.sep hw) w hw) ((fun _ hw => hr_a0_2.sep hw) w hw) ((fun _ hw => hr_a0_3.sep hw) w hw))) ?_
              refine S.q rfl rfl rfl (wg rfl rfl rfl g44) (r_not rfl) ?_
              refine S.q rfl rfl rfl (wanted_none rfl) (r_pickf rfl rfl g44) ?_
              refine S.nil ?_
              refine F.nil ?_
              cases hE_3
              refine Nrm.only [1, 2, 7, 8, 58] rfl ?_
              refine Nrm.pick [0] rfl rfl ?_
              exact hj_2 _ _ ⟨rfl, rfl⟩
        · replace hE_2 := if_ff g_2 hE_2
          refine Tri.exit ?_
          refine Exi.then ?_
          refine Exi.then ?_
          refine Exi.same ?_
          cases hE_2
          replace h := Lr_inl h
          refine Nrm.seq ?_
          refine Tri.seq ?_
          obtain ⟨t74, h74, h⟩ := bind_some h
          refine Tri.reg (l := [0, 1, 2, 3, 4, 5, 6, 7, 8, 9]) rfl ?_
          refine F.q rfl rfl rfl (wanted_none rfl) (r_move rfl) ?_
          refine F.q rfl rfl rfl (wanted_none rfl) (r_move rfl) ?_
          refine F.q rfl rfl rfl (wanted_none rfl) (r_len Try.underlying38 rfl hl_va1) ?_
          refine F.q rfl rfl rfl (wanted_none rfl) (r_sub rfl rfl) ?_
          refine F.q rfl rfl rfl (wanted_none rfl) (r_indexAddrS Try.underlying38 ti3 rfl hl_va1 rfl (rdl_some h74).1 (rdl_some h74).2.1) ?_
          refine F.q rfl rfl rfl (wanted_none rfl) (r_load ta3 rfl (fun w hw => cell_0 (Rd.flat ((fun _ hw => hr_a1.sep hw) w hw) (rdl_some h74).2.2) rfl)) ?_
          refine F.q rfl rfl rfl (wanted_none rfl) (r_move rfl) ?_
          refine F.q rfl rfl rfl (wanted_none rfl) (r_assign rfl) ?_
          refine F.q rfl rfl rfl (wanted_none rfl) (r_assign rfl) ?_
          refine F.q rfl rfl rfl (wanted_none rfl) (r_assign rfl) ?_
          refine F.nil ?_
          refine Nrm.seq ?_
          refine Tri.ret ?_
          cases h
          exact Rtn.body (.tmp rfl (.tmp rfl (.tmp rfl .nil))) (fun w hw => ⟨rfl, hw.ext⟩)
  · obtain ⟨t10, h10, hE_1⟩ := bind_some hE_1
    rcases Bool.eq_false_or_eq_true (!t10) with g12 | g12
    · replace hE_1 := if_tt g12 hE_1
      refine Tri.reg (l := [0, 1, 2, 3, 4, 5, 6, 7, 8, 9, 10, 11, 12, 13]) rfl ?_
      refine F.q rfl rfl rfl (wanted_none rfl) (r_loadA ta57 ti57 rfl rfl (fun w hw => (box_cells (i := 0) rfl w hw))) ?_
      refine F.qc rfl rfl rfl (wanted_none rfl) (q_callF (xs := _) rfl ok83 rfl rfl (fun w hw => spec_l11Trap.ok h10 w ((fun _ hw => hr_a0_1.sep hw) w hw) ((fun _ hw => hr_a0_2.sep hw) w hw) ((fun _ hw => hr_a0_3.sep hw) w hw))) ?_
      refine F.q rfl rfl rfl (wanted_none rfl) (r_not rfl) ?_
      refine F.q rfl rfl rfl (wanted_none rfl) (r_move rfl) ?_
      refine F.sk rfl rfl rfl (wf rfl rfl rfl g12) ?_
      refine F.sk rfl rfl rfl (wf rfl rfl rfl g12) ?_
      refine F.sk rfl rfl rfl (wf rfl rfl rfl g12) ?_
      refine F.q rfl rfl rfl (wanted_none rfl) (r_pick rfl rfl g12) ?_
      refine F.q rfl rfl rfl (wanted_none rfl) (r_move rfl) ?_
      refine F.sk rfl rfl rfl (wf rfl rfl rfl rfl) ?_
      refine F.sk rfl rfl rfl (wf rfl rfl rfl rfl) ?_
      refine F.sk rfl rfl rfl (wf rfl rfl rfl rfl) ?_
      refine F.sk rfl rfl rfl (wf rfl rfl rfl rfl) ?_
      refine F.q rfl rfl rfl (wanted_none rfl) (r_pick rfl rfl rfl) ?_
      refine F.nil ?_
      cases hE_1
      refine Nrm.only [1, 2, 22] rfl ?_
      refine Nrm.pick [0] rfl rfl ?_
      exact hj_1 _ _ ⟨rfl, rfl⟩
    · replace hE_1 := if_ff g12 hE_1
      rcases Bool.eq_false_or_eq_true ((a1.length : Int) == 0) with g17 | g17
      · replace hE_1 := if_tt g17 hE_1
        refine Tri.reg (l := [0, 1, 2, 3, 4, 5, 6, 7, 8, 9, 10, 11, 12, 13]) rfl ?_
        refine F.q rfl rfl rfl (wanted_none rfl) (r_loadA ta57 ti57 rfl rfl (fun w hw => (box_cells (i := 0) rfl w hw))) ?_
        refine F.qc rfl rfl rfl (wanted_none rfl) (q_callF (xs := _) rfl ok83 rfl rfl (fun w hw => spec_l11Trap.ok h10 w ((fun _ hw => hr_a0_1.sep hw) w hw) ((fun _ hw => hr_a0_2.sep hw) w hw) ((fun _ hw => hr_a0_3.sep hw) w hw))) ?_
        refine F.q rfl rfl rfl (wanted_none rfl) (r_not rfl) ?_
        refine F.q rfl rfl rfl (wanted_none rfl) (r_move rfl) ?_
        refine F.q rfl rfl rfl (wg rfl rfl rfl g12) (r_move rfl) ?_
        refine F.q rfl rfl rfl (wg rfl rfl rfl g12) (r_len Try.underlying38 rfl hl_va1) ?_
        refine F.q rfl rfl rfl (wg rfl rfl rfl g12) (r_eql rfl rfl) ?_
        refine F.q rfl rfl rfl (wanted_none rfl) (r_pickf rfl rfl g12) ?_
        refine F.q rfl rfl rfl (wanted_none rfl) (r_move rfl) ?_
        refine F.sk rfl rfl rfl (wf rfl rfl rfl g17) ?_
        refine F.sk rfl rfl rfl (wf rfl rfl rfl g17) ?_
        refine F.sk rfl rfl rfl (wf rfl rfl rfl g17) ?_
        refine F.sk rfl rfl rfl (wf rfl rfl rfl g17) ?_
        refine F.q rfl rfl rfl (wanted_none rfl) (r_pick rfl rfl g17) ?_
        refine F.nil ?_
        cases hE_1
        refine Nrm.only [1, 2, 22] rfl ?_
        refine Nrm.pick [0] rfl rfl ?_
        exact hj_1 _ _ ⟨rfl, rfl⟩
      · replace hE_1 := if_ff g17 hE_1
        obtain ⟨t19, h19, hE_1⟩ := bind_some hE_1
        refine Tri.reg (l := [0, 1, 2, 3, 4, 5, 6, 7, 8, 9, 10, 11, 12, 13]) rfl ?_
        refine F.q rfl rfl rfl (wanted_none rfl) (r_loadA ta57 ti57 rfl rfl (fun w hw => (box_cells (i := 0) rfl w hw))) ?_
        refine F.qc rfl rfl rfl (wanted_none rfl) (q_callF (xs := _) rfl ok83 rfl rfl (fun w hw => spec_l11Trap.ok h10 w ((fun _ hw => hr_a0_1.sep hw) w hw) ((fun _ hw => hr_a0_2.sep hw) w hw) ((fun _ hw => hr_a0_3.sep hw) w hw))) ?_
        refine F.q rfl rfl rfl (wanted_none rfl) (r_not rfl) ?_
        refine F.q rfl rfl rfl (wanted_none rfl) (r_move rfl) ?_
        refine F.q rfl rfl rfl (wg rfl rfl rfl g12) (r_move rfl) ?_
        refine F.q rfl rfl rfl (wg rfl rfl rfl g12) (r_len Try.underlying38 rfl hl_va1) ?_
        refine F.q rfl rfl rfl (wg rfl rfl rfl g12) (r_eql rfl rfl) ?_
        refine F.q rfl rfl rfl (wanted_none rfl) (r_pickf rfl rfl g12) ?_
        refine F.q rfl rfl rfl (wanted_none rfl) (r_move rfl) ?_
        refine F.q rfl rfl rfl (wg rfl rfl rfl g17) (r_move rfl) ?_
        refine F.q rfl rfl rfl (wg rfl rfl rfl g17) (r_indexAddrS Try.underlying38 ti3 rfl hl_va1 rfl (rdl_some h19).1 (rdl_some h19).2.1) ?_
        refine F.q rfl rfl rfl (wg rfl rfl rfl g17) (r_load ta3 rfl (fun w hw => cell_0 (Rd.flat ((fun _ hw => hr_a1.sep hw) w hw) (rdl_some h19).2.2) rfl)) ?_
        refine F.q rfl rfl rfl (wg rfl rfl rfl g17) (r_neq rfl rfl) ?_
        refine F.q rfl rfl rfl (wanted_none rfl) (r_pickf rfl rfl g17) ?_
        refine F.nil ?_
        cases hE_1
        refine Nrm.only [1, 2, 22] rfl ?_
        refine Nrm.pick [0] rfl rfl ?_
        exact hj_1 _ _ ⟨rfl, rfl⟩

end Go.Proofs

/- loop.example/g01158/spec.GoodSteps -/
namespace Go.Proofs
open Go Go.Ga
set_option linter.unusedVariables false
set_option maxRecDepth 100000
set_option maxHeartbeats 4000000
def spec_GoodSteps.l0 (k : Nat) (t25 : List Bool) (t29 : List Int) : Nat → (List (Int)) → Int → Option ((List (Int)))
  | 0, _, _ => none
  | n + 1, x6, x12 => (if (decide (x12 < (t29.length : Int))) = true then (rdl t29 x12).bind fun t39 => (rdl t25 t39).bind fun t41 => ((if t41 = true then (rdl t29 x12).bind fun t46 => if (x6 ++ ([quo t46 64] : List (Int))).length < 1099511627776 then some (x6 ++ ([quo t46 64] : List (Int))) else none else some x6)).bind fun y6 => spec_GoodSteps.l0 k t25 t29 n y6 (w64 (x12 + 1)) else some x6)

def spec_GoodSteps.f (k : Nat) (a0_0 : Int) (a0_1 : List (Int × Int × Int)) (a0_2 : List Int) (a0_3 : List Int) (a1 : List Int) : Option ((List Int) × Bool) := (spec_l11Behind.f k a0_0 a0_1 a0_2 a0_3 a1).bind fun (t17_1, t17_2, t17_3) => (if (!t17_3) = true then some (([] : List (Int)), false) else (spec_l11Good.f k a0_0 a0_1 a0_2 a0_3).bind fun t25 => (spec_l11Step.f k a0_0 a0_1 a0_2 a0_3 t17_1 t17_2).bind fun t29 => (spec_GoodSteps.l0 k t25 t29 k ([] : List (Int)) 0).bind fun x6 => some (x6, true))

theorem spec_GoodSteps.ok {k : Nat}  {a0_0 : Int} {a0_1 : List (Int × Int × Int)} {a0_2 : List Int} {a0_3 : List Int} {a1 : List Int} {r0 : List Int} {r1 : Bool} (h : spec_GoodSteps.f k a0_0 a0_1 a0_2 a0_3 a1 = some (r0, r1)) (w : World) {va0_1 : Value} {va0_2 : Value} {va0_3 : Value} {va1 : Value} (hr_a0_1 : Rd w va0_1 a0_1) (hr_a0_2 : Rd w va0_2 a0_2) (hr_a0_3 : Rd w va0_3 a0_3) (hr_a1 : Rd w va1 a1) :
    Calls Try.prog 53 ([.agg ([.int .i64 a0_0, va0_1, va0_2, va0_3].toArray), va1] : List Value).toArray w (Post (fun u ns => ∃ (ur0 : Value) (Sr0 : Nat → Prop), u = .tuple #[ur0, .bool r1] ∧ SlLen ur0 r0.length ∧ ns = [R.sl Sr0 ur0 r0]) w) := by
  unfold spec_GoodSteps.f at h
  have hl_va0_1 := hr_a0_1.len
  have hl_va0_2 := hr_a0_2.len
  have hl_va0_3 := hr_a0_3.len
  have hl_va1 := hr_a1.len
  refine Calls.of_tri (N := 52) Try.func53 rfl rfl rfl (Sep.nil (M := noM)) ?_
  refine Tri.seq ?_
  refine Tri.reg (l := [0, 1, 2]) rfl ?_
  refine F.m rfl rfl rfl (wanted_none rfl) (m_boxG rfl rfl) ?_
  rintro _ _ ⟨b2_1, rfl, rfl⟩
  refine F.q rfl rfl rfl (wanted_none rfl) (r_assign rfl) ?_
  refine F.q rfl rfl rfl (wanted_none rfl) (r_assign rfl) ?_
  refine F.nil ?_
  refine Nrm.seq ?_
  refine Tri.seq ?_
  refine Tri.reg (l := [0, 1]) rfl ?_
  refine F.m rfl rfl rfl (wanted_none rfl) (m_build0 (α := Int) Try.underlying38 ti3) ?_
  rintro v13_1 _ ⟨S13_1, hl_v13_1, rfl⟩
  refine F.q rfl rfl rfl (wanted_none rfl) (r_assign rfl) ?_
  refine F.nil ?_
  refine Nrm.seq ?_
  refine Tri.seq ?_
  obtain ⟨⟨t17_1, t17_2, t17_3⟩, h17, h⟩ := bind_some h
  refine Tri.reg (l := [0, 1, 2, 3, 4, 5, 6, 7, 8, 9]) rfl ?_
  refine F.q rfl rfl rfl (wanted_none rfl) (r_loadA ta57 ti57 rfl rfl (fun w hw => (box_cells (i := 1) rfl w hw))) ?_
  refine F.q rfl rfl rfl (wanted_none rfl) (r_move rfl) ?_
  refine F.qc rfl rfl rfl (wanted_none rfl) (q_callF (xs := _) rfl ok108 rfl rfl (fun w hw => spec_l11Behind.ok h17 w ((fun _ hw => hr_a0_1.sep hw) w hw) ((fun _ hw => hr_a0_2.sep hw) w hw) ((fun _ hw => hr_a0_3.sep hw) w hw) ((fun _ hw => hr_a1.sep hw) w hw))) ?_
  refine F.q rfl rfl rfl (wanted_none rfl) (r_move rfl) ?_
  refine F.q rfl rfl rfl (wanted_none rfl) (r_extract rfl rfl) ?_
  refine F.q rfl rfl rfl (wanted_none rfl) (r_extract rfl rfl) ?_
  refine F.q rfl rfl rfl (wanted_none rfl) (r_extract rfl rfl) ?_
  refine F.q rfl rfl rfl (wanted_none rfl) (r_assign rfl) ?_
  refine F.q rfl rfl rfl (wanted_none rfl) (r_assign rfl) ?_
  refine F.q rfl rfl rfl (wanted_none rfl) (r_assign rfl) ?_
  refine F.nil ?_
  refine Nrm.seq ?_
  refine Tri.seq ?_
  refine Tri.seq ?_
  refine Tri.reg (l := [0, 1]) rfl ?_
  refine F.q rfl rfl rfl (wanted_none rfl) (r_move rfl) ?_
  refine F.q rfl rfl rfl (wanted_none rfl) (r_not rfl) ?_
  refine F.nil ?_
  refine Nrm.seq ?_
  refine Tri.cond (b := !t17_3) rfl (fun g_1 => ?_) (fun g_1 => ?_)
  · replace h := if_tt g_1 h
    refine Tri.seq ?_
    refine Tri.reg (l := [0, 1, 2]) rfl ?_
    refine F.q rfl rfl rfl (wanted_none rfl) (r_move rfl) ?_
    refine F.q rfl rfl rfl (wanted_none rfl) (r_assign rfl) ?_
    refine F.q rfl rfl rfl (wanted_none rfl) (r_assign rfl) ?_
    refine F.nil ?_
    refine Nrm.seq ?_
    refine Tri.ret ?_
    refine Rtn.then ?_
    cases h
    exact Rtn.body (.tmp rfl (.tmp rfl .nil)) (fun w hw => ⟨_, _, rfl, ⟨v13_1, S13_1, rfl, hl_v13_1, rfl⟩, Sep.pick (is := [0]) rfl rfl hw⟩)
  · replace h := if_ff g_1 h
    refine Tri.skip ?_
    refine Nrm.seq ?_
    refine Tri.seq ?_
    obtain ⟨t25, h25, h⟩ := bind_some h
    obtain ⟨t29, h29, h⟩ := bind_some h
    refine Tri.drawA mixedT Sep.up [(0, true), (2, true), (3, true), (4, true), (1, false), (5, false), (6, true), (7, true)] [] (by kernel_rfl) ?_
    refine S.q rfl rfl rfl (wanted_none rfl) (r_loadA ta57 ti57 rfl rfl (fun w hw => (box_cells (i := 1) rfl w hw))) ?_
    refine S.q rfl rfl rfl (wanted_none rfl) (r_loadA ta57 ti57 rfl rfl (fun w hw => (box_cells (i := 1) rfl w hw))) ?_
    refine S.q rfl rfl rfl (wanted_none rfl) (r_move rfl) ?_
    refine S.q rfl rfl rfl (wanted_none rfl) (r_move rfl) ?_
    refine S.m rfl rfl rfl (wanted_none rfl) (m_callF (xs := _) rfl ok97 rfl rfl (fun w hw => spec_l11Good.ok h25 w ((fun _ hw => hr_a0_1.sep hw) w hw) ((fun _ hw => hr_a0_2.sep hw) w hw) ((fun _ hw => hr_a0_3.sep hw) w hw))) ?_
    rintro v25_2 _ ⟨_, ⟨S25_2, hl_v25_2, rfl⟩, rfl⟩
    refine S.m rfl rfl rfl (wanted_none rfl) (m_callF (xs := _) rfl ok109 rfl rfl (fun w hw => spec_l11Step.ok h29 w ((fun _ hw => hr_a0_1.sep hw) w hw) ((fun _ hw => hr_a0_2.sep hw) w hw) ((fun _ hw => hr_a0_3.sep hw) w hw))) ?_
    rintro v29_2 _ ⟨_, ⟨S29_2, hl_v29_2, rfl⟩, rfl⟩
    refine S.q rfl rfl rfl (wanted_none rfl) (r_assign rfl) ?_
    refine S.q rfl rfl rfl (wanted_none rfl) (r_assign rfl) ?_
    refine S.nil ?_
    refine F.nil ?_
    refine Nrm.seq ?_
    refine Tri.seq ?_
    refine Tri.seq ?_
    refine Tri.reg (l := [0]) rfl ?_
    refine F.q rfl rfl rfl (wanted_none rfl) (r_assign rfl) ?_
    refine F.nil ?_
    refine Nrm.seq ?_
    obtain ⟨x6, hE_1, h⟩ := bind_some h
    refine Tri.block ?_
    refine Tri.only [6, 10, 11, 12] rfl ?_
    refine Tri.pick [0, 1, 2] rfl rfl ?_
    refine Tri.rounds (fun n e' C' => ∃ (x6' : List (Int)) (x12' : Int) (w6 : Value) (T6 : Nat → Prop), spec_GoodSteps.l0 k t25 t29 n x6' x12' = some x6 ∧ SlLen w6 (x6').length ∧ e' = [(6, w6), (10, v25_2), (11, v29_2), (12, .int .i64 x12')] ∧ C' = Sep w noM [R.sl S29_2 v29_2 (t29 : List (Int)), R.sl S25_2 v25_2 (t25 : List (Bool)), R.sl T6 w6 (x6' : List (Int))]) k ?_ ?_ ?_
    · exact ⟨([] : List (Int)), 0, v13_1, S13_1, hE_1, hl_v13_1, rfl, rfl⟩
    · rintro _ _ ⟨_, _, _, _, hE_1, _⟩
      rw [spec_GoodSteps.l0.eq_1] at hE_1; cases hE_1
    · rintro n_1 _ _ ⟨x6, x12, w6, T6, hE_1, hl_w6, rfl, rfl⟩ ih_1
      rw [spec_GoodSteps.l0.eq_2] at hE_1
      refine Tri.seq ?_
      refine Tri.seq ?_
      refine Tri.reg (l := [0, 1, 2, 3]) rfl ?_
      refine F.q rfl rfl rfl (wanted_none rfl) (r_move rfl) ?_
      refine F.q rfl rfl rfl (wanted_none rfl) (r_move rfl) ?_
      refine F.q rfl rfl rfl (wanted_none rfl) (r_len Try.underlying38 rfl hl_v29_2) ?_
      refine F.q rfl rfl rfl (wanted_none rfl) (r_lss rfl rfl) ?_
      refine F.nil ?_
      refine Nrm.seq ?_
      refine Tri.cond (b := decide (x12 < (t29.length : Int))) rfl (fun g_2 => ?_) (fun g_2 => ?_)
      · replace hE_1 := if_tt g_2 hE_1
        refine Tri.skip ?_
        refine Nrm.seq ?_
        refine Tri.seq ?_
        refine Tri.block ?_
        refine Tri.seq ?_
        obtain ⟨t39, h39, hE_1⟩ := bind_some hE_1
        obtain ⟨t41, h41, hE_1⟩ := bind_some hE_1
        refine Tri.reg (l := [0, 1, 2, 3, 4, 5, 6]) rfl ?_
        refine F.q rfl rfl rfl (wanted_none rfl) (r_move rfl) ?_
        refine F.q rfl rfl rfl (wanted_none rfl) (r_move rfl) ?_
        refine F.q rfl rfl rfl (wanted_none rfl) (r_move rfl) ?_
        refine F.q rfl rfl rfl (wanted_none rfl) (r_indexAddrS Try.underlying38 ti3 rfl hl_v29_2 rfl (rdl_some h39).1 (rdl_some h39).2.1) ?_
        refine F.q rfl rfl rfl (wanted_none rfl) (r_load ta3 rfl (fun w hw => cell_0 (Rd.flat ((rd_sl (i := 0) rfl) w hw) (rdl_some h39).2.2) rfl)) ?_
        refine F.q rfl rfl rfl (wanted_none rfl) (r_indexAddrS Try.underlying109 ti4 rfl hl_v25_2 rfl (rdl_some h41).1 (rdl_some h41).2.1) ?_
        refine F.q rfl rfl rfl (wanted_none rfl) (r_load ta4 rfl (fun w hw => cell_0 (Rd.flat ((rd_sl (i := 1) rfl) w hw) (rdl_some h41).2.2) rfl)) ?_
        refine F.nil ?_
        refine Nrm.seq ?_
        obtain ⟨y6, hE_2, hE_1⟩ := bind_some hE_1
        refine Tri.cut (fun e' C' => ∃ (v6_1 : Value) (S6_1 : Nat → Prop), SlLen v6_1 (y6).length ∧ e' = [(6, v6_1), (10, v25_2), (11, v29_2), (12, .int .i64 x12)] ∧ C' = Sep w noM [R.sl S6_1 v6_1 (y6 : List (Int)), R.sl S25_2 v25_2 (t25 : List (Bool)), R.sl S29_2 v29_2 (t29 : List (Int))]) ?_ (fun hj_1 => ?_)
        · rintro _ _ ⟨v6_1, S6_1, hl_v6_1, rfl, rfl⟩
          refine Nrm.block ?_
          refine Nrm.seq ?_
          refine Tri.reg (l := [0, 1, 2]) rfl ?_
          refine F.q rfl rfl rfl (wanted_none rfl) (r_move rfl) ?_
          refine F.q rfl rfl rfl (wanted_none rfl) (r_add rfl rfl) ?_
          refine F.q rfl rfl rfl (wanted_none rfl) (r_assign rfl) ?_
          refine F.nil ?_
          refine Nrm.round ?_
          refine Rnd.only [6, 10, 11, 12] rfl ?_
          refine Rnd.pick [2, 1, 0] rfl rfl ?_
          exact ih_1 _ _ ⟨y6, w64 (x12 + 1), v6_1, S6_1, hE_1, hl_v6_1, rfl, rfl⟩
        · refine Tri.cond (b := t41) rfl (fun g_3 => ?_) (fun g_3 => ?_)
          · replace hE_2 := if_tt g_3 hE_2
            obtain ⟨t46, h46, hE_2⟩ := bind_some hE_2
            obtain ⟨hs50, hE_2⟩ := ck hE_2
            refine Tri.reg (l := [0, 1, 2, 3, 4, 5, 6, 7, 8]) rfl ?_
            refine F.q rfl rfl rfl (wanted_none rfl) (r_move rfl) ?_
            refine F.q rfl rfl rfl (wanted_none rfl) (r_move rfl) ?_
            refine F.q rfl rfl rfl (wanted_none rfl) (r_move rfl) ?_
            refine F.q rfl rfl rfl (wanted_none rfl) (r_indexAddrS Try.underlying38 ti3 rfl hl_v29_2 rfl (rdl_some h46).1 (rdl_some h46).2.1) ?_
            refine F.q rfl rfl rfl (wanted_none rfl) (r_load ta3 rfl (fun w hw => cell_0 (Rd.flat ((rd_sl (i := 0) rfl) w hw) (rdl_some h46).2.2) rfl)) ?_
            refine F.q rfl rfl rfl (wanted_none rfl) (r_quo rfl rfl (by decide)) ?_
            refine F.m rfl rfl rfl (wanted_none rfl) (m_buildF (l := ([quo t46 64] : List (Int))) Try.underlying38 ti3 rfl rfl rfl rfl rfl) ?_
            rintro v49_1 _ ⟨S49_1, hl_v49_1, rfl⟩
            refine F.ef rfl rfl rfl (wanted_none rfl) (d_append (i := 3) Try.underlying38 Try.underlying38 ti3 rfl (by decide) rfl rfl rfl (rd_sl (i := 0) rfl) hs50) ?_
            rintro v50_1 _ ⟨S50_1, rfl, hl_v50_1⟩
            refine F.q rfl rfl rfl (wanted_none rfl) (r_assign rfl) ?_
            refine F.nil ?_
            cases hE_2
            refine Nrm.only [6, 10, 11, 12] rfl ?_
            refine Nrm.pick [3, 2, 1] rfl rfl ?_
            exact hj_1 _ _ ⟨v50_1, S50_1, hl_v50_1, rfl, rfl⟩
          · replace hE_2 := if_ff g_3 hE_2
            refine Tri.skip ?_
            cases hE_2
            refine Nrm.only [6, 10, 11, 12] rfl ?_
            refine Nrm.pick [2, 1, 0] rfl rfl ?_
            exact hj_1 _ _ ⟨w6, T6, hl_w6, rfl, rfl⟩
      · replace hE_1 := if_ff g_2 hE_1
        refine Tri.exit ?_
        refine Exi.then ?_
        refine Exi.then ?_
        refine Exi.same ?_
        cases hE_1
        refine Nrm.seq ?_
        refine Tri.seq ?_
        refine Tri.reg (l := [0, 1, 2]) rfl ?_
        refine F.q rfl rfl rfl (wanted_none rfl) (r_move rfl) ?_
        refine F.q rfl rfl rfl (wanted_none rfl) (r_assign rfl) ?_
        refine F.q rfl rfl rfl (wanted_none rfl) (r_assign rfl) ?_
        refine F.nil ?_
        refine Nrm.seq ?_
        refine Tri.ret ?_
        cases h
        exact Rtn.body (.tmp rfl (.tmp rfl .nil)) (fun w hw => ⟨_, _, rfl, ⟨w6, T6, rfl, hl_w6, rfl⟩, Sep.pick (is := [2]) rfl rfl hw⟩)

end Go.Proofs

/- loop.example/g01158/impl.members -/

namespace Go.Proofs
open Go Go.Ga
set_option linter.unusedVariables false
set_option maxRecDepth 100000
set_option maxHeartbeats 4000000
def impl_members.l0 (k : Nat) (a0 : Int) : Nat → (List (Int)) → Int → Option ((List (Int)))
  | 0, _, _ => none
  | n + 1, x3, x4 => if ¬ x4 < 0 then (if (decide ((shr a0 x4) > 0)) = true then if ¬ x4 < 0 then ((if ((band (shr a0 x4) 1) == 1) = true then if (x3 ++ ([x4] : List (Int))).length < 1099511627776 then some (x3 ++ ([x4] : List (Int))) else none else some x3)).bind fun y3 => impl_members.l0 k a0 n y3 (w64 (x4 + 1)) else none else some x3) else none

def impl_members.f (k : Nat) (a0 : Int) : Option ((List Int)) := (impl_members.l0 k a0 k ([] : List (Int)) 0).bind fun x3 => some x3

theorem impl_members.ok {k : Nat}  {a0 : Int} {r0 : List Int} (h : impl_members.f k a0 = some r0) (w : World) :
    Calls Try.prog 112 ([.int .i64 a0] : List Value).toArray w (Post (fun u ns => ∃ (Sr0 : Nat → Prop), SlLen u r0.length ∧ ns = [R.sl Sr0 u r0]) w) := by
  unfold impl_members.f at h
  refine Calls.of_tri (N := 22) Try.func112 rfl rfl rfl (Sep.nil (M := noM)) ?_
  refine Tri.seq ?_
  refine Tri.reg (l := [0]) rfl ?_
  refine F.q rfl rfl rfl (wanted_none rfl) (r_assign rfl) ?_
  refine F.nil ?_
  refine Nrm.seq ?_
  refine Tri.seq ?_
  refine Tri.reg (l := [0, 1]) rfl ?_
  refine F.m rfl rfl rfl (wanted_none rfl) (m_build0 (α := Int) Try.underlying38 ti3) ?_
  rintro v5_1 _ ⟨S5_1, hl_v5_1, rfl⟩
  refine F.q rfl rfl rfl (wanted_none rfl) (r_assign rfl) ?_
  refine F.nil ?_
  refine Nrm.seq ?_
  refine Tri.seq ?_
  refine Tri.seq ?_
  refine Tri.reg (l := [0]) rfl ?_
  refine F.q rfl rfl rfl (wanted_none rfl) (r_assign rfl) ?_
  refine F.nil ?_
  refine Nrm.seq ?_
  obtain ⟨x3, hE_1, h⟩ := bind_some h
  refine Tri.block ?_
  refine Tri.only [0, 3, 4] rfl ?_
  refine Tri.pick [0] rfl rfl ?_
  refine Tri.rounds (fun n e' C' => ∃ (x3' : List (Int)) (x4' : Int) (w3 : Value) (T3 : Nat → Prop), impl_members.l0 k a0 n x3' x4' = some x3 ∧ SlLen w3 (x3').length ∧ e' = [(0, .int .i64 a0), (3, w3), (4, .int .i64 x4')] ∧ C' = Sep w noM [R.sl T3 w3 (x3' : List (Int))]) k ?_ ?_ ?_
  · exact ⟨([] : List (Int)), 0, v5_1, S5_1, hE_1, hl_v5_1, rfl, rfl⟩
  · rintro _ _ ⟨_, _, _, _, hE_1, _⟩
    rw [impl_members.l0.eq_1] at hE_1; cases hE_1
  · rintro n_1 _ _ ⟨x3, x4, w3, T3, hE_1, hl_w3, rfl, rfl⟩ ih_1
    rw [impl_members.l0.eq_2] at hE_1
    refine Tri.seq ?_
    refine Tri.seq ?_
    obtain ⟨hs8, hE_1⟩ := ck hE_1
    refine Tri.reg (l := [0, 1, 2, 3]) rfl ?_
    refine F.q rfl rfl rfl (wanted_none rfl) (r_move rfl) ?_
    refine F.q rfl rfl rfl (wanted_none rfl) (r_move rfl) ?_
    refine F.q rfl rfl rfl (wanted_none rfl) (r_shr rfl rfl hs8) ?_
    refine F.q rfl rfl rfl (wanted_none rfl) (r_gtr rfl rfl) ?_
    refine F.nil ?_
    refine Nrm.seq ?_
    refine Tri.cond (b := decide ((shr a0 x4) > 0)) rfl (fun g_1 => ?_) (fun g_1 => ?_)
    · replace hE_1 := if_tt g_1 hE_1
      refine Tri.skip ?_
      refine Nrm.seq ?_
      refine Tri.seq ?_
      refine Tri.block ?_
      refine Tri.seq ?_
      obtain ⟨hs14, hE_1⟩ := ck hE_1
      refine Tri.reg (l := [0, 1, 2, 3, 4]) rfl ?_
      refine F.q rfl rfl rfl (wanted_none rfl) (r_move rfl) ?_
      refine F.q rfl rfl rfl (wanted_none rfl) (r_move rfl) ?_
      refine F.q rfl rfl rfl (wanted_none rfl) (r_shr rfl rfl hs14) ?_
      refine F.q rfl rfl rfl (wanted_none rfl) (r_and rfl rfl) ?_
      refine F.q rfl rfl rfl (wanted_none rfl) (r_eql rfl rfl) ?_
      refine F.nil ?_
      refine Nrm.seq ?_
      obtain ⟨y3, hE_2, hE_1⟩ := bind_some hE_1
      refine Tri.cut (fun e' C' => ∃ (v3_1 : Value) (S3_1 : Nat → Prop), SlLen v3_1 (y3).length ∧ e' = [(0, .int .i64 a0), (3, v3_1), (4, .int .i64 x4)] ∧ C' = Sep w noM [R.sl S3_1 v3_1 (y3 : List (Int))]) ?_ (fun hj_1 => ?_)
      · rintro _ _ ⟨v3_1, S3_1, hl_v3_1, rfl, rfl⟩
        refine Nrm.block ?_
        refine Nrm.seq ?_
        refine Tri.reg (l := [0, 1, 2]) rfl ?_
        refine F.q rfl rfl rfl (wanted_none rfl) (r_move rfl) ?_
        refine F.q rfl rfl rfl (wanted_none rfl) (r_add rfl rfl) ?_
        refine F.q rfl rfl rfl (wanted_none rfl) (r_assign rfl) ?_
        refine F.nil ?_
        refine Nrm.round ?_
        refine Rnd.only [0, 3, 4] rfl ?_
        refine Rnd.pick [0] rfl rfl ?_
        exact ih_1 _ _ ⟨y3, w64 (x4 + 1), v3_1, S3_1, hE_1, hl_v3_1, rfl, rfl⟩
      · refine Tri.cond (b := (band (shr a0 x4) 1) == 1) rfl (fun g_2 => ?_) (fun g_2 => ?_)
        · replace hE_2 := if_tt g_2 hE_2
          obtain ⟨hs20, hE_2⟩ := ck hE_2
          refine Tri.reg (l := [0, 1, 2, 3, 4]) rfl ?_
          refine F.q rfl rfl rfl (wanted_none rfl) (r_move rfl) ?_
          refine F.q rfl rfl rfl (wanted_none rfl) (r_move rfl) ?_
          refine F.m rfl rfl rfl (wanted_none rfl) (m_buildF (l := ([x4] : List (Int))) Try.underlying38 ti3 rfl rfl rfl rfl rfl) ?_
          rintro v19_1 _ ⟨S19_1, hl_v19_1, rfl⟩
          refine F.ef rfl rfl rfl (wanted_none rfl) (d_append (i := 1) Try.underlying38 Try.underlying38 ti3 rfl (by decide) rfl rfl rfl (rd_sl (i := 0) rfl) hs20) ?_
          rintro v20_1 _ ⟨S20_1, rfl, hl_v20_1⟩
          refine F.q rfl rfl rfl (wanted_none rfl) (r_assign rfl) ?_
          refine F.nil ?_
          cases hE_2
          refine Nrm.only [0, 3, 4] rfl ?_
          refine Nrm.pick [1] rfl rfl ?_
          exact hj_1 _ _ ⟨v20_1, S20_1, hl_v20_1, rfl, rfl⟩
        · replace hE_2 := if_ff g_2 hE_2
          refine Tri.skip ?_
          cases hE_2
          refine Nrm.only [0, 3, 4] rfl ?_
          refine Nrm.pick [0] rfl rfl ?_
          exact hj_1 _ _ ⟨w3, T3, hl_w3, rfl, rfl⟩
    · replace hE_1 := if_ff g_1 hE_1
      refine Tri.exit ?_
      refine Exi.then ?_
      refine Exi.then ?_
      refine Exi.same ?_
      cases hE_1
      refine Nrm.seq ?_
      refine Tri.seq ?_
      refine Tri.reg (l := [0, 1]) rfl ?_
      refine F.q rfl rfl rfl (wanted_none rfl) (r_move rfl) ?_
      refine F.q rfl rfl rfl (wanted_none rfl) (r_assign rfl) ?_
      refine F.nil ?_
      refine Nrm.seq ?_
      refine Tri.ret ?_
      cases h
      exact Rtn.body (.tmp rfl .nil) (fun w hw => ⟨_, _, rfl, ⟨T3, hl_w3, rfl⟩, Sep.pick (is := [0]) rfl rfl hw⟩)

end Go.Proofs

/- loop.example/g01158/impl.has -/

namespace Go.Proofs
open Go Go.Ga
set_option linter.unusedVariables false
set_option maxRecDepth 100000
set_option maxHeartbeats 4000000
def impl_has.f (k : Nat) (a0 : Int) (a1 : Int) : Option (Bool) := some ((bclr a1 a0) == 0)

theorem impl_has.ok {k : Nat}  {a0 : Int} {a1 : Int} {r0 : Bool} (h : impl_has.f k a0 a1 = some r0) (w : World) :
    Calls Try.prog 154 ([.int .i64 a0, .int .i64 a1] : List Value).toArray w (fun e w' => e = .returned (.bool r0) ∧ Ext w w') := by
  unfold impl_has.f at h
  refine Calls.of_tri (N := 9) Try.func154 rfl rfl rfl (Sep.nil (M := noM)) ?_
  refine Tri.seq ?_
  refine Tri.reg (l := [0]) rfl ?_
  refine F.q rfl rfl rfl (wanted_none rfl) (r_assign rfl) ?_
  refine F.nil ?_
  refine Nrm.seq ?_
  refine Tri.seq ?_
  refine Tri.reg (l := [0, 1, 2, 3, 4]) rfl ?_
  refine F.q rfl rfl rfl (wanted_none rfl) (r_move rfl) ?_
  refine F.q rfl rfl rfl (wanted_none rfl) (r_move rfl) ?_
  refine F.q rfl rfl rfl (wanted_none rfl) (r_andNot rfl rfl) ?_
  refine F.q rfl rfl rfl (wanted_none rfl) (r_eql rfl rfl) ?_
  refine F.q rfl rfl rfl (wanted_none rfl) (r_assign rfl) ?_
  refine F.nil ?_
  refine Nrm.seq ?_
  refine Tri.ret ?_
  cases h
  exact Rtn.body (.tmp rfl .nil) (fun w hw => ⟨rfl, hw.ext⟩)

end Go.Proofs

/- slices.Index[[]int,int] -/

namespace Go.Proofs
open Go Go.Ga
set_option linter.unusedVariables false
set_option maxRecDepth 100000
set_option maxHeartbeats 4000000
def slices_Index_int_int.l0 (k : Nat) (a0 : List Int) (a1 : Int) : Nat → Int → Option ((Unit) ⊕ (Int))
  | 0, _ => none
  | n + 1, x8 => (if (decide (x8 < (a0.length : Int))) = true then (rdl a0 x8).bind fun t14 => (if (a1 == t14) = true then some (Sum.inr x8) else slices_Index_int_int.l0 k a0 a1 n (w64 (x8 + 1))) else some (Sum.inl ()))

def slices_Index_int_int.f (k : Nat) (a0 : List Int) (a1 : Int) : Option (Int) := (slices_Index_int_int.l0 k a0 a1 k 0).bind fun s => Lr s some fun _ => some (-1)

theorem slices_Index_int_int.ok {k : Nat}  {a0 : List Int} {a1 : Int} {r0 : Int} (h : slices_Index_int_int.f k a0 a1 = some r0) (w : World) {va0 : Value} (hr_a0 : Rd w va0 a0) :
    Calls Try.prog 78 ([va0, .int .i64 a1] : List Value).toArray w (fun e w' => e = .returned (.int .i64 r0) ∧ Ext w w') := by
  unfold slices_Index_int_int.f at h
  have hl_va0 := hr_a0.len
  refine Calls.of_tri (N := 19) Try.func78 rfl rfl rfl (Sep.nil (M := noM)) ?_
  refine Tri.seq ?_
  refine Tri.reg (l := [0]) rfl ?_
  refine F.q rfl rfl rfl (wanted_none rfl) (r_assign rfl) ?_
  refine F.nil ?_
  refine Nrm.seq ?_
  refine Tri.seq ?_
  refine Tri.seq ?_
  refine Tri.reg (l := [0, 1, 2]) rfl ?_
  refine F.q rfl rfl rfl (wanted_none rfl) (r_move rfl) ?_
  refine F.q rfl rfl rfl (wanted_none rfl) (r_len Try.underlying38 rfl hl_va0) ?_
  refine F.q rfl rfl rfl (wanted_none rfl) (r_move rfl) ?_
  refine F.nil ?_
  refine Nrm.seq ?_
  obtain ⟨s0, hE_1, h⟩ := bind_some h
  refine Tri.block ?_
  refine Tri.only [0, 1, 7, 8] rfl ?_
  refine Tri.pick [] rfl rfl ?_
  refine Tri.rounds (fun n e' C' => ∃ (x8' : Int), slices_Index_int_int.l0 k a0 a1 n x8' = some s0 ∧ e' = [(0, va0), (1, .int .i64 a1), (7, .int .i64 (a0.length : Int)), (8, .int .i64 x8')] ∧ C' = Sep w noM []) k ?_ ?_ ?_
  · exact ⟨0, hE_1, rfl, rfl⟩
  · rintro _ _ ⟨_, hE_1, _⟩
    rw [slices_Index_int_int.l0.eq_1] at hE_1; cases hE_1
  · rintro n_1 _ _ ⟨x8, hE_1, rfl, rfl⟩ ih_1
    rw [slices_Index_int_int.l0.eq_2] at hE_1
    refine Tri.seq ?_
    refine Tri.reg (l := [0]) rfl ?_
    refine F.q rfl rfl rfl (wanted_none rfl) (r_lss rfl rfl) ?_
    refine F.nil ?_
    refine Nrm.seq ?_
    refine Tri.seq ?_
    refine Tri.cond (b := decide (x8 < (a0.length : Int))) rfl (fun g_1 => ?_) (fun g_1 => ?_)
    · replace hE_1 := if_tt g_1 hE_1
      refine Tri.skip ?_
      refine Nrm.seq ?_
      refine Tri.seq ?_
      refine Tri.block ?_
      refine Tri.seq ?_
      refine Tri.reg (l := [0, 1]) rfl ?_
      refine F.q rfl rfl rfl (wanted_none rfl) (r_move rfl) ?_
      refine F.q rfl rfl rfl (wanted_none rfl) (r_assign rfl) ?_
      refine F.nil ?_
      refine Nrm.seq ?_
      refine Tri.seq ?_
      obtain ⟨t14, h14, hE_1⟩ := bind_some hE_1
      refine Tri.reg (l := [0, 1, 2, 3, 4, 5]) rfl ?_
      refine F.q rfl rfl rfl (wanted_none rfl) (r_move rfl) ?_
      refine F.q rfl rfl rfl (wanted_none rfl) (r_move rfl) ?_
      refine F.q rfl rfl rfl (wanted_none rfl) (r_move rfl) ?_
      refine F.q rfl rfl rfl (wanted_none rfl) (r_indexAddrS Try.underlying38 ti3 rfl hl_va0 rfl (rdl_some h14).1 (rdl_some h14).2.1) ?_
      refine F.q rfl rfl rfl (wanted_none rfl) (r_load ta3 rfl (fun w hw => cell_0 (Rd.flat ((fun _ hw => hr_a0.sep hw) w hw) (rdl_some h14).2.2) rfl)) ?_
      refine F.q rfl rfl rfl (wanted_none rfl) (r_eql rfl rfl) ?_
      refine F.nil ?_
      refine Nrm.seq ?_
      refine Tri.cond (b := a1 == t14) rfl (fun g_2 => ?_) (fun g_2 => ?_)
      · replace hE_1 := if_tt g_2 hE_1
        refine Tri.seq ?_
        refine Tri.reg (l := [0, 1]) rfl ?_
        refine F.q rfl rfl rfl (wanted_none rfl) (r_move rfl) ?_
        refine F.q rfl rfl rfl (wanted_none rfl) (r_assign rfl) ?_
        refine F.nil ?_
        refine Nrm.seq ?_
        refine Tri.ret ?_
        refine Rtn.block ?_
        refine Rtn.then ?_
        refine Rtn.then ?_
        refine Rtn.block ?_
        refine Rtn.then ?_
        cases hE_1
        replace h := Lr_inr h
        cases h
        exact Rtn.body (.tmp rfl .nil) (fun w hw => ⟨rfl, hw.ext⟩)
      · replace hE_1 := if_ff g_2 hE_1
        refine Tri.skip ?_
        refine Nrm.block ?_
        refine Nrm.seq ?_
        refine Tri.reg (l := [0, 1]) rfl ?_
        refine F.q rfl rfl rfl (wanted_none rfl) (r_add rfl rfl) ?_
        refine F.q rfl rfl rfl (wanted_none rfl) (r_move rfl) ?_
        refine F.nil ?_
        refine Nrm.round ?_
        refine Rnd.only [0, 1, 7, 8] rfl ?_
        refine Rnd.pick [] rfl rfl ?_
        exact ih_1 _ _ ⟨w64 (x8 + 1), hE_1, rfl, rfl⟩
    · replace hE_1 := if_ff g_1 hE_1
      refine Tri.exit ?_
      refine Exi.then ?_
      refine Exi.then ?_
      refine Exi.same ?_
      cases hE_1
      replace h := Lr_inl h
      refine Nrm.seq ?_
      refine Tri.seq ?_
      refine Tri.reg (l := [0]) rfl ?_
      refine F.q rfl rfl rfl (wanted_none rfl) (r_assign rfl) ?_
      refine F.nil ?_
      refine Nrm.seq ?_
      refine Tri.ret ?_
      cases h
      exact Rtn.body (.tmp rfl .nil) (fun w hw => ⟨rfl, hw.ext⟩)

end Go.Proofs

/- slices.Contains[[]int,int] -/
namespace Go.Proofs
open Go Go.Ga
set_option linter.unusedVariables false
set_option maxRecDepth 100000
set_option maxHeartbeats 4000000
def slices_Contains_int_int.f (k : Nat) (a0 : List Int) (a1 : Int) : Option (Bool) := (slices_Index_int_int.f k a0 a1).bind fun t7 => some (decide (t7 ≥ 0))

theorem slices_Contains_int_int.ok {k : Nat}  {a0 : List Int} {a1 : Int} {r0 : Bool} (h : slices_Contains_int_int.f k a0 a1 = some r0) (w : World) {va0 : Value} (hr_a0 : Rd w va0 a0) :
    Calls Try.prog 155 ([va0, .int .i64 a1] : List Value).toArray w (fun e w' => e = .returned (.bool r0) ∧ Ext w w') := by
  unfold slices_Contains_int_int.f at h
  have hl_va0 := hr_a0.len
  refine Calls.of_tri (N := 9) Try.func155 rfl rfl rfl (Sep.nil (M := noM)) ?_
  refine Tri.seq ?_
  refine Tri.reg (l := [0]) rfl ?_
  refine F.q rfl rfl rfl (wanted_none rfl) (r_assign rfl) ?_
  refine F.nil ?_
  refine Nrm.seq ?_
  refine Tri.seq ?_
  obtain ⟨t7, h7, h⟩ := bind_some h
  refine Tri.reg (l := [0, 1, 2, 3, 4]) rfl ?_
  refine F.q rfl rfl rfl (wanted_none rfl) (r_move rfl) ?_
  refine F.q rfl rfl rfl (wanted_none rfl) (r_move rfl) ?_
  refine F.qc rfl rfl rfl (wanted_none rfl) (q_callF (xs := _) rfl ok78 rfl rfl (fun w hw => slices_Index_int_int.ok h7 w ((fun _ hw => hr_a0.sep hw) w hw))) ?_
  refine F.q rfl rfl rfl (wanted_none rfl) (r_geq rfl rfl) ?_
  refine F.q rfl rfl rfl (wanted_none rfl) (r_assign rfl) ?_
  refine F.nil ?_
  refine Nrm.seq ?_
  refine Tri.ret ?_
  cases h
  exact Rtn.body (.tmp rfl .nil) (fun w hw => ⟨rfl, hw.ext⟩)

end Go.Proofs

/- loop.example/g01158/impl.trapSteps -/
namespace Go.Proofs
open Go Go.Ga
set_option linter.unusedVariables false
set_option maxRecDepth 100000
set_option maxHeartbeats 4000000
def impl_trapSteps.l0 (k : Nat) (a0_1 : List (Int × Int × Int)) (a0_3 : List Int) (a1 : Int) (a2 : Int) : Nat → Int → Int → Option (Int)
  | 0, _, _ => none
  | n + 1, x7, x14 => (if (decide (x14 < (a0_1.length : Int))) = true then ((rdl a0_1 x14).bind fun t17 => (impl_has.f k a2 t17.2.2).bind fun t22 => (if (!t22) = true then some x7 else ((if (t17.1 == a1) = true then if ¬ t17.2.1 < 0 then some (bor x7 (shl 1 t17.2.1)) else none else some x7)).bind fun y7 => ((if (t17.2.1 == a1) = true then (slices_Contains_int_int.f k a0_3 x14).bind fun t41 => some (!t41) else some false)).bind fun y43 => ((if y43 = true then if ¬ t17.1 < 0 then some (bor y7 (shl 1 t17.1)) else none else some y7)).bind fun y7r => some y7r)).bind fun y7 => impl_trapSteps.l0 k a0_1 a0_3 a1 a2 n y7 (w64 (x14 + 1)) else some x7)

def impl_trapSteps.f (k : Nat) (a0_0 : Int) (a0_1 : List (Int × Int × Int)) (a0_2 : List Int) (a0_3 : List Int) (a1 : Int) (a2 : Int) : Option (Int) := (impl_trapSteps.l0 k a0_1 a0_3 a1 a2 k 0 0).bind fun x7 => some x7

theorem impl_trapSteps.ok {k : Nat}  {a0_0 : Int} {a0_1 : List (Int × Int × Int)} {a0_2 : List Int} {a0_3 : List Int} {a1 : Int} {a2 : Int} {r0 : Int} (h : impl_trapSteps.f k a0_0 a0_1 a0_2 a0_3 a1 a2 = some r0) (w : World) {va0_1 : Value} {va0_2 : Value} {va0_3 : Value} (hr_a0_1 : Rd w va0_1 a0_1) (hr_a0_2 : Rd w va0_2 a0_2) (hr_a0_3 : Rd w va0_3 a0_3) :
    Calls Try.prog 113 ([.agg ([.int .i64 a0_0, va0_1, va0_2, va0_3].toArray), .int .i64 a1, .int .i64 a2] : List Value).toArray w (fun e w' => e = .returned (.int .i64 r0) ∧ Ext w w') := by
  unfold impl_trapSteps.f at h
  have hl_va0_1 := hr_a0_1.len
  have hl_va0_2 := hr_a0_2.len
  have hl_va0_3 := hr_a0_3.len
  refine Calls.of_tri (N := 51) Try.func113 rfl rfl rfl (Sep.nil (M := noM)) ?_
  refine Tri.seq ?_
  refine Tri.reg (l := [0, 1]) rfl ?_
  refine F.m rfl rfl rfl (wanted_none rfl) (m_boxG rfl rfl) ?_
  rintro _ _ ⟨b3_1, rfl, rfl⟩
  refine F.q rfl rfl rfl (wanted_none rfl) (r_assign rfl) ?_
  refine F.nil ?_
  refine Nrm.seq ?_
  refine Tri.seq ?_
  refine Tri.reg (l := [0]) rfl ?_
  refine F.q rfl rfl rfl (wanted_none rfl) (r_assign rfl) ?_
  refine F.nil ?_
  refine Nrm.seq ?_
  refine Tri.seq ?_
  refine Tri.seq ?_
  refine Tri.reg (l := [0, 1, 2, 3, 4]) rfl ?_
  refine F.q rfl rfl rfl (wanted_none rfl) (r_fieldAddr tf57_0 rfl) ?_
  refine F.q rfl rfl rfl (wanted_none rfl) (r_fieldAddr tf55_1 rfl) ?_
  refine F.q rfl rfl rfl (wanted_none rfl) (r_load ta49 rfl (fun w hw => cell_2 (box_cells (i := 0) rfl w hw) rfl)) ?_
  refine F.q rfl rfl rfl (wanted_none rfl) (r_len Try.underlying49 rfl hl_va0_1) ?_
  refine F.q rfl rfl rfl (wanted_none rfl) (r_move rfl) ?_
  refine F.nil ?_
  refine Nrm.seq ?_
  obtain ⟨x7, hE_1, h⟩ := bind_some h
  refine Tri.block ?_
  refine Tri.only [1, 2, 3, 7, 12, 13, 14] rfl ?_
  refine Tri.pick [0] rfl rfl ?_
  refine Tri.rounds (fun n e' C' => ∃ (x7' : Int) (x14' : Int), impl_trapSteps.l0 k a0_1 a0_3 a1 a2 n x7' x14' = some x7 ∧ e' = [(1, .int .i64 a1), (2, .int .i64 a2), (3, .pointer (some ⟨b3_1, 0, none⟩)), (7, .int .i64 x7'), (12, va0_1), (13, .int .i64 (a0_1.length : Int)), (14, .int .i64 x14')] ∧ C' = Sep w noM [R.box b3_1 57 [.int .i64 a0_0, va0_1, va0_2, va0_3]]) k ?_ ?_ ?_
  · exact ⟨0, 0, hE_1, rfl, rfl⟩
  · rintro _ _ ⟨_, _, hE_1, _⟩
    rw [impl_trapSteps.l0.eq_1] at hE_1; cases hE_1
  · rintro n_1 _ _ ⟨x7, x14, hE_1, rfl, rfl⟩ ih_1
    rw [impl_trapSteps.l0.eq_2] at hE_1
    refine Tri.seq ?_
    refine Tri.reg (l := [0]) rfl ?_
    refine F.q rfl rfl rfl (wanted_none rfl) (r_lss rfl rfl) ?_
    refine F.nil ?_
    refine Nrm.seq ?_
    refine Tri.seq ?_
    refine Tri.cond (b := decide (x14 < (a0_1.length : Int))) rfl (fun g_1 => ?_) (fun g_1 => ?_)
    · replace hE_1 := if_tt g_1 hE_1
      refine Tri.skip ?_
      refine Nrm.seq ?_
      refine Tri.seq ?_
      obtain ⟨y7, hE_2, hE_1⟩ := bind_some hE_1
      refine Tri.cut (fun e' C' => e' = [(1, .int .i64 a1), (2, .int .i64 a2), (3, .pointer (some ⟨b3_1, 0, none⟩)), (7, .int .i64 y7), (12, va0_1), (13, .int .i64 (a0_1.length : Int)), (14, .int .i64 x14)] ∧ C' = Sep w noM [R.box b3_1 57 [.int .i64 a0_0, va0_1, va0_2, va0_3]]) ?_ (fun hj_1 => ?_)
      · rintro _ _ ⟨rfl, rfl⟩
        refine Nrm.seq ?_
        refine Tri.reg (l := [0, 1]) rfl ?_
        refine F.q rfl rfl rfl (wanted_none rfl) (r_add rfl rfl) ?_
        refine F.q rfl rfl rfl (wanted_none rfl) (r_move rfl) ?_
        refine F.nil ?_
        refine Nrm.round ?_
        refine Rnd.only [1, 2, 3, 7, 12, 13, 14] rfl ?_
        refine Rnd.pick [0] rfl rfl ?_
        exact ih_1 _ _ ⟨y7, w64 (x14 + 1), hE_1, rfl, rfl⟩
      · refine Tri.block ?_
        refine Tri.seq ?_
        obtain ⟨t17, h17, hE_2⟩ := bind_some hE_2
        refine Tri.reg (l := [0, 1, 2, 3, 4, 5]) rfl ?_
        refine F.q rfl rfl rfl (wanted_none rfl) (r_move rfl) ?_
        refine F.q rfl rfl rfl (wanted_none rfl) (r_indexAddrS Try.underlying49 ti140 rfl hl_va0_1 rfl (rdl_some h17).1 (rdl_some h17).2.1) ?_
        refine F.q rfl rfl rfl (wanted_none rfl) (r_loadA ta140 ti140 rfl rfl (fun w hw => (Rd.flat ((fun _ hw => hr_a0_1.sep hw) w hw) (rdl_some h17).2.2))) ?_
        refine F.m rfl rfl rfl (wanted_none rfl) (m_alloc ti140) ?_
        rintro _ _ ⟨b9_1, rfl, rfl⟩
        refine F.q rfl rfl rfl (wanted_none rfl) (r_assign rfl) ?_
        refine F.ef0 rfl rfl (wanted_none rfl) (d_storeG0 (i := 0) (cs2 := [.int .i64 t17.1, .int .i64 t17.2.1, .int .i64 t17.2.2]) ti140 rfl rfl rfl rfl rfl (Nat.le_of_ble_eq_true rfl) (lf_cons rfl (lf_cons rfl (lf_cons rfl lf_nil)))) ?_
        rintro _ _ ⟨rfl, rfl⟩
        refine F.nil ?_
        refine Nrm.seq ?_
        refine Tri.seq ?_
        refine Tri.seq ?_
        obtain ⟨t22, h22, hE_2⟩ := bind_some hE_2
        refine Tri.reg (l := [0, 1, 2, 3, 4]) rfl ?_
        refine F.q rfl rfl rfl (wanted_none rfl) (r_move rfl) ?_
        refine F.q rfl rfl rfl (wanted_none rfl) (r_indexAddrA Try.underlying140 ti3 rfl rfl (by decide) (by decide)) ?_
        refine F.q rfl rfl rfl (wanted_none rfl) (r_load ta3 rfl (fun w hw => cell_1 (box_cells (i := 0) rfl w hw) rfl)) ?_
        refine F.qc rfl rfl rfl (wanted_none rfl) (q_callF (xs := _) rfl ok154 rfl rfl (fun w hw => impl_has.ok h22 w )) ?_
        refine F.q rfl rfl rfl (wanted_none rfl) (r_not rfl) ?_
        refine F.nil ?_
        refine Nrm.seq ?_
        refine Tri.cond (b := !t22) rfl (fun g_2 => ?_) (fun g_2 => ?_)
        · replace hE_2 := if_tt g_2 hE_2
          refine Tri.exit ?_
          refine Exi.then ?_
          refine Exi.same ?_
          cases hE_2
          refine Nrm.only [1, 2, 3, 7, 12, 13, 14] rfl ?_
          refine Nrm.pick [1] rfl rfl ?_
          exact hj_1 _ _ ⟨rfl, rfl⟩
        · replace hE_2 := if_ff g_2 hE_2
          refine Tri.skip ?_
          refine Nrm.seq ?_
          refine Tri.seq ?_
          refine Tri.seq ?_
          refine Tri.reg (l := [0, 1, 2, 3]) rfl ?_
          refine F.q rfl rfl rfl (wanted_none rfl) (r_indexAddrA Try.underlying140 ti3 rfl rfl (by decide) (by decide)) ?_
          refine F.q rfl rfl rfl (wanted_none rfl) (r_load ta3 rfl (fun w hw => cell_1 (box_cells (i := 0) rfl w hw) rfl)) ?_
          refine F.q rfl rfl rfl (wanted_none rfl) (r_move rfl) ?_
          refine F.q rfl rfl rfl (wanted_none rfl) (r_eql rfl rfl) ?_
          refine F.nil ?_
          refine Nrm.seq ?_
          obtain ⟨y7, hE_3, hE_2⟩ := bind_some hE_2
          refine Tri.cut (fun e' C' => e' = [(1, .int .i64 a1), (2, .int .i64 a2), (3, .pointer (some ⟨b3_1, 0, none⟩)), (7, .int .i64 y7), (8, .int .i64 x14), (9, .pointer (some ⟨b9_1, 0, none⟩)), (12, va0_1), (13, .int .i64 (a0_1.length : Int)), (14, .int .i64 x14)] ∧ C' = Sep w noM [R.box b9_1 140 [.int .i64 t17.1, .int .i64 t17.2.1, .int .i64 t17.2.2], R.box b3_1 57 [.int .i64 a0_0, va0_1, va0_2, va0_3]]) ?_ (fun hj_2 => ?_)
          · rintro _ _ ⟨rfl, rfl⟩
            refine Nrm.seq ?_
            refine Tri.seq ?_
            obtain ⟨y43, hE_4, hE_2⟩ := bind_some hE_2
            refine Tri.cut (fun e' C' => e' = [(1, .int .i64 a1), (2, .int .i64 a2), (3, .pointer (some ⟨b3_1, 0, none⟩)), (7, .int .i64 y7), (9, .pointer (some ⟨b9_1, 0, none⟩)), (12, va0_1), (13, .int .i64 (a0_1.length : Int)), (14, .int .i64 x14), (43, .bool y43)] ∧ C' = Sep w noM [R.box b9_1 140 [.int .i64 t17.1, .int .i64 t17.2.1, .int .i64 t17.2.2], R.box b3_1 57 [.int .i64 a0_0, va0_1, va0_2, va0_3]]) ?_ (fun hj_3 => ?_)
            · rintro _ _ ⟨rfl, rfl⟩
              refine Nrm.seq ?_
              obtain ⟨y7r, hE_5, hE_2⟩ := bind_some hE_2
              refine Tri.cut (fun e' C' => e' = [(1, .int .i64 a1), (2, .int .i64 a2), (3, .pointer (some ⟨b3_1, 0, none⟩)), (7, .int .i64 y7r), (12, va0_1), (13, .int .i64 (a0_1.length : Int)), (14, .int .i64 x14)] ∧ C' = Sep w noM [R.box b3_1 57 [.int .i64 a0_0, va0_1, va0_2, va0_3]]) ?_ (fun hj_4 => ?_)
              · rintro _ _ ⟨rfl, rfl⟩
                refine Nrm.block ?_
                cases hE_2
                refine Nrm.only [1, 2, 3, 7, 12, 13, 14] rfl ?_
                refine Nrm.pick [0] rfl rfl ?_
                exact hj_1 _ _ ⟨rfl, rfl⟩
              · refine Tri.cond (b := y43) rfl (fun g_4 => ?_) (fun g_4 => ?_)
                · replace hE_5 := if_tt g_4 hE_5
                  obtain ⟨hs47, hE_5⟩ := ck hE_5
                  refine Tri.reg (l := [0, 1, 2, 3, 4, 5]) rfl ?_
                  refine F.q rfl rfl rfl (wanted_none rfl) (r_move rfl) ?_
                  refine F.q rfl rfl rfl (wanted_none rfl) (r_indexAddrA Try.underlying140 ti3 rfl rfl (by decide) (by decide)) ?_
                  refine F.q rfl rfl rfl (wanted_none rfl) (r_load ta3 rfl (fun w hw => cell_1 (box_cells (i := 0) rfl w hw) rfl)) ?_
                  refine F.q rfl rfl rfl (wanted_none rfl) (r_shl rfl rfl hs47) ?_
                  refine F.q rfl rfl rfl (wanted_none rfl) (r_or rfl rfl) ?_
                  refine F.q rfl rfl rfl (wanted_none rfl) (r_assign rfl) ?_
                  refine F.nil ?_
                  cases hE_5
                  refine Nrm.only [1, 2, 3, 7, 12, 13, 14] rfl ?_
                  refine Nrm.pick [1] rfl rfl ?_
                  exact hj_4 _ _ ⟨rfl, rfl⟩
                · replace hE_5 := if_ff g_4 hE_5
                  refine Tri.skip ?_
                  cases hE_5
                  refine Nrm.only [1, 2, 3, 7, 12, 13, 14] rfl ?_
                  refine Nrm.pick [1] rfl rfl ?_
                  exact hj_4 _ _ ⟨rfl, rfl⟩
            · rcases Bool.eq_false_or_eq_true (t17.2.1 == a1) with g37 | g37
              · replace hE_4 := if_tt g37 hE_4
                obtain ⟨t41, h41, hE_4⟩ := bind_some hE_4
                refine Tri.reg (l := [0, 1, 2, 3, 4, 5, 6, 7, 8, 9, 10]) rfl ?_
                refine F.q rfl rfl rfl (wanted_none rfl) (r_indexAddrA Try.underlying140 ti3 rfl rfl (by decide) (by decide)) ?_
                refine F.q rfl rfl rfl (wanted_none rfl) (r_load ta3 rfl (fun w hw => cell_1 (box_cells (i := 0) rfl w hw) rfl)) ?_
                refine F.q rfl rfl rfl (wanted_none rfl) (r_move rfl) ?_
                refine F.q rfl rfl rfl (wanted_none rfl) (r_eql rfl rfl) ?_
                refine F.q rfl rfl rfl (wanted_none rfl) (r_move rfl) ?_
                refine F.q rfl rfl rfl (wg rfl rfl rfl g37) (r_fieldAddr tf57_1 rfl) ?_
                refine F.q rfl rfl rfl (wg rfl rfl rfl g37) (r_load ta38 rfl (fun w hw => cell_1 (box_cells (i := 1) rfl w hw) rfl)) ?_
                refine F.q rfl rfl rfl (wg rfl rfl rfl g37) (r_move rfl) ?_
                refine F.qc rfl rfl rfl (wg rfl rfl rfl g37) (q_callF (xs := _) rfl ok155 rfl rfl (fun w hw => slices_Contains_int_int.ok h41 w ((fun _ hw => hr_a0_3.sep hw) w hw))) ?_
                refine F.q rfl rfl rfl (wg rfl rfl rfl g37) (r_not rfl) ?_
                refine F.q rfl rfl rfl (wanted_none rfl) (r_pick rfl rfl g37) ?_
                refine F.nil ?_
                cases hE_4
                refine Nrm.only [1, 2, 3, 7, 9, 12, 13, 14, 43] rfl ?_
                refine Nrm.pick [0, 1] rfl rfl ?_
                exact hj_3 _ _ ⟨rfl, rfl⟩
              · replace hE_4 := if_ff g37 hE_4
                refine Tri.reg (l := [0, 1, 2, 3, 4, 5, 6, 7, 8, 9, 10]) rfl ?_
                refine F.q rfl rfl rfl (wanted_none rfl) (r_indexAddrA Try.underlying140 ti3 rfl rfl (by decide) (by decide)) ?_
                refine F.q rfl rfl rfl (wanted_none rfl) (r_load ta3 rfl (fun w hw => cell_1 (box_cells (i := 0) rfl w hw) rfl)) ?_
                refine F.q rfl rfl rfl (wanted_none rfl) (r_move rfl) ?_
                refine F.q rfl rfl rfl (wanted_none rfl) (r_eql rfl rfl) ?_
                refine F.q rfl rfl rfl (wanted_none rfl) (r_move rfl) ?_
                refine F.sk rfl rfl rfl (wf rfl rfl rfl g37) ?_
                refine F.sk rfl rfl rfl (wf rfl rfl rfl g37) ?_
                refine F.sk rfl rfl rfl (wf rfl rfl rfl g37) ?_
                refine F.sk rfl rfl rfl (wf rfl rfl rfl g37) ?_
                refine F.sk rfl rfl rfl (wf rfl rfl rfl g37) ?_
                refine F.q rfl rfl rfl (wanted_none rfl) (r_pickf rfl rfl g37) ?_
                refine F.nil ?_
                cases hE_4
                refine Nrm.only [1, 2, 3, 7, 9, 12, 13, 14, 43] rfl ?_
                refine Nrm.pick [0, 1] rfl rfl ?_
                exact hj_3 _ _ ⟨rfl, rfl⟩
          · refine Tri.cond (b := t17.1 == a1) rfl (fun g_3 => ?_) (fun g_3 => ?_)
            · replace hE_3 := if_tt g_3 hE_3
              obtain ⟨hs31, hE_3⟩ := ck hE_3
              refine Tri.reg (l := [0, 1, 2, 3, 4, 5]) rfl ?_
              refine F.q rfl rfl rfl (wanted_none rfl) (r_move rfl) ?_
              refine F.q rfl rfl rfl (wanted_none rfl) (r_indexAddrA Try.underlying140 ti3 rfl rfl (by decide) (by decide)) ?_
              refine F.q rfl rfl rfl (wanted_none rfl) (r_load ta3 rfl (fun w hw => cell_1 (box_cells (i := 0) rfl w hw) rfl)) ?_
              refine F.q rfl rfl rfl (wanted_none rfl) (r_shl rfl rfl hs31) ?_
              refine F.q rfl rfl rfl (wanted_none rfl) (r_or rfl rfl) ?_
              refine F.q rfl rfl rfl (wanted_none rfl) (r_assign rfl) ?_
              refine F.nil ?_
              cases hE_3
              refine Nrm.only [1, 2, 3, 7, 8, 9, 12, 13, 14] rfl ?_
              refine Nrm.pick [0, 1] rfl rfl ?_
              exact hj_2 _ _ ⟨rfl, rfl⟩
            · replace hE_3 := if_ff g_3 hE_3
              refine Tri.skip ?_
              cases hE_3
              refine Nrm.only [1, 2, 3, 7, 8, 9, 12, 13, 14] rfl ?_
              refine Nrm.pick [0, 1] rfl rfl ?_
              exact hj_2 _ _ ⟨rfl, rfl⟩
    · replace hE_1 := if_ff g_1 hE_1
      refine Tri.exit ?_
      refine Exi.then ?_
      refine Exi.then ?_
      refine Exi.same ?_
      cases hE_1
      refine Nrm.seq ?_
      refine Tri.seq ?_
      refine Tri.reg (l := [0, 1]) rfl ?_
      refine F.q rfl rfl rfl (wanted_none rfl) (r_move rfl) ?_
      refine F.q rfl rfl rfl (wanted_none rfl) (r_assign rfl) ?_
      refine F.nil ?_
      refine Nrm.seq ?_
      refine Tri.ret ?_
      cases h
      exact Rtn.body (.tmp rfl .nil) (fun w hw => ⟨rfl, hw.ext⟩)

end Go.Proofs

/- loop.example/g01158/impl.better -/

namespace Go.Proofs
open Go Go.Ga
set_option linter.unusedVariables false
set_option maxRecDepth 100000
set_option maxHeartbeats 4000000
def impl_better.f (k : Nat) (a0 : Int) (a1 : Int) : Option (Bool) := ((if (decide (a0 ≥ 0)) = true then (if (decide (a1 < 0)) = true then some true else some (decide (a0 < a1))) else some false)).bind fun y4 => some y4

theorem impl_better.ok {k : Nat}  {a0 : Int} {a1 : Int} {r0 : Bool} (h : impl_better.f k a0 a1 = some r0) (w : World) :
    Calls Try.prog 170 ([.int .i64 a0, .int .i64 a1] : List Value).toArray w (fun e w' => e = .returned (.bool r0) ∧ Ext w w') := by
  unfold impl_better.f at h
  refine Calls.of_tri (N := 16) Try.func170 rfl rfl rfl (Sep.nil (M := noM)) ?_
  refine Tri.seq ?_
  refine Tri.reg (l := [0]) rfl ?_
  refine F.q rfl rfl rfl (wanted_none rfl) (r_assign rfl) ?_
  refine F.nil ?_
  refine Nrm.seq ?_
  refine Tri.seq ?_
  obtain ⟨y4, hE_1, h⟩ := bind_some h
  refine Tri.cut (fun e' C' => e' = [(4, .bool y4)] ∧ C' = Sep w noM []) ?_ (fun hj_1 => ?_)
  · rintro _ _ ⟨rfl, rfl⟩
    refine Nrm.seq ?_
    refine Tri.ret ?_
    cases h
    exact Rtn.body (.tmp rfl .nil) (fun w hw => ⟨rfl, hw.ext⟩)
  · rcases Bool.eq_false_or_eq_true (decide (a0 ≥ 0)) with g7 | g7
    · replace hE_1 := if_tt g7 hE_1
      rcases Bool.eq_false_or_eq_true (decide (a1 < 0)) with g10 | g10
      · replace hE_1 := if_tt g10 hE_1
        refine Tri.reg (l := [0, 1, 2, 3, 4, 5, 6, 7, 8, 9, 10, 11]) rfl ?_
        refine F.q rfl rfl rfl (wanted_none rfl) (r_move rfl) ?_
        refine F.q rfl rfl rfl (wanted_none rfl) (r_geq rfl rfl) ?_
        refine F.q rfl rfl rfl (wanted_none rfl) (r_move rfl) ?_
        refine F.q rfl rfl rfl (wg rfl rfl rfl g7) (r_move rfl) ?_
        refine F.q rfl rfl rfl (wg rfl rfl rfl g7) (r_lss rfl rfl) ?_
        refine F.q rfl rfl rfl (wg rfl rfl rfl g7) (r_move rfl) ?_
        refine F.sk rfl rfl rfl (wf rfl rfl rfl g10) ?_
        refine F.sk rfl rfl rfl (wf rfl rfl rfl g10) ?_
        refine F.sk rfl rfl rfl (wf rfl rfl rfl g10) ?_
        refine F.q rfl rfl rfl (wg rfl rfl rfl g7) (r_pick rfl rfl g10) ?_
        refine F.q rfl rfl rfl (wanted_none rfl) (r_pick rfl rfl g7) ?_
        refine F.q rfl rfl rfl (wanted_none rfl) (r_assign rfl) ?_
        refine F.nil ?_
        cases hE_1
        refine Nrm.only [4] rfl ?_
        refine Nrm.pick [] rfl rfl ?_
        exact hj_1 _ _ ⟨rfl, rfl⟩
      · replace hE_1 := if_ff g10 hE_1
        refine Tri.reg (l := [0, 1, 2, 3, 4, 5, 6, 7, 8, 9, 10, 11]) rfl ?_
        refine F.q rfl rfl rfl (wanted_none rfl) (r_move rfl) ?_
        refine F.q rfl rfl rfl (wanted_none rfl) (r_geq rfl rfl) ?_
        refine F.q rfl rfl rfl (wanted_none rfl) (r_move rfl) ?_
        refine F.q rfl rfl rfl (wg rfl rfl rfl g7) (r_move rfl) ?_
        refine F.q rfl rfl rfl (wg rfl rfl rfl g7) (r_lss rfl rfl) ?_
        refine F.q rfl rfl rfl (wg rfl rfl rfl g7) (r_move rfl) ?_
        refine F.q rfl rfl rfl (wg rfl rfl rfl g10) (r_move rfl) ?_
        refine F.q rfl rfl rfl (wg rfl rfl rfl g10) (r_move rfl) ?_
        refine F.q rfl rfl rfl (wg rfl rfl rfl g10) (r_lss rfl rfl) ?_
        refine F.q rfl rfl rfl (wg rfl rfl rfl g7) (r_pickf rfl rfl g10) ?_
        refine F.q rfl rfl rfl (wanted_none rfl) (r_pick rfl rfl g7) ?_
        refine F.q rfl rfl rfl (wanted_none rfl) (r_assign rfl) ?_
        refine F.nil ?_
        cases hE_1
        refine Nrm.only [4] rfl ?_
        refine Nrm.pick [] rfl rfl ?_
        exact hj_1 _ _ ⟨rfl, rfl⟩
    · replace hE_1 := if_ff g7 hE_1
      refine Tri.reg (l := [0, 1, 2, 3, 4, 5, 6, 7, 8, 9, 10, 11]) rfl ?_
      refine F.q rfl rfl rfl (wanted_none rfl) (r_move rfl) ?_
      refine F.q rfl rfl rfl (wanted_none rfl) (r_geq rfl rfl) ?_
      refine F.q rfl rfl rfl (wanted_none rfl) (r_move rfl) ?_
      refine F.sk rfl rfl rfl (wf rfl rfl rfl g7) ?_
      refine F.sk rfl rfl rfl (wf rfl rfl rfl g7) ?_
      refine F.sk rfl rfl rfl (wf rfl rfl rfl g7) ?_
      refine F.sk rfl rfl rfl (wanted_undef rfl rfl rfl) ?_
      refine F.sk rfl rfl rfl (wanted_undef rfl rfl rfl) ?_
      refine F.sk rfl rfl rfl (wanted_undef rfl rfl rfl) ?_
      refine F.sk rfl rfl rfl (wf rfl rfl rfl g7) ?_
      refine F.q rfl rfl rfl (wanted_none rfl) (r_pickf rfl rfl g7) ?_
      refine F.q rfl rfl rfl (wanted_none rfl) (r_assign rfl) ?_
      refine F.nil ?_
      cases hE_1
      refine Nrm.only [4] rfl ?_
      refine Nrm.pick [] rfl rfl ?_
      exact hj_1 _ _ ⟨rfl, rfl⟩

end Go.Proofs

/- loop.example/g01158/impl.trapTo -/
namespace Go.Proofs
open Go Go.Ga
set_option linter.unusedVariables false
set_option maxRecDepth 100000
set_option maxHeartbeats 4000000
def impl_trapTo.l1 (k : Nat) (a0_0 : Int) (a1 : (Int → Int → Option (Bool))) (x15 : Int) : Nat → Int → (Arr 768) → Option ((Arr 768))
  | 0, _, _ => none
  | n + 1, x18, xb5_1_0r => (if (decide (x18 < 64)) = true then if 0 ≤ x15 ∧ x15 < 12 then if 0 ≤ x18 ∧ x18 < 64 then ((if (decide (x15 < a0_0)) = true then (a1 x15 x18).bind fun t34 => some t34 else some false)).bind fun y35 => ((if y35 = true then if 0 ≤ x15 ∧ x15 < 12 then if 0 ≤ x18 ∧ x18 < 64 then some (Arr.put (Arr.put xb5_1_0r (x15 * 64 + x18) (-1)) (x15 * 64 + x18) 0) else none else none else some (Arr.put xb5_1_0r (x15 * 64 + x18) (-1)))).bind fun yb5_1_0 => impl_trapTo.l1 k a0_0 a1 x15 n (w64 (x18 + 1)) yb5_1_0 else none else none else some xb5_1_0r)

def impl_trapTo.l5 (k : Nat) (a0_2 : List Int) (x46 : Int) (x49 : Int) (t56 : List Int) : Nat → Bool → Int → (Arr 768) → Option ((Arr 768) × Bool)
  | 0, _, _, _ => none
  | n + 1, x8rrr, x58, xb5_1_0rrrrr => (if (decide (x58 < (t56.length : Int))) = true then (rdl t56 x58).bind fun t60 => (rdl a0_2 t60).bind fun t68 => if 0 ≤ t60 ∧ t60 < 12 then if 0 ≤ bor x49 t68 ∧ bor x49 t68 < 64 then ((if (decide ((Arr.at xb5_1_0rrrrr (t60 * 64 + (bor x49 t68))) ≥ 0)) = true then if 0 ≤ x46 ∧ x46 < 12 then if 0 ≤ x49 ∧ x49 < 64 then (impl_better.f k (w64 ((Arr.at xb5_1_0rrrrr (t60 * 64 + (bor x49 t68))) + 1)) (Arr.at xb5_1_0rrrrr (x46 * 64 + x49))).bind fun t84 => some t84 else none else none else some false)).bind fun y85 => ((if y85 = true then if 0 ≤ x46 ∧ x46 < 12 then if 0 ≤ x49 ∧ x49 < 64 then some (true, (Arr.put xb5_1_0rrrrr (x46 * 64 + x49) (w64 ((Arr.at xb5_1_0rrrrr (t60 * 64 + (bor x49 t68))) + 1)))) else none else none else some (x8rrr, xb5_1_0rrrrr))).bind fun (y8, yb5_1_0r) => impl_trapTo.l5 k a0_2 x46 x49 t56 n y8 (w64 (x58 + 1)) yb5_1_0r else none else none else some (xb5_1_0rrrrr, x8rrr))

def impl_trapTo.l4 (k : Nat) (a0_0 : Int) (a0_1 : List (Int × Int × Int)) (a0_2 : List Int) (a0_3 : List Int) (x46 : Int) : Nat → Bool → Int → (Arr 768) → Option ((Arr 768) × Bool)
  | 0, _, _, _ => none
  | n + 1, x8rr, x49, xb5_1_0rrrr => (if (decide (x49 < 64)) = true then (impl_trapSteps.f k a0_0 a0_1 a0_2 a0_3 x46 x49).bind fun t55 => (impl_members.f k t55).bind fun t56 => (impl_trapTo.l5 k a0_2 x46 x49 t56 k x8rr 0 xb5_1_0rrrr).bind fun (xb5_1_0rrrrr, x8rrr) => impl_trapTo.l4 k a0_0 a0_1 a0_2 a0_3 x46 n x8rrr (w64 (x49 + 1)) xb5_1_0rrrrr else some (xb5_1_0rrrr, x8rr))

def impl_trapTo.l3 (k : Nat) (a0_0 : Int) (a0_1 : List (Int × Int × Int)) (a0_2 : List Int) (a0_3 : List Int) : Nat → Bool → Int → (Arr 768) → Option ((Arr 768) × Bool)
  | 0, _, _, _ => none
  | n + 1, x8r, x46, xb5_1_0rrr => (if (decide (x46 < a0_0)) = true then (impl_trapTo.l4 k a0_0 a0_1 a0_2 a0_3 x46 k x8r 0 xb5_1_0rrr).bind fun (xb5_1_0rrrr, x8rr) => impl_trapTo.l3 k a0_0 a0_1 a0_2 a0_3 n x8rr (w64 (x46 + 1)) xb5_1_0rrrr else some (xb5_1_0rrr, x8r))

def impl_trapTo.l2 (k : Nat) (a0_0 : Int) (a0_1 : List (Int × Int × Int)) (a0_2 : List Int) (a0_3 : List Int) : Nat → Bool → (Arr 768) → Option ((Arr 768))
  | 0, _, _ => none
  | n + 1, x8, xb5_1_0rr => (if x8 = true then (impl_trapTo.l3 k a0_0 a0_1 a0_2 a0_3 k false 0 xb5_1_0rr).bind fun (xb5_1_0rrr, x8r) => impl_trapTo.l2 k a0_0 a0_1 a0_2 a0_3 n x8r xb5_1_0rrr else some xb5_1_0rr)

def impl_trapTo.l0 (k : Nat) (a0_0 : Int) (a1 : (Int → Int → Option (Bool))) : Nat → Int → (Arr 768) → Option ((Arr 768))
  | 0, _, _ => none
  | n + 1, x15, xb5_1_0 => (if (decide (x15 < 12)) = true then (impl_trapTo.l1 k a0_0 a1 x15 k 0 xb5_1_0).bind fun xb5_1_0r => impl_trapTo.l0 k a0_0 a1 n (w64 (x15 + 1)) xb5_1_0r else some xb5_1_0)

def impl_trapTo.f (k : Nat) (a0_0 : Int) (a0_1 : List (Int × Int × Int)) (a0_2 : List Int) (a0_3 : List Int) (a1 : (Int → Int → Option (Bool))) : Option ((Arr 768)) := (impl_trapTo.l0 k a0_0 a1 k 0 (Arr.rep 768 0)).bind fun xb5_1_0 => (impl_trapTo.l2 k a0_0 a0_1 a0_2 a0_3 k true xb5_1_0).bind fun xb5_1_0rr => some xb5_1_0rr

theorem impl_trapTo.ok {k : Nat}  {a0_0 : Int} {a0_1 : List (Int × Int × Int)} {a0_2 : List Int} {a0_3 : List Int} {a1 : (Int → Int → Option (Bool))} {r0 : Arr 768} (h : impl_trapTo.f k a0_0 a0_1 a0_2 a0_3 a1 = some r0) (w : World) {va0_1 : Value} {va0_2 : Value} {va0_3 : Value} (hr_a0_1 : Rd w va0_1 a0_1) (hr_a0_2 : Rd w va0_2 a0_2) (hr_a0_3 : Rd w va0_3 a0_3) {fi_a1 : FuncId} {ca_a1 : Array Value} (ho_a1 : CallOk Try.prog fi_a1) (hf_a1 : ∀ w2, Ext w w2 → ∀ (z0 : Int) (z1 : Int) (y : Bool), a1 z0 z1 = some y → Calls Try.prog fi_a1 (([.int .i64 z0, .int .i64 z1] : List Value) ++ ca_a1.toList).toArray w2 (fun e w3 => e = .returned (.bool y) ∧ Ext w2 w3)) :
    Calls Try.prog 145 ([.agg ([.int .i64 a0_0, va0_1, va0_2, va0_3].toArray), .func (.func fi_a1) #[] ca_a1] : List Value).toArray w (fun e w' => e = .returned (.agg (encA r0).toArray) ∧ Ext w w') := by
  unfold impl_trapTo.f at h
  have hl_va0_1 := hr_a0_1.len
  have hl_va0_2 := hr_a0_2.len
  have hl_va0_3 := hr_a0_3.len
  refine Calls.of_tri (N := 96) Try.func145 rfl rfl rfl (Sep.nil (M := noM)) ?_
  refine Tri.seq ?_
  refine Tri.reg (l := [0, 1]) rfl ?_
  refine F.m rfl rfl rfl (wanted_none rfl) (m_boxG rfl rfl) ?_
  rintro _ _ ⟨b2_1, rfl, rfl⟩
  refine F.m rfl rfl rfl (wanted_none rfl) (m_alloc ti114) ?_
  rintro _ _ ⟨b4_1, rfl, rfl⟩
  refine F.nil ?_
  refine Nrm.seq ?_
  refine Tri.seq ?_
  refine Tri.reg (l := [0, 1, 2]) rfl ?_
  refine F.q rfl rfl rfl (wanted_none rfl) (r_buildA (qs := []) (cs := encA (Arr.rep 768 0)) Try.underlying114 ti112 ti114 rfl .nil (encA_len _) rfl) ?_
  refine F.m rfl rfl rfl (wanted_none rfl) (m_alloc ti114) ?_
  rintro _ _ ⟨b5_1, rfl, rfl⟩
  refine F.ef0 rfl rfl (wanted_none rfl) (d_storeArr (i := 0) (g := (Arr.rep 768 0)) (h := (Arr.rep 768 0)) ti114 rfl rfl rfl) ?_
  rintro _ _ ⟨rfl, rfl⟩
  refine F.nil ?_
  refine Nrm.seq ?_
  refine Tri.seq ?_
  refine Tri.seq ?_
  refine Tri.reg (l := [0]) rfl ?_
  refine F.q rfl rfl rfl (wanted_none rfl) (r_move rfl) ?_
  refine F.nil ?_
  refine Nrm.seq ?_
  obtain ⟨xb5_1_0, hE_1, h⟩ := bind_some h
  refine Tri.block ?_
  refine Tri.only [1, 2, 4, 5, 15] rfl ?_
  refine Tri.pick [0, 1, 2] rfl rfl ?_
  refine Tri.rounds (fun n e' C' => ∃ (x15' : Int) (xb5_1_0' : Arr 768), impl_trapTo.l0 k a0_0 a1 n x15' xb5_1_0' = some xb5_1_0 ∧ e' = [(1, .func (.func fi_a1) #[] ca_a1), (2, .pointer (some ⟨b2_1, 0, none⟩)), (4, .pointer (some ⟨b4_1, 0, none⟩)), (5, .pointer (some ⟨b5_1, 0, none⟩)), (15, .int .i64 x15')] ∧ C' = Sep w noM [R.box b5_1 114 (encA xb5_1_0'), R.box b4_1 114 (encA (Arr.rep 768 0)), R.box b2_1 57 [.int .i64 a0_0, va0_1, va0_2, va0_3]]) k ?_ ?_ ?_
  · exact ⟨0, (Arr.rep 768 0), hE_1, rfl, rfl⟩
  · rintro _ _ ⟨_, _, hE_1, _⟩
    rw [impl_trapTo.l0.eq_1] at hE_1; cases hE_1
  · rintro n_1 _ _ ⟨x15, xb5_1_0, hE_1, rfl, rfl⟩ ih_1
    rw [impl_trapTo.l0.eq_2] at hE_1
    refine Tri.seq ?_
    refine Tri.reg (l := [0]) rfl ?_
    refine F.q rfl rfl rfl (wanted_none rfl) (r_lss rfl rfl) ?_
    refine F.nil ?_
    refine Nrm.seq ?_
    refine Tri.seq ?_
    refine Tri.cond (b := decide (x15 < 12)) rfl (fun g_1 => ?_) (fun g_1 => ?_)
    · replace hE_1 := if_tt g_1 hE_1
      refine Tri.skip ?_
      refine Nrm.seq ?_
      refine Tri.seq ?_
      refine Tri.block ?_
      refine Tri.seq ?_
      refine Tri.reg (l := [0, 1]) rfl ?_
      refine F.q rfl rfl rfl (wanted_none rfl) (r_move rfl) ?_
      refine F.q rfl rfl rfl (wanted_none rfl) (r_assign rfl) ?_
      refine F.nil ?_
      refine Nrm.seq ?_
      refine Tri.seq ?_
      refine Tri.reg (l := [0]) rfl ?_
      refine F.q rfl rfl rfl (wanted_none rfl) (r_move rfl) ?_
      refine F.nil ?_
      refine Nrm.seq ?_
      obtain ⟨xb5_1_0r, hE_2, hE_1⟩ := bind_some hE_1
      refine Tri.block ?_
      refine Tri.only [1, 2, 4, 5, 6, 15, 18] rfl ?_
      refine Tri.pick [0, 1, 2] rfl rfl ?_
      refine Tri.rounds (fun n e' C' => ∃ (x18' : Int) (xb5_1_0r' : Arr 768), impl_trapTo.l1 k a0_0 a1 x15 n x18' xb5_1_0r' = some xb5_1_0r ∧ e' = [(1, .func (.func fi_a1) #[] ca_a1), (2, .pointer (some ⟨b2_1, 0, none⟩)), (4, .pointer (some ⟨b4_1, 0, none⟩)), (5, .pointer (some ⟨b5_1, 0, none⟩)), (6, .int .i64 x15), (15, .int .i64 x15), (18, .int .i64 x18')] ∧ C' = Sep w noM [R.box b5_1 114 (encA xb5_1_0r'), R.box b4_1 114 (encA (Arr.rep 768 0)), R.box b2_1 57 [.int .i64 a0_0, va0_1, va0_2, va0_3]]) k ?_ ?_ ?_
      · exact ⟨0, xb5_1_0, hE_2, rfl, rfl⟩
      · rintro _ _ ⟨_, _, hE_2, _⟩
        rw [impl_trapTo.l1.eq_1] at hE_2; cases hE_2
      · rintro n_2 _ _ ⟨x18, xb5_1_0r, hE_2, rfl, rfl⟩ ih_2
        rw [impl_trapTo.l1.eq_2] at hE_2
        refine Tri.seq ?_
        refine Tri.reg (l := [0]) rfl ?_
        refine F.q rfl rfl rfl (wanted_none rfl) (r_lss rfl rfl) ?_
        refine F.nil ?_
        refine Nrm.seq ?_
        refine Tri.seq ?_
        refine Tri.cond (b := decide (x18 < 64)) rfl (fun g_2 => ?_) (fun g_2 => ?_)
        · replace hE_2 := if_tt g_2 hE_2
          refine Tri.skip ?_
          refine Nrm.seq ?_
          refine Tri.seq ?_
          refine Tri.block ?_
          refine Tri.seq ?_
          refine Tri.reg (l := [0, 1]) rfl ?_
          refine F.q rfl rfl rfl (wanted_none rfl) (r_move rfl) ?_
          refine F.q rfl rfl rfl (wanted_none rfl) (r_assign rfl) ?_
          refine F.nil ?_
          refine Nrm.seq ?_
          refine Tri.seq ?_
          obtain ⟨hb23, hE_2⟩ := ck hE_2
          obtain ⟨hb24, hE_2⟩ := ck hE_2
          refine Tri.reg (l := [0, 1, 2, 3, 4]) rfl ?_
          refine F.q rfl rfl rfl (wanted_none rfl) (r_move rfl) ?_
          refine F.q rfl rfl rfl (wanted_none rfl) (r_move rfl) ?_
          refine F.q rfl rfl rfl (wanted_none rfl) (r_indexAddrA Try.underlying114 ti112 rfl rfl hb23.1 hb23.2) ?_
          refine F.q rfl rfl rfl (wanted_none rfl) (r_indexAddrA Try.underlying112 ti3 rfl rfl hb24.1 hb24.2) ?_
          refine F.ef0 rfl rfl (wanted_none rfl) (d_storeTab (i := 0) (m := 64) (g := xb5_1_0r) (r := x15) (j := x18) (u := (-1)) ti3 rfl rfl rfl (tabB 12 64 768 hb23 rfl) hb24) ?_
          rintro _ _ ⟨rfl, rfl⟩
          refine F.nil ?_
          refine Nrm.seq ?_
          refine Tri.seq ?_
          obtain ⟨y35, hE_3, hE_2⟩ := bind_some hE_2
          refine Tri.cut (fun e' C' => e' = [(1, .func (.func fi_a1) #[] ca_a1), (2, .pointer (some ⟨b2_1, 0, none⟩)), (4, .pointer (some ⟨b4_1, 0, none⟩)), (5, .pointer (some ⟨b5_1, 0, none⟩)), (6, .int .i64 x15), (7, .int .i64 x18), (15, .int .i64 x15), (18, .int .i64 x18), (35, .bool y35)] ∧ C' = Sep w noM [R.box b5_1 114 (encA (Arr.put xb5_1_0r (x15 * 64 + x18) (-1))), R.box b4_1 114 (encA (Arr.rep 768 0)), R.box b2_1 57 [.int .i64 a0_0, va0_1, va0_2, va0_3]]) ?_ (fun hj_1 => ?_)
          · rintro _ _ ⟨rfl, rfl⟩
            refine Nrm.seq ?_
            obtain ⟨yb5_1_0, hE_4, hE_2⟩ := bind_some hE_2
            refine Tri.cut (fun e' C' => e' = [(1, .func (.func fi_a1) #[] ca_a1), (2, .pointer (some ⟨b2_1, 0, none⟩)), (4, .pointer (some ⟨b4_1, 0, none⟩)), (5, .pointer (some ⟨b5_1, 0, none⟩)), (6, .int .i64 x15), (15, .int .i64 x15), (18, .int .i64 x18)] ∧ C' = Sep w noM [R.box b5_1 114 (encA yb5_1_0), R.box b4_1 114 (encA (Arr.rep 768 0)), R.box b2_1 57 [.int .i64 a0_0, va0_1, va0_2, va0_3]]) ?_ (fun hj_2 => ?_)
            · rintro _ _ ⟨rfl, rfl⟩
              refine Nrm.block ?_
              refine Nrm.seq ?_
              refine Tri.reg (l := [0, 1]) rfl ?_
              refine F.q rfl rfl rfl (wanted_none rfl) (r_add rfl rfl) ?_
              refine F.q rfl rfl rfl (wanted_none rfl) (r_move rfl) ?_
              refine F.nil ?_
              refine Nrm.round ?_
              refine Rnd.only [1, 2, 4, 5, 6, 15, 18] rfl ?_
              refine Rnd.pick [0, 1, 2] rfl rfl ?_
              exact ih_2 _ _ ⟨w64 (x18 + 1), yb5_1_0, hE_2, rfl, rfl⟩
            · refine Tri.cond (b := y35) rfl (fun g_3 => ?_) (fun g_3 => ?_)
              · replace hE_4 := if_tt g_3 hE_4
                obtain ⟨hb38, hE_4⟩ := ck hE_4
                obtain ⟨hb39, hE_4⟩ := ck hE_4
                refine Tri.reg (l := [0, 1, 2, 3, 4]) rfl ?_
                refine F.q rfl rfl rfl (wanted_none rfl) (r_move rfl) ?_
                refine F.q rfl rfl rfl (wanted_none rfl) (r_move rfl) ?_
                refine F.q rfl rfl rfl (wanted_none rfl) (r_indexAddrA Try.underlying114 ti112 rfl rfl hb38.1 hb38.2) ?_
                refine F.q rfl rfl rfl (wanted_none rfl) (r_indexAddrA Try.underlying112 ti3 rfl rfl hb39.1 hb39.2) ?_
                refine F.ef0 rfl rfl (wanted_none rfl) (d_storeTab (i := 0) (m := 64) (g := (Arr.put xb5_1_0r (x15 * 64 + x18) (-1))) (r := x15) (j := x18) (u := 0) ti3 rfl rfl rfl (tabB 12 64 768 hb38 rfl) hb39) ?_
                rintro _ _ ⟨rfl, rfl⟩
                refine F.nil ?_
                cases hE_4
                refine Nrm.only [1, 2, 4, 5, 6, 15, 18] rfl ?_
                refine Nrm.pick [0, 1, 2] rfl rfl ?_
                exact hj_2 _ _ ⟨rfl, rfl⟩
              · replace hE_4 := if_ff g_3 hE_4
                refine Tri.skip ?_
                cases hE_4
                refine Nrm.only [1, 2, 4, 5, 6, 15, 18] rfl ?_
                refine Nrm.pick [0, 1, 2] rfl rfl ?_
                exact hj_2 _ _ ⟨rfl, rfl⟩
          · rcases Bool.eq_false_or_eq_true (decide (x15 < a0_0)) with g30 | g30
            · replace hE_3 := if_tt g30 hE_3
              obtain ⟨t34, h34, hE_3⟩ := bind_some hE_3
              refine Tri.reg (l := [0, 1, 2, 3, 4, 5, 6, 7, 8, 9, 10]) rfl ?_
              refine F.q rfl rfl rfl (wanted_none rfl) (r_move rfl) ?_
              refine F.q rfl rfl rfl (wanted_none rfl) (r_fieldAddr tf57_0 rfl) ?_
              refine F.q rfl rfl rfl (wanted_none rfl) (r_fieldAddr tf55_0 rfl) ?_
              refine F.q rfl rfl rfl (wanted_none rfl) (r_load ta3 rfl (fun w hw => cell_2 (box_cells (i := 2) rfl w hw) rfl)) ?_
              refine F.q rfl rfl rfl (wanted_none rfl) (r_lss rfl rfl) ?_
              refine F.q rfl rfl rfl (wanted_none rfl) (r_move rfl) ?_
              refine F.q rfl rfl rfl (wg rfl rfl rfl g30) (r_move rfl) ?_
              refine F.q rfl rfl rfl (wg rfl rfl rfl g30) (r_move rfl) ?_
              refine F.q rfl rfl rfl (wg rfl rfl rfl g30) (r_move rfl) ?_
              refine F.qc rfl rfl rfl (wg rfl rfl rfl g30) (q_callC (xs := _) rfl ho_a1 rfl rfl (fun w hw => hf_a1 w hw.ext _ _  _ h34)) ?_
              refine F.q rfl rfl rfl (wanted_none rfl) (r_pick rfl rfl g30) ?_
              refine F.nil ?_
              cases hE_3
              refine Nrm.only [1, 2, 4, 5, 6, 7, 15, 18, 35] rfl ?_
              refine Nrm.pick [0, 1, 2] rfl rfl ?_
              exact hj_1 _ _ ⟨rfl, rfl⟩
            · replace hE_3 := if_ff g30 hE_3
              refine Tri.reg (l := [0, 1, 2, 3, 4, 5, 6, 7, 8, 9, 10]) rfl ?_
              refine F.q rfl rfl rfl (wanted_none rfl) (r_move rfl) ?_
              refine F.q rfl rfl rfl (wanted_none rfl) (r_fieldAddr tf57_0 rfl) ?_
              refine F.q rfl rfl rfl (wanted_none rfl) (r_fieldAddr tf55_0 rfl) ?_
              refine F.q rfl rfl rfl (wanted_none rfl) (r_load ta3 rfl (fun w hw => cell_2 (box_cells (i := 2) rfl w hw) rfl)) ?_
              refine F.q rfl rfl rfl (wanted_none rfl) (r_lss rfl rfl) ?_
              refine F.q rfl rfl rfl (wanted_none rfl) (r_move rfl) ?_
              refine F.sk rfl rfl rfl (wf rfl rfl rfl g30) ?_
              refine F.sk rfl rfl rfl (wf rfl rfl rfl g30) ?_
              refine F.sk rfl rfl rfl (wf rfl rfl rfl g30) ?_
              refine F.sk rfl rfl rfl (wf rfl rfl rfl g30) ?_
              refine F.q rfl rfl rfl (wanted_none rfl) (r_pickf rfl rfl g30) ?_
              refine F.nil ?_
              cases hE_3
              refine Nrm.only [1, 2, 4, 5, 6, 7, 15, 18, 35] rfl ?_
              refine Nrm.pick [0, 1, 2] rfl rfl ?_
              exact hj_1 _ _ ⟨rfl, rfl⟩
        · replace hE_2 := if_ff g_2 hE_2
          refine Tri.exit ?_
          refine Exi.then ?_
          refine Exi.then ?_
          refine Exi.same ?_
          cases hE_2
          refine Nrm.block ?_
          refine Nrm.seq ?_
          refine Tri.reg (l := [0, 1]) rfl ?_
          refine F.q rfl rfl rfl (wanted_none rfl) (r_add rfl rfl) ?_
          refine F.q rfl rfl rfl (wanted_none rfl) (r_move rfl) ?_
          refine F.nil ?_
          refine Nrm.round ?_
          refine Rnd.only [1, 2, 4, 5, 15] rfl ?_
          refine Rnd.pick [0, 1, 2] rfl rfl ?_
          exact ih_1 _ _ ⟨w64 (x15 + 1), xb5_1_0r, hE_1, rfl, rfl⟩
    · replace hE_1 := if_ff g_1 hE_1
      refine Tri.exit ?_
      refine Exi.then ?_
      refine Exi.then ?_
      refine Exi.same ?_
      cases hE_1
      refine Nrm.seq ?_
      refine Tri.seq ?_
      refine Tri.seq ?_
      refine Tri.reg (l := [0]) rfl ?_
      refine F.q rfl rfl rfl (wanted_none rfl) (r_assign rfl) ?_
      refine F.nil ?_
      refine Nrm.seq ?_
      obtain ⟨xb5_1_0rr, hE_5, h⟩ := bind_some h
      refine Tri.block ?_
      refine Tri.only [2, 4, 5, 8] rfl ?_
      refine Tri.pick [0, 1, 2] rfl rfl ?_
      refine Tri.rounds (fun n e' C' => ∃ (x8' : Bool) (xb5_1_0rr' : Arr 768), impl_trapTo.l2 k a0_0 a0_1 a0_2 a0_3 n x8' xb5_1_0rr' = some xb5_1_0rr ∧ e' = [(2, .pointer (some ⟨b2_1, 0, none⟩)), (4, .pointer (some ⟨b4_1, 0, none⟩)), (5, .pointer (some ⟨b5_1, 0, none⟩)), (8, .bool x8')] ∧ C' = Sep w noM [R.box b5_1 114 (encA xb5_1_0rr'), R.box b4_1 114 (encA (Arr.rep 768 0)), R.box b2_1 57 [.int .i64 a0_0, va0_1, va0_2, va0_3]]) k ?_ ?_ ?_
      · exact ⟨true, xb5_1_0, hE_5, rfl, rfl⟩
      · rintro _ _ ⟨_, _, hE_5, _⟩
        rw [impl_trapTo.l2.eq_1] at hE_5; cases hE_5
      · rintro n_3 _ _ ⟨x8, xb5_1_0rr, hE_5, rfl, rfl⟩ ih_3
        rw [impl_trapTo.l2.eq_2] at hE_5
        refine Tri.seq ?_
        refine Tri.seq ?_
        refine Tri.reg (l := [0]) rfl ?_
        refine F.q rfl rfl rfl (wanted_none rfl) (r_move rfl) ?_
        refine F.nil ?_
        refine Nrm.seq ?_
        refine Tri.cond (b := x8) rfl (fun g_4 => ?_) (fun g_4 => ?_)
        · replace hE_5 := if_tt g_4 hE_5
          refine Tri.skip ?_
          refine Nrm.seq ?_
          refine Tri.block ?_
          refine Tri.seq ?_
          refine Tri.reg (l := [0]) rfl ?_
          refine F.q rfl rfl rfl (wanted_none rfl) (r_assign rfl) ?_
          refine F.nil ?_
          refine Nrm.seq ?_
          refine Tri.seq ?_
          refine Tri.reg (l := [0, 1, 2, 3]) rfl ?_
          refine F.q rfl rfl rfl (wanted_none rfl) (r_fieldAddr tf57_0 rfl) ?_
          refine F.q rfl rfl rfl (wanted_none rfl) (r_fieldAddr tf55_0 rfl) ?_
          refine F.q rfl rfl rfl (wanted_none rfl) (r_load ta3 rfl (fun w hw => cell_2 (box_cells (i := 2) rfl w hw) rfl)) ?_
          refine F.q rfl rfl rfl (wanted_none rfl) (r_move rfl) ?_
          refine F.nil ?_
          refine Nrm.seq ?_
          obtain ⟨⟨xb5_1_0rrr, x8r⟩, hE_6, hE_5⟩ := bind_some hE_5
          refine Tri.block ?_
          refine Tri.only [2, 4, 5, 8, 45, 46] rfl ?_
          refine Tri.pick [0, 1, 2] rfl rfl ?_
          refine Tri.rounds (fun n e' C' => ∃ (x8r' : Bool) (x46' : Int) (xb5_1_0rrr' : Arr 768), impl_trapTo.l3 k a0_0 a0_1 a0_2 a0_3 n x8r' x46' xb5_1_0rrr' = some (xb5_1_0rrr, x8r) ∧ e' = [(2, .pointer (some ⟨b2_1, 0, none⟩)), (4, .pointer (some ⟨b4_1, 0, none⟩)), (5, .pointer (some ⟨b5_1, 0, none⟩)), (8, .bool x8r'), (45, .int .i64 a0_0), (46, .int .i64 x46')] ∧ C' = Sep w noM [R.box b5_1 114 (encA xb5_1_0rrr'), R.box b4_1 114 (encA (Arr.rep 768 0)), R.box b2_1 57 [.int .i64 a0_0, va0_1, va0_2, va0_3]]) k ?_ ?_ ?_
          · exact ⟨false, 0, xb5_1_0rr, hE_6, rfl, rfl⟩
          · rintro _ _ ⟨_, _, _, hE_6, _⟩
            rw [impl_trapTo.l3.eq_1] at hE_6; cases hE_6
          · rintro n_4 _ _ ⟨x8r, x46, xb5_1_0rrr, hE_6, rfl, rfl⟩ ih_4
            rw [impl_trapTo.l3.eq_2] at hE_6
            refine Tri.seq ?_
            refine Tri.reg (l := [0]) rfl ?_
            refine F.q rfl rfl rfl (wanted_none rfl) (r_lss rfl rfl) ?_
            refine F.nil ?_
            refine Nrm.seq ?_
            refine Tri.seq ?_
            refine Tri.cond (b := decide (x46 < a0_0)) rfl (fun g_5 => ?_) (fun g_5 => ?_)
            · replace hE_6 := if_tt g_5 hE_6
              refine Tri.skip ?_
              refine Nrm.seq ?_
              refine Tri.seq ?_
              refine Tri.block ?_
              refine Tri.seq ?_
              refine Tri.reg (l := [0, 1]) rfl ?_
              refine F.q rfl rfl rfl (wanted_none rfl) (r_move rfl) ?_
              refine F.q rfl rfl rfl (wanted_none rfl) (r_assign rfl) ?_
              refine F.nil ?_
              refine Nrm.seq ?_
              refine Tri.seq ?_
              refine Tri.reg (l := [0]) rfl ?_
              refine F.q rfl rfl rfl (wanted_none rfl) (r_move rfl) ?_
              refine F.nil ?_
              refine Nrm.seq ?_
              obtain ⟨⟨xb5_1_0rrrr, x8rr⟩, hE_7, hE_6⟩ := bind_some hE_6
              refine Tri.block ?_
              refine Tri.only [2, 4, 5, 8, 9, 45, 46, 49] rfl ?_
              refine Tri.pick [0, 1, 2] rfl rfl ?_
              refine Tri.rounds (fun n e' C' => ∃ (x8rr' : Bool) (x49' : Int) (xb5_1_0rrrr' : Arr 768), impl_trapTo.l4 k a0_0 a0_1 a0_2 a0_3 x46 n x8rr' x49' xb5_1_0rrrr' = some (xb5_1_0rrrr, x8rr) ∧ e' = [(2, .pointer (some ⟨b2_1, 0, none⟩)), (4, .pointer (some ⟨b4_1, 0, none⟩)), (5, .pointer (some ⟨b5_1, 0, none⟩)), (8, .bool x8rr'), (9, .int .i64 x46), (45, .int .i64 a0_0), (46, .int .i64 x46), (49, .int .i64 x49')] ∧ C' = Sep w noM [R.box b5_1 114 (encA xb5_1_0rrrr'), R.box b4_1 114 (encA (Arr.rep 768 0)), R.box b2_1 57 [.int .i64 a0_0, va0_1, va0_2, va0_3]]) k ?_ ?_ ?_
              · exact ⟨x8r, 0, xb5_1_0rrr, hE_7, rfl, rfl⟩
              · rintro _ _ ⟨_, _, _, hE_7, _⟩
                rw [impl_trapTo.l4.eq_1] at hE_7; cases hE_7
              · rintro n_5 _ _ ⟨x8rr, x49, xb5_1_0rrrr, hE_7, rfl, rfl⟩ ih_5
                rw [impl_trapTo.l4.eq_2] at hE_7
                refine Tri.seq ?_
                refine Tri.reg (l := [0]) rfl ?_
                refine F.q rfl rfl rfl (wanted_none rfl) (r_lss rfl rfl) ?_
                refine F.nil ?_
                refine Nrm.seq ?_
                refine Tri.seq ?_
                refine Tri.cond (b := decide (x49 < 64)) rfl (fun g_6 => ?_) (fun g_6 => ?_)
                · replace hE_7 := if_tt g_6 hE_7
                  refine Tri.skip ?_
                  refine Nrm.seq ?_
                  refine Tri.seq ?_
                  refine Tri.block ?_
                  refine Tri.seq ?_
                  refine Tri.reg (l := [0, 1]) rfl ?_
                  refine F.q rfl rfl rfl (wanted_none rfl) (r_move rfl) ?_
                  refine F.q rfl rfl rfl (wanted_none rfl) (r_assign rfl) ?_
                  refine F.nil ?_
                  refine Nrm.seq ?_
                  refine Tri.seq ?_
                  obtain ⟨t55, h55, hE_7⟩ := bind_some hE_7
                  obtain ⟨t56, h56, hE_7⟩ := bind_some hE_7
                  refine Tri.reg (l := [0, 1, 2, 3, 4, 5, 6]) rfl ?_
                  refine F.q rfl rfl rfl (wanted_none rfl) (r_loadA ta57 ti57 rfl rfl (fun w hw => (box_cells (i := 2) rfl w hw))) ?_
                  refine F.q rfl rfl rfl (wanted_none rfl) (r_move rfl) ?_
                  refine F.q rfl rfl rfl (wanted_none rfl) (r_move rfl) ?_
                  refine F.qc rfl rfl rfl (wanted_none rfl) (q_callF (xs := _) rfl ok113 rfl rfl (fun w hw => impl_trapSteps.ok h55 w ((fun _ hw => hr_a0_1.sep hw) w hw) ((fun _ hw => hr_a0_2.sep hw) w hw) ((fun _ hw => hr_a0_3.sep hw) w hw))) ?_
                  refine F.m rfl rfl rfl (wanted_none rfl) (m_callF (xs := _) rfl ok112 rfl rfl (fun w hw => impl_members.ok h56 w )) ?_
                  rintro v56_1 _ ⟨_, ⟨S56_1, hl_v56_1, rfl⟩, rfl⟩
                  refine F.q rfl rfl rfl (wanted_none rfl) (r_len Try.underlying38 rfl hl_v56_1) ?_
                  refine F.q rfl rfl rfl (wanted_none rfl) (r_move rfl) ?_
                  refine F.nil ?_
                  refine Nrm.seq ?_
                  obtain ⟨⟨xb5_1_0rrrrr, x8rrr⟩, hE_8, hE_7⟩ := bind_some hE_7
                  refine Tri.block ?_
                  refine Tri.only [2, 4, 5, 8, 9, 10, 45, 46, 49, 56, 57, 58] rfl ?_
                  refine Tri.pick [1, 2, 3, 0] rfl rfl ?_
                  refine Tri.rounds (fun n e' C' => ∃ (x8rrr' : Bool) (x58' : Int) (xb5_1_0rrrrr' : Arr 768), impl_trapTo.l5 k a0_2 x46 x49 t56 n x8rrr' x58' xb5_1_0rrrrr' = some (xb5_1_0rrrrr, x8rrr) ∧ e' = [(2, .pointer (some ⟨b2_1, 0, none⟩)), (4, .pointer (some ⟨b4_1, 0, none⟩)), (5, .pointer (some ⟨b5_1, 0, none⟩)), (8, .bool x8rrr'), (9, .int .i64 x46), (10, .int .i64 x49), (45, .int .i64 a0_0), (46, .int .i64 x46), (49, .int .i64 x49), (56, v56_1), (57, .int .i64 (t56.length : Int)), (58, .int .i64 x58')] ∧ C' = Sep w noM [R.box b5_1 114 (encA xb5_1_0rrrrr'), R.box b4_1 114 (encA (Arr.rep 768 0)), R.box b2_1 57 [.int .i64 a0_0, va0_1, va0_2, va0_3], R.sl S56_1 v56_1 (t56 : List (Int))]) k ?_ ?_ ?_
                  · exact ⟨x8rr, 0, xb5_1_0rrrr, hE_8, rfl, rfl⟩
                  · rintro _ _ ⟨_, _, _, hE_8, _⟩
                    rw [impl_trapTo.l5.eq_1] at hE_8; cases hE_8
                  · rintro n_6 _ _ ⟨x8rrr, x58, xb5_1_0rrrrr, hE_8, rfl, rfl⟩ ih_6
                    rw [impl_trapTo.l5.eq_2] at hE_8
                    refine Tri.seq ?_
                    refine Tri.reg (l := [0]) rfl ?_
                    refine F.q rfl rfl rfl (wanted_none rfl) (r_lss rfl rfl) ?_
                    refine F.nil ?_
                    refine Nrm.seq ?_
                    refine Tri.seq ?_
                    refine Tri.cond (b := decide (x58 < (t56.length : Int))) rfl (fun g_7 => ?_) (fun g_7 => ?_)
                    · replace hE_8 := if_tt g_7 hE_8
                      refine Tri.skip ?_
                      refine Nrm.seq ?_
                      refine Tri.seq ?_
                      refine Tri.block ?_
                      refine Tri.seq ?_
                      obtain ⟨t60, h60, hE_8⟩ := bind_some hE_8
                      refine Tri.reg (l := [0, 1, 2]) rfl ?_
                      refine F.q rfl rfl rfl (wanted_none rfl) (r_indexAddrS Try.underlying38 ti3 rfl hl_v56_1 rfl (rdl_some h60).1 (rdl_some h60).2.1) ?_
                      refine F.q rfl rfl rfl (wanted_none rfl) (r_load ta3 rfl (fun w hw => cell_0 (Rd.flat ((rd_sl (i := 3) rfl) w hw) (rdl_some h60).2.2) rfl)) ?_
                      refine F.q rfl rfl rfl (wanted_none rfl) (r_assign rfl) ?_
                      refine F.nil ?_
                      refine Nrm.seq ?_
                      refine Tri.seq ?_
                      obtain ⟨t68, h68, hE_8⟩ := bind_some hE_8
                      obtain ⟨hb71, hE_8⟩ := ck hE_8
                      obtain ⟨hb72, hE_8⟩ := ck hE_8
                      refine Tri.drawA mixedT Sep.up [(0, true), (1, true), (2, true), (3, true), (4, true), (5, true), (6, true), (7, true), (8, true), (9, true), (10, true), (11, true), (12, true)] [] (by kernel_rfl) ?_
                      refine S.q rfl rfl rfl (wanted_none rfl) (r_move rfl) ?_
                      refine S.q rfl rfl rfl (wanted_none rfl) (r_move rfl) ?_
                      refine S.q rfl rfl rfl (wanted_none rfl) (r_fieldAddr tf57_0 rfl) ?_
                      refine S.q rfl rfl rfl (wanted_none rfl) (r_fieldAddr tf55_2 rfl) ?_
                      refine S.q rfl rfl rfl (wanted_none rfl) (r_load ta38 rfl (fun w hw => cell_2 (box_cells (i := 2) rfl w hw) rfl)) ?_
                      refine S.q rfl rfl rfl (wanted_none rfl) (r_move rfl) ?_
                      refine S.q rfl rfl rfl (wanted_none rfl) (r_indexAddrS Try.underlying38 ti3 rfl hl_va0_2 rfl (rdl_some h68).1 (rdl_some h68).2.1) ?_
                      refine S.q rfl rfl rfl (wanted_none rfl) (r_load ta3 rfl (fun w hw => cell_0 (Rd.flat ((fun _ hw => hr_a0_2.sep hw) w hw) (rdl_some h68).2.2) rfl)) ?_
                      refine S.q rfl rfl rfl (wanted_none rfl) (r_or rfl rfl) ?_
                      refine S.q rfl rfl rfl (wanted_none rfl) (r_indexAddrA Try.underlying114 ti112 rfl rfl hb71.1 hb71.2) ?_
                      refine S.q rfl rfl rfl (wanted_none rfl) (r_indexAddrA Try.underlying112 ti3 rfl rfl hb72.1 hb72.2) ?_
                      refine S.q rfl rfl rfl (wanted_none rfl) (r_load ta3 rfl (fun w hw => cell_tab (g := xb5_1_0rrrrr) (m := 64) (box_cells (i := 0) rfl w hw) (tabB 12 64 768 hb71 rfl) hb72)) ?_
                      refine S.q rfl rfl rfl (wanted_none rfl) (r_assign rfl) ?_
                      refine S.nil ?_
                      refine F.nil ?_
                      refine Nrm.seq ?_
                      refine Tri.seq ?_
                      obtain ⟨y85, hE_9, hE_8⟩ := bind_some hE_8
                      refine Tri.cut (fun e' C' => e' = [(2, .pointer (some ⟨b2_1, 0, none⟩)), (4, .pointer (some ⟨b4_1, 0, none⟩)), (5, .pointer (some ⟨b5_1, 0, none⟩)), (8, .bool x8rrr), (9, .int .i64 x46), (10, .int .i64 x49), (13, .int .i64 (Arr.at xb5_1_0rrrrr (t60 * 64 + (bor x49 t68)))), (45, .int .i64 a0_0), (46, .int .i64 x46), (49, .int .i64 x49), (56, v56_1), (57, .int .i64 (t56.length : Int)), (58, .int .i64 x58), (85, .bool y85)] ∧ C' = Sep w noM [R.box b5_1 114 (encA xb5_1_0rrrrr), R.box b4_1 114 (encA (Arr.rep 768 0)), R.box b2_1 57 [.int .i64 a0_0, va0_1, va0_2, va0_3], R.sl S56_1 v56_1 (t56 : List (Int))]) ?_ (fun hj_3 => ?_)
                      · rintro _ _ ⟨rfl, rfl⟩
                        refine Nrm.seq ?_
                        obtain ⟨⟨y8, yb5_1_0r⟩, hE_10, hE_8⟩ := bind_some hE_8
                        refine Tri.cut (fun e' C' => e' = [(2, .pointer (some ⟨b2_1, 0, none⟩)), (4, .pointer (some ⟨b4_1, 0, none⟩)), (5, .pointer (some ⟨b5_1, 0, none⟩)), (8, .bool y8), (9, .int .i64 x46), (10, .int .i64 x49), (45, .int .i64 a0_0), (46, .int .i64 x46), (49, .int .i64 x49), (56, v56_1), (57, .int .i64 (t56.length : Int)), (58, .int .i64 x58)] ∧ C' = Sep w noM [R.box b5_1 114 (encA yb5_1_0r), R.box b4_1 114 (encA (Arr.rep 768 0)), R.box b2_1 57 [.int .i64 a0_0, va0_1, va0_2, va0_3], R.sl S56_1 v56_1 (t56 : List (Int))]) ?_ (fun hj_4 => ?_)
                        · rintro _ _ ⟨rfl, rfl⟩
                          refine Nrm.block ?_
                          refine Nrm.seq ?_
                          refine Tri.reg (l := [0, 1]) rfl ?_
                          refine F.q rfl rfl rfl (wanted_none rfl) (r_add rfl rfl) ?_
                          refine F.q rfl rfl rfl (wanted_none rfl) (r_move rfl) ?_
                          refine F.nil ?_
                          refine Nrm.round ?_
                          refine Rnd.only [2, 4, 5, 8, 9, 10, 45, 46, 49, 56, 57, 58] rfl ?_
                          refine Rnd.pick [0, 1, 2, 3] rfl rfl ?_
                          exact ih_6 _ _ ⟨y8, w64 (x58 + 1), yb5_1_0r, hE_8, rfl, rfl⟩
                        · refine Tri.cond (b := y85) rfl (fun g_8 => ?_) (fun g_8 => ?_)
                          · replace hE_10 := if_tt g_8 hE_10
                            refine Tri.seq ?_
                            obtain ⟨hb90, hE_10⟩ := ck hE_10
                            obtain ⟨hb91, hE_10⟩ := ck hE_10
                            refine Tri.reg (l := [0, 1, 2, 3, 4, 5, 6]) rfl ?_
                            refine F.q rfl rfl rfl (wanted_none rfl) (r_move rfl) ?_
                            refine F.q rfl rfl rfl (wanted_none rfl) (r_move rfl) ?_
                            refine F.q rfl rfl rfl (wanted_none rfl) (r_move rfl) ?_
                            refine F.q rfl rfl rfl (wanted_none rfl) (r_add rfl rfl) ?_
                            refine F.q rfl rfl rfl (wanted_none rfl) (r_indexAddrA Try.underlying114 ti112 rfl rfl hb90.1 hb90.2) ?_
                            refine F.q rfl rfl rfl (wanted_none rfl) (r_indexAddrA Try.underlying112 ti3 rfl rfl hb91.1 hb91.2) ?_
                            refine F.ef0 rfl rfl (wanted_none rfl) (d_storeTab (i := 0) (m := 64) (g := xb5_1_0rrrrr) (r := x46) (j := x49) (u := w64 ((Arr.at xb5_1_0rrrrr (t60 * 64 + (bor x49 t68))) + 1)) ti3 rfl rfl rfl (tabB 12 64 768 hb90 rfl) hb91) ?_
                            rintro _ _ ⟨rfl, rfl⟩
                            refine F.nil ?_
                            refine Nrm.seq ?_
                            refine Tri.reg (l := [0]) rfl ?_
                            refine F.q rfl rfl rfl (wanted_none rfl) (r_assign rfl) ?_
                            refine F.nil ?_
                            cases hE_10
                            refine Nrm.only [2, 4, 5, 8, 9, 10, 45, 46, 49, 56, 57, 58] rfl ?_
                            refine Nrm.pick [0, 1, 2, 3] rfl rfl ?_
                            exact hj_4 _ _ ⟨rfl, rfl⟩
                          · replace hE_10 := if_ff g_8 hE_10
                            refine Tri.skip ?_
                            cases hE_10
                            refine Nrm.only [2, 4, 5, 8, 9, 10, 45, 46, 49, 56, 57, 58] rfl ?_
                            refine Nrm.pick [0, 1, 2, 3] rfl rfl ?_
                            exact hj_4 _ _ ⟨rfl, rfl⟩
                      · rcases Bool.eq_false_or_eq_true (decide ((Arr.at xb5_1_0rrrrr (t60 * 64 + (bor x49 t68))) ≥ 0)) with g76 | g76
                        · replace hE_9 := if_tt g76 hE_9
                          obtain ⟨hb81, hE_9⟩ := ck hE_9
                          obtain ⟨hb82, hE_9⟩ := ck hE_9
                          obtain ⟨t84, h84, hE_9⟩ := bind_some hE_9
                          refine Tri.reg (l := [0, 1, 2, 3, 4, 5, 6, 7, 8, 9, 10, 11]) rfl ?_
                          refine F.q rfl rfl rfl (wanted_none rfl) (r_move rfl) ?_
                          refine F.q rfl rfl rfl (wanted_none rfl) (r_geq rfl rfl) ?_
                          refine F.q rfl rfl rfl (wanted_none rfl) (r_move rfl) ?_
                          refine F.q rfl rfl rfl (wg rfl rfl rfl g76) (r_move rfl) ?_
                          refine F.q rfl rfl rfl (wg rfl rfl rfl g76) (r_add rfl rfl) ?_
                          refine F.q rfl rfl rfl (wg rfl rfl rfl g76) (r_move rfl) ?_
                          refine F.q rfl rfl rfl (wg rfl rfl rfl g76) (r_move rfl) ?_
                          refine F.q rfl rfl rfl (wg rfl rfl rfl g76) (r_indexAddrA Try.underlying114 ti112 rfl rfl hb81.1 hb81.2) ?_
                          refine F.q rfl rfl rfl (wg rfl rfl rfl g76) (r_indexAddrA Try.underlying112 ti3 rfl rfl hb82.1 hb82.2) ?_
                          refine F.q rfl rfl rfl (wg rfl rfl rfl g76) (r_load ta3 rfl (fun w hw => cell_tab (g := xb5_1_0rrrrr) (m := 64) (box_cells (i := 0) rfl w hw) (tabB 12 64 768 hb81 rfl) hb82)) ?_
                          refine F.qc rfl rfl rfl (wg rfl rfl rfl g76) (q_callF (xs := _) rfl ok170 rfl rfl (fun w hw => impl_better.ok h84 w )) ?_
                          refine F.q rfl rfl rfl (wanted_none rfl) (r_pick rfl rfl g76) ?_
                          refine F.nil ?_
                          cases hE_9
                          refine Nrm.only [2, 4, 5, 8, 9, 10, 13, 45, 46, 49, 56, 57, 58, 85] rfl ?_
                          refine Nrm.pick [0, 1, 2, 3] rfl rfl ?_
                          exact hj_3 _ _ ⟨rfl, rfl⟩
                        · replace hE_9 := if_ff g76 hE_9
                          refine Tri.reg (l := [0, 1, 2, 3, 4, 5, 6, 7, 8, 9, 10, 11]) rfl ?_
                          refine F.q rfl rfl rfl (wanted_none rfl) (r_move rfl) ?_
                          refine F.q rfl rfl rfl (wanted_none rfl) (r_geq rfl rfl) ?_
                          refine F.q rfl rfl rfl (wanted_none rfl) (r_move rfl) ?_
                          refine F.sk rfl rfl rfl (wf rfl rfl rfl g76) ?_
                          refine F.sk rfl rfl rfl (wf rfl rfl rfl g76) ?_
                          refine F.sk rfl rfl rfl (wf rfl rfl rfl g76) ?_
                          refine F.sk rfl rfl rfl (wf rfl rfl rfl g76) ?_
                          refine F.sk rfl rfl rfl (wf rfl rfl rfl g76) ?_
                          refine F.sk rfl rfl rfl (wf rfl rfl rfl g76) ?_
                          refine F.sk rfl rfl rfl (wf rfl rfl rfl g76) ?_
                          refine F.sk rfl rfl rfl (wf rfl rfl rfl g76) ?_
                          refine F.q rfl rfl rfl (wanted_none rfl) (r_pickf rfl rfl g76) ?_
                          refine F.nil ?_
                          cases hE_9
                          refine Nrm.only [2, 4, 5, 8, 9, 10, 13, 45, 46, 49, 56, 57, 58, 85] rfl ?_
                          refine Nrm.pick [0, 1, 2, 3] rfl rfl ?_
                          exact hj_3 _ _ ⟨rfl, rfl⟩
                    · replace hE_8 := if_ff g_7 hE_8
                      refine Tri.exit ?_
                      refine Exi.then ?_
                      refine Exi.then ?_
                      refine Exi.same ?_
                      cases hE_8
                      refine Nrm.block ?_
                      refine Nrm.seq ?_
                      refine Tri.reg (l := [0, 1]) rfl ?_
                      refine F.q rfl rfl rfl (wanted_none rfl) (r_add rfl rfl) ?_
                      refine F.q rfl rfl rfl (wanted_none rfl) (r_move rfl) ?_
                      refine F.nil ?_
                      refine Nrm.round ?_
                      refine Rnd.only [2, 4, 5, 8, 9, 45, 46, 49] rfl ?_
                      refine Rnd.pick [0, 1, 2] rfl rfl ?_
                      exact ih_5 _ _ ⟨x8rrr, w64 (x49 + 1), xb5_1_0rrrrr, hE_7, rfl, rfl⟩
                · replace hE_7 := if_ff g_6 hE_7
                  refine Tri.exit ?_
                  refine Exi.then ?_
                  refine Exi.then ?_
                  refine Exi.same ?_
                  cases hE_7
                  refine Nrm.block ?_
                  refine Nrm.seq ?_
                  refine Tri.reg (l := [0, 1]) rfl ?_
                  refine F.q rfl rfl rfl (wanted_none rfl) (r_add rfl rfl) ?_
                  refine F.q rfl rfl rfl (wanted_none rfl) (r_move rfl) ?_
                  refine F.nil ?_
                  refine Nrm.round ?_
                  refine Rnd.only [2, 4, 5, 8, 45, 46] rfl ?_
                  refine Rnd.pick [0, 1, 2] rfl rfl ?_
                  exact ih_4 _ _ ⟨x8rr, w64 (x46 + 1), xb5_1_0rrrr, hE_6, rfl, rfl⟩
            · replace hE_6 := if_ff g_5 hE_6
              refine Tri.exit ?_
              refine Exi.then ?_
              refine Exi.then ?_
              refine Exi.same ?_
              cases hE_6
              refine Nrm.block ?_
              refine Nrm.round ?_
              refine Rnd.only [2, 4, 5, 8] rfl ?_
              refine Rnd.pick [0, 1, 2] rfl rfl ?_
              exact ih_3 _ _ ⟨x8r, xb5_1_0rrr, hE_5, rfl, rfl⟩
        · replace hE_5 := if_ff g_4 hE_5
          refine Tri.exit ?_
          refine Exi.then ?_
          refine Exi.then ?_
          refine Exi.same ?_
          cases hE_5
          refine Nrm.seq ?_
          refine Tri.seq ?_
          refine Tri.reg (l := [0, 1]) rfl ?_
          refine F.q rfl rfl rfl (wanted_none rfl) (r_loadA (cs := encA xb5_1_0rr) ta114 ti114 rfl (encA_len _) (fun w hw => (box_cells (i := 0) rfl w hw))) ?_
          refine F.ef0 rfl rfl (wanted_none rfl) (d_storeArr (i := 1) (g := (Arr.rep 768 0)) (h := xb5_1_0rr) ti114 rfl rfl rfl) ?_
          rintro _ _ ⟨rfl, rfl⟩
          refine F.nil ?_
          refine Nrm.seq ?_
          refine Tri.ret ?_
          cases h
          exact Rtn.body (.cell rfl ta114 ti114 (encA_len _) (fun _ hw => box_cells (i := 1) rfl _ hw) .nil) (fun w hw => ⟨rfl, hw.ext⟩)

end Go.Proofs

/- loop.example/g01158/impl.toTrapGoal$1 -/

namespace Go.Proofs
open Go Go.Ga
set_option linter.unusedVariables false
set_option maxRecDepth 100000
set_option maxHeartbeats 4000000
def impl_toTrapGoal_1.f (k : Nat) (a0 : Int) (a1 : Int) (c0_0 : Int) (c0_1 : List (Int × Int × Int)) (c0_2 : List Int) (c0_3 : List Int) : Option (Bool) := some (a0 == (w64 (c0_0 - 1)))

theorem impl_toTrapGoal_1.ok {k : Nat} {pc0 : Addr} {a0 : Int} {a1 : Int} {c0_0 : Int} {c0_1 : List (Int × Int × Int)} {c0_2 : List Int} {c0_3 : List Int} {r0 : Bool} (h : impl_toTrapGoal_1.f k a0 a1 c0_0 c0_1 c0_2 c0_3 = some r0) (w : World) {vc0_1 : Value} {vc0_2 : Value} {vc0_3 : Value} (hb_c0 : CellsAt w pc0 [.int .i64 c0_0, vc0_1, vc0_2, vc0_3]) (hr_c0_1 : Rd w vc0_1 c0_1) (hr_c0_2 : Rd w vc0_2 c0_2) (hr_c0_3 : Rd w vc0_3 c0_3) :
    Calls Try.prog 146 ([.int .i64 a0, .int .i64 a1, .pointer (some pc0)] : List Value).toArray w (fun e w' => e = .returned (.bool r0) ∧ Ext w w') := by
  unfold impl_toTrapGoal_1.f at h
  have hl_vc0_1 := hr_c0_1.len
  have hl_vc0_2 := hr_c0_2.len
  have hl_vc0_3 := hr_c0_3.len
  refine Calls.of_tri (N := 12) Try.func146 rfl rfl rfl (Sep.nil (M := noM)) ?_
  refine Tri.seq ?_
  refine Tri.reg (l := [0]) rfl ?_
  refine F.q rfl rfl rfl (wanted_none rfl) (r_assign rfl) ?_
  refine F.nil ?_
  refine Nrm.seq ?_
  refine Tri.seq ?_
  refine Tri.reg (l := [0, 1, 2, 3, 4, 5, 6]) rfl ?_
  refine F.q rfl rfl rfl (wanted_none rfl) (r_move rfl) ?_
  refine F.q rfl rfl rfl (wanted_none rfl) (r_fieldAddr tf57_0 rfl) ?_
  refine F.q rfl rfl rfl (wanted_none rfl) (r_fieldAddr tf55_0 rfl) ?_
  refine F.q rfl rfl rfl (wanted_none rfl) (r_load ta3 rfl (fun w hw => cell_2 (hb_c0.sep hw) rfl)) ?_
  refine F.q rfl rfl rfl (wanted_none rfl) (r_sub rfl rfl) ?_
  refine F.q rfl rfl rfl (wanted_none rfl) (r_eql rfl rfl) ?_
  refine F.q rfl rfl rfl (wanted_none rfl) (r_assign rfl) ?_
  refine F.nil ?_
  refine Nrm.seq ?_
  refine Tri.ret ?_
  cases h
  exact Rtn.body (.tmp rfl .nil) (fun w hw => ⟨rfl, hw.ext⟩)

end Go.Proofs

/- loop.example/g01158/impl.toTrapGoal -/
namespace Go.Proofs
open Go Go.Ga
set_option linter.unusedVariables false
set_option maxRecDepth 100000
set_option maxHeartbeats 4000000
def impl_toTrapGoal.f (k : Nat) (a0_0 : Int) (a0_1 : List (Int × Int × Int)) (a0_2 : List Int) (a0_3 : List Int) : Option ((Arr 768)) := (impl_trapTo.f k a0_0 a0_1 a0_2 a0_3 (fun z0 z1 => impl_toTrapGoal_1.f k z0 z1 a0_0 a0_1 a0_2 a0_3)).bind fun t5 => some t5

theorem impl_toTrapGoal.ok {k : Nat}  {a0_0 : Int} {a0_1 : List (Int × Int × Int)} {a0_2 : List Int} {a0_3 : List Int} {r0 : Arr 768} (h : impl_toTrapGoal.f k a0_0 a0_1 a0_2 a0_3 = some r0) (w : World) {va0_1 : Value} {va0_2 : Value} {va0_3 : Value} (hr_a0_1 : Rd w va0_1 a0_1) (hr_a0_2 : Rd w va0_2 a0_2) (hr_a0_3 : Rd w va0_3 a0_3) :
    Calls Try.prog 100 ([.agg ([.int .i64 a0_0, va0_1, va0_2, va0_3].toArray)] : List Value).toArray w (fun e w' => e = .returned (.agg (encA r0).toArray) ∧ Ext w w') := by
  unfold impl_toTrapGoal.f at h
  have hl_va0_1 := hr_a0_1.len
  have hl_va0_2 := hr_a0_2.len
  have hl_va0_3 := hr_a0_3.len
  refine Calls.of_tri (N := 6) Try.func100 rfl rfl rfl (Sep.nil (M := noM)) ?_
  refine Tri.seq ?_
  refine Tri.reg (l := [0, 1]) rfl ?_
  refine F.m rfl rfl rfl (wanted_none rfl) (m_boxG rfl rfl) ?_
  rintro _ _ ⟨b1_1, rfl, rfl⟩
  refine F.m rfl rfl rfl (wanted_none rfl) (m_alloc ti114) ?_
  rintro _ _ ⟨b2_1, rfl, rfl⟩
  refine F.nil ?_
  refine Nrm.seq ?_
  refine Tri.seq ?_
  obtain ⟨t5, h5, h⟩ := bind_some h
  refine Tri.reg (l := [0, 1, 2, 3]) rfl ?_
  refine F.q rfl rfl rfl (wanted_none rfl) (r_loadA ta57 ti57 rfl rfl (fun w hw => (box_cells (i := 1) rfl w hw))) ?_
  refine F.q rfl rfl rfl (wanted_none rfl) (r_makeFunc rfl) ?_
  refine F.qc rfl rfl rfl (wanted_none rfl) (q_callF (xs := _) rfl ok145 rfl rfl (fun w hw => impl_trapTo.ok h5 w ((fun _ hw => hr_a0_1.sep hw) w hw) ((fun _ hw => hr_a0_2.sep hw) w hw) ((fun _ hw => hr_a0_3.sep hw) w hw) ok146 (fun w2 he2 z0 z1 y2 hy2 => impl_toTrapGoal_1.ok hy2 w2 ((box_cells (i := 1) rfl w hw).ext he2) (((fun _ hw => hr_a0_1.sep hw) w hw).ext he2) (((fun _ hw => hr_a0_2.sep hw) w hw).ext he2) (((fun _ hw => hr_a0_3.sep hw) w hw).ext he2)))) ?_
  refine F.ef0 rfl rfl (wanted_none rfl) (d_storeArr (i := 0) (g := (Arr.rep 768 0)) (h := t5) ti114 rfl rfl rfl) ?_
  rintro _ _ ⟨rfl, rfl⟩
  refine F.nil ?_
  refine Nrm.seq ?_
  refine Tri.ret ?_
  cases h
  exact Rtn.body (.cell rfl ta114 ti114 (encA_len _) (fun _ hw => box_cells (i := 0) rfl _ hw) .nil) (fun w hw => ⟨rfl, hw.ext⟩)

end Go.Proofs

/- loop.example/g01158/impl.within -/

namespace Go.Proofs
open Go Go.Ga
set_option linter.unusedVariables false
set_option maxRecDepth 100000
set_option maxHeartbeats 4000000
def impl_within.f (k : Nat) (a0 : Int) (a1 : Int) (a2 : Int) : Option (Bool) := ((if (decide (a1 ≤ a0)) = true then some (decide (a0 ≤ a2)) else some false)).bind fun y6 => some y6

theorem impl_within.ok {k : Nat}  {a0 : Int} {a1 : Int} {a2 : Int} {r0 : Bool} (h : impl_within.f k a0 a1 a2 = some r0) (w : World) :
    Calls Try.prog 88 ([.int .i64 a0, .int .i64 a1, .int .i64 a2] : List Value).toArray w (fun e w' => e = .returned (.bool r0) ∧ Ext w w') := by
  unfold impl_within.f at h
  refine Calls.of_tri (N := 15) Try.func88 rfl rfl rfl (Sep.nil (M := noM)) ?_
  refine Tri.seq ?_
  refine Tri.reg (l := [0]) rfl ?_
  refine F.q rfl rfl rfl (wanted_none rfl) (r_assign rfl) ?_
  refine F.nil ?_
  refine Nrm.seq ?_
  refine Tri.seq ?_
  obtain ⟨y6, hE_1, h⟩ := bind_some h
  refine Tri.cut (fun e' C' => e' = [(6, .bool y6)] ∧ C' = Sep w noM []) ?_ (fun hj_1 => ?_)
  · rintro _ _ ⟨rfl, rfl⟩
    refine Nrm.seq ?_
    refine Tri.ret ?_
    cases h
    exact Rtn.body (.tmp rfl .nil) (fun w hw => ⟨rfl, hw.ext⟩)
  · rcases Bool.eq_false_or_eq_true (decide (a1 ≤ a0)) with g10 | g10
    · replace hE_1 := if_tt g10 hE_1
      refine Tri.reg (l := [0, 1, 2, 3, 4, 5, 6, 7, 8]) rfl ?_
      refine F.q rfl rfl rfl (wanted_none rfl) (r_move rfl) ?_
      refine F.q rfl rfl rfl (wanted_none rfl) (r_move rfl) ?_
      refine F.q rfl rfl rfl (wanted_none rfl) (r_leq rfl rfl) ?_
      refine F.q rfl rfl rfl (wanted_none rfl) (r_move rfl) ?_
      refine F.q rfl rfl rfl (wg rfl rfl rfl g10) (r_move rfl) ?_
      refine F.q rfl rfl rfl (wg rfl rfl rfl g10) (r_move rfl) ?_
      refine F.q rfl rfl rfl (wg rfl rfl rfl g10) (r_leq rfl rfl) ?_
      refine F.q rfl rfl rfl (wanted_none rfl) (r_pick rfl rfl g10) ?_
      refine F.q rfl rfl rfl (wanted_none rfl) (r_assign rfl) ?_
      refine F.nil ?_
      cases hE_1
      refine Nrm.only [6] rfl ?_
      refine Nrm.pick [] rfl rfl ?_
      exact hj_1 _ _ ⟨rfl, rfl⟩
    · replace hE_1 := if_ff g10 hE_1
      refine Tri.reg (l := [0, 1, 2, 3, 4, 5, 6, 7, 8]) rfl ?_
      refine F.q rfl rfl rfl (wanted_none rfl) (r_move rfl) ?_
      refine F.q rfl rfl rfl (wanted_none rfl) (r_move rfl) ?_
      refine F.q rfl rfl rfl (wanted_none rfl) (r_leq rfl rfl) ?_
      refine F.q rfl rfl rfl (wanted_none rfl) (r_move rfl) ?_
      refine F.sk rfl rfl rfl (wf rfl rfl rfl g10) ?_
      refine F.sk rfl rfl rfl (wf rfl rfl rfl g10) ?_
      refine F.sk rfl rfl rfl (wf rfl rfl rfl g10) ?_
      refine F.q rfl rfl rfl (wanted_none rfl) (r_pickf rfl rfl g10) ?_
      refine F.q rfl rfl rfl (wanted_none rfl) (r_assign rfl) ?_
      refine F.nil ?_
      cases hE_1
      refine Nrm.only [6] rfl ?_
      refine Nrm.pick [] rfl rfl ?_
      exact hj_1 _ _ ⟨rfl, rfl⟩

end Go.Proofs

/- slices.IndexFunc[[]int,int] -/

namespace Go.Proofs
open Go Go.Ga
set_option linter.unusedVariables false
set_option maxRecDepth 100000
set_option maxHeartbeats 4000000
def slices_IndexFunc_int_int.l0 (k : Nat) (a0 : List Int) (a1 : (Int → Option (Bool))) : Nat → Int → Option ((Unit) ⊕ (Int))
  | 0, _ => none
  | n + 1, x8 => (if (decide (x8 < (a0.length : Int))) = true then (rdl a0 x8).bind fun t14 => (a1 t14).bind fun t16 => (if t16 = true then some (Sum.inr x8) else slices_IndexFunc_int_int.l0 k a0 a1 n (w64 (x8 + 1))) else some (Sum.inl ()))

def slices_IndexFunc_int_int.f (k : Nat) (a0 : List Int) (a1 : (Int → Option (Bool))) : Option (Int) := (slices_IndexFunc_int_int.l0 k a0 a1 k 0).bind fun s => Lr s some fun _ => some (-1)

theorem slices_IndexFunc_int_int.ok {k : Nat}  {a0 : List Int} {a1 : (Int → Option (Bool))} {r0 : Int} (h : slices_IndexFunc_int_int.f k a0 a1 = some r0) (w : World) {va0 : Value} (hr_a0 : Rd w va0 a0) {fi_a1 : FuncId} {ca_a1 : Array Value} (ho_a1 : CallOk Try.prog fi_a1) (hf_a1 : ∀ w2, Ext w w2 → ∀ (z0 : Int) (y : Bool), a1 z0 = some y → Calls Try.prog fi_a1 (([.int .i64 z0] : List Value) ++ ca_a1.toList).toArray w2 (fun e w3 => e = .returned (.bool y) ∧ Ext w2 w3)) :
    Calls Try.prog 153 ([va0, .func (.func fi_a1) #[] ca_a1] : List Value).toArray w (fun e w' => e = .returned (.int .i64 r0) ∧ Ext w w') := by
  unfold slices_IndexFunc_int_int.f at h
  have hl_va0 := hr_a0.len
  refine Calls.of_tri (N := 19) Try.func153 rfl rfl rfl (Sep.nil (M := noM)) ?_
  refine Tri.seq ?_
  refine Tri.reg (l := [0]) rfl ?_
  refine F.q rfl rfl rfl (wanted_none rfl) (r_assign rfl) ?_
  refine F.nil ?_
  refine Nrm.seq ?_
  refine Tri.seq ?_
  refine Tri.seq ?_
  refine Tri.reg (l := [0, 1, 2]) rfl ?_
  refine F.q rfl rfl rfl (wanted_none rfl) (r_move rfl) ?_
  refine F.q rfl rfl rfl (wanted_none rfl) (r_len Try.underlying38 rfl hl_va0) ?_
  refine F.q rfl rfl rfl (wanted_none rfl) (r_move rfl) ?_
  refine F.nil ?_
  refine Nrm.seq ?_
  obtain ⟨s0, hE_1, h⟩ := bind_some h
  refine Tri.block ?_
  refine Tri.only [0, 1, 7, 8] rfl ?_
  refine Tri.pick [] rfl rfl ?_
  refine Tri.rounds (fun n e' C' => ∃ (x8' : Int), slices_IndexFunc_int_int.l0 k a0 a1 n x8' = some s0 ∧ e' = [(0, va0), (1, .func (.func fi_a1) #[] ca_a1), (7, .int .i64 (a0.length : Int)), (8, .int .i64 x8')] ∧ C' = Sep w noM []) k ?_ ?_ ?_
  · exact ⟨0, hE_1, rfl, rfl⟩
  · rintro _ _ ⟨_, hE_1, _⟩
    rw [slices_IndexFunc_int_int.l0.eq_1] at hE_1; cases hE_1
  · rintro n_1 _ _ ⟨x8, hE_1, rfl, rfl⟩ ih_1
    rw [slices_IndexFunc_int_int.l0.eq_2] at hE_1
    refine Tri.seq ?_
    refine Tri.reg (l := [0]) rfl ?_
    refine F.q rfl rfl rfl (wanted_none rfl) (r_lss rfl rfl) ?_
    refine F.nil ?_
    refine Nrm.seq ?_
    refine Tri.seq ?_
    refine Tri.cond (b := decide (x8 < (a0.length : Int))) rfl (fun g_1 => ?_) (fun g_1 => ?_)
    · replace hE_1 := if_tt g_1 hE_1
      refine Tri.skip ?_
      refine Nrm.seq ?_
      refine Tri.seq ?_
      refine Tri.block ?_
      refine Tri.seq ?_
      refine Tri.reg (l := [0, 1]) rfl ?_
      refine F.q rfl rfl rfl (wanted_none rfl) (r_move rfl) ?_
      refine F.q rfl rfl rfl (wanted_none rfl) (r_assign rfl) ?_
      refine F.nil ?_
      refine Nrm.seq ?_
      refine Tri.seq ?_
      obtain ⟨t14, h14, hE_1⟩ := bind_some hE_1
      obtain ⟨t16, h16, hE_1⟩ := bind_some hE_1
      refine Tri.reg (l := [0, 1, 2, 3, 4, 5]) rfl ?_
      refine F.q rfl rfl rfl (wanted_none rfl) (r_move rfl) ?_
      refine F.q rfl rfl rfl (wanted_none rfl) (r_move rfl) ?_
      refine F.q rfl rfl rfl (wanted_none rfl) (r_move rfl) ?_
      refine F.q rfl rfl rfl (wanted_none rfl) (r_indexAddrS Try.underlying38 ti3 rfl hl_va0 rfl (rdl_some h14).1 (rdl_some h14).2.1) ?_
      refine F.q rfl rfl rfl (wanted_none rfl) (r_load ta3 rfl (fun w hw => cell_0 (Rd.flat ((fun _ hw => hr_a0.sep hw) w hw) (rdl_some h14).2.2) rfl)) ?_
      refine F.qc rfl rfl rfl (wanted_none rfl) (q_callC (xs := _) rfl ho_a1 rfl rfl (fun w hw => hf_a1 w hw.ext _  _ h16)) ?_
      refine F.nil ?_
      refine Nrm.seq ?_
      refine Tri.cond (b := t16) rfl (fun g_2 => ?_) (fun g_2 => ?_)
      · replace hE_1 := if_tt g_2 hE_1
        refine Tri.seq ?_
        refine Tri.reg (l := [0, 1]) rfl ?_
        refine F.q rfl rfl rfl (wanted_none rfl) (r_move rfl) ?_
        refine F.q rfl rfl rfl (wanted_none rfl) (r_assign rfl) ?_
        refine F.nil ?_
        refine Nrm.seq ?_
        refine Tri.ret ?_
        refine Rtn.block ?_
        refine Rtn.then ?_
        refine Rtn.then ?_
        refine Rtn.block ?_
        refine Rtn.then ?_
        cases hE_1
        replace h := Lr_inr h
        cases h
        exact Rtn.body (.tmp rfl .nil) (fun w hw => ⟨rfl, hw.ext⟩)
      · replace hE_1 := if_ff g_2 hE_1
        refine Tri.skip ?_
        refine Nrm.block ?_
        refine Nrm.seq ?_
        refine Tri.reg (l := [0, 1]) rfl ?_
        refine F.q rfl rfl rfl (wanted_none rfl) (r_add rfl rfl) ?_
        refine F.q rfl rfl rfl (wanted_none rfl) (r_move rfl) ?_
        refine F.nil ?_
        refine Nrm.round ?_
        refine Rnd.only [0, 1, 7, 8] rfl ?_
        refine Rnd.pick [] rfl rfl ?_
        exact ih_1 _ _ ⟨w64 (x8 + 1), hE_1, rfl, rfl⟩
    · replace hE_1 := if_ff g_1 hE_1
      refine Tri.exit ?_
      refine Exi.then ?_
      refine Exi.then ?_
      refine Exi.same ?_
      cases hE_1
      replace h := Lr_inl h
      refine Nrm.seq ?_
      refine Tri.seq ?_
      refine Tri.reg (l := [0]) rfl ?_
      refine F.q rfl rfl rfl (wanted_none rfl) (r_assign rfl) ?_
      refine F.nil ?_
      refine Nrm.seq ?_
      refine Tri.ret ?_
      cases h
      exact Rtn.body (.tmp rfl .nil) (fun w hw => ⟨rfl, hw.ext⟩)

end Go.Proofs

/- slices.ContainsFunc[[]int,int] -/
namespace Go.Proofs
open Go Go.Ga
set_option linter.unusedVariables false
set_option maxRecDepth 100000
set_option maxHeartbeats 4000000
def slices_ContainsFunc_int_int.f (k : Nat) (a0 : List Int) (a1 : (Int → Option (Bool))) : Option (Bool) := (slices_IndexFunc_int_int.f k a0 a1).bind fun t7 => some (decide (t7 ≥ 0))

theorem slices_ContainsFunc_int_int.ok {k : Nat}  {a0 : List Int} {a1 : (Int → Option (Bool))} {r0 : Bool} (h : slices_ContainsFunc_int_int.f k a0 a1 = some r0) (w : World) {va0 : Value} (hr_a0 : Rd w va0 a0) {fi_a1 : FuncId} {ca_a1 : Array Value} (ho_a1 : CallOk Try.prog fi_a1) (hf_a1 : ∀ w2, Ext w w2 → ∀ (z0 : Int) (y : Bool), a1 z0 = some y → Calls Try.prog fi_a1 (([.int .i64 z0] : List Value) ++ ca_a1.toList).toArray w2 (fun e w3 => e = .returned (.bool y) ∧ Ext w2 w3)) :
    Calls Try.prog 122 ([va0, .func (.func fi_a1) #[] ca_a1] : List Value).toArray w (fun e w' => e = .returned (.bool r0) ∧ Ext w w') := by
  unfold slices_ContainsFunc_int_int.f at h
  have hl_va0 := hr_a0.len
  refine Calls.of_tri (N := 9) Try.func122 rfl rfl rfl (Sep.nil (M := noM)) ?_
  refine Tri.seq ?_
  refine Tri.reg (l := [0]) rfl ?_
  refine F.q rfl rfl rfl (wanted_none rfl) (r_assign rfl) ?_
  refine F.nil ?_
  refine Nrm.seq ?_
  refine Tri.seq ?_
  obtain ⟨t7, h7, h⟩ := bind_some h
  refine Tri.reg (l := [0, 1, 2, 3, 4]) rfl ?_
  refine F.q rfl rfl rfl (wanted_none rfl) (r_move rfl) ?_
  refine F.q rfl rfl rfl (wanted_none rfl) (r_move rfl) ?_
  refine F.qc rfl rfl rfl (wanted_none rfl) (q_callF (xs := _) rfl ok153 rfl rfl (fun w hw => slices_IndexFunc_int_int.ok h7 w ((fun _ hw => hr_a0.sep hw) w hw) ho_a1 (fun w2 he2 => hf_a1 w2 (hw.ext.trans he2)))) ?_
  refine F.q rfl rfl rfl (wanted_none rfl) (r_geq rfl rfl) ?_
  refine F.q rfl rfl rfl (wanted_none rfl) (r_assign rfl) ?_
  refine F.nil ?_
  refine Nrm.seq ?_
  refine Tri.ret ?_
  cases h
  exact Rtn.body (.tmp rfl .nil) (fun w hw => ⟨rfl, hw.ext⟩)

end Go.Proofs

/- loop.example/g01158/impl.isSet -/
namespace Go.Proofs
open Go Go.Ga
set_option linter.unusedVariables false
set_option maxRecDepth 100000
set_option maxHeartbeats 4000000
def impl_isSet.f (k : Nat) (a0 : Int) : Option (Bool) := (impl_within.f k a0 0 63).bind fun t4 => some t4

theorem impl_isSet.ok {k : Nat}  {a0 : Int} {r0 : Bool} (h : impl_isSet.f k a0 = some r0) (w : World) :
    Calls Try.prog 144 ([.int .i64 a0] : List Value).toArray w (fun e w' => e = .returned (.bool r0) ∧ Ext w w') := by
  unfold impl_isSet.f at h
  refine Calls.of_tri (N := 5) Try.func144 rfl rfl rfl (Sep.nil (M := noM)) ?_
  refine Tri.seq ?_
  refine Tri.reg (l := [0]) rfl ?_
  refine F.q rfl rfl rfl (wanted_none rfl) (r_assign rfl) ?_
  refine F.nil ?_
  refine Nrm.seq ?_
  refine Tri.seq ?_
  obtain ⟨t4, h4, h⟩ := bind_some h
  refine Tri.reg (l := [0, 1, 2]) rfl ?_
  refine F.q rfl rfl rfl (wanted_none rfl) (r_move rfl) ?_
  refine F.qc rfl rfl rfl (wanted_none rfl) (q_callF (xs := _) rfl ok88 rfl rfl (fun w hw => impl_within.ok h4 w )) ?_
  refine F.q rfl rfl rfl (wanted_none rfl) (r_assign rfl) ?_
  refine F.nil ?_
  refine Nrm.seq ?_
  refine Tri.ret ?_
  cases h
  exact Rtn.body (.tmp rfl .nil) (fun w hw => ⟨rfl, hw.ext⟩)

end Go.Proofs

/- cmp.Or[int] -/

namespace Go.Proofs
open Go Go.Ga
set_option linter.unusedVariables false
set_option maxRecDepth 100000
set_option maxHeartbeats 4000000
def cmp_Or_int.l0 (k : Nat) (a0 : List Int) : Nat → Int → Option ((Unit) ⊕ (Int))
  | 0, _ => none
  | n + 1, x8 => (if (decide (x8 < (a0.length : Int))) = true then (rdl a0 x8).bind fun t10 => (if (t10 != 0) = true then some (Sum.inr t10) else cmp_Or_int.l0 k a0 n (w64 (x8 + 1))) else some (Sum.inl ()))

def cmp_Or_int.f (k : Nat) (a0 : List Int) : Option (Int) := (cmp_Or_int.l0 k a0 k 0).bind fun s => Lr s some fun _ => some 0

theorem cmp_Or_int.ok {k : Nat}  {a0 : List Int} {r0 : Int} (h : cmp_Or_int.f k a0 = some r0) (w : World) {va0 : Value} (hr_a0 : Rd w va0 a0) :
    Calls Try.prog 171 ([va0] : List Value).toArray w (fun e w' => e = .returned (.int .i64 r0) ∧ Ext w w') := by
  unfold cmp_Or_int.f at h
  have hl_va0 := hr_a0.len
  refine Calls.of_tri (N := 18) Try.func171 rfl rfl rfl (Sep.nil (M := noM)) ?_
  refine Tri.seq ?_
  refine Tri.reg (l := [0]) rfl ?_
  refine F.q rfl rfl rfl (wanted_none rfl) (r_assign rfl) ?_
  refine F.nil ?_
  refine Nrm.seq ?_
  refine Tri.seq ?_
  refine Tri.reg (l := [0]) rfl ?_
  refine F.q rfl rfl rfl (wanted_none rfl) (r_assign rfl) ?_
  refine F.nil ?_
  refine Nrm.seq ?_
  refine Tri.seq ?_
  refine Tri.seq ?_
  refine Tri.reg (l := [0, 1, 2]) rfl ?_
  refine F.q rfl rfl rfl (wanted_none rfl) (r_move rfl) ?_
  refine F.q rfl rfl rfl (wanted_none rfl) (r_len Try.underlying38 rfl hl_va0) ?_
  refine F.q rfl rfl rfl (wanted_none rfl) (r_move rfl) ?_
  refine F.nil ?_
  refine Nrm.seq ?_
  obtain ⟨s0, hE_1, h⟩ := bind_some h
  refine Tri.block ?_
  refine Tri.only [3, 6, 7, 8] rfl ?_
  refine Tri.pick [] rfl rfl ?_
  refine Tri.rounds (fun n e' C' => ∃ (x8' : Int), cmp_Or_int.l0 k a0 n x8' = some s0 ∧ e' = [(3, .int .i64 0), (6, va0), (7, .int .i64 (a0.length : Int)), (8, .int .i64 x8')] ∧ C' = Sep w noM []) k ?_ ?_ ?_
  · exact ⟨0, hE_1, rfl, rfl⟩
  · rintro _ _ ⟨_, hE_1, _⟩
    rw [cmp_Or_int.l0.eq_1] at hE_1; cases hE_1
  · rintro n_1 _ _ ⟨x8, hE_1, rfl, rfl⟩ ih_1
    rw [cmp_Or_int.l0.eq_2] at hE_1
    refine Tri.seq ?_
    refine Tri.reg (l := [0]) rfl ?_
    refine F.q rfl rfl rfl (wanted_none rfl) (r_lss rfl rfl) ?_
    refine F.nil ?_
    refine Nrm.seq ?_
    refine Tri.seq ?_
    refine Tri.cond (b := decide (x8 < (a0.length : Int))) rfl (fun g_1 => ?_) (fun g_1 => ?_)
    · replace hE_1 := if_tt g_1 hE_1
      refine Tri.skip ?_
      refine Nrm.seq ?_
      refine Tri.seq ?_
      refine Tri.block ?_
      refine Tri.seq ?_
      obtain ⟨t10, h10, hE_1⟩ := bind_some hE_1
      refine Tri.reg (l := [0, 1, 2]) rfl ?_
      refine F.q rfl rfl rfl (wanted_none rfl) (r_indexAddrS Try.underlying38 ti3 rfl hl_va0 rfl (rdl_some h10).1 (rdl_some h10).2.1) ?_
      refine F.q rfl rfl rfl (wanted_none rfl) (r_load ta3 rfl (fun w hw => cell_0 (Rd.flat ((fun _ hw => hr_a0.sep hw) w hw) (rdl_some h10).2.2) rfl)) ?_
      refine F.q rfl rfl rfl (wanted_none rfl) (r_assign rfl) ?_
      refine F.nil ?_
      refine Nrm.seq ?_
      refine Tri.seq ?_
      refine Tri.reg (l := [0, 1, 2]) rfl ?_
      refine F.q rfl rfl rfl (wanted_none rfl) (r_move rfl) ?_
      refine F.q rfl rfl rfl (wanted_none rfl) (r_move rfl) ?_
      refine F.q rfl rfl rfl (wanted_none rfl) (r_neq rfl rfl) ?_
      refine F.nil ?_
      refine Nrm.seq ?_
      refine Tri.cond (b := t10 != 0) rfl (fun g_2 => ?_) (fun g_2 => ?_)
      · replace hE_1 := if_tt g_2 hE_1
        refine Tri.seq ?_
        refine Tri.reg (l := [0, 1]) rfl ?_
        refine F.q rfl rfl rfl (wanted_none rfl) (r_move rfl) ?_
        refine F.q rfl rfl rfl (wanted_none rfl) (r_assign rfl) ?_
        refine F.nil ?_
        refine Nrm.seq ?_
        refine Tri.ret ?_
        refine Rtn.block ?_
        refine Rtn.then ?_
        refine Rtn.then ?_
        refine Rtn.block ?_
        refine Rtn.then ?_
        cases hE_1
        replace h := Lr_inr h
        cases h
        exact Rtn.body (.tmp rfl .nil) (fun w hw => ⟨rfl, hw.ext⟩)
      · replace hE_1 := if_ff g_2 hE_1
        refine Tri.skip ?_
        refine Nrm.block ?_
        refine Nrm.seq ?_
        refine Tri.reg (l := [0, 1]) rfl ?_
        refine F.q rfl rfl rfl (wanted_none rfl) (r_add rfl rfl) ?_
        refine F.q rfl rfl rfl (wanted_none rfl) (r_move rfl) ?_
        refine F.nil ?_
        refine Nrm.round ?_
        refine Rnd.only [3, 6, 7, 8] rfl ?_
        refine Rnd.pick [] rfl rfl ?_
        exact ih_1 _ _ ⟨w64 (x8 + 1), hE_1, rfl, rfl⟩
    · replace hE_1 := if_ff g_1 hE_1
      refine Tri.exit ?_
      refine Exi.then ?_
      refine Exi.then ?_
      refine Exi.same ?_
      cases hE_1
      replace h := Lr_inl h
      refine Nrm.seq ?_
      refine Tri.seq ?_
      refine Tri.reg (l := [0, 1]) rfl ?_
      refine F.q rfl rfl rfl (wanted_none rfl) (r_move rfl) ?_
      refine F.q rfl rfl rfl (wanted_none rfl) (r_assign rfl) ?_
      refine F.nil ?_
      refine Nrm.seq ?_
      refine Tri.ret ?_
      cases h
      exact Rtn.body (.tmp rfl .nil) (fun w hw => ⟨rfl, hw.ext⟩)

end Go.Proofs

/- cmp.isNaN[int] -/

namespace Go.Proofs
open Go Go.Ga
set_option linter.unusedVariables false
set_option maxRecDepth 100000
set_option maxHeartbeats 4000000
def cmp_isNaN_int.f (k : Nat) (a0 : Int) : Option (Bool) := some (a0 != a0)

theorem cmp_isNaN_int.ok {k : Nat}  {a0 : Int} {r0 : Bool} (h : cmp_isNaN_int.f k a0 = some r0) (w : World) :
    Calls Try.prog 166 ([.int .i64 a0] : List Value).toArray w (fun e w' => e = .returned (.bool r0) ∧ Ext w w') := by
  unfold cmp_isNaN_int.f at h
  refine Calls.of_tri (N := 6) Try.func166 rfl rfl rfl (Sep.nil (M := noM)) ?_
  refine Tri.seq ?_
  refine Tri.reg (l := [0]) rfl ?_
  refine F.q rfl rfl rfl (wanted_none rfl) (r_assign rfl) ?_
  refine F.nil ?_
  refine Nrm.seq ?_
  refine Tri.seq ?_
  refine Tri.reg (l := [0, 1, 2, 3]) rfl ?_
  refine F.q rfl rfl rfl (wanted_none rfl) (r_move rfl) ?_
  refine F.q rfl rfl rfl (wanted_none rfl) (r_move rfl) ?_
  refine F.q rfl rfl rfl (wanted_none rfl) (r_neq rfl rfl) ?_
  refine F.q rfl rfl rfl (wanted_none rfl) (r_assign rfl) ?_
  refine F.nil ?_
  refine Nrm.seq ?_
  refine Tri.ret ?_
  cases h
  exact Rtn.body (.tmp rfl .nil) (fun w hw => ⟨rfl, hw.ext⟩)

end Go.Proofs
