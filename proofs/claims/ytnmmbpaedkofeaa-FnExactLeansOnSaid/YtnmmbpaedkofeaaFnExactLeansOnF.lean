/- A part of the proof of FnExactLeansOn: what the functions of the program compute, walked on the model. No condition. -/
import Derived.Test.YtnmmbpaedkofeaaFnExactLeansOnC
import Derived.Test.YtnmmbpaedkofeaaFnExactLeansOnE
set_option linter.unusedSimpArgs false
/- loop.example/g01158/spec.l1In -/

namespace Go.Proofs
open Go Go.Ga
set_option linter.unusedVariables false
set_option maxRecDepth 100000
set_option maxHeartbeats 4000000
def spec_l1In.f (k : Nat) (a0 : Int) (a1 : Int) (a2 : Int) : Option (Bool) := ((if (decide (a0 ≥ a1)) = true then some (decide (a0 ≤ a2)) else some false)).bind fun y6 => some y6

theorem spec_l1In.ok {k : Nat}  {a0 : Int} {a1 : Int} {a2 : Int} {r0 : Bool} (h : spec_l1In.f k a0 a1 a2 = some r0) (w : World) :
    Calls Try.prog 84 ([.int .i64 a0, .int .i64 a1, .int .i64 a2] : List Value).toArray w (fun e w' => e = .returned (.bool r0) ∧ Ext w w') := by
  unfold spec_l1In.f at h
  refine Calls.of_tri (N := 15) Try.func84 rfl rfl rfl (Sep.nil (M := noM)) ?_
  refine Tri.seq ?_
  refine Tri.reg (l := [0]) rfl ?_
  refine F.q rfl rfl rfl (wanted_none rfl) (r_assign rfl) ?_
  refine F.nil ?_
  refine Nrm.seq ?_
  refine Tri.seq ?_
  obtain ⟨y6, hE_1, h⟩ := bind_some h
  refine Tri.cut (fun e' C' => e' = [(6, .bool y6)] ∧ C' = Sep w noM []) ?_ (fun hj_1 => ?_)
  · rintro _ _ ⟨rfl, rfl⟩
    refine Nrm.seq ?_
    refine Tri.ret ?_
    cases h
    exact Rtn.body (.tmp rfl .nil) (fun w hw => ⟨rfl, hw.ext⟩)
  · rcases Bool.eq_false_or_eq_true (decide (a0 ≥ a1)) with g10 | g10
    · replace hE_1 := if_tt g10 hE_1
      refine Tri.reg (l := [0, 1, 2, 3, 4, 5, 6, 7, 8]) rfl ?_
      refine F.q rfl rfl rfl (wanted_none rfl) (r_move rfl) ?_
      refine F.q rfl rfl rfl (wanted_none rfl) (r_move rfl) ?_
      refine F.q rfl rfl rfl (wanted_none rfl) (r_geq rfl rfl) ?_
      refine F.q rfl rfl rfl (wanted_none rfl) (r_move rfl) ?_
      refine F.q rfl rfl rfl (wg rfl rfl rfl g10) (r_move rfl) ?_
      refine F.q rfl rfl rfl (wg rfl rfl rfl g10) (r_move rfl) ?_
      refine F.q rfl rfl rfl (wg rfl rfl rfl g10) (r_leq rfl rfl) ?_
      refine F.q rfl rfl rfl (wanted_none rfl) (r_pick rfl rfl g10) ?_
      refine F.q rfl rfl rfl (wanted_none rfl) (r_assign rfl) ?_
      refine F.nil ?_
      cases hE_1
      refine Nrm.only [6] rfl ?_
      refine Nrm.pick [] rfl rfl ?_
      exact hj_1 _ _ ⟨rfl, rfl⟩
    · replace hE_1 := if_ff g10 hE_1
      refine Tri.reg (l := [0, 1, 2, 3, 4, 5, 6, 7, 8]) rfl ?_
      refine F.q rfl rfl rfl (wanted_none rfl) (r_move rfl) ?_
      refine F.q rfl rfl rfl (wanted_none rfl) (r_move rfl) ?_
      refine F.q rfl rfl rfl (wanted_none rfl) (r_geq rfl rfl) ?_
      refine F.q rfl rfl rfl (wanted_none rfl) (r_move rfl) ?_
      refine F.sk rfl rfl rfl (wf rfl rfl rfl g10) ?_
      refine F.sk rfl rfl rfl (wf rfl rfl rfl g10) ?_
      refine F.sk rfl rfl rfl (wf rfl rfl rfl g10) ?_
      refine F.q rfl rfl rfl (wanted_none rfl) (r_pickf rfl rfl g10) ?_
      refine F.q rfl rfl rfl (wanted_none rfl) (r_assign rfl) ?_
      refine F.nil ?_
      cases hE_1
      refine Nrm.only [6] rfl ?_
      refine Nrm.pick [] rfl rfl ?_
      exact hj_1 _ _ ⟨rfl, rfl⟩

end Go.Proofs

/- loop.example/g01158/spec.l2Set -/
namespace Go.Proofs
open Go Go.Ga
set_option linter.unusedVariables false
set_option maxRecDepth 100000
set_option maxHeartbeats 4000000
def spec_l2Set.f (k : Nat) (a0 : Int) : Option (Bool) := (spec_l1In.f k a0 0 63).bind fun t4 => some t4

theorem spec_l2Set.ok {k : Nat}  {a0 : Int} {r0 : Bool} (h : spec_l2Set.f k a0 = some r0) (w : World) :
    Calls Try.prog 142 ([.int .i64 a0] : List Value).toArray w (fun e w' => e = .returned (.bool r0) ∧ Ext w w') := by
  unfold spec_l2Set.f at h
  refine Calls.of_tri (N := 5) Try.func142 rfl rfl rfl (Sep.nil (M := noM)) ?_
  refine Tri.seq ?_
  refine Tri.reg (l := [0]) rfl ?_
  refine F.q rfl rfl rfl (wanted_none rfl) (r_assign rfl) ?_
  refine F.nil ?_
  refine Nrm.seq ?_
  refine Tri.seq ?_
  obtain ⟨t4, h4, h⟩ := bind_some h
  refine Tri.reg (l := [0, 1, 2]) rfl ?_
  refine F.q rfl rfl rfl (wanted_none rfl) (r_move rfl) ?_
  refine F.qc rfl rfl rfl (wanted_none rfl) (q_callF (xs := _) rfl ok84 rfl rfl (fun w hw => spec_l1In.ok h4 w )) ?_
  refine F.q rfl rfl rfl (wanted_none rfl) (r_assign rfl) ?_
  refine F.nil ?_
  refine Nrm.seq ?_
  refine Tri.ret ?_
  cases h
  exact Rtn.body (.tmp rfl .nil) (fun w hw => ⟨rfl, hw.ext⟩)

end Go.Proofs

/- loop.example/g01158/spec.l2Before -/

namespace Go.Proofs
open Go Go.Ga
set_option linter.unusedVariables false
set_option maxRecDepth 100000
set_option maxHeartbeats 4000000
def spec_l2Before.l0 (k : Nat) (a0_0 : Int) (a0_1 : Int) (a0_2 : Int) (a1_0 : Int) (a1_1 : Int) (a1_2 : Int) : Nat → Int → Option ((Unit) ⊕ (Bool))
  | 0, _ => none
  | n + 1, x5 => (if (decide (x5 < 3)) = true then (rdl [a0_0, a0_1, a0_2] x5).bind fun t11 => (rdl [a1_0, a1_1, a1_2] x5).bind fun t14 => (if (t11 != t14) = true then (rdl [a0_0, a0_1, a0_2] x5).bind fun t18 => (rdl [a1_0, a1_1, a1_2] x5).bind fun t21 => some (Sum.inr (decide (t18 < t21))) else spec_l2Before.l0 k a0_0 a0_1 a0_2 a1_0 a1_1 a1_2 n (w64 (x5 + 1))) else some (Sum.inl ()))

def spec_l2Before.f (k : Nat) (a0_0 : Int) (a0_1 : Int) (a0_2 : Int) (a1_0 : Int) (a1_1 : Int) (a1_2 : Int) : Option (Bool) := (spec_l2Before.l0 k a0_0 a0_1 a0_2 a1_0 a1_1 a1_2 k 0).bind fun s => Lr s some fun _ => some false

theorem spec_l2Before.ok {k : Nat}  {a0_0 : Int} {a0_1 : Int} {a0_2 : Int} {a1_0 : Int} {a1_1 : Int} {a1_2 : Int} {r0 : Bool} (h : spec_l2Before.f k a0_0 a0_1 a0_2 a1_0 a1_1 a1_2 = some r0) (w : World) :
    Calls Try.prog 157 ([.agg ([.int .i64 a0_0, .int .i64 a0_1, .int .i64 a0_2].toArray), .agg ([.int .i64 a1_0, .int .i64 a1_1, .int .i64 a1_2].toArray)] : List Value).toArray w (fun e w' => e = .returned (.bool r0) ∧ Ext w w') := by
  unfold spec_l2Before.f at h
  refine Calls.of_tri (N := 24) Try.func157 rfl rfl rfl (Sep.nil (M := noM)) ?_
  refine Tri.seq ?_
  refine Tri.reg (l := [0, 1, 2]) rfl ?_
  refine F.m rfl rfl rfl (wanted_none rfl) (m_boxG rfl rfl) ?_
  rintro _ _ ⟨b2_1, rfl, rfl⟩
  refine F.m rfl rfl rfl (wanted_none rfl) (m_boxG rfl rfl) ?_
  rintro _ _ ⟨b3_1, rfl, rfl⟩
  refine F.q rfl rfl rfl (wanted_none rfl) (r_assign rfl) ?_
  refine F.nil ?_
  refine Nrm.seq ?_
  refine Tri.seq ?_
  refine Tri.seq ?_
  refine Tri.reg (l := [0]) rfl ?_
  refine F.q rfl rfl rfl (wanted_none rfl) (r_assign rfl) ?_
  refine F.nil ?_
  refine Nrm.seq ?_
  obtain ⟨s0, hE_1, h⟩ := bind_some h
  refine Tri.block ?_
  refine Tri.only [2, 3, 5] rfl ?_
  refine Tri.pick [0, 1] rfl rfl ?_
  refine Tri.rounds (fun n e' C' => ∃ (x5' : Int), spec_l2Before.l0 k a0_0 a0_1 a0_2 a1_0 a1_1 a1_2 n x5' = some s0 ∧ e' = [(2, .pointer (some ⟨b2_1, 0, none⟩)), (3, .pointer (some ⟨b3_1, 0, none⟩)), (5, .int .i64 x5')] ∧ C' = Sep w noM [R.box b3_1 140 [.int .i64 a1_0, .int .i64 a1_1, .int .i64 a1_2], R.box b2_1 140 [.int .i64 a0_0, .int .i64 a0_1, .int .i64 a0_2]]) k ?_ ?_ ?_
  · exact ⟨0, hE_1, rfl, rfl⟩
  · rintro _ _ ⟨_, hE_1, _⟩
    rw [spec_l2Before.l0.eq_1] at hE_1; cases hE_1
  · rintro n_1 _ _ ⟨x5, hE_1, rfl, rfl⟩ ih_1
    rw [spec_l2Before.l0.eq_2] at hE_1
    refine Tri.seq ?_
    refine Tri.seq ?_
    refine Tri.reg (l := [0, 1]) rfl ?_
    refine F.q rfl rfl rfl (wanted_none rfl) (r_move rfl) ?_
    refine F.q rfl rfl rfl (wanted_none rfl) (r_lss rfl rfl) ?_
    refine F.nil ?_
    refine Nrm.seq ?_
    refine Tri.cond (b := decide (x5 < 3)) rfl (fun g_1 => ?_) (fun g_1 => ?_)
    · replace hE_1 := if_tt g_1 hE_1
      refine Tri.skip ?_
      refine Nrm.seq ?_
      refine Tri.seq ?_
      refine Tri.block ?_
      refine Tri.seq ?_
      obtain ⟨t11, h11, hE_1⟩ := bind_some hE_1
      obtain ⟨t14, h14, hE_1⟩ := bind_some hE_1
      refine Tri.drawA mixedT Sep.up [(0, true), (1, true), (2, true), (3, true), (4, true), (5, true), (6, true)] [] (by kernel_rfl) ?_
      refine S.q rfl rfl rfl (wanted_none rfl) (r_move rfl) ?_
      refine S.q rfl rfl rfl (wanted_none rfl) (r_indexAddrA Try.underlying140 ti3 rfl rfl (rdl_some h11).1 (rdl_some h11).2.1) ?_
      refine S.q rfl rfl rfl (wanted_none rfl) (r_load ta3 rfl (fun w hw => cell_dynB (box_cells (i := 1) rfl w hw) rfl h11)) ?_
      refine S.q rfl rfl rfl (wanted_none rfl) (r_move rfl) ?_
      refine S.q rfl rfl rfl (wanted_none rfl) (r_indexAddrA Try.underlying140 ti3 rfl rfl (rdl_some h14).1 (rdl_some h14).2.1) ?_
      refine S.q rfl rfl rfl (wanted_none rfl) (r_load ta3 rfl (fun w hw => cell_dynB (box_cells (i := 0) rfl w hw) rfl h14)) ?_
      refine S.q rfl rfl rfl (wanted_none rfl) (r_neq rfl rfl) ?_
      refine S.nil ?_
      refine F.nil ?_
      refine Nrm.seq ?_
      refine Tri.cond (b := t11 != t14) rfl (fun g_2 => ?_) (fun g_2 => ?_)
      · replace hE_1 := if_tt g_2 hE_1
        refine Tri.seq ?_
        obtain ⟨t18, h18, hE_1⟩ := bind_some hE_1
        obtain ⟨t21, h21, hE_1⟩ := bind_some hE_1
        refine Tri.drawA mixedT Sep.up [(0, true), (1, true), (2, true), (3, true), (4, true), (5, true), (6, true), (7, true)] [] (by kernel_rfl) ?_
        refine S.q rfl rfl rfl (wanted_none rfl) (r_move rfl) ?_
        refine S.q rfl rfl rfl (wanted_none rfl) (r_indexAddrA Try.underlying140 ti3 rfl rfl (rdl_some h18).1 (rdl_some h18).2.1) ?_
        refine S.q rfl rfl rfl (wanted_none rfl) (r_load ta3 rfl (fun w hw => cell_dynB (box_cells (i := 1) rfl w hw) rfl h18)) ?_
        refine S.q rfl rfl rfl (wanted_none rfl) (r_move rfl) ?_
        refine S.q rfl rfl rfl (wanted_none rfl) (r_indexAddrA Try.underlying140 ti3 rfl rfl (rdl_some h21).1 (rdl_some h21).2.1) ?_
        refine S.q rfl rfl rfl (wanted_none rfl) (r_load ta3 rfl (fun w hw => cell_dynB (box_cells (i := 0) rfl w hw) rfl h21)) ?_
        refine S.q rfl rfl rfl (wanted_none rfl) (r_lss rfl rfl) ?_
        refine S.q rfl rfl rfl (wanted_none rfl) (r_assign rfl) ?_
        refine S.nil ?_
        refine F.nil ?_
        refine Nrm.seq ?_
        refine Tri.ret ?_
        refine Rtn.block ?_
        refine Rtn.then ?_
        refine Rtn.then ?_
        refine Rtn.block ?_
        refine Rtn.then ?_
        cases hE_1
        replace h := Lr_inr h
        cases h
        exact Rtn.body (.tmp rfl .nil) (fun w hw => ⟨rfl, hw.ext⟩)
      · replace hE_1 := if_ff g_2 hE_1
        refine Tri.skip ?_
        refine Nrm.block ?_
        refine Nrm.seq ?_
        refine Tri.reg (l := [0, 1, 2]) rfl ?_
        refine F.q rfl rfl rfl (wanted_none rfl) (r_move rfl) ?_
        refine F.q rfl rfl rfl (wanted_none rfl) (r_add rfl rfl) ?_
        refine F.q rfl rfl rfl (wanted_none rfl) (r_assign rfl) ?_
        refine F.nil ?_
        refine Nrm.round ?_
        refine Rnd.only [2, 3, 5] rfl ?_
        refine Rnd.pick [0, 1] rfl rfl ?_
        exact ih_1 _ _ ⟨w64 (x5 + 1), hE_1, rfl, rfl⟩
    · replace hE_1 := if_ff g_1 hE_1
      refine Tri.exit ?_
      refine Exi.then ?_
      refine Exi.then ?_
      refine Exi.same ?_
      cases hE_1
      replace h := Lr_inl h
      refine Nrm.seq ?_
      refine Tri.seq ?_
      refine Tri.reg (l := [0]) rfl ?_
      refine F.q rfl rfl rfl (wanted_none rfl) (r_assign rfl) ?_
      refine F.nil ?_
      refine Nrm.seq ?_
      refine Tri.ret ?_
      cases h
      exact Rtn.body (.tmp rfl .nil) (fun w hw => ⟨rfl, hw.ext⟩)

end Go.Proofs

/- loop.example/g01158/spec.l2Maze -/
namespace Go.Proofs
open Go Go.Ga
set_option linter.unusedVariables false
set_option maxRecDepth 100000
set_option maxHeartbeats 4000000
def spec_l2Maze.l1 (k : Nat) (a0_0 : Int) (a0_2 : List Int) : Nat → Int → Option ((Unit) ⊕ (Bool))
  | 0, _ => none
  | n + 1, x5 => (if (decide (x5 < a0_0)) = true then (rdl a0_2 x5).bind fun t85 => (spec_l2Set.f k t85).bind fun t87 => (if (!t87) = true then some (Sum.inr false) else spec_l2Maze.l1 k a0_0 a0_2 n (w64 (x5 + 1))) else some (Sum.inl ()))

def spec_l2Maze.l0 (k : Nat) (a0_0 : Int) (a0_1 : List (Int × Int × Int)) : Nat → Int → Option ((Unit) ⊕ (Bool))
  | 0, _ => none
  | n + 1, x3 => (if (decide (x3 < (a0_1.length : Int))) = true then (rdl a0_1 x3).bind fun t34 => ((spec_l1In.f k t34.1 0 (w64 (a0_0 - 1))).bind fun t41 => (if (!t41) = true then some true else (spec_l1In.f k t34.2.1 (w64 (t34.1 + 1)) (w64 (a0_0 - 1))).bind fun t52 => (if (!t52) = true then some true else (spec_l2Set.f k t34.2.2).bind fun t58 => (if (!t58) = true then some true else (if (decide (x3 > 0)) = true then (rdl a0_1 (w64 (x3 - 1))).bind fun t69 => (spec_l2Before.f k t69.1 t69.2.1 t69.2.2 t34.1 t34.2.1 t34.2.2).bind fun t72 => some (!t72) else some false))))).bind fun y75 => (if y75 = true then some (Sum.inr false) else spec_l2Maze.l0 k a0_0 a0_1 n (w64 (x3 + 1))) else some (Sum.inl ()))

def spec_l2Maze.f (k : Nat) (a0_0 : Int) (a0_1 : List (Int × Int × Int)) (a0_2 : List Int) : Option (Bool) := ((spec_l1In.f k a0_0 1 12).bind fun t8 => (if (!t8) = true then some true else (if (decide ((a0_1.length : Int) > 30)) = true then some true else some ((a0_2.length : Int) != a0_0)))).bind fun y23 => (if y23 = true then some false else (spec_l2Maze.l0 k a0_0 a0_1 k 0).bind fun s => Lr s some fun _ => (spec_l2Maze.l1 k a0_0 a0_2 k 0).bind fun s => Lr s some fun _ => some true)

theorem spec_l2Maze.ok {k : Nat}  {a0_0 : Int} {a0_1 : List (Int × Int × Int)} {a0_2 : List Int} {r0 : Bool} (h : spec_l2Maze.f k a0_0 a0_1 a0_2 = some r0) (w : World) {va0_1 : Value} {va0_2 : Value} (hr_a0_1 : Rd w va0_1 a0_1) (hr_a0_2 : Rd w va0_2 a0_2) :
    Calls Try.prog 117 ([.agg ([.int .i64 a0_0, va0_1, va0_2].toArray)] : List Value).toArray w (fun e w' => e = .returned (.bool r0) ∧ Ext w w') := by
  unfold spec_l2Maze.f at h
  have hl_va0_1 := hr_a0_1.len
  have hl_va0_2 := hr_a0_2.len
  refine Calls.of_tri (N := 89) Try.func117 rfl rfl rfl (Sep.nil (M := noM)) ?_
  refine Tri.seq ?_
  refine Tri.reg (l := [0, 1]) rfl ?_
  refine F.m rfl rfl rfl (wanted_none rfl) (m_boxG rfl rfl) ?_
  rintro _ _ ⟨b1_1, rfl, rfl⟩
  refine F.q rfl rfl rfl (wanted_none rfl) (r_assign rfl) ?_
  refine F.nil ?_
  refine Nrm.seq ?_
  refine Tri.seq ?_
  refine Tri.seq ?_
  obtain ⟨y23, hE_1, h⟩ := bind_some h
  refine Tri.cut (fun e' C' => e' = [(1, .pointer (some ⟨b1_1, 0, none⟩)), (23, .bool y23)] ∧ C' = Sep w noM [R.box b1_1 55 [.int .i64 a0_0, va0_1, va0_2]]) ?_ (fun hj_1 => ?_)
  · rintro _ _ ⟨rfl, rfl⟩
    refine Nrm.seq ?_
    refine Tri.cond (b := y23) rfl (fun g_1 => ?_) (fun g_1 => ?_)
    · replace h := if_tt g_1 h
      refine Tri.seq ?_
      refine Tri.reg (l := [0]) rfl ?_
      refine F.q rfl rfl rfl (wanted_none rfl) (r_assign rfl) ?_
      refine F.nil ?_
      refine Nrm.seq ?_
      refine Tri.ret ?_
      refine Rtn.then ?_
      cases h
      exact Rtn.body (.tmp rfl .nil) (fun w hw => ⟨rfl, hw.ext⟩)
    · replace h := if_ff g_1 h
      refine Tri.skip ?_
      refine Nrm.seq ?_
      refine Tri.seq ?_
      refine Tri.seq ?_
      refine Tri.reg (l := [0]) rfl ?_
      refine F.q rfl rfl rfl (wanted_none rfl) (r_assign rfl) ?_
      refine F.nil ?_
      refine Nrm.seq ?_
      obtain ⟨s0, hE_2, h⟩ := bind_some h
      refine Tri.block ?_
      refine Tri.only [1, 3] rfl ?_
      refine Tri.pick [0] rfl rfl ?_
      refine Tri.rounds (fun n e' C' => ∃ (x3' : Int), spec_l2Maze.l0 k a0_0 a0_1 n x3' = some s0 ∧ e' = [(1, .pointer (some ⟨b1_1, 0, none⟩)), (3, .int .i64 x3')] ∧ C' = Sep w noM [R.box b1_1 55 [.int .i64 a0_0, va0_1, va0_2]]) k ?_ ?_ ?_
      · exact ⟨0, hE_2, rfl, rfl⟩
      · rintro _ _ ⟨_, hE_2, _⟩
        rw [spec_l2Maze.l0.eq_1] at hE_2; cases hE_2
      · rintro n_1 _ _ ⟨x3, hE_2, rfl, rfl⟩ ih_1
        rw [spec_l2Maze.l0.eq_2] at hE_2
        refine Tri.seq ?_
        refine Tri.seq ?_
        refine Tri.reg (l := [0, 1, 2, 3, 4]) rfl ?_
        refine F.q rfl rfl rfl (wanted_none rfl) (r_move rfl) ?_
        refine F.q rfl rfl rfl (wanted_none rfl) (r_fieldAddr tf55_1 rfl) ?_
        refine F.q rfl rfl rfl (wanted_none rfl) (r_load ta49 rfl (fun w hw => cell_1 (box_cells (i := 0) rfl w hw) rfl)) ?_
        refine F.q rfl rfl rfl (wanted_none rfl) (r_len Try.underlying49 rfl hl_va0_1) ?_
        refine F.q rfl rfl rfl (wanted_none rfl) (r_lss rfl rfl) ?_
        refine F.nil ?_
        refine Nrm.seq ?_
        refine Tri.cond (b := decide (x3 < (a0_1.length : Int))) rfl (fun g_2 => ?_) (fun g_2 => ?_)
        · replace hE_2 := if_tt g_2 hE_2
          refine Tri.skip ?_
          refine Nrm.seq ?_
          refine Tri.seq ?_
          refine Tri.block ?_
          refine Tri.seq ?_
          obtain ⟨t34, h34, hE_2⟩ := bind_some hE_2
          refine Tri.reg (l := [0, 1, 2, 3, 4, 5, 6]) rfl ?_
          refine F.q rfl rfl rfl (wanted_none rfl) (r_fieldAddr tf55_1 rfl) ?_
          refine F.q rfl rfl rfl (wanted_none rfl) (r_load ta49 rfl (fun w hw => cell_1 (box_cells (i := 0) rfl w hw) rfl)) ?_
          refine F.q rfl rfl rfl (wanted_none rfl) (r_move rfl) ?_
          refine F.q rfl rfl rfl (wanted_none rfl) (r_indexAddrS Try.underlying49 ti140 rfl hl_va0_1 rfl (rdl_some h34).1 (rdl_some h34).2.1) ?_
          refine F.q rfl rfl rfl (wanted_none rfl) (r_loadA ta140 ti140 rfl rfl (fun w hw => (Rd.flat ((fun _ hw => hr_a0_1.sep hw) w hw) (rdl_some h34).2.2))) ?_
          refine F.m rfl rfl rfl (wanted_none rfl) (m_alloc ti140) ?_
          rintro _ _ ⟨b4_1, rfl, rfl⟩
          refine F.ef0 rfl rfl (wanted_none rfl) (d_storeG0 (i := 0) (cs2 := [.int .i64 t34.1, .int .i64 t34.2.1, .int .i64 t34.2.2]) ti140 rfl rfl rfl rfl rfl (Nat.le_of_ble_eq_true rfl) (lf_cons rfl (lf_cons rfl (lf_cons rfl lf_nil)))) ?_
          rintro _ _ ⟨rfl, rfl⟩
          refine F.nil ?_
          refine Nrm.seq ?_
          refine Tri.seq ?_
          obtain ⟨y75, hE_3, hE_2⟩ := bind_some hE_2
          refine Tri.cut (fun e' C' => e' = [(1, .pointer (some ⟨b1_1, 0, none⟩)), (3, .int .i64 x3), (75, .bool y75)] ∧ C' = Sep w noM [R.box b1_1 55 [.int .i64 a0_0, va0_1, va0_2]]) ?_ (fun hj_2 => ?_)
          · rintro _ _ ⟨rfl, rfl⟩
            refine Nrm.seq ?_
            refine Tri.cond (b := y75) rfl (fun g_3 => ?_) (fun g_3 => ?_)
            · replace hE_2 := if_tt g_3 hE_2
              refine Tri.seq ?_
              refine Tri.reg (l := [0]) rfl ?_
              refine F.q rfl rfl rfl (wanted_none rfl) (r_assign rfl) ?_
              refine F.nil ?_
              refine Nrm.seq ?_
              refine Tri.ret ?_
              refine Rtn.block ?_
              refine Rtn.then ?_
              refine Rtn.then ?_
              refine Rtn.block ?_
              refine Rtn.then ?_
              cases hE_2
              replace h := Lr_inr h
              cases h
              exact Rtn.body (.tmp rfl .nil) (fun w hw => ⟨rfl, hw.ext⟩)
            · replace hE_2 := if_ff g_3 hE_2
              refine Tri.skip ?_
              refine Nrm.block ?_
              refine Nrm.seq ?_
              refine Tri.reg (l := [0, 1, 2]) rfl ?_
              refine F.q rfl rfl rfl (wanted_none rfl) (r_move rfl) ?_
              refine F.q rfl rfl rfl (wanted_none rfl) (r_add rfl rfl) ?_
              refine F.q rfl rfl rfl (wanted_none rfl) (r_assign rfl) ?_
              refine F.nil ?_
              refine Nrm.round ?_
              refine Rnd.only [1, 3] rfl ?_
              refine Rnd.pick [0] rfl rfl ?_
              exact ih_1 _ _ ⟨w64 (x3 + 1), hE_2, rfl, rfl⟩
          · obtain ⟨t41, h41, hE_3⟩ := bind_some hE_3
            rcases Bool.eq_false_or_eq_true (!t41) with g43 | g43
            · replace hE_3 := if_tt g43 hE_3
              refine Tri.drawA mixedT Sep.up [(0, true), (1, true), (2, true), (3, true), (4, true), (5, true), (6, true), (7, true), (8, true), (9, true), (10, true), (11, true), (12, true), (13, true), (14, true), (15, true), (16, true), (17, true), (18, true), (19, true), (20, true), (21, true), (22, true), (23, true), (24, true), (25, true), (26, true), (27, true), (28, true), (29, true), (30, true), (31, true), (32, true), (33, true), (34, true), (35, true), (36, true), (37, true), (38, true), (39, true)] [] (by kernel_rfl) ?_
              refine S.q rfl rfl rfl (wanted_none rfl) (r_indexAddrA Try.underlying140 ti3 rfl rfl (by decide) (by decide)) ?_
              refine S.q rfl rfl rfl (wanted_none rfl) (r_load ta3 rfl (fun w hw => cell_1 (box_cells (i := 0) rfl w hw) rfl)) ?_
              refine S.q rfl rfl rfl (wanted_none rfl) (r_fieldAddr tf55_0 rfl) ?_
              refine S.q rfl rfl rfl (wanted_none rfl) (r_load ta3 rfl (fun w hw => cell_1 (box_cells (i := 1) rfl w hw) rfl)) ?_
              refine S.q rfl rfl rfl (wanted_none rfl) (r_sub rfl rfl) ?_
              refine S.qc rfl rfl rfl (wanted_none rfl) (q_callF (xs := _) rfl ok84 rfl rfl (fun w hw => spec_l1In.ok h41 w )) ?_
              refine S.q rfl rfl rfl (wanted_none rfl) (r_not rfl) ?_
              refine S.q rfl rfl rfl (wanted_none rfl) (r_move rfl) ?_
              refine S.sk rfl rfl rfl (wf rfl rfl rfl g43) ?_
              refine S.sk rfl rfl rfl (wf rfl rfl rfl g43) ?_
              refine S.sk rfl rfl rfl (wf rfl rfl rfl g43) ?_
              refine S.sk rfl rfl rfl (wf rfl rfl rfl g43) ?_
              refine S.sk rfl rfl rfl (wf rfl rfl rfl g43) ?_
              refine S.sk rfl rfl rfl (wf rfl rfl rfl g43) ?_
              refine S.sk rfl rfl rfl (wf rfl rfl rfl g43) ?_
              refine S.sk rfl rfl rfl (wf rfl rfl rfl g43) ?_
              refine S.sk rfl rfl rfl (wf rfl rfl rfl g43) ?_
              refine S.sk rfl rfl rfl (wf rfl rfl rfl g43) ?_
              refine S.q rfl rfl rfl (wanted_none rfl) (r_pick rfl rfl g43) ?_
              refine S.q rfl rfl rfl (wanted_none rfl) (r_move rfl) ?_
              refine S.sk rfl rfl rfl (wf rfl rfl rfl rfl) ?_
              refine S.sk rfl rfl rfl (wf rfl rfl rfl rfl) ?_
              refine S.sk rfl rfl rfl (wf rfl rfl rfl rfl) ?_
              refine S.sk rfl rfl rfl (wf rfl rfl rfl rfl) ?_
              refine S.q rfl rfl rfl (wanted_none rfl) (r_pick rfl rfl rfl) ?_
              refine S.q rfl rfl rfl (wanted_none rfl) (r_move rfl) ?_
              refine S.sk rfl rfl rfl (wf rfl rfl rfl rfl) ?_
              refine S.sk rfl rfl rfl (wf rfl rfl rfl rfl) ?_
              refine S.sk rfl rfl rfl (wf rfl rfl rfl rfl) ?_
              refine S.sk rfl rfl rfl (wanted_undef rfl rfl rfl) ?_
              refine S.sk rfl rfl rfl (wanted_undef rfl rfl rfl) ?_
              refine S.sk rfl rfl rfl (wanted_undef rfl rfl rfl) ?_
              refine S.sk rfl rfl rfl (wanted_undef rfl rfl rfl) ?_
              refine S.sk rfl rfl rfl (wanted_undef rfl rfl rfl) ?_
              refine S.sk rfl rfl rfl (wanted_undef rfl rfl rfl) ?_
              refine S.sk rfl rfl rfl (wanted_undef rfl rfl rfl) ?_
              refine S.sk rfl rfl rfl (wanted_undef rfl rfl rfl) ?_
              refine S.sk rfl rfl rfl (wanted_undef rfl rfl rfl) ?_
              refine S.sk rfl rfl rfl (wf rfl rfl rfl rfl) ?_
              refine S.q rfl rfl rfl (wanted_none rfl) (r_pick rfl rfl rfl) ?_
              refine S.nil ?_
              refine F.nil ?_
              cases hE_3
              refine Nrm.only [1, 3, 75] rfl ?_
              refine Nrm.pick [1] rfl rfl ?_
              exact hj_2 _ _ ⟨rfl, rfl⟩
            · replace hE_3 := if_ff g43 hE_3
              obtain ⟨t52, h52, hE_3⟩ := bind_some hE_3
              rcases Bool.eq_false_or_eq_true (!t52) with g55 | g55
              · replace hE_3 := if_tt g55 hE_3
                refine Tri.drawA mixedT Sep.up [(0, true), (1, true), (2, true), (3, true), (4, true), (5, true), (6, true), (7, true), (8, true), (9, true), (10, true), (11, true), (12, true), (13, true), (14, true), (15, true), (16, true), (17, true), (18, true), (19, true), (20, true), (21, true), (22, true), (23, true), (24, true), (25, true), (26, true), (27, true), (28, true), (29, true), (30, true), (31, true), (32, true), (33, true), (34, true), (35, true), (36, true), (37, true), (38, true), (39, true)] [] (by kernel_rfl) ?_
                refine S.q rfl rfl rfl (wanted_none rfl) (r_indexAddrA Try.underlying140 ti3 rfl rfl (by decide) (by decide)) ?_
                refine S.q rfl rfl rfl (wanted_none rfl) (r_load ta3 rfl (fun w hw => cell_1 (box_cells (i := 0) rfl w hw) rfl)) ?_
                refine S.q rfl rfl rfl (wanted_none rfl) (r_fieldAddr tf55_0 rfl) ?_
                refine S.q rfl rfl rfl (wanted_none rfl) (r_load ta3 rfl (fun w hw => cell_1 (box_cells (i := 1) rfl w hw) rfl)) ?_
                refine S.q rfl rfl rfl (wanted_none rfl) (r_sub rfl rfl) ?_
                refine S.qc rfl rfl rfl (wanted_none rfl) (q_callF (xs := _) rfl ok84 rfl rfl (fun w hw => spec_l1In.ok h41 w )) ?_
                refine S.q rfl rfl rfl (wanted_none rfl) (r_not rfl) ?_
                refine S.q rfl rfl rfl (wanted_none rfl) (r_move rfl) ?_
                refine S.q rfl rfl rfl (wg rfl rfl rfl g43) (r_indexAddrA Try.underlying140 ti3 rfl rfl (by decide) (by decide)) ?_
                refine S.q rfl rfl rfl (wg rfl rfl rfl g43) (r_load ta3 rfl (fun w hw => cell_1 (box_cells (i := 0) rfl w hw) rfl)) ?_
                refine S.q rfl rfl rfl (wg rfl rfl rfl g43) (r_indexAddrA Try.underlying140 ti3 rfl rfl (by decide) (by decide)) ?_
                refine S.q rfl rfl rfl (wg rfl rfl rfl g43) (r_load ta3 rfl (fun w hw => cell_1 (box_cells (i := 0) rfl w hw) rfl)) ?_
                refine S.q rfl rfl rfl (wg rfl rfl rfl g43) (r_add rfl rfl) ?_
                refine S.q rfl rfl rfl (wg rfl rfl rfl g43) (r_fieldAddr tf55_0 rfl) ?_
                refine S.q rfl rfl rfl (wg rfl rfl rfl g43) (r_load ta3 rfl (fun w hw => cell_1 (box_cells (i := 1) rfl w hw) rfl)) ?_
                refine S.q rfl rfl rfl (wg rfl rfl rfl g43) (r_sub rfl rfl) ?_
                refine S.qc rfl rfl rfl (wg rfl rfl rfl g43) (q_callF (xs := _) rfl ok84 rfl rfl (fun w hw => spec_l1In.ok h52 w )) ?_
                refine S.q rfl rfl rfl (wg rfl rfl rfl g43) (r_not rfl) ?_
                refine S.q rfl rfl rfl (wanted_none rfl) (r_pickf rfl rfl g43) ?_
                refine S.q rfl rfl rfl (wanted_none rfl) (r_move rfl) ?_
                refine S.sk rfl rfl rfl (wf rfl rfl rfl g55) ?_
                refine S.sk rfl rfl rfl (wf rfl rfl rfl g55) ?_
                refine S.sk rfl rfl rfl (wf rfl rfl rfl g55) ?_
                refine S.sk rfl rfl rfl (wf rfl rfl rfl g55) ?_
                refine S.q rfl rfl rfl (wanted_none rfl) (r_pick rfl rfl g55) ?_
                refine S.q rfl rfl rfl (wanted_none rfl) (r_move rfl) ?_
                refine S.sk rfl rfl rfl (wf rfl rfl rfl rfl) ?_
                refine S.sk rfl rfl rfl (wf rfl rfl rfl rfl) ?_
                refine S.sk rfl rfl rfl (wf rfl rfl rfl rfl) ?_
                refine S.sk rfl rfl rfl (wanted_undef rfl rfl rfl) ?_
                refine S.sk rfl rfl rfl (wanted_undef rfl rfl rfl) ?_
                refine S.sk rfl rfl rfl (wanted_undef rfl rfl rfl) ?_
                refine S.sk rfl rfl rfl (wanted_undef rfl rfl rfl) ?_
                refine S.sk rfl rfl rfl (wanted_undef rfl rfl rfl) ?_
                refine S.sk rfl rfl rfl (wanted_undef rfl rfl rfl) ?_
                refine S.sk rfl rfl rfl (wanted_undef rfl rfl rfl) ?_
                refine S.sk rfl rfl rfl (wanted_undef rfl rfl rfl) ?_
                refine S.sk rfl rfl rfl (wanted_undef rfl rfl rfl) ?_
                refine S.sk rfl rfl rfl (wf rfl rfl rfl rfl) ?_
                refine S.q rfl rfl rfl (wanted_none rfl) (r_pick rfl rfl rfl) ?_
                refine S.nil ?_
                refine F.nil ?_
                cases hE_3
                refine Nrm.only [1, 3, 75] rfl ?_
                refine Nrm.pick [1] rfl rfl ?_
                exact hj_2 _ _ ⟨rfl, rfl⟩
              · replace hE_3 := if_ff g55 hE_3
                obtain ⟨t58, h58, hE_3⟩ := bind_some hE_3
                rcases Bool.eq_false_or_eq_true (!t58) with g61 | g61
                · replace hE_3 := if_tt g61 hE_3
                  refine Tri.drawA mixedT Sep.up [(0, true), (1, true), (2, true), (3, true), (4, true), (5, true), (6, true), (7, true), (8, true), (9, true), (10, true), (11, true), (12, true), (13, true), (14, true), (15, true), (16, true), (17, true), (18, true), (19, true), (20, true), (21, true), (22, true), (23, true), (24, true), (25, true), (26, true), (27, true), (28, true), (29, true), (30, true), (31, true), (32, true), (33, true), (34, true), (35, true), (36, true), (37, true), (38, true), (39, true)] [] (by kernel_rfl) ?_
                  refine S.q rfl rfl rfl (wanted_none rfl) (r_indexAddrA Try.underlying140 ti3 rfl rfl (by decide) (by decide)) ?_
                  refine S.q rfl rfl rfl (wanted_none rfl) (r_load ta3 rfl (fun w hw => cell_1 (box_cells (i := 0) rfl w hw) rfl)) ?_
                  refine S.q rfl rfl rfl (wanted_none rfl) (r_fieldAddr tf55_0 rfl) ?_
                  refine S.q rfl rfl rfl (wanted_none rfl) (r_load ta3 rfl (fun w hw => cell_1 (box_cells (i := 1) rfl w hw) rfl)) ?_
                  refine S.q rfl rfl rfl (wanted_none rfl) (r_sub rfl rfl) ?_
                  refine S.qc rfl rfl rfl (wanted_none rfl) (q_callF (xs := _) rfl ok84 rfl rfl (fun w hw => spec_l1In.ok h41 w )) ?_
                  refine S.q rfl rfl rfl (wanted_none rfl) (r_not rfl) ?_
                  refine S.q rfl rfl rfl (wanted_none rfl) (r_move rfl) ?_
                  refine S.q rfl rfl rfl (wg rfl rfl rfl g43) (r_indexAddrA Try.underlying140 ti3 rfl rfl (by decide) (by decide)) ?_
                  refine S.q rfl rfl rfl (wg rfl rfl rfl g43) (r_load ta3 rfl (fun w hw => cell_1 (box_cells (i := 0) rfl w hw) rfl)) ?_
                  refine S.q rfl rfl rfl (wg rfl rfl rfl g43) (r_indexAddrA Try.underlying140 ti3 rfl rfl (by decide) (by decide)) ?_
                  refine S.q rfl rfl rfl (wg rfl rfl rfl g43) (r_load ta3 rfl (fun w hw => cell_1 (box_cells (i := 0) rfl w hw) rfl)) ?_
                  refine S.q rfl rfl rfl (wg rfl rfl rfl g43) (r_add rfl rfl) ?_
                  refine S.q rfl rfl rfl (wg rfl rfl rfl g43) (r_fieldAddr tf55_0 rfl) ?_
                  refine S.q rfl rfl rfl (wg rfl rfl rfl g43) (r_load ta3 rfl (fun w hw => cell_1 (box_cells (i := 1) rfl w hw) rfl)) ?_
                  refine S.q rfl rfl rfl (wg rfl rfl rfl g43) (r_sub rfl rfl) ?_
                  refine S.qc rfl rfl rfl (wg rfl rfl rfl g43) (q_callF (xs := _) rfl ok84 rfl rfl (fun w hw => spec_l1In.ok h52 w )) ?_
                  refine S.q rfl rfl rfl (wg rfl rfl rfl g43) (r_not rfl) ?_
                  refine S.q rfl rfl rfl (wanted_none rfl) (r_pickf rfl rfl g43) ?_
                  refine S.q rfl rfl rfl (wanted_none rfl) (r_move rfl) ?_
                  refine S.q rfl rfl rfl (wg rfl rfl rfl g55) (r_indexAddrA Try.underlying140 ti3 rfl rfl (by decide) (by decide)) ?_
                  refine S.q rfl rfl rfl (wg rfl rfl rfl g55) (r_load ta3 rfl (fun w hw => cell_1 (box_cells (i := 0) rfl w hw) rfl)) ?_
                  refine S.qc rfl rfl rfl (wg rfl rfl rfl g55) (q_callF (xs := _) rfl ok142 rfl rfl (fun w hw => spec_l2Set.ok h58 w )) ?_
                  refine S.q rfl rfl rfl (wg rfl rfl rfl g55) (r_not rfl) ?_
                  refine S.q rfl rfl rfl (wanted_none rfl) (r_pickf rfl rfl g55) ?_
                  refine S.q rfl rfl rfl (wanted_none rfl) (r_move rfl) ?_
                  refine S.sk rfl rfl rfl (wf rfl rfl rfl g61) ?_
                  refine S.sk rfl rfl rfl (wf rfl rfl rfl g61) ?_
                  refine S.sk rfl rfl rfl (wf rfl rfl rfl g61) ?_
                  refine S.sk rfl rfl rfl (wanted_undef rfl rfl rfl) ?_
                  refine S.sk rfl rfl rfl (wanted_undef rfl rfl rfl) ?_
                  refine S.sk rfl rfl rfl (wanted_undef rfl rfl rfl) ?_
                  refine S.sk rfl rfl rfl (wanted_undef rfl rfl rfl) ?_
                  refine S.sk rfl rfl rfl (wanted_undef rfl rfl rfl) ?_
                  refine S.sk rfl rfl rfl (wanted_undef rfl rfl rfl) ?_
                  refine S.sk rfl rfl rfl (wanted_undef rfl rfl rfl) ?_
                  refine S.sk rfl rfl rfl (wanted_undef rfl rfl rfl) ?_
                  refine S.sk rfl rfl rfl (wanted_undef rfl rfl rfl) ?_
                  refine S.sk rfl rfl rfl (wf rfl rfl rfl g61) ?_
                  refine S.q rfl rfl rfl (wanted_none rfl) (r_pick rfl rfl g61) ?_
                  refine S.nil ?_
                  refine F.nil ?_
                  cases hE_3
                  refine Nrm.only [1, 3, 75] rfl ?_
                  refine Nrm.pick [1] rfl rfl ?_
                  exact hj_2 _ _ ⟨rfl, rfl⟩
                · replace hE_3 := if_ff g61 hE_3
                  rcases Bool.eq_false_or_eq_true (decide (x3 > 0)) with g64 | g64
                  · replace hE_3 := if_tt g64 hE_3
                    obtain ⟨t69, h69, hE_3⟩ := bind_some hE_3
                    obtain ⟨t72, h72, hE_3⟩ := bind_some hE_3
                    refine Tri.drawA mixedT Sep.up [(0, true), (1, true), (2, true), (3, true), (4, true), (5, true), (6, true), (7, true), (8, true), (9, true), (10, true), (11, true), (12, true), (13, true), (14, true), (15, true), (16, true), (17, true), (18, true), (19, true), (20, true), (21, true), (22, true), (23, true), (24, true), (25, true), (26, true), (27, true), (28, true), (29, true), (30, true), (31, true), (32, true), (33, true), (34, true), (35, true), (36, true), (37, true), (38, true), (39, true)] [] (by kernel_rfl) ?_
                    refine S.q rfl rfl rfl (wanted_none rfl) (r_indexAddrA Try.underlying140 ti3 rfl rfl (by decide) (by decide)) ?_
                    refine S.q rfl rfl rfl (wanted_none rfl) (r_load ta3 rfl (fun w hw => cell_1 (box_cells (i := 0) rfl w hw) rfl)) ?_
                    refine S.q rfl rfl rfl (wanted_none rfl) (r_fieldAddr tf55_0 rfl) ?_
                    refine S.q rfl rfl rfl (wanted_none rfl) (r_load ta3 rfl (fun w hw => cell_1 (box_cells (i := 1) rfl w hw) rfl)) ?_
                    refine S.q rfl rfl rfl (wanted_none rfl) (r_sub rfl rfl) ?_
                    refine S.qc rfl rfl rfl (wanted_none rfl) (q_callF (xs := _) rfl ok84 rfl rfl (fun w hw => spec_l1In.ok h41 w )) ?_
                    refine S.q rfl rfl rfl (wanted_none rfl) (r_not rfl) ?_
                    refine S.q rfl rfl rfl (wanted_none rfl) (r_move rfl) ?_
                    refine S.q rfl rfl rfl (wg rfl rfl rfl g43) (r_indexAddrA Try.underlying140 ti3 rfl rfl (by decide) (by decide)) ?_
                    refine S.q rfl rfl rfl (wg rfl rfl rfl g43) (r_load ta3 rfl (fun w hw => cell_1 (box_cells (i := 0) rfl w hw) rfl)) ?_
                    refine S.q rfl rfl rfl (wg rfl rfl rfl g43) (r_indexAddrA Try.underlying140 ti3 rfl rfl (by decide) (by decide)) ?_
                    refine S.q rfl rfl rfl (wg rfl rfl rfl g43) (r_load ta3 rfl (fun w hw => cell_1 (box_cells (i := 0) rfl w hw) rfl)) ?_
                    refine S.q rfl rfl rfl (wg rfl rfl rfl g43) (r_add rfl rfl) ?_
                    refine S.q rfl rfl rfl (wg rfl rfl rfl g43) (r_fieldAddr tf55_0 rfl) ?_
                    refine S.q rfl rfl rfl (wg rfl rfl rfl g43) (r_load ta3 rfl (fun w hw => cell_1 (box_cells (i := 1) rfl w hw) rfl)) ?_
                    refine S.q rfl rfl rfl (wg rfl rfl rfl g43) (r_sub rfl rfl) ?_
                    refine S.qc rfl rfl rfl (wg rfl rfl rfl g43) (q_callF (xs := _) rfl ok84 rfl rfl (fun w hw => spec_l1In.ok h52 w )) ?_
                    refine S.q rfl rfl rfl (wg rfl rfl rfl g43) (r_not rfl) ?_
                    refine S.q rfl rfl rfl (wanted_none rfl) (r_pickf rfl rfl g43) ?_
                    refine S.q rfl rfl rfl (wanted_none rfl) (r_move rfl) ?_
                    refine S.q rfl rfl rfl (wg rfl rfl rfl g55) (r_indexAddrA Try.underlying140 ti3 rfl rfl (by decide) (by decide)) ?_
                    refine S.q rfl rfl rfl (wg rfl rfl rfl g55) (r_load ta3 rfl (fun w hw => cell_1 (box_cells (i := 0) rfl w hw) rfl)) ?_
                    refine S.qc rfl rfl rfl (wg rfl rfl rfl g55) (q_callF (xs := _) rfl ok142 rfl rfl (fun w hw => spec_l2Set.ok h58 w )) ?_
                    refine S.q rfl rfl rfl (wg rfl rfl rfl g55) (r_not rfl) ?_
                    refine S.q rfl rfl rfl (wanted_none rfl) (r_pickf rfl rfl g55) ?_
                    refine S.q rfl rfl rfl (wanted_none rfl) (r_move rfl) ?_
                    refine S.q rfl rfl rfl (wg rfl rfl rfl g61) (r_move rfl) ?_
                    refine S.q rfl rfl rfl (wg rfl rfl rfl g61) (r_gtr rfl rfl) ?_
                    refine S.q rfl rfl rfl (wg rfl rfl rfl g61) (r_move rfl) ?_
                    refine S.q rfl rfl rfl (wg rfl rfl rfl g64) (r_fieldAddr tf55_1 rfl) ?_
                    refine S.q rfl rfl rfl (wg rfl rfl rfl g64) (r_load ta49 rfl (fun w hw => cell_1 (box_cells (i := 1) rfl w hw) rfl)) ?_
                    refine S.q rfl rfl rfl (wg rfl rfl rfl g64) (r_move rfl) ?_
                    refine S.q rfl rfl rfl (wg rfl rfl rfl g64) (r_sub rfl rfl) ?_
                    refine S.q rfl rfl rfl (wg rfl rfl rfl g64) (r_indexAddrS Try.underlying49 ti140 rfl hl_va0_1 rfl (rdl_some h69).1 (rdl_some h69).2.1) ?_
                    refine S.q rfl rfl rfl (wg rfl rfl rfl g64) (r_loadA ta140 ti140 rfl rfl (fun w hw => (Rd.flat ((fun _ hw => hr_a0_1.sep hw) w hw) (rdl_some h69).2.2))) ?_
                    refine S.q rfl rfl rfl (wg rfl rfl rfl g64) (r_loadA ta140 ti140 rfl rfl (fun w hw => (box_cells (i := 0) rfl w hw))) ?_
                    refine S.qc rfl rfl rfl (wg rfl rfl rfl g64) (q_callF (xs := _) rfl ok157 rfl rfl (fun w hw => spec_l2Before.ok h72 w )) ?_
                    refine S.q rfl rfl rfl (wg rfl rfl rfl g64) (r_not rfl) ?_
                    refine S.q rfl rfl rfl (wg rfl rfl rfl g61) (r_pick rfl rfl g64) ?_
                    refine S.q rfl rfl rfl (wanted_none rfl) (r_pickf rfl rfl g61) ?_
                    refine S.nil ?_
                    refine F.nil ?_
                    cases hE_3
                    refine Nrm.only [1, 3, 75] rfl ?_
                    refine Nrm.pick [1] rfl rfl ?_
                    exact hj_2 _ _ ⟨rfl, rfl⟩
                  · replace hE_3 := if_ff g64 hE_3
                    refine Tri.drawA mixedT Sep.up [(0, true), (1, true), (2, true), (3, true), (4, true), (5, true), (6, true), (7, true), (8, true), (9, true), (10, true), (11, true), (12, true), (13, true), (14, true), (15, true), (16, true), (17, true), (18, true), (19, true), (20, true), (21, true), (22, true), (23, true), (24, true), (25, true), (26, true), (27, true), (28, true), (29, true), (30, true), (31, true), (32, true), (33, true), (34, true), (35, true), (36, true), (37, true), (38, true), (39, true)] [] (by kernel_rfl) ?_
                    refine S.q rfl rfl rfl (wanted_none rfl) (r_indexAddrA Try.underlying140 ti3 rfl rfl (by decide) (by decide)) ?_
                    refine S.q rfl rfl rfl (wanted_none rfl) (r_load ta3 rfl (fun w hw => cell_1 (box_cells (i := 0) rfl w hw) rfl)) ?_
                    refine S.q rfl rfl rfl (wanted_none rfl) (r_fieldAddr tf55_0 rfl) ?_
                    refine S.q rfl rfl rfl (wanted_none rfl) (r_load ta3 rfl (fun w hw => cell_1 (box_cells (i := 1) rfl w hw) rfl)) ?_
                    refine S.q rfl rfl rfl (wanted_none rfl) (r_sub rfl rfl) ?_
                    refine S.qc rfl rfl rfl (wanted_none rfl) (q_callF (xs := _) rfl ok84 rfl rfl (fun w hw => spec_l1In.ok h41 w )) ?_
                    refine S.q rfl rfl rfl (wanted_none rfl) (r_not rfl) ?_
                    refine S.q rfl rfl rfl (wanted_none rfl) (r_move rfl) ?_
                    refine S.q rfl rfl rfl (wg rfl rfl rfl g43) (r_indexAddrA Try.underlying140 ti3 rfl rfl (by decide) (by decide)) ?_
                    refine S.q rfl rfl rfl (wg rfl rfl rfl g43) (r_load ta3 rfl (fun w hw => cell_1 (box_cells (i := 0) rfl w hw) rfl)) ?_
                    refine S.q rfl rfl rfl (wg rfl rfl rfl g43) (r_indexAddrA Try.underlying140 ti3 rfl rfl (by decide) (by decide)) ?_
                    refine S.q rfl rfl rfl (wg rfl rfl rfl g43) (r_load ta3 rfl (fun w hw => cell_1 (box_cells (i := 0) rfl w hw) rfl)) ?_
                    refine S.q rfl rfl rfl (wg rfl rfl rfl g43) (r_add rfl rfl) ?_
                    refine S.q rfl rfl rfl (wg rfl rfl rfl g43) (r_fieldAddr tf55_0 rfl) ?_
                    refine S.q rfl rfl rfl (wg rfl rfl rfl g43) (r_load ta3 rfl (fun w hw => cell_1 (box_cells (i := 1) rfl w hw) rfl)) ?_
                    refine S.q rfl rfl rfl (wg rfl rfl rfl g43) (r_sub rfl rfl) ?_
                    refine S.qc rfl rfl rfl (wg rfl rfl rfl g43) (q_callF (xs := _) rfl ok84 rfl rfl (fun w hw => spec_l1In.ok h52 w )) ?_
                    refine S.q rfl rfl rfl (wg rfl rfl rfl g43) (r_not rfl) ?_
                    refine S.q rfl rfl rfl (wanted_none rfl) (r_pickf rfl rfl g43) ?_
                    refine S.q rfl rfl rfl (wanted_none rfl) (r_move rfl) ?_
                    refine S.q rfl rfl rfl (wg rfl rfl rfl g55) (r_indexAddrA Try.underlying140 ti3 rfl rfl (by decide) (by decide)) ?_
                    refine S.q rfl rfl rfl (wg rfl rfl rfl g55) (r_load ta3 rfl (fun w hw => cell_1 (box_cells (i := 0) rfl w hw) rfl)) ?_
                    refine S.qc rfl rfl rfl (wg rfl rfl rfl g55) (q_callF (xs := _) rfl ok142 rfl rfl (fun w hw => spec_l2Set.ok h58 w )) ?_
                    refine S.q rfl rfl rfl (wg rfl rfl rfl g55) (r_not rfl) ?_
                    refine S.q rfl rfl rfl (wanted_none rfl) (r_pickf rfl rfl g55) ?_
                    refine S.q rfl rfl rfl (wanted_none rfl) (r_move rfl) ?_
                    refine S.q rfl rfl rfl (wg rfl rfl rfl g61) (r_move rfl) ?_
                    refine S.q rfl rfl rfl (wg rfl rfl rfl g61) (r_gtr rfl rfl) ?_
                    refine S.q rfl rfl rfl (wg rfl rfl rfl g61) (r_move rfl) ?_
                    refine S.sk rfl rfl rfl (wf rfl rfl rfl g64) ?_
                    refine S.sk rfl rfl rfl (wf rfl rfl rfl g64) ?_
                    refine S.sk rfl rfl rfl (wf rfl rfl rfl g64) ?_
                    refine S.sk rfl rfl rfl (wf rfl rfl rfl g64) ?_
                    refine S.sk rfl rfl rfl (wf rfl rfl rfl g64) ?_
                    refine S.sk rfl rfl rfl (wf rfl rfl rfl g64) ?_
                    refine S.sk rfl rfl rfl (wf rfl rfl rfl g64) ?_
                    refine S.sk rfl rfl rfl (wf rfl rfl rfl g64) ?_
                    refine S.sk rfl rfl rfl (wf rfl rfl rfl g64) ?_
                    refine S.q rfl rfl rfl (wg rfl rfl rfl g61) (r_pickf rfl rfl g64) ?_
                    refine S.q rfl rfl rfl (wanted_none rfl) (r_pickf rfl rfl g61) ?_
                    refine S.nil ?_
                    refine F.nil ?_
                    cases hE_3
                    refine Nrm.only [1, 3, 75] rfl ?_
                    refine Nrm.pick [1] rfl rfl ?_
                    exact hj_2 _ _ ⟨rfl, rfl⟩
        · replace hE_2 := if_ff g_2 hE_2
          refine Tri.exit ?_
          refine Exi.then ?_
          refine Exi.then ?_
          refine Exi.same ?_
          cases hE_2
          replace h := Lr_inl h
          refine Nrm.seq ?_
          refine Tri.seq ?_
          refine Tri.seq ?_
          refine Tri.reg (l := [0]) rfl ?_
          refine F.q rfl rfl rfl (wanted_none rfl) (r_assign rfl) ?_
          refine F.nil ?_
          refine Nrm.seq ?_
          obtain ⟨s1, hE_4, h⟩ := bind_some h
          refine Tri.block ?_
          refine Tri.only [1, 5] rfl ?_
          refine Tri.pick [0] rfl rfl ?_
          refine Tri.rounds (fun n e' C' => ∃ (x5' : Int), spec_l2Maze.l1 k a0_0 a0_2 n x5' = some s1 ∧ e' = [(1, .pointer (some ⟨b1_1, 0, none⟩)), (5, .int .i64 x5')] ∧ C' = Sep w noM [R.box b1_1 55 [.int .i64 a0_0, va0_1, va0_2]]) k ?_ ?_ ?_
          · exact ⟨0, hE_4, rfl, rfl⟩
          · rintro _ _ ⟨_, hE_4, _⟩
            rw [spec_l2Maze.l1.eq_1] at hE_4; cases hE_4
          · rintro n_2 _ _ ⟨x5, hE_4, rfl, rfl⟩ ih_2
            rw [spec_l2Maze.l1.eq_2] at hE_4
            refine Tri.seq ?_
            refine Tri.seq ?_
            refine Tri.reg (l := [0, 1, 2, 3]) rfl ?_
            refine F.q rfl rfl rfl (wanted_none rfl) (r_move rfl) ?_
            refine F.q rfl rfl rfl (wanted_none rfl) (r_fieldAddr tf55_0 rfl) ?_
            refine F.q rfl rfl rfl (wanted_none rfl) (r_load ta3 rfl (fun w hw => cell_1 (box_cells (i := 0) rfl w hw) rfl)) ?_
            refine F.q rfl rfl rfl (wanted_none rfl) (r_lss rfl rfl) ?_
            refine F.nil ?_
            refine Nrm.seq ?_
            refine Tri.cond (b := decide (x5 < a0_0)) rfl (fun g_4 => ?_) (fun g_4 => ?_)
            · replace hE_4 := if_tt g_4 hE_4
              refine Tri.skip ?_
              refine Nrm.seq ?_
              refine Tri.seq ?_
              refine Tri.block ?_
              refine Tri.seq ?_
              obtain ⟨t85, h85, hE_4⟩ := bind_some hE_4
              obtain ⟨t87, h87, hE_4⟩ := bind_some hE_4
              refine Tri.reg (l := [0, 1, 2, 3, 4, 5, 6]) rfl ?_
              refine F.q rfl rfl rfl (wanted_none rfl) (r_fieldAddr tf55_2 rfl) ?_
              refine F.q rfl rfl rfl (wanted_none rfl) (r_load ta38 rfl (fun w hw => cell_1 (box_cells (i := 0) rfl w hw) rfl)) ?_
              refine F.q rfl rfl rfl (wanted_none rfl) (r_move rfl) ?_
              refine F.q rfl rfl rfl (wanted_none rfl) (r_indexAddrS Try.underlying38 ti3 rfl hl_va0_2 rfl (rdl_some h85).1 (rdl_some h85).2.1) ?_
              refine F.q rfl rfl rfl (wanted_none rfl) (r_load ta3 rfl (fun w hw => cell_0 (Rd.flat ((fun _ hw => hr_a0_2.sep hw) w hw) (rdl_some h85).2.2) rfl)) ?_
              refine F.qc rfl rfl rfl (wanted_none rfl) (q_callF (xs := _) rfl ok142 rfl rfl (fun w hw => spec_l2Set.ok h87 w )) ?_
              refine F.q rfl rfl rfl (wanted_none rfl) (r_not rfl) ?_
              refine F.nil ?_
              refine Nrm.seq ?_
              refine Tri.cond (b := !t87) rfl (fun g_5 => ?_) (fun g_5 => ?_)
              · replace hE_4 := if_tt g_5 hE_4
                refine Tri.seq ?_
                refine Tri.reg (l := [0]) rfl ?_
                refine F.q rfl rfl rfl (wanted_none rfl) (r_assign rfl) ?_
                refine F.nil ?_
                refine Nrm.seq ?_
                refine Tri.ret ?_
                refine Rtn.block ?_
                refine Rtn.then ?_
                refine Rtn.then ?_
                refine Rtn.block ?_
                refine Rtn.then ?_
                cases hE_4
                replace h := Lr_inr h
                cases h
                exact Rtn.body (.tmp rfl .nil) (fun w hw => ⟨rfl, hw.ext⟩)
              · replace hE_4 := if_ff g_5 hE_4
                refine Tri.skip ?_
                refine Nrm.block ?_
                refine Nrm.seq ?_
                refine Tri.reg (l := [0, 1, 2]) rfl ?_
                refine F.q rfl rfl rfl (wanted_none rfl) (r_move rfl) ?_
                refine F.q rfl rfl rfl (wanted_none rfl) (r_add rfl rfl) ?_
                refine F.q rfl rfl rfl (wanted_none rfl) (r_assign rfl) ?_
                refine F.nil ?_
                refine Nrm.round ?_
                refine Rnd.only [1, 5] rfl ?_
                refine Rnd.pick [0] rfl rfl ?_
                exact ih_2 _ _ ⟨w64 (x5 + 1), hE_4, rfl, rfl⟩
            · replace hE_4 := if_ff g_4 hE_4
              refine Tri.exit ?_
              refine Exi.then ?_
              refine Exi.then ?_
              refine Exi.same ?_
              cases hE_4
              replace h := Lr_inl h
              refine Nrm.seq ?_
              refine Tri.seq ?_
              refine Tri.reg (l := [0]) rfl ?_
              refine F.q rfl rfl rfl (wanted_none rfl) (r_assign rfl) ?_
              refine F.nil ?_
              refine Nrm.seq ?_
              refine Tri.ret ?_
              cases h
              exact Rtn.body (.tmp rfl .nil) (fun w hw => ⟨rfl, hw.ext⟩)
  · obtain ⟨t8, h8, hE_1⟩ := bind_some hE_1
    rcases Bool.eq_false_or_eq_true (!t8) with g10 | g10
    · replace hE_1 := if_tt g10 hE_1
      refine Tri.reg (l := [0, 1, 2, 3, 4, 5, 6, 7, 8, 9, 10, 11, 12, 13, 14, 15, 16, 17]) rfl ?_
      refine F.q rfl rfl rfl (wanted_none rfl) (r_fieldAddr tf55_0 rfl) ?_
      refine F.q rfl rfl rfl (wanted_none rfl) (r_load ta3 rfl (fun w hw => cell_1 (box_cells (i := 0) rfl w hw) rfl)) ?_
      refine F.qc rfl rfl rfl (wanted_none rfl) (q_callF (xs := _) rfl ok84 rfl rfl (fun w hw => spec_l1In.ok h8 w )) ?_
      refine F.q rfl rfl rfl (wanted_none rfl) (r_not rfl) ?_
      refine F.q rfl rfl rfl (wanted_none rfl) (r_move rfl) ?_
      refine F.sk rfl rfl rfl (wf rfl rfl rfl g10) ?_
      refine F.sk rfl rfl rfl (wf rfl rfl rfl g10) ?_
      refine F.sk rfl rfl rfl (wf rfl rfl rfl g10) ?_
      refine F.sk rfl rfl rfl (wf rfl rfl rfl g10) ?_
      refine F.q rfl rfl rfl (wanted_none rfl) (r_pick rfl rfl g10) ?_
      refine F.q rfl rfl rfl (wanted_none rfl) (r_move rfl) ?_
      refine F.sk rfl rfl rfl (wf rfl rfl rfl rfl) ?_
      refine F.sk rfl rfl rfl (wf rfl rfl rfl rfl) ?_
      refine F.sk rfl rfl rfl (wf rfl rfl rfl rfl) ?_
      refine F.sk rfl rfl rfl (wf rfl rfl rfl rfl) ?_
      refine F.sk rfl rfl rfl (wf rfl rfl rfl rfl) ?_
      refine F.sk rfl rfl rfl (wf rfl rfl rfl rfl) ?_
      refine F.q rfl rfl rfl (wanted_none rfl) (r_pick rfl rfl rfl) ?_
      refine F.nil ?_
      cases hE_1
      refine Nrm.only [1, 23] rfl ?_
      refine Nrm.pick [0] rfl rfl ?_
      exact hj_1 _ _ ⟨rfl, rfl⟩
    · replace hE_1 := if_ff g10 hE_1
      rcases Bool.eq_false_or_eq_true (decide ((a0_1.length : Int) > 30)) with g16 | g16
      · replace hE_1 := if_tt g16 hE_1
        refine Tri.reg (l := [0, 1, 2, 3, 4, 5, 6, 7, 8, 9, 10, 11, 12, 13, 14, 15, 16, 17]) rfl ?_
        refine F.q rfl rfl rfl (wanted_none rfl) (r_fieldAddr tf55_0 rfl) ?_
        refine F.q rfl rfl rfl (wanted_none rfl) (r_load ta3 rfl (fun w hw => cell_1 (box_cells (i := 0) rfl w hw) rfl)) ?_
        refine F.qc rfl rfl rfl (wanted_none rfl) (q_callF (xs := _) rfl ok84 rfl rfl (fun w hw => spec_l1In.ok h8 w )) ?_
        refine F.q rfl rfl rfl (wanted_none rfl) (r_not rfl) ?_
        refine F.q rfl rfl rfl (wanted_none rfl) (r_move rfl) ?_
        refine F.q rfl rfl rfl (wg rfl rfl rfl g10) (r_fieldAddr tf55_1 rfl) ?_
        refine F.q rfl rfl rfl (wg rfl rfl rfl g10) (r_load ta49 rfl (fun w hw => cell_1 (box_cells (i := 0) rfl w hw) rfl)) ?_
        refine F.q rfl rfl rfl (wg rfl rfl rfl g10) (r_len Try.underlying49 rfl hl_va0_1) ?_
        refine F.q rfl rfl rfl (wg rfl rfl rfl g10) (r_gtr rfl rfl) ?_
        refine F.q rfl rfl rfl (wanted_none rfl) (r_pickf rfl rfl g10) ?_
        refine F.q rfl rfl rfl (wanted_none rfl) (r_move rfl) ?_
        refine F.sk rfl rfl rfl (wf rfl rfl rfl g16) ?_
        refine F.sk rfl rfl rfl (wf rfl rfl rfl g16) ?_
        refine F.sk rfl rfl rfl (wf rfl rfl rfl g16) ?_
        refine F.sk rfl rfl rfl (wf rfl rfl rfl g16) ?_
        refine F.sk rfl rfl rfl (wf rfl rfl rfl g16) ?_
        refine F.sk rfl rfl rfl (wf rfl rfl rfl g16) ?_
        refine F.q rfl rfl rfl (wanted_none rfl) (r_pick rfl rfl g16) ?_
        refine F.nil ?_
        cases hE_1
        refine Nrm.only [1, 23] rfl ?_
        refine Nrm.pick [0] rfl rfl ?_
        exact hj_1 _ _ ⟨rfl, rfl⟩
      · replace hE_1 := if_ff g16 hE_1
        refine Tri.reg (l := [0, 1, 2, 3, 4, 5, 6, 7, 8, 9, 10, 11, 12, 13, 14, 15, 16, 17]) rfl ?_
        refine F.q rfl rfl rfl (wanted_none rfl) (r_fieldAddr tf55_0 rfl) ?_
        refine F.q rfl rfl rfl (wanted_none rfl) (r_load ta3 rfl (fun w hw => cell_1 (box_cells (i := 0) rfl w hw) rfl)) ?_
        refine F.qc rfl rfl rfl (wanted_none rfl) (q_callF (xs := _) rfl ok84 rfl rfl (fun w hw => spec_l1In.ok h8 w )) ?_
        refine F.q rfl rfl rfl (wanted_none rfl) (r_not rfl) ?_
        refine F.q rfl rfl rfl (wanted_none rfl) (r_move rfl) ?_
        refine F.q rfl rfl rfl (wg rfl rfl rfl g10) (r_fieldAddr tf55_1 rfl) ?_
        refine F.q rfl rfl rfl (wg rfl rfl rfl g10) (r_load ta49 rfl (fun w hw => cell_1 (box_cells (i := 0) rfl w hw) rfl)) ?_
        refine F.q rfl rfl rfl (wg rfl rfl rfl g10) (r_len Try.underlying49 rfl hl_va0_1) ?_
        refine F.q rfl rfl rfl (wg rfl rfl rfl g10) (r_gtr rfl rfl) ?_
        refine F.q rfl rfl rfl (wanted_none rfl) (r_pickf rfl rfl g10) ?_
        refine F.q rfl rfl rfl (wanted_none rfl) (r_move rfl) ?_
        refine F.q rfl rfl rfl (wg rfl rfl rfl g16) (r_fieldAddr tf55_2 rfl) ?_
        refine F.q rfl rfl rfl (wg rfl rfl rfl g16) (r_load ta38 rfl (fun w hw => cell_1 (box_cells (i := 0) rfl w hw) rfl)) ?_
        refine F.q rfl rfl rfl (wg rfl rfl rfl g16) (r_len Try.underlying38 rfl hl_va0_2) ?_
        refine F.q rfl rfl rfl (wg rfl rfl rfl g16) (r_fieldAddr tf55_0 rfl) ?_
        refine F.q rfl rfl rfl (wg rfl rfl rfl g16) (r_load ta3 rfl (fun w hw => cell_1 (box_cells (i := 0) rfl w hw) rfl)) ?_
        refine F.q rfl rfl rfl (wg rfl rfl rfl g16) (r_neq rfl rfl) ?_
        refine F.q rfl rfl rfl (wanted_none rfl) (r_pickf rfl rfl g16) ?_
        refine F.nil ?_
        cases hE_1
        refine Nrm.only [1, 23] rfl ?_
        refine Nrm.pick [0] rfl rfl ?_
        exact hj_1 _ _ ⟨rfl, rfl⟩

end Go.Proofs

/- loop.example/g01158/spec.l10Worlds -/
namespace Go.Proofs
open Go Go.Ga
set_option linter.unusedVariables false
set_option maxRecDepth 100000
set_option maxHeartbeats 4000000
def spec_l10Worlds.l1 (k : Nat) (a0_0 : List (Int × List (Int × Int × Int) × List Int)) (a0_1 : List (List Int)) (x3 : Int) : Nat → Int → Option ((Unit) ⊕ (Bool))
  | 0, _ => none
  | n + 1, x4 => (rdl a0_1 x3).bind fun t52 => (if (decide (x4 < (t52.length : Int))) = true then (rdl a0_1 x3).bind fun t61 => (rdl t61 x4).bind fun t64 => (spec_l1In.f k t64 0 (w64 ((a0_0.length : Int) - 1))).bind fun t70 => (if (!t70) = true then some (Sum.inr false) else spec_l10Worlds.l1 k a0_0 a0_1 x3 n (w64 (x4 + 1))) else some (Sum.inl ()))

def spec_l10Worlds.l0 (k : Nat) (a0_0 : List (Int × List (Int × Int × Int) × List Int)) (a0_1 : List (List Int)) : Nat → Int → Option ((Unit) ⊕ (Bool))
  | 0, _ => none
  | n + 1, x3 => (if (decide (x3 < (a0_0.length : Int))) = true then ((rdl a0_0 x3).bind fun t29 => (spec_l2Maze.f k t29.1 t29.2.1 t29.2.2).bind fun t31 => (if (!t31) = true then some true else (rdl a0_1 x3).bind fun t37 => (rdl a0_0 x3).bind fun t43 => some ((t37.length : Int) != t43.1))).bind fun y47 => (if y47 = true then some (Sum.inr false) else (spec_l10Worlds.l1 k a0_0 a0_1 x3 k 0).bind fun s => Lr s (fun r => some (Sum.inr r)) fun _ => spec_l10Worlds.l0 k a0_0 a0_1 n (w64 (x3 + 1))) else some (Sum.inl ()))

def spec_l10Worlds.f (k : Nat) (a0_0 : List (Int × List (Int × Int × Int) × List Int)) (a0_1 : List (List Int)) : Option (Bool) := ((spec_l1In.f k (a0_0.length : Int) 1 3).bind fun t8 => (if (!t8) = true then some true else some ((a0_1.length : Int) != (a0_0.length : Int)))).bind fun y18 => (if y18 = true then some false else (spec_l10Worlds.l0 k a0_0 a0_1 k 0).bind fun s => Lr s some fun _ => some true)

theorem spec_l10Worlds.ok {k : Nat}  {a0_0 : List (Int × List (Int × Int × Int) × List Int)} {a0_1 : List (List Int)} {r0 : Bool} (h : spec_l10Worlds.f k a0_0 a0_1 = some r0) (w : World) {va0_0 : Value} {va0_1 : Value} (hr_a0_0 : Rd w va0_0 a0_0) (hr_a0_1 : Rd w va0_1 a0_1) :
    Calls Try.prog 61 ([.agg ([va0_0, va0_1].toArray)] : List Value).toArray w (fun e w' => e = .returned (.bool r0) ∧ Ext w w') := by
  unfold spec_l10Worlds.f at h
  have hl_va0_0 := hr_a0_0.len
  have hl_va0_1 := hr_a0_1.len
  refine Calls.of_tri (N := 72) Try.func61 rfl rfl rfl (Sep.nil (M := noM)) ?_
  refine Tri.seq ?_
  refine Tri.reg (l := [0, 1]) rfl ?_
  refine F.m rfl rfl rfl (wanted_none rfl) (m_boxG rfl rfl) ?_
  rintro _ _ ⟨b1_1, rfl, rfl⟩
  refine F.q rfl rfl rfl (wanted_none rfl) (r_assign rfl) ?_
  refine F.nil ?_
  refine Nrm.seq ?_
  refine Tri.seq ?_
  refine Tri.seq ?_
  obtain ⟨y18, hE_1, h⟩ := bind_some h
  refine Tri.cut (fun e' C' => e' = [(1, .pointer (some ⟨b1_1, 0, none⟩)), (18, .bool y18)] ∧ C' = Sep w noM [R.box b1_1 31 [va0_0, va0_1]]) ?_ (fun hj_1 => ?_)
  · rintro _ _ ⟨rfl, rfl⟩
    refine Nrm.seq ?_
    refine Tri.cond (b := y18) rfl (fun g_1 => ?_) (fun g_1 => ?_)
    · replace h := if_tt g_1 h
      refine Tri.seq ?_
      refine Tri.reg (l := [0]) rfl ?_
      refine F.q rfl rfl rfl (wanted_none rfl) (r_assign rfl) ?_
      refine F.nil ?_
      refine Nrm.seq ?_
      refine Tri.ret ?_
      refine Rtn.then ?_
      cases h
      exact Rtn.body (.tmp rfl .nil) (fun w hw => ⟨rfl, hw.ext⟩)
    · replace h := if_ff g_1 h
      refine Tri.skip ?_
      refine Nrm.seq ?_
      refine Tri.seq ?_
      refine Tri.seq ?_
      refine Tri.reg (l := [0]) rfl ?_
      refine F.q rfl rfl rfl (wanted_none rfl) (r_assign rfl) ?_
      refine F.nil ?_
      refine Nrm.seq ?_
      obtain ⟨s0, hE_2, h⟩ := bind_some h
      refine Tri.block ?_
      refine Tri.only [1, 3] rfl ?_
      refine Tri.pick [0] rfl rfl ?_
      refine Tri.rounds (fun n e' C' => ∃ (x3' : Int), spec_l10Worlds.l0 k a0_0 a0_1 n x3' = some s0 ∧ e' = [(1, .pointer (some ⟨b1_1, 0, none⟩)), (3, .int .i64 x3')] ∧ C' = Sep w noM [R.box b1_1 31 [va0_0, va0_1]]) k ?_ ?_ ?_
      · exact ⟨0, hE_2, rfl, rfl⟩
      · rintro _ _ ⟨_, hE_2, _⟩
        rw [spec_l10Worlds.l0.eq_1] at hE_2; cases hE_2
      · rintro n_1 _ _ ⟨x3, hE_2, rfl, rfl⟩ ih_1
        rw [spec_l10Worlds.l0.eq_2] at hE_2
        refine Tri.seq ?_
        refine Tri.seq ?_
        refine Tri.reg (l := [0, 1, 2, 3, 4]) rfl ?_
        refine F.q rfl rfl rfl (wanted_none rfl) (r_move rfl) ?_
        refine F.q rfl rfl rfl (wanted_none rfl) (r_fieldAddr tf31_0 rfl) ?_
        refine F.q rfl rfl rfl (wanted_none rfl) (r_load ta29 rfl (fun w hw => cell_1 (box_cells (i := 0) rfl w hw) rfl)) ?_
        refine F.q rfl rfl rfl (wanted_none rfl) (r_len Try.underlying29 rfl hl_va0_0) ?_
        refine F.q rfl rfl rfl (wanted_none rfl) (r_lss rfl rfl) ?_
        refine F.nil ?_
        refine Nrm.seq ?_
        refine Tri.cond (b := decide (x3 < (a0_0.length : Int))) rfl (fun g_2 => ?_) (fun g_2 => ?_)
        · replace hE_2 := if_tt g_2 hE_2
          refine Tri.skip ?_
          refine Nrm.seq ?_
          refine Tri.seq ?_
          refine Tri.block ?_
          refine Tri.seq ?_
          refine Tri.seq ?_
          obtain ⟨y47, hE_3, hE_2⟩ := bind_some hE_2
          refine Tri.cut (fun e' C' => e' = [(1, .pointer (some ⟨b1_1, 0, none⟩)), (3, .int .i64 x3), (47, .bool y47)] ∧ C' = Sep w noM [R.box b1_1 31 [va0_0, va0_1]]) ?_ (fun hj_2 => ?_)
          · rintro _ _ ⟨rfl, rfl⟩
            refine Nrm.seq ?_
            refine Tri.cond (b := y47) rfl (fun g_3 => ?_) (fun g_3 => ?_)
            · replace hE_2 := if_tt g_3 hE_2
              refine Tri.seq ?_
              refine Tri.reg (l := [0]) rfl ?_
              refine F.q rfl rfl rfl (wanted_none rfl) (r_assign rfl) ?_
              refine F.nil ?_
              refine Nrm.seq ?_
              refine Tri.ret ?_
              refine Rtn.then ?_
              refine Rtn.block ?_
              refine Rtn.then ?_
              refine Rtn.then ?_
              refine Rtn.block ?_
              refine Rtn.then ?_
              cases hE_2
              replace h := Lr_inr h
              cases h
              exact Rtn.body (.tmp rfl .nil) (fun w hw => ⟨rfl, hw.ext⟩)
            · replace hE_2 := if_ff g_3 hE_2
              refine Tri.skip ?_
              refine Nrm.seq ?_
              refine Tri.seq ?_
              refine Tri.reg (l := [0]) rfl ?_
              refine F.q rfl rfl rfl (wanted_none rfl) (r_assign rfl) ?_
              refine F.nil ?_
              refine Nrm.seq ?_
              obtain ⟨s1, hE_4, hE_2⟩ := bind_some hE_2
              refine Tri.block ?_
              refine Tri.only [1, 3, 4] rfl ?_
              refine Tri.pick [0] rfl rfl ?_
              refine Tri.rounds (fun n e' C' => ∃ (x4' : Int), spec_l10Worlds.l1 k a0_0 a0_1 x3 n x4' = some s1 ∧ e' = [(1, .pointer (some ⟨b1_1, 0, none⟩)), (3, .int .i64 x3), (4, .int .i64 x4')] ∧ C' = Sep w noM [R.box b1_1 31 [va0_0, va0_1]]) k ?_ ?_ ?_
              · exact ⟨0, hE_4, rfl, rfl⟩
              · rintro _ _ ⟨_, hE_4, _⟩
                rw [spec_l10Worlds.l1.eq_1] at hE_4; cases hE_4
              · rintro n_2 _ _ ⟨x4, hE_4, rfl, rfl⟩ ih_2
                rw [spec_l10Worlds.l1.eq_2] at hE_4
                refine Tri.seq ?_
                refine Tri.seq ?_
                obtain ⟨t52, h52, hE_4⟩ := bind_some hE_4
                obtain ⟨_, hc52, hp52⟩ := Rd.elem hr_a0_1 (rdl_some h52).2.2
                obtain ⟨v52_0, rfl, hr_v52_0⟩ := op38 hp52
                have hl_v52_0 := hr_v52_0.len
                refine Tri.reg (l := [0, 1, 2, 3, 4, 5, 6, 7]) rfl ?_
                refine F.q rfl rfl rfl (wanted_none rfl) (r_move rfl) ?_
                refine F.q rfl rfl rfl (wanted_none rfl) (r_fieldAddr tf31_1 rfl) ?_
                refine F.q rfl rfl rfl (wanted_none rfl) (r_load ta23 rfl (fun w hw => cell_1 (box_cells (i := 0) rfl w hw) rfl)) ?_
                refine F.q rfl rfl rfl (wanted_none rfl) (r_move rfl) ?_
                refine F.q rfl rfl rfl (wanted_none rfl) (r_indexAddrS Try.underlying23 ti38 rfl hl_va0_1 rfl (rdl_some h52).1 (rdl_some h52).2.1) ?_
                refine F.q rfl rfl rfl (wanted_none rfl) (r_load ta38 rfl (fun w hw => cell_0 (hc52.sep hw) rfl)) ?_
                refine F.q rfl rfl rfl (wanted_none rfl) (r_len Try.underlying38 rfl hl_v52_0) ?_
                refine F.q rfl rfl rfl (wanted_none rfl) (r_lss rfl rfl) ?_
                refine F.nil ?_
                refine Nrm.seq ?_
                refine Tri.cond (b := decide (x4 < (t52.length : Int))) rfl (fun g_4 => ?_) (fun g_4 => ?_)
                · replace hE_4 := if_tt g_4 hE_4
                  refine Tri.skip ?_
                  refine Nrm.seq ?_
                  refine Tri.seq ?_
                  refine Tri.block ?_
                  refine Tri.seq ?_
                  obtain ⟨t61, h61, hE_4⟩ := bind_some hE_4
                  obtain ⟨_, hc61, hp61⟩ := Rd.elem hr_a0_1 (rdl_some h61).2.2
                  obtain ⟨v61_0, rfl, hr_v61_0⟩ := op38 hp61
                  have hl_v61_0 := hr_v61_0.len
                  obtain ⟨t64, h64, hE_4⟩ := bind_some hE_4
                  obtain ⟨t70, h70, hE_4⟩ := bind_some hE_4
                  refine Tri.drawA mixedT Sep.up [(0, true), (1, true), (2, true), (3, true), (4, true), (5, true), (6, true), (7, true), (8, true), (9, true), (10, true), (11, true), (12, true), (13, true)] [] (by kernel_rfl) ?_
                  refine S.q rfl rfl rfl (wanted_none rfl) (r_fieldAddr tf31_1 rfl) ?_
                  refine S.q rfl rfl rfl (wanted_none rfl) (r_load ta23 rfl (fun w hw => cell_1 (box_cells (i := 0) rfl w hw) rfl)) ?_
                  refine S.q rfl rfl rfl (wanted_none rfl) (r_move rfl) ?_
                  refine S.q rfl rfl rfl (wanted_none rfl) (r_indexAddrS Try.underlying23 ti38 rfl hl_va0_1 rfl (rdl_some h61).1 (rdl_some h61).2.1) ?_
                  refine S.q rfl rfl rfl (wanted_none rfl) (r_load ta38 rfl (fun w hw => cell_0 (hc61.sep hw) rfl)) ?_
                  refine S.q rfl rfl rfl (wanted_none rfl) (r_move rfl) ?_
                  refine S.q rfl rfl rfl (wanted_none rfl) (r_indexAddrS Try.underlying38 ti3 rfl hl_v61_0 rfl (rdl_some h64).1 (rdl_some h64).2.1) ?_
                  refine S.q rfl rfl rfl (wanted_none rfl) (r_load ta3 rfl (fun w hw => cell_0 (Rd.flat ((fun _ hw => hr_v61_0.sep hw) w hw) (rdl_some h64).2.2) rfl)) ?_
                  refine S.q rfl rfl rfl (wanted_none rfl) (r_fieldAddr tf31_0 rfl) ?_
                  refine S.q rfl rfl rfl (wanted_none rfl) (r_load ta29 rfl (fun w hw => cell_1 (box_cells (i := 0) rfl w hw) rfl)) ?_
                  refine S.q rfl rfl rfl (wanted_none rfl) (r_len Try.underlying29 rfl hl_va0_0) ?_
                  refine S.q rfl rfl rfl (wanted_none rfl) (r_sub rfl rfl) ?_
                  refine S.qc rfl rfl rfl (wanted_none rfl) (q_callF (xs := _) rfl ok84 rfl rfl (fun w hw => spec_l1In.ok h70 w )) ?_
                  refine S.q rfl rfl rfl (wanted_none rfl) (r_not rfl) ?_
                  refine S.nil ?_
                  refine F.nil ?_
                  refine Nrm.seq ?_
                  refine Tri.cond (b := !t70) rfl (fun g_5 => ?_) (fun g_5 => ?_)
                  · replace hE_4 := if_tt g_5 hE_4
                    refine Tri.seq ?_
                    refine Tri.reg (l := [0]) rfl ?_
                    refine F.q rfl rfl rfl (wanted_none rfl) (r_assign rfl) ?_
                    refine F.nil ?_
                    refine Nrm.seq ?_
                    refine Tri.ret ?_
                    refine Rtn.block ?_
                    refine Rtn.then ?_
                    refine Rtn.then ?_
                    refine Rtn.block ?_
                    refine Rtn.block ?_
                    refine Rtn.then ?_
                    refine Rtn.then ?_
                    refine Rtn.block ?_
                    refine Rtn.then ?_
                    cases hE_4
                    replace hE_2 := Lr_inr hE_2
                    cases hE_2
                    replace h := Lr_inr h
                    cases h
                    exact Rtn.body (.tmp rfl .nil) (fun w hw => ⟨rfl, hw.ext⟩)
                  · replace hE_4 := if_ff g_5 hE_4
                    refine Tri.skip ?_
                    refine Nrm.block ?_
                    refine Nrm.seq ?_
                    refine Tri.reg (l := [0, 1, 2]) rfl ?_
                    refine F.q rfl rfl rfl (wanted_none rfl) (r_move rfl) ?_
                    refine F.q rfl rfl rfl (wanted_none rfl) (r_add rfl rfl) ?_
                    refine F.q rfl rfl rfl (wanted_none rfl) (r_assign rfl) ?_
                    refine F.nil ?_
                    refine Nrm.round ?_
                    refine Rnd.only [1, 3, 4] rfl ?_
                    refine Rnd.pick [0] rfl rfl ?_
                    exact ih_2 _ _ ⟨w64 (x4 + 1), hE_4, rfl, rfl⟩
                · replace hE_4 := if_ff g_4 hE_4
                  refine Tri.exit ?_
                  refine Exi.then ?_
                  refine Exi.then ?_
                  refine Exi.same ?_
                  cases hE_4
                  replace hE_2 := Lr_inl hE_2
                  refine Nrm.block ?_
                  refine Nrm.seq ?_
                  refine Tri.reg (l := [0, 1, 2]) rfl ?_
                  refine F.q rfl rfl rfl (wanted_none rfl) (r_move rfl) ?_
                  refine F.q rfl rfl rfl (wanted_none rfl) (r_add rfl rfl) ?_
                  refine F.q rfl rfl rfl (wanted_none rfl) (r_assign rfl) ?_
                  refine F.nil ?_
                  refine Nrm.round ?_
                  refine Rnd.only [1, 3] rfl ?_
                  refine Rnd.pick [0] rfl rfl ?_
                  exact ih_1 _ _ ⟨w64 (x3 + 1), hE_2, rfl, rfl⟩
          · obtain ⟨t29, h29, hE_3⟩ := bind_some hE_3
            obtain ⟨_, hc29, hp29⟩ := Rd.elem hr_a0_0 (rdl_some h29).2.2
            obtain ⟨v29_1, v29_2, rfl, hr_v29_1, hr_v29_2⟩ := op55 hp29
            have hl_v29_1 := hr_v29_1.len
            have hl_v29_2 := hr_v29_2.len
            obtain ⟨t31, h31, hE_3⟩ := bind_some hE_3
            rcases Bool.eq_false_or_eq_true (!t31) with g33 | g33
            · replace hE_3 := if_tt g33 hE_3
              refine Tri.drawA mixedT Sep.up [(0, true), (1, true), (2, true), (3, true), (4, true), (5, true), (6, true), (7, true), (8, true), (9, true), (10, true), (11, true), (12, true), (13, true), (14, true), (15, true), (16, true), (17, true), (18, true), (19, true), (20, true), (21, true)] [] (by kernel_rfl) ?_
              refine S.q rfl rfl rfl (wanted_none rfl) (r_fieldAddr tf31_0 rfl) ?_
              refine S.q rfl rfl rfl (wanted_none rfl) (r_load ta29 rfl (fun w hw => cell_1 (box_cells (i := 0) rfl w hw) rfl)) ?_
              refine S.q rfl rfl rfl (wanted_none rfl) (r_move rfl) ?_
              refine S.q rfl rfl rfl (wanted_none rfl) (r_indexAddrS Try.underlying29 ti55 rfl hl_va0_0 rfl (rdl_some h29).1 (rdl_some h29).2.1) ?_
              refine S.q rfl rfl rfl (wanted_none rfl) (r_loadA ta55 ti55 rfl rfl (fun w hw => (hc29.sep hw))) ?_
              refine S.qc rfl rfl rfl (wanted_none rfl) (q_callF (xs := _) rfl ok117 rfl rfl (fun w hw => spec_l2Maze.ok h31 w ((fun _ hw => hr_v29_1.sep hw) w hw) ((fun _ hw => hr_v29_2.sep hw) w hw))) ?_
              refine S.q rfl rfl rfl (wanted_none rfl) (r_not rfl) ?_
              refine S.q rfl rfl rfl (wanted_none rfl) (r_move rfl) ?_
              refine S.sk rfl rfl rfl (wf rfl rfl rfl g33) ?_
              refine S.sk rfl rfl rfl (wf rfl rfl rfl g33) ?_
              refine S.sk rfl rfl rfl (wf rfl rfl rfl g33) ?_
              refine S.sk rfl rfl rfl (wf rfl rfl rfl g33) ?_
              refine S.sk rfl rfl rfl (wf rfl rfl rfl g33) ?_
              refine S.sk rfl rfl rfl (wf rfl rfl rfl g33) ?_
              refine S.sk rfl rfl rfl (wf rfl rfl rfl g33) ?_
              refine S.sk rfl rfl rfl (wf rfl rfl rfl g33) ?_
              refine S.sk rfl rfl rfl (wf rfl rfl rfl g33) ?_
              refine S.sk rfl rfl rfl (wf rfl rfl rfl g33) ?_
              refine S.sk rfl rfl rfl (wf rfl rfl rfl g33) ?_
              refine S.sk rfl rfl rfl (wf rfl rfl rfl g33) ?_
              refine S.sk rfl rfl rfl (wf rfl rfl rfl g33) ?_
              refine S.q rfl rfl rfl (wanted_none rfl) (r_pick rfl rfl g33) ?_
              refine S.nil ?_
              refine F.nil ?_
              cases hE_3
              refine Nrm.only [1, 3, 47] rfl ?_
              refine Nrm.pick [0] rfl rfl ?_
              exact hj_2 _ _ ⟨rfl, rfl⟩
            · replace hE_3 := if_ff g33 hE_3
              obtain ⟨t37, h37, hE_3⟩ := bind_some hE_3
              obtain ⟨_, hc37, hp37⟩ := Rd.elem hr_a0_1 (rdl_some h37).2.2
              obtain ⟨v37_0, rfl, hr_v37_0⟩ := op38 hp37
              have hl_v37_0 := hr_v37_0.len
              obtain ⟨t43, h43, hE_3⟩ := bind_some hE_3
              obtain ⟨_, hc43, hp43⟩ := Rd.elem hr_a0_0 (rdl_some h43).2.2
              obtain ⟨v43_1, v43_2, rfl, hr_v43_1, hr_v43_2⟩ := op55 hp43
              have hl_v43_1 := hr_v43_1.len
              have hl_v43_2 := hr_v43_2.len
              refine Tri.drawA mixedT Sep.up [(0, true), (1, true), (2, true), (3, true), (4, true), (5, true), (6, true), (7, true), (8, true), (9, true), (10, true), (11, true), (12, true), (13, true), (14, true), (15, true), (16, true), (17, true), (18, true), (19, true), (20, true), (21, true)] [] (by kernel_rfl) ?_
              refine S.q rfl rfl rfl (wanted_none rfl) (r_fieldAddr tf31_0 rfl) ?_
              refine S.q rfl rfl rfl (wanted_none rfl) (r_load ta29 rfl (fun w hw => cell_1 (box_cells (i := 0) rfl w hw) rfl)) ?_
              refine S.q rfl rfl rfl (wanted_none rfl) (r_move rfl) ?_
              refine S.q rfl rfl rfl (wanted_none rfl) (r_indexAddrS Try.underlying29 ti55 rfl hl_va0_0 rfl (rdl_some h29).1 (rdl_some h29).2.1) ?_
              refine S.q rfl rfl rfl (wanted_none rfl) (r_loadA ta55 ti55 rfl rfl (fun w hw => (hc29.sep hw))) ?_
              refine S.qc rfl rfl rfl (wanted_none rfl) (q_callF (xs := _) rfl ok117 rfl rfl (fun w hw => spec_l2Maze.ok h31 w ((fun _ hw => hr_v29_1.sep hw) w hw) ((fun _ hw => hr_v29_2.sep hw) w hw))) ?_
              refine S.q rfl rfl rfl (wanted_none rfl) (r_not rfl) ?_
              refine S.q rfl rfl rfl (wanted_none rfl) (r_move rfl) ?_
              refine S.q rfl rfl rfl (wg rfl rfl rfl g33) (r_fieldAddr tf31_1 rfl) ?_
              refine S.q rfl rfl rfl (wg rfl rfl rfl g33) (r_load ta23 rfl (fun w hw => cell_1 (box_cells (i := 0) rfl w hw) rfl)) ?_
              refine S.q rfl rfl rfl (wg rfl rfl rfl g33) (r_move rfl) ?_
              refine S.q rfl rfl rfl (wg rfl rfl rfl g33) (r_indexAddrS Try.underlying23 ti38 rfl hl_va0_1 rfl (rdl_some h37).1 (rdl_some h37).2.1) ?_
              refine S.q rfl rfl rfl (wg rfl rfl rfl g33) (r_load ta38 rfl (fun w hw => cell_0 (hc37.sep hw) rfl)) ?_
              refine S.q rfl rfl rfl (wg rfl rfl rfl g33) (r_len Try.underlying38 rfl hl_v37_0) ?_
              refine S.q rfl rfl rfl (wg rfl rfl rfl g33) (r_fieldAddr tf31_0 rfl) ?_
              refine S.q rfl rfl rfl (wg rfl rfl rfl g33) (r_load ta29 rfl (fun w hw => cell_1 (box_cells (i := 0) rfl w hw) rfl)) ?_
              refine S.q rfl rfl rfl (wg rfl rfl rfl g33) (r_move rfl) ?_
              refine S.q rfl rfl rfl (wg rfl rfl rfl g33) (r_indexAddrS Try.underlying29 ti55 rfl hl_va0_0 rfl (rdl_some h43).1 (rdl_some h43).2.1) ?_
              refine S.q rfl rfl rfl (wg rfl rfl rfl g33) (r_fieldAddr tf55_0 rfl) ?_
              refine S.q rfl rfl rfl (wg rfl rfl rfl g33) (r_load ta3 rfl (fun w hw => cell_1 (hc43.sep hw) rfl)) ?_
              refine S.q rfl rfl rfl (wg rfl rfl rfl g33) (r_neq rfl rfl) ?_
              refine S.q rfl rfl rfl (wanted_none rfl) (r_pickf rfl rfl g33) ?_
              refine S.nil ?_
              refine F.nil ?_
              cases hE_3
              refine Nrm.only [1, 3, 47] rfl ?_
              refine Nrm.pick [0] rfl rfl ?_
              exact hj_2 _ _ ⟨rfl, rfl⟩
        · replace hE_2 := if_ff g_2 hE_2
          refine Tri.exit ?_
          refine Exi.then ?_
          refine Exi.then ?_
          refine Exi.same ?_
          cases hE_2
          replace h := Lr_inl h
          refine Nrm.seq ?_
          refine Tri.seq ?_
          refine Tri.reg (l := [0]) rfl ?_
          refine F.q rfl rfl rfl (wanted_none rfl) (r_assign rfl) ?_
          refine F.nil ?_
          refine Nrm.seq ?_
          refine Tri.ret ?_
          cases h
          exact Rtn.body (.tmp rfl .nil) (fun w hw => ⟨rfl, hw.ext⟩)
  · obtain ⟨t8, h8, hE_1⟩ := bind_some hE_1
    rcases Bool.eq_false_or_eq_true (!t8) with g10 | g10
    · replace hE_1 := if_tt g10 hE_1
      refine Tri.reg (l := [0, 1, 2, 3, 4, 5, 6, 7, 8, 9, 10, 11, 12, 13]) rfl ?_
      refine F.q rfl rfl rfl (wanted_none rfl) (r_fieldAddr tf31_0 rfl) ?_
      refine F.q rfl rfl rfl (wanted_none rfl) (r_load ta29 rfl (fun w hw => cell_1 (box_cells (i := 0) rfl w hw) rfl)) ?_
      refine F.q rfl rfl rfl (wanted_none rfl) (r_len Try.underlying29 rfl hl_va0_0) ?_
      refine F.qc rfl rfl rfl (wanted_none rfl) (q_callF (xs := _) rfl ok84 rfl rfl (fun w hw => spec_l1In.ok h8 w )) ?_
      refine F.q rfl rfl rfl (wanted_none rfl) (r_not rfl) ?_
      refine F.q rfl rfl rfl (wanted_none rfl) (r_move rfl) ?_
      refine F.sk rfl rfl rfl (wf rfl rfl rfl g10) ?_
      refine F.sk rfl rfl rfl (wf rfl rfl rfl g10) ?_
      refine F.sk rfl rfl rfl (wf rfl rfl rfl g10) ?_
      refine F.sk rfl rfl rfl (wf rfl rfl rfl g10) ?_
      refine F.sk rfl rfl rfl (wf rfl rfl rfl g10) ?_
      refine F.sk rfl rfl rfl (wf rfl rfl rfl g10) ?_
      refine F.sk rfl rfl rfl (wf rfl rfl rfl g10) ?_
      refine F.q rfl rfl rfl (wanted_none rfl) (r_pick rfl rfl g10) ?_
      refine F.nil ?_
      cases hE_1
      refine Nrm.only [1, 18] rfl ?_
      refine Nrm.pick [0] rfl rfl ?_
      exact hj_1 _ _ ⟨rfl, rfl⟩
    · replace hE_1 := if_ff g10 hE_1
      refine Tri.reg (l := [0, 1, 2, 3, 4, 5, 6, 7, 8, 9, 10, 11, 12, 13]) rfl ?_
      refine F.q rfl rfl rfl (wanted_none rfl) (r_fieldAddr tf31_0 rfl) ?_
      refine F.q rfl rfl rfl (wanted_none rfl) (r_load ta29 rfl (fun w hw => cell_1 (box_cells (i := 0) rfl w hw) rfl)) ?_
      refine F.q rfl rfl rfl (wanted_none rfl) (r_len Try.underlying29 rfl hl_va0_0) ?_
      refine F.qc rfl rfl rfl (wanted_none rfl) (q_callF (xs := _) rfl ok84 rfl rfl (fun w hw => spec_l1In.ok h8 w )) ?_
      refine F.q rfl rfl rfl (wanted_none rfl) (r_not rfl) ?_
      refine F.q rfl rfl rfl (wanted_none rfl) (r_move rfl) ?_
      refine F.q rfl rfl rfl (wg rfl rfl rfl g10) (r_fieldAddr tf31_1 rfl) ?_
      refine F.q rfl rfl rfl (wg rfl rfl rfl g10) (r_load ta23 rfl (fun w hw => cell_1 (box_cells (i := 0) rfl w hw) rfl)) ?_
      refine F.q rfl rfl rfl (wg rfl rfl rfl g10) (r_len Try.underlying23 rfl hl_va0_1) ?_
      refine F.q rfl rfl rfl (wg rfl rfl rfl g10) (r_fieldAddr tf31_0 rfl) ?_
      refine F.q rfl rfl rfl (wg rfl rfl rfl g10) (r_load ta29 rfl (fun w hw => cell_1 (box_cells (i := 0) rfl w hw) rfl)) ?_
      refine F.q rfl rfl rfl (wg rfl rfl rfl g10) (r_len Try.underlying29 rfl hl_va0_0) ?_
      refine F.q rfl rfl rfl (wg rfl rfl rfl g10) (r_neq rfl rfl) ?_
      refine F.q rfl rfl rfl (wanted_none rfl) (r_pickf rfl rfl g10) ?_
      refine F.nil ?_
      cases hE_1
      refine Nrm.only [1, 18] rfl ?_
      refine Nrm.pick [0] rfl rfl ?_
      exact hj_1 _ _ ⟨rfl, rfl⟩

end Go.Proofs

/- loop.example/g01158/spec.l10World -/
namespace Go.Proofs
open Go Go.Ga
set_option linter.unusedVariables false
set_option maxRecDepth 100000
set_option maxHeartbeats 4000000
def spec_l10World.f (k : Nat) (a0_0 : List (Int × List (Int × Int × Int) × List Int)) (a0_1 : List (List Int)) (a1 : Int) : Option (Bool) := ((spec_l10Worlds.f k a0_0 a0_1).bind fun t6 => (if t6 = true then (spec_l1In.f k a1 0 (w64 ((a0_0.length : Int) - 1))).bind fun t13 => some t13 else some false)).bind fun y4 => some y4

theorem spec_l10World.ok {k : Nat}  {a0_0 : List (Int × List (Int × Int × Int) × List Int)} {a0_1 : List (List Int)} {a1 : Int} {r0 : Bool} (h : spec_l10World.f k a0_0 a0_1 a1 = some r0) (w : World) {va0_0 : Value} {va0_1 : Value} (hr_a0_0 : Rd w va0_0 a0_0) (hr_a0_1 : Rd w va0_1 a0_1) :
    Calls Try.prog 70 ([.agg ([va0_0, va0_1].toArray), .int .i64 a1] : List Value).toArray w (fun e w' => e = .returned (.bool r0) ∧ Ext w w') := by
  unfold spec_l10World.f at h
  have hl_va0_0 := hr_a0_0.len
  have hl_va0_1 := hr_a0_1.len
  refine Calls.of_tri (N := 15) Try.func70 rfl rfl rfl (Sep.nil (M := noM)) ?_
  refine Tri.seq ?_
  refine Tri.reg (l := [0, 1]) rfl ?_
  refine F.m rfl rfl rfl (wanted_none rfl) (m_boxG rfl rfl) ?_
  rintro _ _ ⟨b2_1, rfl, rfl⟩
  refine F.q rfl rfl rfl (wanted_none rfl) (r_assign rfl) ?_
  refine F.nil ?_
  refine Nrm.seq ?_
  refine Tri.seq ?_
  obtain ⟨y4, hE_1, h⟩ := bind_some h
  refine Tri.cut (fun e' C' => e' = [(4, .bool y4)] ∧ C' = Sep w noM []) ?_ (fun hj_1 => ?_)
  · rintro _ _ ⟨rfl, rfl⟩
    refine Nrm.seq ?_
    refine Tri.ret ?_
    cases h
    exact Rtn.body (.tmp rfl .nil) (fun w hw => ⟨rfl, hw.ext⟩)
  · obtain ⟨t6, h6, hE_1⟩ := bind_some hE_1
    rcases Bool.eq_false_or_eq_true (t6) with g7 | g7
    · replace hE_1 := if_tt g7 hE_1
      obtain ⟨t13, h13, hE_1⟩ := bind_some hE_1
      refine Tri.reg (l := [0, 1, 2, 3, 4, 5, 6, 7, 8, 9, 10]) rfl ?_
      refine F.q rfl rfl rfl (wanted_none rfl) (r_loadA ta31 ti31 rfl rfl (fun w hw => (box_cells (i := 0) rfl w hw))) ?_
      refine F.qc rfl rfl rfl (wanted_none rfl) (q_callF (xs := _) rfl ok61 rfl rfl (fun w hw => spec_l10Worlds.ok h6 w ((fun _ hw => hr_a0_0.sep hw) w hw) ((fun _ hw => hr_a0_1.sep hw) w hw))) ?_
      refine F.q rfl rfl rfl (wanted_none rfl) (r_move rfl) ?_
      refine F.q rfl rfl rfl (wg rfl rfl rfl g7) (r_move rfl) ?_
      refine F.q rfl rfl rfl (wg rfl rfl rfl g7) (r_fieldAddr tf31_0 rfl) ?_
      refine F.q rfl rfl rfl (wg rfl rfl rfl g7) (r_load ta29 rfl (fun w hw => cell_1 (box_cells (i := 0) rfl w hw) rfl)) ?_
      refine F.q rfl rfl rfl (wg rfl rfl rfl g7) (r_len Try.underlying29 rfl hl_va0_0) ?_
      refine F.q rfl rfl rfl (wg rfl rfl rfl g7) (r_sub rfl rfl) ?_
      refine F.qc rfl rfl rfl (wg rfl rfl rfl g7) (q_callF (xs := _) rfl ok84 rfl rfl (fun w hw => spec_l1In.ok h13 w )) ?_
      refine F.q rfl rfl rfl (wanted_none rfl) (r_pick rfl rfl g7) ?_
      refine F.q rfl rfl rfl (wanted_none rfl) (r_assign rfl) ?_
      refine F.nil ?_
      cases hE_1
      refine Nrm.only [4] rfl ?_
      refine Nrm.pick [] rfl rfl ?_
      exact hj_1 _ _ ⟨rfl, rfl⟩
    · replace hE_1 := if_ff g7 hE_1
      refine Tri.reg (l := [0, 1, 2, 3, 4, 5, 6, 7, 8, 9, 10]) rfl ?_
      refine F.q rfl rfl rfl (wanted_none rfl) (r_loadA ta31 ti31 rfl rfl (fun w hw => (box_cells (i := 0) rfl w hw))) ?_
      refine F.qc rfl rfl rfl (wanted_none rfl) (q_callF (xs := _) rfl ok61 rfl rfl (fun w hw => spec_l10Worlds.ok h6 w ((fun _ hw => hr_a0_0.sep hw) w hw) ((fun _ hw => hr_a0_1.sep hw) w hw))) ?_
      refine F.q rfl rfl rfl (wanted_none rfl) (r_move rfl) ?_
      refine F.sk rfl rfl rfl (wf rfl rfl rfl g7) ?_
      refine F.sk rfl rfl rfl (wf rfl rfl rfl g7) ?_
      refine F.sk rfl rfl rfl (wf rfl rfl rfl g7) ?_
      refine F.sk rfl rfl rfl (wf rfl rfl rfl g7) ?_
      refine F.sk rfl rfl rfl (wf rfl rfl rfl g7) ?_
      refine F.sk rfl rfl rfl (wf rfl rfl rfl g7) ?_
      refine F.q rfl rfl rfl (wanted_none rfl) (r_pickf rfl rfl g7) ?_
      refine F.q rfl rfl rfl (wanted_none rfl) (r_assign rfl) ?_
      refine F.nil ?_
      cases hE_1
      refine Nrm.only [4] rfl ?_
      refine Nrm.pick [] rfl rfl ?_
      exact hj_1 _ _ ⟨rfl, rfl⟩

end Go.Proofs

/- loop.example/g01158/spec.l2Own -/
namespace Go.Proofs
open Go Go.Ga
set_option linter.unusedVariables false
set_option maxRecDepth 100000
set_option maxHeartbeats 4000000
def spec_l2Own.f (k : Nat) (a0_0 : Int) (a0_1 : List (Int × Int × Int)) (a0_2 : List Int) : Option (Int × (List (Int × Int × Int)) × (List Int)) := if (([] : List (Int × Int × Int)) ++ a0_1).length < 1099511627776 then (spec_l1Own.f k a0_2).bind fun t11 => some (a0_0, ([] : List (Int × Int × Int)) ++ a0_1, t11) else none

theorem spec_l2Own.ok {k : Nat}  {a0_0 : Int} {a0_1 : List (Int × Int × Int)} {a0_2 : List Int} {r0 : Int} {r1 : List (Int × Int × Int)} {r2 : List Int} (h : spec_l2Own.f k a0_0 a0_1 a0_2 = some (r0, r1, r2)) (w : World) {va0_1 : Value} {va0_2 : Value} (hr_a0_1 : Rd w va0_1 a0_1) (hr_a0_2 : Rd w va0_2 a0_2) :
    Calls Try.prog 76 ([.agg ([.int .i64 a0_0, va0_1, va0_2].toArray)] : List Value).toArray w (Post (fun u ns => ∃ (ur1 : Value) (Sr1 : Nat → Prop) (ur2 : Value) (Sr2 : Nat → Prop), u = .agg [.int .i64 r0, ur1, ur2].toArray ∧ SlLen ur1 r1.length ∧ SlLen ur2 r2.length ∧ ns = [R.sl Sr1 ur1 r1, R.sl Sr2 ur2 r2]) w) := by
  unfold spec_l2Own.f at h
  have hl_va0_1 := hr_a0_1.len
  have hl_va0_2 := hr_a0_2.len
  refine Calls.of_tri (N := 13) Try.func76 rfl rfl rfl (Sep.nil (M := noM)) ?_
  refine Tri.seq ?_
  refine Tri.reg (l := [0, 1]) rfl ?_
  refine F.m rfl rfl rfl (wanted_none rfl) (m_boxG rfl rfl) ?_
  rintro _ _ ⟨b1_1, rfl, rfl⟩
  refine F.m rfl rfl rfl (wanted_none rfl) (m_alloc ti55) ?_
  rintro _ _ ⟨b2_1, rfl, rfl⟩
  refine F.nil ?_
  refine Nrm.seq ?_
  refine Tri.seq ?_
  obtain ⟨hs8, h⟩ := ck h
  obtain ⟨t11, h11, h⟩ := bind_some h
  refine Tri.drawB mixedT Sep.up [(0, true), (1, true), (3, true), (4, true), (6, true), (7, true), (2, false), (5, false), (8, false)] [9, 10] (by kernel_rfl) ?_
  refine B.q rfl rfl rfl (wanted_none rfl) (r_fieldAddr tf55_0 rfl) ?_
  refine B.q rfl rfl rfl (wanted_none rfl) (r_load ta3 rfl (fun w hw => cell_1 (box_cells (i := 1) rfl w hw) rfl)) ?_
  refine B.q rfl rfl rfl (wanted_none rfl) (r_fieldAddr tf55_1 rfl) ?_
  refine B.q rfl rfl rfl (wanted_none rfl) (r_load ta49 rfl (fun w hw => cell_1 (box_cells (i := 1) rfl w hw) rfl)) ?_
  refine B.q rfl rfl rfl (wanted_none rfl) (r_fieldAddr tf55_2 rfl) ?_
  refine B.q rfl rfl rfl (wanted_none rfl) (r_load ta38 rfl (fun w hw => cell_1 (box_cells (i := 1) rfl w hw) rfl)) ?_
  refine B.ef rfl rfl rfl (wanted_none rfl) (Makes.does (m_build0 (α := Int × Int × Int) Try.underlying49 ti140)) (by rintro v5_2 _ ⟨S5_2, hl_v5_2, rfl⟩; exact upd rfl [1, 2] rfl rfl) ?_
  rintro v5_2 _ ⟨S5_2, hl_v5_2, rfl⟩
  refine B.ef rfl rfl rfl (wanted_none rfl) (d_append (i := 0) Try.underlying49 Try.underlying49 ti140 rfl (by decide) rfl rfl rfl (fun _ hw => hr_a0_1.sep hw) hs8) (by rintro v8_2 _ ⟨S8_2, rfl, hl_v8_2⟩; exact upd rfl [1, 2] rfl rfl) ?_
  rintro v8_2 _ ⟨S8_2, rfl, hl_v8_2⟩
  refine B.ef rfl rfl rfl (wanted_none rfl) (Makes.does (m_callF (xs := _) rfl ok118 rfl rfl (fun w hw => spec_l1Own.ok h11 w ((fun _ hw => hr_a0_2.sep hw) w hw)))) (by rintro v11_2 _ ⟨_, ⟨S11_2, hl_v11_2, rfl⟩, rfl⟩; exact upd rfl [2, 3] rfl rfl) ?_
  rintro v11_2 _ ⟨_, ⟨S11_2, hl_v11_2, rfl⟩, rfl⟩
  refine B.nil ?_
  refine F.q rfl rfl rfl (wanted_none rfl) (r_build (pl := [(0, 1), (1, 1), (2, 1)]) (qs := [(0, [.int .i64 a0_0]), (1, [v8_2]), (2, [v11_2])]) (cs := [.int .i64 a0_0, v8_2, v11_2]) (by kernel_rfl) ti55 rfl (.cons rfl rfl (Nat.le_of_ble_eq_true rfl) (.cons (sl_cells hl_v8_2) rfl (Nat.le_of_ble_eq_true rfl) (.cons (sl_cells hl_v11_2) rfl (Nat.le_of_ble_eq_true rfl) .nil))) rfl rfl) ?_
  refine F.ef0 rfl rfl (wanted_none rfl) (d_storeG0 (i := 2) (cs2 := [.int .i64 a0_0, v8_2, v11_2]) ti55 rfl rfl rfl rfl rfl (Nat.le_of_ble_eq_true rfl) (lf_cons rfl (lf_cons (sl_leaf hl_v8_2) (lf_cons (sl_leaf hl_v11_2) lf_nil)))) ?_
  rintro _ _ ⟨rfl, rfl⟩
  refine F.nil ?_
  refine Nrm.seq ?_
  refine Tri.ret ?_
  cases h
  exact Rtn.body (.cell rfl ta55 ti55 rfl (fun _ hw => box_cells (i := 2) rfl _ hw) .nil) (fun w hw => ⟨_, _, rfl, ⟨v8_2, S8_2, v11_2, S11_2, rfl, hl_v8_2, hl_v11_2, rfl⟩, Sep.pick (is := [1, 0]) rfl rfl hw⟩)

end Go.Proofs

/- loop.example/g01158/spec.l10Own -/
namespace Go.Proofs
open Go Go.Ga
set_option linter.unusedVariables false
set_option maxRecDepth 100000
set_option maxHeartbeats 4000000
def spec_l10Own.l0 (k : Nat) (a0_0 : List (Int × List (Int × Int × Int) × List Int)) (a0_1 : List (List Int)) : Nat → Int → (List (Int × List (Int × Int × Int) × List Int)) → (List (List Int)) → Option ((List (Int × List (Int × Int × Int) × List Int)) × (List (List Int)))
  | 0, _, _, _ => none
  | n + 1, x4, xq3_1_0, xq3_1_1 => (if (decide (x4 < (a0_0.length : Int))) = true then (rdl a0_0 x4).bind fun t20 => (spec_l2Own.f k t20.1 t20.2.1 t20.2.2).bind fun (t22_1, t22_2, t22_3) => if ((xq3_1_0 : List (Int × List (Int × Int × Int) × List Int)) ++ ([(t22_1, t22_2, t22_3)] : List (Int × List (Int × Int × Int) × List Int))).length < 1099511627776 then (rdl a0_1 x4).bind fun t31 => (spec_l1Own.f k t31).bind fun t33 => if ((xq3_1_1 : List (List Int)) ++ ([t33] : List (List Int))).length < 1099511627776 then spec_l10Own.l0 k a0_0 a0_1 n (w64 (x4 + 1)) ((xq3_1_0 : List (Int × List (Int × Int × Int) × List Int)) ++ ([(t22_1, t22_2, t22_3)] : List (Int × List (Int × Int × Int) × List Int))) ((xq3_1_1 : List (List Int)) ++ ([t33] : List (List Int))) else none else none else some (xq3_1_0, xq3_1_1))

def spec_l10Own.f (k : Nat) (a0_0 : List (Int × List (Int × Int × Int) × List Int)) (a0_1 : List (List Int)) : Option ((List (Int × List (Int × Int × Int) × List Int)) × (List (List Int))) := (spec_l10Own.l0 k a0_0 a0_1 k 0 ([] : List (Int × List (Int × Int × Int) × List Int)) ([] : List (List Int))).bind fun (xq3_1_0, xq3_1_1) => some (xq3_1_0, xq3_1_1)

theorem spec_l10Own.ok {k : Nat}  {a0_0 : List (Int × List (Int × Int × Int) × List Int)} {a0_1 : List (List Int)} {r0 : List (Int × List (Int × Int × Int) × List Int)} {r1 : List (List Int)} (h : spec_l10Own.f k a0_0 a0_1 = some (r0, r1)) (w : World) {va0_0 : Value} {va0_1 : Value} (hr_a0_0 : Rd w va0_0 a0_0) (hr_a0_1 : Rd w va0_1 a0_1) :
    Calls Try.prog 71 ([.agg ([va0_0, va0_1].toArray)] : List Value).toArray w (Post (fun u ns => ∃ (ur0 : Value) (Sr0 : Nat → Prop) (ur1 : Value) (Sr1 : Nat → Prop), u = .agg [ur0, ur1].toArray ∧ SlLen ur0 r0.length ∧ SlLen ur1 r1.length ∧ ns = [R.sl Sr0 ur0 r0, R.sl Sr1 ur1 r1]) w) := by
  unfold spec_l10Own.f at h
  have hl_va0_0 := hr_a0_0.len
  have hl_va0_1 := hr_a0_1.len
  refine Calls.of_tri (N := 38) Try.func71 rfl rfl rfl (Sep.nil (M := noM)) ?_
  refine Tri.seq ?_
  refine Tri.reg (l := [0, 1]) rfl ?_
  refine F.m rfl rfl rfl (wanted_none rfl) (m_boxG rfl rfl) ?_
  rintro _ _ ⟨b1_1, rfl, rfl⟩
  refine F.m rfl rfl rfl (wanted_none rfl) (m_alloc ti31) ?_
  rintro _ _ ⟨b2_1, rfl, rfl⟩
  refine F.nil ?_
  refine Nrm.seq ?_
  refine Tri.seq ?_
  refine Tri.reg (l := [0, 1, 2, 3, 4]) rfl ?_
  refine F.m rfl rfl rfl (wanted_none rfl) (m_build0 (α := Int × List (Int × Int × Int) × List Int) Try.underlying29 ti55) ?_
  rintro v5_1 _ ⟨S5_1, hl_v5_1, rfl⟩
  refine F.m rfl rfl rfl (wanted_none rfl) (m_build0 (α := List Int) Try.underlying23 ti38) ?_
  rintro v6_1 _ ⟨S6_1, hl_v6_1, rfl⟩
  refine F.q rfl rfl rfl (wanted_none rfl) (r_build (pl := [(0, 1), (1, 1)]) (qs := [(0, [v5_1]), (1, [v6_1])]) (cs := [v5_1, v6_1]) (by kernel_rfl) ti31 rfl (.cons (sl_cells hl_v5_1) rfl (Nat.le_of_ble_eq_true rfl) (.cons (sl_cells hl_v6_1) rfl (Nat.le_of_ble_eq_true rfl) .nil)) rfl rfl) ?_
  refine F.m rfl rfl rfl (wanted_none rfl) (m_alloc ti31) ?_
  rintro _ _ ⟨b3_1, rfl, rfl⟩
  refine F.ef0 rfl rfl (wanted_none rfl) (d_storeG0 (i := 0) (cs2 := [v5_1, v6_1]) ti31 rfl rfl rfl rfl rfl (Nat.le_of_ble_eq_true rfl) (lf_cons (sl_leaf hl_v5_1) (lf_cons (sl_leaf hl_v6_1) lf_nil))) ?_
  rintro _ _ ⟨rfl, rfl⟩
  refine F.nil ?_
  refine Nrm.seq ?_
  refine Tri.seq ?_
  refine Tri.seq ?_
  refine Tri.reg (l := [0]) rfl ?_
  refine F.q rfl rfl rfl (wanted_none rfl) (r_assign rfl) ?_
  refine F.nil ?_
  refine Nrm.seq ?_
  obtain ⟨⟨xq3_1_0, xq3_1_1⟩, hE_1, h⟩ := bind_some h
  refine Tri.block ?_
  refine Tri.only [1, 2, 3, 4] rfl ?_
  refine Tri.pick [0, 3, 4, 1, 2] rfl rfl ?_
  refine Tri.rounds (fun n e' C' => ∃ (x4' : Int) (xq3_1_0' : List (Int × List (Int × Int × Int) × List Int)) (xq3_1_1' : List (List Int)) (wq3_1_0 : Value) (Tq3_1_0 : Nat → Prop) (wq3_1_1 : Value) (Tq3_1_1 : Nat → Prop), spec_l10Own.l0 k a0_0 a0_1 n x4' xq3_1_0' xq3_1_1' = some (xq3_1_0, xq3_1_1) ∧ SlLen wq3_1_0 (xq3_1_0').length ∧ SlLen wq3_1_1 (xq3_1_1').length ∧ e' = [(1, .pointer (some ⟨b1_1, 0, none⟩)), (2, .pointer (some ⟨b2_1, 0, none⟩)), (3, .pointer (some ⟨b3_1, 0, none⟩)), (4, .int .i64 x4')] ∧ C' = Sep w noM [R.box b3_1 31 [wq3_1_0, wq3_1_1], R.box b2_1 31 [.slice none 0 0, .slice none 0 0], R.box b1_1 31 [va0_0, va0_1], R.sl Tq3_1_1 wq3_1_1 (xq3_1_1' : List (List Int)), R.sl Tq3_1_0 wq3_1_0 (xq3_1_0' : List (Int × List (Int × Int × Int) × List Int))]) k ?_ ?_ ?_
  · exact ⟨0, ([] : List (Int × List (Int × Int × Int) × List Int)), ([] : List (List Int)), v5_1, S5_1, v6_1, S6_1, hE_1, hl_v5_1, hl_v6_1, rfl, rfl⟩
  · rintro _ _ ⟨_, _, _, _, _, _, _, hE_1, _⟩
    rw [spec_l10Own.l0.eq_1] at hE_1; cases hE_1
  · rintro n_1 _ _ ⟨x4, xq3_1_0, xq3_1_1, wq3_1_0, Tq3_1_0, wq3_1_1, Tq3_1_1, hE_1, hl_wq3_1_0, hl_wq3_1_1, rfl, rfl⟩ ih_1
    rw [spec_l10Own.l0.eq_2] at hE_1
    refine Tri.seq ?_
    refine Tri.seq ?_
    refine Tri.reg (l := [0, 1, 2, 3, 4]) rfl ?_
    refine F.q rfl rfl rfl (wanted_none rfl) (r_move rfl) ?_
    refine F.q rfl rfl rfl (wanted_none rfl) (r_fieldAddr tf31_0 rfl) ?_
    refine F.q rfl rfl rfl (wanted_none rfl) (r_load ta29 rfl (fun w hw => cell_1 (box_cells (i := 2) rfl w hw) rfl)) ?_
    refine F.q rfl rfl rfl (wanted_none rfl) (r_len Try.underlying29 rfl hl_va0_0) ?_
    refine F.q rfl rfl rfl (wanted_none rfl) (r_lss rfl rfl) ?_
    refine F.nil ?_
    refine Nrm.seq ?_
    refine Tri.cond (b := decide (x4 < (a0_0.length : Int))) rfl (fun g_1 => ?_) (fun g_1 => ?_)
    · replace hE_1 := if_tt g_1 hE_1
      refine Tri.skip ?_
      refine Nrm.seq ?_
      refine Tri.seq ?_
      refine Tri.block ?_
      refine Tri.seq ?_
      obtain ⟨t20, h20, hE_1⟩ := bind_some hE_1
      obtain ⟨_, hc20, hp20⟩ := Rd.elem hr_a0_0 (rdl_some h20).2.2
      obtain ⟨v20_1, v20_2, rfl, hr_v20_1, hr_v20_2⟩ := op55 hp20
      have hl_v20_1 := hr_v20_1.len
      have hl_v20_2 := hr_v20_2.len
      obtain ⟨⟨t22_1, t22_2, t22_3⟩, h22, hE_1⟩ := bind_some hE_1
      obtain ⟨hs24, hE_1⟩ := ck hE_1
      refine Tri.drawB mixedT Sep.up [(0, true), (1, true), (2, true), (3, true), (4, true), (5, true), (6, true), (7, false), (8, false)] [9, 10, 11] (by kernel_rfl) ?_
      refine B.q rfl rfl rfl (wanted_none rfl) (r_fieldAddr tf31_0 rfl) ?_
      refine B.q rfl rfl rfl (wanted_none rfl) (r_load ta29 rfl (fun w hw => cell_1 (box_cells (i := 0) rfl w hw) rfl)) ?_
      refine B.q rfl rfl rfl (wanted_none rfl) (r_fieldAddr tf31_0 rfl) ?_
      refine B.q rfl rfl rfl (wanted_none rfl) (r_load ta29 rfl (fun w hw => cell_1 (box_cells (i := 2) rfl w hw) rfl)) ?_
      refine B.q rfl rfl rfl (wanted_none rfl) (r_move rfl) ?_
      refine B.q rfl rfl rfl (wanted_none rfl) (r_indexAddrS Try.underlying29 ti55 rfl hl_va0_0 rfl (rdl_some h20).1 (rdl_some h20).2.1) ?_
      refine B.q rfl rfl rfl (wanted_none rfl) (r_loadA ta55 ti55 rfl rfl (fun w hw => (hc20.sep hw))) ?_
      refine B.ef rfl rfl rfl (wanted_none rfl) (Makes.does (m_callF (xs := _) rfl ok76 rfl rfl (fun w hw => spec_l2Own.ok h22 w ((fun _ hw => hr_v20_1.sep hw) w hw) ((fun _ hw => hr_v20_2.sep hw) w hw)))) (by rintro _ _ ⟨_, ⟨v22_3, S22_3, v22_4, S22_4, rfl, hl_v22_3, hl_v22_4, rfl⟩, rfl⟩; exact upd rfl [2, 3, 4, 5, 6] rfl rfl) ?_
      rintro _ _ ⟨_, ⟨v22_3, S22_3, v22_4, S22_4, rfl, hl_v22_3, hl_v22_4, rfl⟩, rfl⟩
      refine B.ef rfl rfl rfl (wanted_none rfl) (d_build1 (cells := [.int .i64 t22_1, v22_3, v22_4]) (x0 := ((t22_1, t22_2, t22_3) : Int × List (Int × Int × Int) × List Int)) (cs := [R.sl S22_3 v22_3 (t22_2 : List (Int × Int × Int)), R.sl S22_4 v22_4 (t22_3 : List (Int))]) (rest := [R.box b3_1 31 [wq3_1_0, wq3_1_1], R.box b2_1 31 [.slice none 0 0, .slice none 0 0], R.box b1_1 31 [va0_0, va0_1], R.sl Tq3_1_1 wq3_1_1 (xq3_1_1 : List (List Int)), R.sl Tq3_1_0 wq3_1_0 (xq3_1_0 : List (Int × List (Int × Int × Int) × List Int))]) [0, 1] [2, 3, 4, 5, 6] Try.underlying29 ti55 rfl rfl rfl (lf_cons rfl (lf_cons (sl_leaf hl_v22_3) (lf_cons (sl_leaf hl_v22_4) lf_nil))) rfl rfl (jn_pair (jn_int (n := t22_1)) (jn_pair (jn_sl (S := S22_3) (v := v22_3) (l := (t22_2 : List (Int × Int × Int)))) (jn_sl (S := S22_4) (v := v22_4) (l := (t22_3 : List (Int))))))) (by rintro v23_2 _ ⟨S23_2, hl_v23_2, rfl⟩; exact upd rfl [1, 2, 3, 4, 5] rfl rfl) ?_
      rintro v23_2 _ ⟨S23_2, hl_v23_2, rfl⟩
      refine B.nil ?_
      refine F.ef rfl rfl rfl (wanted_none rfl) (d_appendN (rest := [R.box b3_1 31 [wq3_1_0, wq3_1_1], R.box b2_1 31 [.slice none 0 0, .slice none 0 0], R.box b1_1 31 [va0_0, va0_1], R.sl Tq3_1_1 wq3_1_1 (xq3_1_1 : List (List Int))]) 5 0 [1, 2, 3, 4] Try.underlying29 Try.underlying29 ti55 rfl (by decide) rfl rfl rfl rfl hs24) ?_
      rintro v24_2 _ ⟨S24_2, hl_v24_2, rfl⟩
      refine F.q rfl rfl rfl (wanted_none rfl) (r_fieldAddr tf31_0 rfl) ?_
      refine F.ef0 rfl rfl (wanted_none rfl) (d_storeG1 (i := 1) (cs2 := [v24_2]) ti29 rfl rfl rfl (sl_cells hl_v24_2) rfl (Nat.le_of_ble_eq_true rfl) (lf_cons (sl_leaf hl_v24_2) lf_nil)) ?_
      rintro _ _ ⟨rfl, rfl⟩
      refine F.nil ?_
      refine Nrm.seq ?_
      obtain ⟨t31, h31, hE_1⟩ := bind_some hE_1
      obtain ⟨_, hc31, hp31⟩ := Rd.elem hr_a0_1 (rdl_some h31).2.2
      obtain ⟨v31_0, rfl, hr_v31_0⟩ := op38 hp31
      have hl_v31_0 := hr_v31_0.len
      obtain ⟨t33, h33, hE_1⟩ := bind_some hE_1
      obtain ⟨hs35, hE_1⟩ := ck hE_1
      refine Tri.drawB mixedT Sep.up [(0, true), (1, true), (2, true), (3, true), (4, true), (5, true), (6, true), (7, false), (8, false)] [9, 10, 11] (by kernel_rfl) ?_
      refine B.q rfl rfl rfl (wanted_none rfl) (r_fieldAddr tf31_1 rfl) ?_
      refine B.q rfl rfl rfl (wanted_none rfl) (r_load ta23 rfl (fun w hw => cell_1 (box_cells (i := 1) rfl w hw) rfl)) ?_
      refine B.q rfl rfl rfl (wanted_none rfl) (r_fieldAddr tf31_1 rfl) ?_
      refine B.q rfl rfl rfl (wanted_none rfl) (r_load ta23 rfl (fun w hw => cell_1 (box_cells (i := 3) rfl w hw) rfl)) ?_
      refine B.q rfl rfl rfl (wanted_none rfl) (r_move rfl) ?_
      refine B.q rfl rfl rfl (wanted_none rfl) (r_indexAddrS Try.underlying23 ti38 rfl hl_va0_1 rfl (rdl_some h31).1 (rdl_some h31).2.1) ?_
      refine B.q rfl rfl rfl (wanted_none rfl) (r_load ta38 rfl (fun w hw => cell_0 (hc31.sep hw) rfl)) ?_
      refine B.ef rfl rfl rfl (wanted_none rfl) (Makes.does (m_callF (xs := _) rfl ok118 rfl rfl (fun w hw => spec_l1Own.ok h33 w ((fun _ hw => hr_v31_0.sep hw) w hw)))) (by rintro v33_2 _ ⟨_, ⟨S33_2, hl_v33_2, rfl⟩, rfl⟩; exact upd rfl [1, 2, 3, 4, 5] rfl rfl) ?_
      rintro v33_2 _ ⟨_, ⟨S33_2, hl_v33_2, rfl⟩, rfl⟩
      refine B.ef rfl rfl rfl (wanted_none rfl) (d_build1 (cells := [v33_2]) (x0 := (t33 : List Int)) (cs := [R.sl S33_2 v33_2 (t33 : List (Int))]) (rest := [R.sl S24_2 v24_2 ((xq3_1_0 : List (Int × List (Int × Int × Int) × List Int)) ++ ([(t22_1, t22_2, t22_3)] : List (Int × List (Int × Int × Int) × List Int)) : List (Int × List (Int × Int × Int) × List Int)), R.box b3_1 31 [v24_2, wq3_1_1], R.box b2_1 31 [.slice none 0 0, .slice none 0 0], R.box b1_1 31 [va0_0, va0_1], R.sl Tq3_1_1 wq3_1_1 (xq3_1_1 : List (List Int))]) [0] [1, 2, 3, 4, 5] Try.underlying23 ti38 rfl (sl_cells hl_v33_2) rfl (lf_cons (sl_leaf hl_v33_2) lf_nil) rfl rfl (jn_sl (S := S33_2) (v := v33_2) (l := (t33 : List (Int))))) (by rintro v34_2 _ ⟨S34_2, hl_v34_2, rfl⟩; exact upd rfl [1, 2, 3, 4, 5] rfl rfl) ?_
      rintro v34_2 _ ⟨S34_2, hl_v34_2, rfl⟩
      refine B.nil ?_
      refine F.ef rfl rfl rfl (wanted_none rfl) (d_appendN (rest := [R.sl S24_2 v24_2 ((xq3_1_0 : List (Int × List (Int × Int × Int) × List Int)) ++ ([(t22_1, t22_2, t22_3)] : List (Int × List (Int × Int × Int) × List Int)) : List (Int × List (Int × Int × Int) × List Int)), R.box b3_1 31 [v24_2, wq3_1_1], R.box b2_1 31 [.slice none 0 0, .slice none 0 0], R.box b1_1 31 [va0_0, va0_1]]) 5 0 [1, 2, 3, 4] Try.underlying23 Try.underlying23 ti38 rfl (by decide) rfl rfl rfl rfl hs35) ?_
      rintro v35_2 _ ⟨S35_2, hl_v35_2, rfl⟩
      refine F.q rfl rfl rfl (wanted_none rfl) (r_fieldAddr tf31_1 rfl) ?_
      refine F.ef0 rfl rfl (wanted_none rfl) (d_storeG1 (i := 2) (cs2 := [v35_2]) ti23 rfl rfl rfl (sl_cells hl_v35_2) rfl (Nat.le_of_ble_eq_true rfl) (lf_cons (sl_leaf hl_v35_2) lf_nil)) ?_
      rintro _ _ ⟨rfl, rfl⟩
      refine F.nil ?_
      refine Nrm.block ?_
      refine Nrm.seq ?_
      refine Tri.reg (l := [0, 1, 2]) rfl ?_
      refine F.q rfl rfl rfl (wanted_none rfl) (r_move rfl) ?_
      refine F.q rfl rfl rfl (wanted_none rfl) (r_add rfl rfl) ?_
      refine F.q rfl rfl rfl (wanted_none rfl) (r_assign rfl) ?_
      refine F.nil ?_
      refine Nrm.round ?_
      refine Rnd.only [1, 2, 3, 4] rfl ?_
      refine Rnd.pick [2, 3, 4, 0, 1] rfl rfl ?_
      exact ih_1 _ _ ⟨w64 (x4 + 1), (xq3_1_0 : List (Int × List (Int × Int × Int) × List Int)) ++ ([(t22_1, t22_2, t22_3)] : List (Int × List (Int × Int × Int) × List Int)), (xq3_1_1 : List (List Int)) ++ ([t33] : List (List Int)), v24_2, S24_2, v35_2, S35_2, hE_1, hl_v24_2, hl_v35_2, rfl, rfl⟩
    · replace hE_1 := if_ff g_1 hE_1
      refine Tri.exit ?_
      refine Exi.then ?_
      refine Exi.then ?_
      refine Exi.same ?_
      cases hE_1
      refine Nrm.seq ?_
      refine Tri.seq ?_
      refine Tri.reg (l := [0, 1]) rfl ?_
      refine F.q rfl rfl rfl (wanted_none rfl) (r_loadA ta31 ti31 rfl rfl (fun w hw => (box_cells (i := 0) rfl w hw))) ?_
      refine F.ef0 rfl rfl (wanted_none rfl) (d_storeG0 (i := 1) (cs2 := [wq3_1_0, wq3_1_1]) ti31 rfl rfl rfl rfl rfl (Nat.le_of_ble_eq_true rfl) (lf_cons (sl_leaf hl_wq3_1_0) (lf_cons (sl_leaf hl_wq3_1_1) lf_nil))) ?_
      rintro _ _ ⟨rfl, rfl⟩
      refine F.nil ?_
      refine Nrm.seq ?_
      refine Tri.ret ?_
      cases h
      exact Rtn.body (.cell rfl ta31 ti31 rfl (fun _ hw => box_cells (i := 1) rfl _ hw) .nil) (fun w hw => ⟨_, _, rfl, ⟨wq3_1_0, Tq3_1_0, wq3_1_1, Tq3_1_1, rfl, hl_wq3_1_0, hl_wq3_1_1, rfl⟩, Sep.pick (is := [4, 3]) rfl rfl hw⟩)

end Go.Proofs

/- loop.example/g01158/spec.LeansOn -/
namespace Go.Proofs
open Go Go.Ga
set_option linter.unusedVariables false
set_option maxRecDepth 100000
set_option maxHeartbeats 4000000
def spec_LeansOn.l0 (k : Nat) (a0_0 : List (Int × List (Int × Int × Int) × List Int)) (a0_1 : List (List Int)) (a1 : Int) : Nat → (List (Int)) → Int → Option ((List (Int)))
  | 0, _, _ => none
  | n + 1, x6, x7 => (if (decide (x7 < (a0_0.length : Int))) = true then ((if (x7 == a1) = true then some x6 else (spec_l10Own.f k a0_0 a0_1).bind fun (t34_1, t34_2) => (rdl (t34_1 : List (Int × List (Int × Int × Int) × List Int)) x7).bind fun t41 => if 0 ≤ t41.1 ∧ t41.1 < 1099511627776 then (spec_l10Rounds.f k ((t34_1 : List (Int × List (Int × Int × Int) × List Int)).set (x7).toNat (t41.1, t41.2.1, List.replicate (t41.1).toNat (0 : Int))) t34_2 false).bind fun (t48_1, t48_2, t48_3) => (rdl t48_2 a1).bind fun t51 => ((if (decide (t51 < 0)) = true then if (x6 ++ ([x7] : List (Int))).length < 1099511627776 then some (x6 ++ ([x7] : List (Int))) else none else some x6)).bind fun y6 => some y6 else none)).bind fun y6 => spec_LeansOn.l0 k a0_0 a0_1 a1 n y6 (w64 (x7 + 1)) else some x6)

def spec_LeansOn.f (k : Nat) (a0_0 : List (Int × List (Int × Int × Int) × List Int)) (a0_1 : List (List Int)) (a1 : Int) : Option ((List Int) × Bool) := (spec_l10World.f k a0_0 a0_1 a1).bind fun t12 => (if (!t12) = true then some (([] : List (Int)), false) else (spec_l10Rounds.f k a0_0 a0_1 false).bind fun (t16_1, t16_2, t16_3) => (rdl t16_2 a1).bind fun t19 => (if (decide (t19 < 0)) = true then some (([] : List (Int)), true) else (spec_LeansOn.l0 k a0_0 a0_1 a1 k ([] : List (Int)) 0).bind fun x6 => some (x6, true)))

theorem spec_LeansOn.ok {k : Nat}  {a0_0 : List (Int × List (Int × Int × Int) × List Int)} {a0_1 : List (List Int)} {a1 : Int} {r0 : List Int} {r1 : Bool} (h : spec_LeansOn.f k a0_0 a0_1 a1 = some (r0, r1)) (w : World) {va0_0 : Value} {va0_1 : Value} (hr_a0_0 : Rd w va0_0 a0_0) (hr_a0_1 : Rd w va0_1 a0_1) :
    Calls Try.prog 29 ([.agg ([va0_0, va0_1].toArray), .int .i64 a1] : List Value).toArray w (Post (fun u ns => ∃ (ur0 : Value) (Sr0 : Nat → Prop), u = .tuple #[ur0, .bool r1] ∧ SlLen ur0 r0.length ∧ ns = [R.sl Sr0 ur0 r0]) w) := by
  unfold spec_LeansOn.f at h
  have hl_va0_0 := hr_a0_0.len
  have hl_va0_1 := hr_a0_1.len
  refine Calls.of_tri (N := 59) Try.func29 rfl rfl rfl (Sep.nil (M := noM)) ?_
  refine Tri.seq ?_
  refine Tri.reg (l := [0, 1, 2]) rfl ?_
  refine F.m rfl rfl rfl (wanted_none rfl) (m_boxG rfl rfl) ?_
  rintro _ _ ⟨b2_1, rfl, rfl⟩
  refine F.q rfl rfl rfl (wanted_none rfl) (r_assign rfl) ?_
  refine F.q rfl rfl rfl (wanted_none rfl) (r_assign rfl) ?_
  refine F.nil ?_
  refine Nrm.seq ?_
  refine Tri.seq ?_
  refine Tri.reg (l := [0, 1]) rfl ?_
  refine F.m rfl rfl rfl (wanted_none rfl) (m_build0 (α := Int) Try.underlying38 ti3) ?_
  rintro v9_1 _ ⟨S9_1, hl_v9_1, rfl⟩
  refine F.q rfl rfl rfl (wanted_none rfl) (r_assign rfl) ?_
  refine F.nil ?_
  refine Nrm.seq ?_
  refine Tri.seq ?_
  refine Tri.seq ?_
  obtain ⟨t12, h12, h⟩ := bind_some h
  refine Tri.reg (l := [0, 1, 2, 3]) rfl ?_
  refine F.q rfl rfl rfl (wanted_none rfl) (r_loadA ta31 ti31 rfl rfl (fun w hw => (box_cells (i := 1) rfl w hw))) ?_
  refine F.q rfl rfl rfl (wanted_none rfl) (r_move rfl) ?_
  refine F.qc rfl rfl rfl (wanted_none rfl) (q_callF (xs := _) rfl ok70 rfl rfl (fun w hw => spec_l10World.ok h12 w ((fun _ hw => hr_a0_0.sep hw) w hw) ((fun _ hw => hr_a0_1.sep hw) w hw))) ?_
  refine F.q rfl rfl rfl (wanted_none rfl) (r_not rfl) ?_
  refine F.nil ?_
  refine Nrm.seq ?_
  refine Tri.cond (b := !t12) rfl (fun g_1 => ?_) (fun g_1 => ?_)
  · replace h := if_tt g_1 h
    refine Tri.seq ?_
    refine Tri.reg (l := [0, 1, 2]) rfl ?_
    refine F.q rfl rfl rfl (wanted_none rfl) (r_move rfl) ?_
    refine F.q rfl rfl rfl (wanted_none rfl) (r_assign rfl) ?_
    refine F.q rfl rfl rfl (wanted_none rfl) (r_assign rfl) ?_
    refine F.nil ?_
    refine Nrm.seq ?_
    refine Tri.ret ?_
    refine Rtn.then ?_
    cases h
    exact Rtn.body (.tmp rfl (.tmp rfl .nil)) (fun w hw => ⟨_, _, rfl, ⟨v9_1, S9_1, rfl, hl_v9_1, rfl⟩, Sep.pick (is := [0]) rfl rfl hw⟩)
  · replace h := if_ff g_1 h
    refine Tri.skip ?_
    refine Nrm.seq ?_
    refine Tri.seq ?_
    refine Tri.seq ?_
    obtain ⟨⟨t16_1, t16_2, t16_3⟩, h16, h⟩ := bind_some h
    obtain ⟨t19, h19, h⟩ := bind_some h
    refine Tri.reg (l := [0, 1, 2, 3, 4, 5, 6]) rfl ?_
    refine F.q rfl rfl rfl (wanted_none rfl) (r_loadA ta31 ti31 rfl rfl (fun w hw => (box_cells (i := 1) rfl w hw))) ?_
    refine F.m rfl rfl rfl (wanted_none rfl) (m_callF (xs := _) rfl ok62 rfl rfl (fun w hw => spec_l10Rounds.ok h16 w ((fun _ hw => hr_a0_0.sep hw) w hw) ((fun _ hw => hr_a0_1.sep hw) w hw))) ?_
    rintro _ _ ⟨_, ⟨v16_1, S16_1, v16_2, S16_2, v16_3, S16_3, rfl, hl_v16_1, hl_v16_2, hl_v16_3, rfl⟩, rfl⟩
    refine F.q rfl rfl rfl (wanted_none rfl) (r_field Try.underlying83 rfl ta38 rfl rfl) ?_
    refine F.q rfl rfl rfl (wanted_none rfl) (r_move rfl) ?_
    refine F.q rfl rfl rfl (wanted_none rfl) (r_indexAddrS Try.underlying38 ti3 rfl hl_v16_2 rfl (rdl_some h19).1 (rdl_some h19).2.1) ?_
    refine F.q rfl rfl rfl (wanted_none rfl) (r_load ta3 rfl (fun w hw => cell_0 (Rd.flat ((rd_sl (i := 1) rfl) w hw) (rdl_some h19).2.2) rfl)) ?_
    refine F.q rfl rfl rfl (wanted_none rfl) (r_lss rfl rfl) ?_
    refine F.nil ?_
    refine Nrm.seq ?_
    refine Tri.cond (b := decide (t19 < 0)) rfl (fun g_2 => ?_) (fun g_2 => ?_)
    · replace h := if_tt g_2 h
      refine Tri.seq ?_
      refine Tri.reg (l := [0, 1, 2]) rfl ?_
      refine F.q rfl rfl rfl (wanted_none rfl) (r_move rfl) ?_
      refine F.q rfl rfl rfl (wanted_none rfl) (r_assign rfl) ?_
      refine F.q rfl rfl rfl (wanted_none rfl) (r_assign rfl) ?_
      refine F.nil ?_
      refine Nrm.seq ?_
      refine Tri.ret ?_
      refine Rtn.then ?_
      cases h
      exact Rtn.body (.tmp rfl (.tmp rfl .nil)) (fun w hw => ⟨_, _, rfl, ⟨v9_1, S9_1, rfl, hl_v9_1, rfl⟩, Sep.pick (is := [3]) rfl rfl hw⟩)
    · replace h := if_ff g_2 h
      refine Tri.skip ?_
      refine Nrm.seq ?_
      refine Tri.seq ?_
      refine Tri.seq ?_
      refine Tri.reg (l := [0]) rfl ?_
      refine F.q rfl rfl rfl (wanted_none rfl) (r_assign rfl) ?_
      refine F.nil ?_
      refine Nrm.seq ?_
      obtain ⟨x6, hE_1, h⟩ := bind_some h
      refine Tri.block ?_
      refine Tri.only [1, 2, 6, 7] rfl ?_
      refine Tri.pick [4, 3] rfl rfl ?_
      refine Tri.rounds (fun n e' C' => ∃ (x6' : List (Int)) (x7' : Int) (w6 : Value) (T6 : Nat → Prop), spec_LeansOn.l0 k a0_0 a0_1 a1 n x6' x7' = some x6 ∧ SlLen w6 (x6').length ∧ e' = [(1, .int .i64 a1), (2, .pointer (some ⟨b2_1, 0, none⟩)), (6, w6), (7, .int .i64 x7')] ∧ C' = Sep w noM [R.box b2_1 31 [va0_0, va0_1], R.sl T6 w6 (x6' : List (Int))]) k ?_ ?_ ?_
      · exact ⟨([] : List (Int)), 0, v9_1, S9_1, hE_1, hl_v9_1, rfl, rfl⟩
      · rintro _ _ ⟨_, _, _, _, hE_1, _⟩
        rw [spec_LeansOn.l0.eq_1] at hE_1; cases hE_1
      · rintro n_1 _ _ ⟨x6, x7, w6, T6, hE_1, hl_w6, rfl, rfl⟩ ih_1
        rw [spec_LeansOn.l0.eq_2] at hE_1
        refine Tri.seq ?_
        refine Tri.seq ?_
        refine Tri.reg (l := [0, 1, 2, 3, 4]) rfl ?_
        refine F.q rfl rfl rfl (wanted_none rfl) (r_move rfl) ?_
        refine F.q rfl rfl rfl (wanted_none rfl) (r_fieldAddr tf31_0 rfl) ?_
        refine F.q rfl rfl rfl (wanted_none rfl) (r_load ta29 rfl (fun w hw => cell_1 (box_cells (i := 0) rfl w hw) rfl)) ?_
        refine F.q rfl rfl rfl (wanted_none rfl) (r_len Try.underlying29 rfl hl_va0_0) ?_
        refine F.q rfl rfl rfl (wanted_none rfl) (r_lss rfl rfl) ?_
        refine F.nil ?_
        refine Nrm.seq ?_
        refine Tri.cond (b := decide (x7 < (a0_0.length : Int))) rfl (fun g_3 => ?_) (fun g_3 => ?_)
        · replace hE_1 := if_tt g_3 hE_1
          refine Tri.skip ?_
          refine Nrm.seq ?_
          refine Tri.seq ?_
          obtain ⟨y6, hE_2, hE_1⟩ := bind_some hE_1
          refine Tri.cut (fun e' C' => ∃ (v6_1 : Value) (S6_1 : Nat → Prop), SlLen v6_1 (y6).length ∧ e' = [(1, .int .i64 a1), (2, .pointer (some ⟨b2_1, 0, none⟩)), (6, v6_1), (7, .int .i64 x7)] ∧ C' = Sep w noM [R.box b2_1 31 [va0_0, va0_1], R.sl S6_1 v6_1 (y6 : List (Int))]) ?_ (fun hj_1 => ?_)
          · rintro _ _ ⟨v6_1, S6_1, hl_v6_1, rfl, rfl⟩
            refine Nrm.seq ?_
            refine Tri.reg (l := [0, 1, 2]) rfl ?_
            refine F.q rfl rfl rfl (wanted_none rfl) (r_move rfl) ?_
            refine F.q rfl rfl rfl (wanted_none rfl) (r_add rfl rfl) ?_
            refine F.q rfl rfl rfl (wanted_none rfl) (r_assign rfl) ?_
            refine F.nil ?_
            refine Nrm.round ?_
            refine Rnd.only [1, 2, 6, 7] rfl ?_
            refine Rnd.pick [0, 1] rfl rfl ?_
            exact ih_1 _ _ ⟨y6, w64 (x7 + 1), v6_1, S6_1, hE_1, hl_v6_1, rfl, rfl⟩
          · refine Tri.block ?_
            refine Tri.seq ?_
            refine Tri.seq ?_
            refine Tri.reg (l := [0, 1, 2]) rfl ?_
            refine F.q rfl rfl rfl (wanted_none rfl) (r_move rfl) ?_
            refine F.q rfl rfl rfl (wanted_none rfl) (r_move rfl) ?_
            refine F.q rfl rfl rfl (wanted_none rfl) (r_eql rfl rfl) ?_
            refine F.nil ?_
            refine Nrm.seq ?_
            refine Tri.cond (b := x7 == a1) rfl (fun g_4 => ?_) (fun g_4 => ?_)
            · replace hE_2 := if_tt g_4 hE_2
              refine Tri.exit ?_
              refine Exi.then ?_
              refine Exi.same ?_
              cases hE_2
              refine Nrm.only [1, 2, 6, 7] rfl ?_
              refine Nrm.pick [0, 1] rfl rfl ?_
              exact hj_1 _ _ ⟨w6, T6, hl_w6, rfl, rfl⟩
            · replace hE_2 := if_ff g_4 hE_2
              refine Tri.skip ?_
              refine Nrm.seq ?_
              refine Tri.seq ?_
              obtain ⟨⟨t34_1, t34_2⟩, h34, hE_2⟩ := bind_some hE_2
              refine Tri.reg (l := [0, 1, 2, 3]) rfl ?_
              refine F.q rfl rfl rfl (wanted_none rfl) (r_loadA ta31 ti31 rfl rfl (fun w hw => (box_cells (i := 0) rfl w hw))) ?_
              refine F.m rfl rfl rfl (wanted_none rfl) (m_callF (xs := _) rfl ok71 rfl rfl (fun w hw => spec_l10Own.ok h34 w ((fun _ hw => hr_a0_0.sep hw) w hw) ((fun _ hw => hr_a0_1.sep hw) w hw))) ?_
              rintro _ _ ⟨_, ⟨v34_1, S34_1, v34_2, S34_2, rfl, hl_v34_1, hl_v34_2, rfl⟩, rfl⟩
              refine F.m rfl rfl rfl (wanted_none rfl) (m_alloc ti31) ?_
              rintro _ _ ⟨b8_1, rfl, rfl⟩
              refine F.ef0 rfl rfl (wanted_none rfl) (d_storeG0 (i := 0) (cs2 := [v34_1, v34_2]) ti31 rfl rfl rfl rfl rfl (Nat.le_of_ble_eq_true rfl) (lf_cons (sl_leaf hl_v34_1) (lf_cons (sl_leaf hl_v34_2) lf_nil))) ?_
              rintro _ _ ⟨rfl, rfl⟩
              refine F.nil ?_
              refine Nrm.seq ?_
              refine Tri.seq ?_
              obtain ⟨t41, h41, hE_2⟩ := bind_some hE_2
              obtain ⟨hm44, hE_2⟩ := ck hE_2
              refine Tri.ex (on55 [1] [0, 2, 3, 4] rfl rfl (rdl_some h41).2.2) ?_
              rintro _ ⟨v41_1_1, S41_1_1, v41_2_1, S41_2_1, Sr41_1, hl_v41_1_1, hl_v41_2_1, hS41_1, rfl⟩
              refine Tri.drawA mixedT Sep.up [(0, true), (1, true), (2, true), (3, true), (4, true), (5, true), (6, true), (7, true), (8, true), (9, false), (10, true), (11, true)] [12] (by kernel_rfl) ?_
              refine S.q rfl rfl rfl (wanted_none rfl) (r_fieldAddr tf31_0 rfl) ?_
              refine S.q rfl rfl rfl (wanted_none rfl) (r_load ta29 rfl (fun w hw => cell_1 (box_cells (i := 3) rfl w hw) rfl)) ?_
              refine S.q rfl rfl rfl (wanted_none rfl) (r_move rfl) ?_
              refine S.q rfl rfl rfl (wanted_none rfl) (r_fieldAddr tf31_0 rfl) ?_
              refine S.q rfl rfl rfl (wanted_none rfl) (r_load ta29 rfl (fun w hw => cell_1 (box_cells (i := 3) rfl w hw) rfl)) ?_
              refine S.q rfl rfl rfl (wanted_none rfl) (r_move rfl) ?_
              refine S.q rfl rfl rfl (wanted_none rfl) (r_indexAddrS Try.underlying29 ti55 rfl hl_v34_1 rfl (rdl_some h41).1 (rdl_some h41).2.1) ?_
              refine S.q rfl rfl rfl (wanted_none rfl) (r_fieldAddr tf55_0 rfl) ?_
              refine S.q rfl rfl rfl (wanted_none rfl) (r_load ta3 rfl (fun w hw => cell_1 (hole_cells (p := 2) rfl w hw) rfl)) ?_
              refine S.m rfl rfl rfl (wanted_none rfl) (m_make (x0 := (0 : Int)) Try.underlying38 ti3 rfl rfl rfl hm44.1 hm44.2 (by decide)) ?_
              rintro v44_2 _ ⟨S44_2, hl_v44_2, rfl⟩
              refine S.q rfl rfl rfl (wanted_none rfl) (r_indexAddrS Try.underlying29 ti55 rfl hl_v34_1 rfl (rdl_some h41).1 (rdl_some h41).2.1) ?_
              refine S.q rfl rfl rfl (wanted_none rfl) (r_fieldAddr tf55_2 rfl) ?_
              refine S.nil ?_
              refine F.ef0 rfl rfl (wanted_none rfl) (d_storeH1 (α := Int × List (Int × Int × Int) × List Int) (p := 3) (k := 2) (cs2 := [v44_2]) ti38 rfl rfl rfl (sl_cells hl_v44_2) rfl (Nat.le_of_ble_eq_true rfl) (lf_cons (sl_leaf hl_v44_2) lf_nil)) ?_
              rintro _ _ ⟨rfl, rfl⟩
              refine F.nil ?_
              refine Nrm.ex (clo (cs := [R.sl S41_1_1 v41_1_1 (t41.2.1 : List (Int × Int × Int)), R.sl S44_2 v44_2 (List.replicate (t41.1).toNat (0 : Int) : List (Int))]) (rest := [R.sl S41_2_1 v41_2_1 (t41.2.2 : List (Int)), R.box b8_1 31 [v34_1, v34_2], R.sl S34_2 v34_2 (t34_2 : List (List Int)), R.box b2_1 31 [va0_0, va0_1], R.sl T6 w6 (x6 : List (Int))]) [1, 0, 3] [2, 4, 5, 6, 7] rfl rfl (jn_pair (jn_int (n := t41.1)) (jn_pair (jn_sl (S := S41_1_1) (v := v41_1_1) (l := (t41.2.1 : List (Int × Int × Int)))) (jn_sl (S := S44_2) (v := v44_2) (l := (List.replicate (t41.1).toNat (0 : Int) : List (Int))))))) ?_
              rintro _ ⟨Sc_1, rfl⟩
              refine Nrm.seq ?_
              refine Tri.seq ?_
              obtain ⟨⟨t48_1, t48_2, t48_3⟩, h48, hE_2⟩ := bind_some hE_2
              obtain ⟨t51, h51, hE_2⟩ := bind_some hE_2
              refine Tri.reg (l := [0, 1, 2, 3, 4, 5, 6]) rfl ?_
              refine F.q rfl rfl rfl (wanted_none rfl) (r_loadA ta31 ti31 rfl rfl (fun w hw => (box_cells (i := 2) rfl w hw))) ?_
              refine F.m rfl rfl rfl (wanted_none rfl) (m_callF (xs := _) rfl ok62 rfl rfl (fun w hw => spec_l10Rounds.ok h48 w ((rd_sl (i := 0) rfl) w hw) ((rd_sl (i := 3) rfl) w hw))) ?_
              rintro _ _ ⟨_, ⟨v48_1, S48_1, v48_2, S48_2, v48_3, S48_3, rfl, hl_v48_1, hl_v48_2, hl_v48_3, rfl⟩, rfl⟩
              refine F.q rfl rfl rfl (wanted_none rfl) (r_field Try.underlying83 rfl ta38 rfl rfl) ?_
              refine F.q rfl rfl rfl (wanted_none rfl) (r_move rfl) ?_
              refine F.q rfl rfl rfl (wanted_none rfl) (r_indexAddrS Try.underlying38 ti3 rfl hl_v48_2 rfl (rdl_some h51).1 (rdl_some h51).2.1) ?_
              refine F.q rfl rfl rfl (wanted_none rfl) (r_load ta3 rfl (fun w hw => cell_0 (Rd.flat ((rd_sl (i := 1) rfl) w hw) (rdl_some h51).2.2) rfl)) ?_
              refine F.q rfl rfl rfl (wanted_none rfl) (r_lss rfl rfl) ?_
              refine F.nil ?_
              refine Nrm.seq ?_
              obtain ⟨y6, hE_3, hE_2⟩ := bind_some hE_2
              refine Tri.cut (fun e' C' => ∃ (v6_2 : Value) (S6_2 : Nat → Prop), SlLen v6_2 (y6).length ∧ e' = [(1, .int .i64 a1), (2, .pointer (some ⟨b2_1, 0, none⟩)), (6, v6_2), (7, .int .i64 x7)] ∧ C' = Sep w noM [R.box b2_1 31 [va0_0, va0_1], R.sl S6_2 v6_2 (y6 : List (Int))]) ?_ (fun hj_2 => ?_)
              · rintro _ _ ⟨v6_2, S6_2, hl_v6_2, rfl, rfl⟩
                refine Nrm.block ?_
                cases hE_2
                refine Nrm.only [1, 2, 6, 7] rfl ?_
                refine Nrm.pick [0, 1] rfl rfl ?_
                exact hj_1 _ _ ⟨v6_2, S6_2, hl_v6_2, rfl, rfl⟩
              · refine Tri.cond (b := decide (t51 < 0)) rfl (fun g_5 => ?_) (fun g_5 => ?_)
                · replace hE_3 := if_tt g_5 hE_3
                  obtain ⟨hs57, hE_3⟩ := ck hE_3
                  refine Tri.reg (l := [0, 1, 2, 3, 4]) rfl ?_
                  refine F.q rfl rfl rfl (wanted_none rfl) (r_move rfl) ?_
                  refine F.q rfl rfl rfl (wanted_none rfl) (r_move rfl) ?_
                  refine F.m rfl rfl rfl (wanted_none rfl) (m_buildF (l := ([x7] : List (Int))) Try.underlying38 ti3 rfl rfl rfl rfl rfl) ?_
                  rintro v56_1 _ ⟨S56_1, hl_v56_1, rfl⟩
                  refine F.ef rfl rfl rfl (wanted_none rfl) (d_append (i := 9) Try.underlying38 Try.underlying38 ti3 rfl (by decide) rfl rfl rfl (rd_sl (i := 0) rfl) hs57) ?_
                  rintro v57_1 _ ⟨S57_1, rfl, hl_v57_1⟩
                  refine F.q rfl rfl rfl (wanted_none rfl) (r_assign rfl) ?_
                  refine F.nil ?_
                  cases hE_3
                  refine Nrm.only [1, 2, 6, 7] rfl ?_
                  refine Nrm.pick [8, 9] rfl rfl ?_
                  exact hj_2 _ _ ⟨v57_1, S57_1, hl_v57_1, rfl, rfl⟩
                · replace hE_3 := if_ff g_5 hE_3
                  refine Tri.skip ?_
                  cases hE_3
                  refine Nrm.only [1, 2, 6, 7] rfl ?_
                  refine Nrm.pick [7, 8] rfl rfl ?_
                  exact hj_2 _ _ ⟨w6, T6, hl_w6, rfl, rfl⟩
        · replace hE_1 := if_ff g_3 hE_1
          refine Tri.exit ?_
          refine Exi.then ?_
          refine Exi.then ?_
          refine Exi.same ?_
          cases hE_1
          refine Nrm.seq ?_
          refine Tri.seq ?_
          refine Tri.reg (l := [0, 1, 2]) rfl ?_
          refine F.q rfl rfl rfl (wanted_none rfl) (r_move rfl) ?_
          refine F.q rfl rfl rfl (wanted_none rfl) (r_assign rfl) ?_
          refine F.q rfl rfl rfl (wanted_none rfl) (r_assign rfl) ?_
          refine F.nil ?_
          refine Nrm.seq ?_
          refine Tri.ret ?_
          cases h
          exact Rtn.body (.tmp rfl (.tmp rfl .nil)) (fun w hw => ⟨_, _, rfl, ⟨w6, T6, rfl, hl_w6, rfl⟩, Sep.pick (is := [1]) rfl rfl hw⟩)

end Go.Proofs

/- slices.Clone[[]int,int] -/

namespace Go.Proofs
open Go Go.Ga
set_option linter.unusedVariables false
set_option maxRecDepth 100000
set_option maxHeartbeats 4000000
def slices_Clone_int_int.f (k : Nat) (a0 : List Int) : Option ((List Int)) := if (([] : List (Int)) ++ a0).length < 1099511627776 then some (([] : List (Int)) ++ a0) else none

theorem slices_Clone_int_int.ok {k : Nat}  {a0 : List Int} {r0 : List Int} (h : slices_Clone_int_int.f k a0 = some r0) (w : World) {va0 : Value} (hr_a0 : Rd w va0 a0) :
    Calls Try.prog 89 ([va0] : List Value).toArray w (Post (fun u ns => ∃ (Sr0 : Nat → Prop), SlLen u r0.length ∧ ns = [R.sl Sr0 u r0]) w) := by
  unfold slices_Clone_int_int.f at h
  have hl_va0 := hr_a0.len
  rcases Rd.cases hr_a0 with ⟨rfl, rfl⟩ | ⟨pa0, ca0, rfl⟩
  · replace h : some [] = some r0 := by simpa using h
    refine Calls.of_tri (N := 8) Try.func89 rfl rfl rfl (Sep.nil (M := noM)) ?_
    refine Tri.seq ?_
    refine Tri.reg (l := [0]) rfl ?_
    refine F.q rfl rfl rfl (wanted_none rfl) (r_assign rfl) ?_
    refine F.nil ?_
    refine Nrm.seq ?_
    refine Tri.seq ?_
    refine Tri.seq ?_
    refine Tri.reg (l := [0, 1]) rfl ?_
    refine F.q rfl rfl rfl (wanted_none rfl) (r_move rfl) ?_
    refine F.q rfl rfl rfl (wanted_none rfl) (r_eqlNN Try.underlying38 rfl rfl) ?_
    refine F.nil ?_
    refine Nrm.seq ?_
    refine Tri.condT rfl rfl ?_
    refine Tri.seq ?_
    refine Tri.reg (l := [0]) rfl ?_
    refine F.q rfl rfl rfl (wanted_none rfl) (r_assign rfl) ?_
    refine F.nil ?_
    refine Nrm.seq ?_
    refine Tri.ret ?_
    refine Rtn.then ?_
    cases h
    exact Rtn.body (.tmp rfl .nil) (fun w hw => ⟨_, _, rfl, ⟨fun _ => False, len_nil, rfl⟩, Sep.pick (is := [0]) rfl rfl hw.pushNil⟩)
  · refine Calls.of_tri (N := 8) Try.func89 rfl rfl rfl (Sep.nil (M := noM)) ?_
    refine Tri.seq ?_
    refine Tri.reg (l := [0]) rfl ?_
    refine F.q rfl rfl rfl (wanted_none rfl) (r_assign rfl) ?_
    refine F.nil ?_
    refine Nrm.seq ?_
    refine Tri.seq ?_
    refine Tri.seq ?_
    refine Tri.reg (l := [0, 1]) rfl ?_
    refine F.q rfl rfl rfl (wanted_none rfl) (r_move rfl) ?_
    refine F.q rfl rfl rfl (wanted_none rfl) (r_eqlN Try.underlying38 rfl rfl ⟨_, _, rfl⟩) ?_
    refine F.nil ?_
    refine Nrm.seq ?_
    refine Tri.condF rfl rfl ?_
    refine Tri.skip ?_
    refine Nrm.seq ?_
    refine Tri.seq ?_
    obtain ⟨hs7, h⟩ := ck h
    refine Tri.reg (l := [0, 1, 2, 3]) rfl ?_
    refine F.m rfl rfl rfl (wanted_none rfl) (m_build0 (α := Int) Try.underlying38 ti3) ?_
    rintro v5_1 _ ⟨S5_1, hl_v5_1, rfl⟩
    refine F.q rfl rfl rfl (wanted_none rfl) (r_move rfl) ?_
    refine F.ef rfl rfl rfl (wanted_none rfl) (d_append (i := 0) Try.underlying38 Try.underlying38 ti3 rfl (by decide) rfl rfl rfl (fun _ hw => hr_a0.sep hw) hs7) ?_
    rintro v7_1 _ ⟨S7_1, rfl, hl_v7_1⟩
    refine F.q rfl rfl rfl (wanted_none rfl) (r_assign rfl) ?_
    refine F.nil ?_
    refine Nrm.seq ?_
    refine Tri.ret ?_
    cases h
    exact Rtn.body (.tmp rfl .nil) (fun w hw => ⟨_, _, rfl, ⟨S7_1, hl_v7_1, rfl⟩, Sep.pick (is := [0]) rfl rfl hw⟩)

end Go.Proofs

/- loop.example/g01158/impl.members -/

namespace Go.Proofs
open Go Go.Ga
set_option linter.unusedVariables false
set_option maxRecDepth 100000
set_option maxHeartbeats 4000000
def impl_members.l0 (k : Nat) (a0 : Int) : Nat → (List (Int)) → Int → Option ((List (Int)))
  | 0, _, _ => none
  | n + 1, x3, x4 => if ¬ x4 < 0 then (if (decide ((shr a0 x4) > 0)) = true then if ¬ x4 < 0 then ((if ((band (shr a0 x4) 1) == 1) = true then if (x3 ++ ([x4] : List (Int))).length < 1099511627776 then some (x3 ++ ([x4] : List (Int))) else none else some x3)).bind fun y3 => impl_members.l0 k a0 n y3 (w64 (x4 + 1)) else none else some x3) else none

def impl_members.f (k : Nat) (a0 : Int) : Option ((List Int)) := (impl_members.l0 k a0 k ([] : List (Int)) 0).bind fun x3 => some x3

theorem impl_members.ok {k : Nat}  {a0 : Int} {r0 : List Int} (h : impl_members.f k a0 = some r0) (w : World) :
    Calls Try.prog 112 ([.int .i64 a0] : List Value).toArray w (Post (fun u ns => ∃ (Sr0 : Nat → Prop), SlLen u r0.length ∧ ns = [R.sl Sr0 u r0]) w) := by
  unfold impl_members.f at h
  refine Calls.of_tri (N := 22) Try.func112 rfl rfl rfl (Sep.nil (M := noM)) ?_
  refine Tri.seq ?_
  refine Tri.reg (l := [0]) rfl ?_
  refine F.q rfl rfl rfl (wanted_none rfl) (r_assign rfl) ?_
  refine F.nil ?_
  refine Nrm.seq ?_
  refine Tri.seq ?_
  refine Tri.reg (l := [0, 1]) rfl ?_
  refine F.m rfl rfl rfl (wanted_none rfl) (m_build0 (α := Int) Try.underlying38 ti3) ?_
  rintro v5_1 _ ⟨S5_1, hl_v5_1, rfl⟩
  refine F.q rfl rfl rfl (wanted_none rfl) (r_assign rfl) ?_
  refine F.nil ?_
  refine Nrm.seq ?_
  refine Tri.seq ?_
  refine Tri.seq ?_
  refine Tri.reg (l := [0]) rfl ?_
  refine F.q rfl rfl rfl (wanted_none rfl) (r_assign rfl) ?_
  refine F.nil ?_
  refine Nrm.seq ?_
  obtain ⟨x3, hE_1, h⟩ := bind_some h
  refine Tri.block ?_
  refine Tri.only [0, 3, 4] rfl ?_
  refine Tri.pick [0] rfl rfl ?_
  refine Tri.rounds (fun n e' C' => ∃ (x3' : List (Int)) (x4' : Int) (w3 : Value) (T3 : Nat → Prop), impl_members.l0 k a0 n x3' x4' = some x3 ∧ SlLen w3 (x3').length ∧ e' = [(0, .int .i64 a0), (3, w3), (4, .int .i64 x4')] ∧ C' = Sep w noM [R.sl T3 w3 (x3' : List (Int))]) k ?_ ?_ ?_
  · exact ⟨([] : List (Int)), 0, v5_1, S5_1, hE_1, hl_v5_1, rfl, rfl⟩
  · rintro _ _ ⟨_, _, _, _, hE_1, _⟩
    rw [impl_members.l0.eq_1] at hE_1; cases hE_1
  · rintro n_1 _ _ ⟨x3, x4, w3, T3, hE_1, hl_w3, rfl, rfl⟩ ih_1
    rw [impl_members.l0.eq_2] at hE_1
    refine Tri.seq ?_
    refine Tri.seq ?_
    obtain ⟨hs8, hE_1⟩ := ck hE_1
    refine Tri.reg (l := [0, 1, 2, 3]) rfl ?_
    refine F.q rfl rfl rfl (wanted_none rfl) (r_move rfl) ?_
    refine F.q rfl rfl rfl (wanted_none rfl) (r_move rfl) ?_
    refine F.q rfl rfl rfl (wanted_none rfl) (r_shr rfl rfl hs8) ?_
    refine F.q rfl rfl rfl (wanted_none rfl) (r_gtr rfl rfl) ?_
    refine F.nil ?_
    refine Nrm.seq ?_
    refine Tri.cond (b := decide ((shr a0 x4) > 0)) rfl (fun g_1 => ?_) (fun g_1 => ?_)
    · replace hE_1 := if_tt g_1 hE_1
      refine Tri.skip ?_
      refine Nrm.seq ?_
      refine Tri.seq ?_
      refine Tri.block ?_
      refine Tri.seq ?_
      obtain ⟨hs14, hE_1⟩ := ck hE_1
      refine Tri.reg (l := [0, 1, 2, 3, 4]) rfl ?_
      refine F.q rfl rfl rfl (wanted_none rfl) (r_move rfl) ?_
      refine F.q rfl rfl rfl (wanted_none rfl) (r_move rfl) ?_
      refine F.q rfl rfl rfl (wanted_none rfl) (r_shr rfl rfl hs14) ?_
      refine F.q rfl rfl rfl (wanted_none rfl) (r_and rfl rfl) ?_
      refine F.q rfl rfl rfl (wanted_none rfl) (r_eql rfl rfl) ?_
      refine F.nil ?_
      refine Nrm.seq ?_
      obtain ⟨y3, hE_2, hE_1⟩ := bind_some hE_1
      refine Tri.cut (fun e' C' => ∃ (v3_1 : Value) (S3_1 : Nat → Prop), SlLen v3_1 (y3).length ∧ e' = [(0, .int .i64 a0), (3, v3_1), (4, .int .i64 x4)] ∧ C' = Sep w noM [R.sl S3_1 v3_1 (y3 : List (Int))]) ?_ (fun hj_1 => ?_)
      · rintro _ _ ⟨v3_1, S3_1, hl_v3_1, rfl, rfl⟩
        refine Nrm.block ?_
        refine Nrm.seq ?_
        refine Tri.reg (l := [0, 1, 2]) rfl ?_
        refine F.q rfl rfl rfl (wanted_none rfl) (r_move rfl) ?_
        refine F.q rfl rfl rfl (wanted_none rfl) (r_add rfl rfl) ?_
        refine F.q rfl rfl rfl (wanted_none rfl) (r_assign rfl) ?_
        refine F.nil ?_
        refine Nrm.round ?_
        refine Rnd.only [0, 3, 4] rfl ?_
        refine Rnd.pick [0] rfl rfl ?_
        exact ih_1 _ _ ⟨y3, w64 (x4 + 1), v3_1, S3_1, hE_1, hl_v3_1, rfl, rfl⟩
      · refine Tri.cond (b := (band (shr a0 x4) 1) == 1) rfl (fun g_2 => ?_) (fun g_2 => ?_)
        · replace hE_2 := if_tt g_2 hE_2
          obtain ⟨hs20, hE_2⟩ := ck hE_2
          refine Tri.reg (l := [0, 1, 2, 3, 4]) rfl ?_
          refine F.q rfl rfl rfl (wanted_none rfl) (r_move rfl) ?_
          refine F.q rfl rfl rfl (wanted_none rfl) (r_move rfl) ?_
          refine F.m rfl rfl rfl (wanted_none rfl) (m_buildF (l := ([x4] : List (Int))) Try.underlying38 ti3 rfl rfl rfl rfl rfl) ?_
          rintro v19_1 _ ⟨S19_1, hl_v19_1, rfl⟩
          refine F.ef rfl rfl rfl (wanted_none rfl) (d_append (i := 1) Try.underlying38 Try.underlying38 ti3 rfl (by decide) rfl rfl rfl (rd_sl (i := 0) rfl) hs20) ?_
          rintro v20_1 _ ⟨S20_1, rfl, hl_v20_1⟩
          refine F.q rfl rfl rfl (wanted_none rfl) (r_assign rfl) ?_
          refine F.nil ?_
          cases hE_2
          refine Nrm.only [0, 3, 4] rfl ?_
          refine Nrm.pick [1] rfl rfl ?_
          exact hj_1 _ _ ⟨v20_1, S20_1, hl_v20_1, rfl, rfl⟩
        · replace hE_2 := if_ff g_2 hE_2
          refine Tri.skip ?_
          cases hE_2
          refine Nrm.only [0, 3, 4] rfl ?_
          refine Nrm.pick [0] rfl rfl ?_
          exact hj_1 _ _ ⟨w3, T3, hl_w3, rfl, rfl⟩
    · replace hE_1 := if_ff g_1 hE_1
      refine Tri.exit ?_
      refine Exi.then ?_
      refine Exi.then ?_
      refine Exi.same ?_
      cases hE_1
      refine Nrm.seq ?_
      refine Tri.seq ?_
      refine Tri.reg (l := [0, 1]) rfl ?_
      refine F.q rfl rfl rfl (wanted_none rfl) (r_move rfl) ?_
      refine F.q rfl rfl rfl (wanted_none rfl) (r_assign rfl) ?_
      refine F.nil ?_
      refine Nrm.seq ?_
      refine Tri.ret ?_
      cases h
      exact Rtn.body (.tmp rfl .nil) (fun w hw => ⟨_, _, rfl, ⟨T3, hl_w3, rfl⟩, Sep.pick (is := [0]) rfl rfl hw⟩)

end Go.Proofs

/- math/bits.Mul64 -/

namespace Go.Proofs
open Go Go.Ga
set_option linter.unusedVariables false
set_option maxRecDepth 100000
set_option maxHeartbeats 4000000
def bits_Mul64.f (k : Nat) (a0 : Int) (a1 : Int) : Option (Int × Int) := some (wU ((wU ((wU ((shr a0 32) * (shr a1 32))) + (shr (wU ((wU ((shr a0 32) * (uand a1 4294967295))) + (shr (wU ((uand a0 4294967295) * (uand a1 4294967295))) 32))) 32))) + (shr (wU ((uand (wU ((wU ((shr a0 32) * (uand a1 4294967295))) + (shr (wU ((uand a0 4294967295) * (uand a1 4294967295))) 32))) 4294967295) + (wU ((uand a0 4294967295) * (shr a1 32))))) 32)), wU (a0 * a1))

theorem bits_Mul64.ok {k : Nat}  {a0 : Int} {a1 : Int} {r0 : Int} {r1 : Int} (h : bits_Mul64.f k a0 a1 = some (r0, r1)) (w : World) :
    Calls Try.prog 174 ([.int .u64 a0, .int .u64 a1] : List Value).toArray w (fun e w' => e = .returned (.tuple #[.int .u64 r0, .int .u64 r1]) ∧ Ext w w') := by
  unfold bits_Mul64.f at h
  refine Calls.of_tri (N := 51) Try.func174 rfl rfl rfl (Sep.nil (M := noM)) ?_
  refine Tri.seq ?_
  refine Tri.reg (l := [0, 1]) rfl ?_
  refine F.q rfl rfl rfl (wanted_none rfl) (r_assign rfl) ?_
  refine F.q rfl rfl rfl (wanted_none rfl) (r_assign rfl) ?_
  refine F.nil ?_
  refine Nrm.seq ?_
  refine Tri.seq ?_
  refine Tri.reg (l := [0, 1, 2]) rfl ?_
  refine F.q rfl rfl rfl (wanted_none rfl) (r_move rfl) ?_
  refine F.q rfl rfl rfl (wanted_none rfl) (r_andU rfl rfl) ?_
  refine F.q rfl rfl rfl (wanted_none rfl) (r_assign rfl) ?_
  refine F.nil ?_
  refine Nrm.seq ?_
  refine Tri.seq ?_
  refine Tri.reg (l := [0, 1, 2]) rfl ?_
  refine F.q rfl rfl rfl (wanted_none rfl) (r_move rfl) ?_
  refine F.q rfl rfl rfl (wanted_none rfl) (r_shrU rfl rfl (by decide)) ?_
  refine F.q rfl rfl rfl (wanted_none rfl) (r_assign rfl) ?_
  refine F.nil ?_
  refine Nrm.seq ?_
  refine Tri.seq ?_
  refine Tri.reg (l := [0, 1, 2]) rfl ?_
  refine F.q rfl rfl rfl (wanted_none rfl) (r_move rfl) ?_
  refine F.q rfl rfl rfl (wanted_none rfl) (r_andU rfl rfl) ?_
  refine F.q rfl rfl rfl (wanted_none rfl) (r_assign rfl) ?_
  refine F.nil ?_
  refine Nrm.seq ?_
  refine Tri.seq ?_
  refine Tri.reg (l := [0, 1, 2]) rfl ?_
  refine F.q rfl rfl rfl (wanted_none rfl) (r_move rfl) ?_
  refine F.q rfl rfl rfl (wanted_none rfl) (r_shrU rfl rfl (by decide)) ?_
  refine F.q rfl rfl rfl (wanted_none rfl) (r_assign rfl) ?_
  refine F.nil ?_
  refine Nrm.seq ?_
  refine Tri.seq ?_
  refine Tri.reg (l := [0, 1, 2, 3]) rfl ?_
  refine F.q rfl rfl rfl (wanted_none rfl) (r_move rfl) ?_
  refine F.q rfl rfl rfl (wanted_none rfl) (r_move rfl) ?_
  refine F.q rfl rfl rfl (wanted_none rfl) (r_mulU rfl rfl) ?_
  refine F.q rfl rfl rfl (wanted_none rfl) (r_assign rfl) ?_
  refine F.nil ?_
  refine Nrm.seq ?_
  refine Tri.seq ?_
  refine Tri.reg (l := [0, 1, 2, 3, 4, 5, 6]) rfl ?_
  refine F.q rfl rfl rfl (wanted_none rfl) (r_move rfl) ?_
  refine F.q rfl rfl rfl (wanted_none rfl) (r_move rfl) ?_
  refine F.q rfl rfl rfl (wanted_none rfl) (r_mulU rfl rfl) ?_
  refine F.q rfl rfl rfl (wanted_none rfl) (r_move rfl) ?_
  refine F.q rfl rfl rfl (wanted_none rfl) (r_shrU rfl rfl (by decide)) ?_
  refine F.q rfl rfl rfl (wanted_none rfl) (r_addU rfl rfl) ?_
  refine F.q rfl rfl rfl (wanted_none rfl) (r_assign rfl) ?_
  refine F.nil ?_
  refine Nrm.seq ?_
  refine Tri.seq ?_
  refine Tri.reg (l := [0, 1, 2]) rfl ?_
  refine F.q rfl rfl rfl (wanted_none rfl) (r_move rfl) ?_
  refine F.q rfl rfl rfl (wanted_none rfl) (r_andU rfl rfl) ?_
  refine F.q rfl rfl rfl (wanted_none rfl) (r_assign rfl) ?_
  refine F.nil ?_
  refine Nrm.seq ?_
  refine Tri.seq ?_
  refine Tri.reg (l := [0, 1, 2]) rfl ?_
  refine F.q rfl rfl rfl (wanted_none rfl) (r_move rfl) ?_
  refine F.q rfl rfl rfl (wanted_none rfl) (r_shrU rfl rfl (by decide)) ?_
  refine F.q rfl rfl rfl (wanted_none rfl) (r_assign rfl) ?_
  refine F.nil ?_
  refine Nrm.seq ?_
  refine Tri.seq ?_
  refine Tri.reg (l := [0, 1, 2, 3, 4, 5]) rfl ?_
  refine F.q rfl rfl rfl (wanted_none rfl) (r_move rfl) ?_
  refine F.q rfl rfl rfl (wanted_none rfl) (r_move rfl) ?_
  refine F.q rfl rfl rfl (wanted_none rfl) (r_move rfl) ?_
  refine F.q rfl rfl rfl (wanted_none rfl) (r_mulU rfl rfl) ?_
  refine F.q rfl rfl rfl (wanted_none rfl) (r_addU rfl rfl) ?_
  refine F.q rfl rfl rfl (wanted_none rfl) (r_assign rfl) ?_
  refine F.nil ?_
  refine Nrm.seq ?_
  refine Tri.seq ?_
  refine Tri.reg (l := [0, 1, 2, 3, 4, 5, 6, 7, 8]) rfl ?_
  refine F.q rfl rfl rfl (wanted_none rfl) (r_move rfl) ?_
  refine F.q rfl rfl rfl (wanted_none rfl) (r_move rfl) ?_
  refine F.q rfl rfl rfl (wanted_none rfl) (r_mulU rfl rfl) ?_
  refine F.q rfl rfl rfl (wanted_none rfl) (r_move rfl) ?_
  refine F.q rfl rfl rfl (wanted_none rfl) (r_addU rfl rfl) ?_
  refine F.q rfl rfl rfl (wanted_none rfl) (r_move rfl) ?_
  refine F.q rfl rfl rfl (wanted_none rfl) (r_shrU rfl rfl (by decide)) ?_
  refine F.q rfl rfl rfl (wanted_none rfl) (r_addU rfl rfl) ?_
  refine F.q rfl rfl rfl (wanted_none rfl) (r_assign rfl) ?_
  refine F.nil ?_
  refine Nrm.seq ?_
  refine Tri.seq ?_
  refine Tri.reg (l := [0, 1, 2, 3]) rfl ?_
  refine F.q rfl rfl rfl (wanted_none rfl) (r_move rfl) ?_
  refine F.q rfl rfl rfl (wanted_none rfl) (r_move rfl) ?_
  refine F.q rfl rfl rfl (wanted_none rfl) (r_mulU rfl rfl) ?_
  refine F.q rfl rfl rfl (wanted_none rfl) (r_assign rfl) ?_
  refine F.nil ?_
  refine Nrm.seq ?_
  refine Tri.ret ?_
  cases h
  exact Rtn.body (.tmp rfl (.tmp rfl .nil)) (fun w hw => ⟨rfl, hw.ext⟩)

end Go.Proofs

/- math/bits.Mul -/
namespace Go.Proofs
open Go Go.Ga
set_option linter.unusedVariables false
set_option maxRecDepth 100000
set_option maxHeartbeats 4000000
def bits_Mul.f (k : Nat) (a0 : Int) (a1 : Int) : Option (Int × Int) := (bits_Mul64.f k a0 a1).bind fun (t25_1, t25_2) => some (t25_1, t25_2)

theorem bits_Mul.ok {k : Nat}  {a0 : Int} {a1 : Int} {r0 : Int} {r1 : Int} (h : bits_Mul.f k a0 a1 = some (r0, r1)) (w : World) :
    Calls Try.prog 161 ([.int .u64 a0, .int .u64 a1] : List Value).toArray w (fun e w' => e = .returned (.tuple #[.int .u64 r0, .int .u64 r1]) ∧ Ext w w') := by
  unfold bits_Mul.f at h
  refine Calls.of_tri (N := 30) Try.func161 rfl rfl rfl (Sep.nil (M := noM)) ?_
  refine Tri.seq ?_
  refine Tri.reg (l := [0, 1]) rfl ?_
  refine F.q rfl rfl rfl (wanted_none rfl) (r_assign rfl) ?_
  refine F.q rfl rfl rfl (wanted_none rfl) (r_assign rfl) ?_
  refine F.nil ?_
  refine Nrm.seq ?_
  refine Tri.seq ?_
  refine Tri.condF rfl rfl ?_
  refine Tri.skip ?_
  refine Nrm.seq ?_
  refine Tri.seq ?_
  obtain ⟨⟨t25_1, t25_2⟩, h25, h⟩ := bind_some h
  refine Tri.reg (l := [0, 1, 2, 3, 4, 5, 6, 7]) rfl ?_
  refine F.q rfl rfl rfl (wanted_none rfl) (r_move rfl) ?_
  refine F.q rfl rfl rfl (wanted_none rfl) (r_move rfl) ?_
  refine F.qc rfl rfl rfl (wanted_none rfl) (q_callF (xs := _) rfl ok174 rfl rfl (fun w hw => bits_Mul64.ok h25 w )) ?_
  refine F.q rfl rfl rfl (wanted_none rfl) (r_move rfl) ?_
  refine F.q rfl rfl rfl (wanted_none rfl) (r_extract rfl rfl) ?_
  refine F.q rfl rfl rfl (wanted_none rfl) (r_extract rfl rfl) ?_
  refine F.q rfl rfl rfl (wanted_none rfl) (r_assign rfl) ?_
  refine F.q rfl rfl rfl (wanted_none rfl) (r_assign rfl) ?_
  refine F.nil ?_
  refine Nrm.seq ?_
  refine Tri.seq ?_
  refine Tri.reg (l := [0, 1, 2, 3]) rfl ?_
  refine F.q rfl rfl rfl (wanted_none rfl) (r_move rfl) ?_
  refine F.q rfl rfl rfl (wanted_none rfl) (r_move rfl) ?_
  refine F.q rfl rfl rfl (wanted_none rfl) (r_assign rfl) ?_
  refine F.q rfl rfl rfl (wanted_none rfl) (r_assign rfl) ?_
  refine F.nil ?_
  refine Nrm.seq ?_
  refine Tri.ret ?_
  cases h
  exact Rtn.body (.tmp rfl (.tmp rfl .nil)) (fun w hw => ⟨rfl, hw.ext⟩)

end Go.Proofs

/- slices.Repeat[[]int,int] -/
namespace Go.Proofs
open Go Go.Ga
set_option linter.unusedVariables false
set_option maxRecDepth 100000
set_option maxHeartbeats 4000000
def slices_Repeat_int_int.l0 (k : Nat) : Nat → (List (Int)) → Int → Option ((List (Int)))
  | 0, _, _ => none
  | n + 1, x7, x8 => (if (decide (x8 < (x7.length : Int))) = true then (slc x7 x8 (x7.length : Int)).bind fun t41 => (slc x7 0 x8).bind fun t44 => slices_Repeat_int_int.l0 k n (cpl x7 t44 (x8 : Int).toNat ((x7.length : Int) : Int).toNat) (w64 (x8 + ((min t44.length (((x7.length : Int) : Int).toNat - (x8 : Int).toNat) : Nat) : Int))) else some x7)

def slices_Repeat_int_int.f (k : Nat) (a0 : List Int) (a1 : Int) : Option ((List Int)) := (if (decide (a1 < 0)) = true then none else (bits_Mul.f k (IntKind.u64.wrap (a0.length : Int)) (IntKind.u64.wrap a1)).bind fun (t18_1, t18_2) => ((if (decide (t18_1 > 0)) = true then some true else some (decide (t18_2 > 9223372036854775807)))).bind fun y26 => (if y26 = true then none else if 0 ≤ IntKind.i64.wrap t18_2 ∧ IntKind.i64.wrap t18_2 < 1099511627776 then (slices_Repeat_int_int.l0 k k (cpl (List.replicate (IntKind.i64.wrap t18_2).toNat (0 : Int)) a0 0 (List.replicate (IntKind.i64.wrap t18_2).toNat (0 : Int)).length) ((min a0.length ((List.replicate (IntKind.i64.wrap t18_2).toNat (0 : Int)).length - 0) : Nat) : Int)).bind fun x7 => some x7 else none))

theorem slices_Repeat_int_int.ok {k : Nat}  {a0 : List Int} {a1 : Int} {r0 : List Int} (h : slices_Repeat_int_int.f k a0 a1 = some r0) (w : World) {va0 : Value} (hr_a0 : Rd w va0 a0) :
    Calls Try.prog 124 ([va0, .int .i64 a1] : List Value).toArray w (Post (fun u ns => ∃ (Sr0 : Nat → Prop), SlLen u r0.length ∧ ns = [R.sl Sr0 u r0]) w) := by
  unfold slices_Repeat_int_int.f at h
  have hl_va0 := hr_a0.len
  refine Calls.of_tri (N := 48) Try.func124 rfl rfl rfl (Sep.nil (M := noM)) ?_
  refine Tri.seq ?_
  refine Tri.reg (l := [0]) rfl ?_
  refine F.q rfl rfl rfl (wanted_none rfl) (r_assign rfl) ?_
  refine F.nil ?_
  refine Nrm.seq ?_
  refine Tri.seq ?_
  refine Tri.seq ?_
  refine Tri.reg (l := [0, 1]) rfl ?_
  refine F.q rfl rfl rfl (wanted_none rfl) (r_move rfl) ?_
  refine F.q rfl rfl rfl (wanted_none rfl) (r_lss rfl rfl) ?_
  refine F.nil ?_
  refine Nrm.seq ?_
  refine Tri.cond (b := decide (a1 < 0)) rfl (fun g_1 => ?_) (fun g_1 => ?_)
  · replace h := if_tt g_1 h
    cases h
  · replace h := if_ff g_1 h
    refine Tri.skip ?_
    refine Nrm.seq ?_
    refine Tri.seq ?_
    obtain ⟨⟨t18_1, t18_2⟩, h18, h⟩ := bind_some h
    refine Tri.reg (l := [0, 1, 2, 3, 4, 5, 6, 7, 8, 9, 10]) rfl ?_
    refine F.q rfl rfl rfl (wanted_none rfl) (r_move rfl) ?_
    refine F.q rfl rfl rfl (wanted_none rfl) (r_len Try.underlying38 rfl hl_va0) ?_
    refine F.q rfl rfl rfl (wanted_none rfl) (r_conv Try.underlying3 Try.underlying142 rfl) ?_
    refine F.q rfl rfl rfl (wanted_none rfl) (r_move rfl) ?_
    refine F.q rfl rfl rfl (wanted_none rfl) (r_conv Try.underlying3 Try.underlying142 rfl) ?_
    refine F.qc rfl rfl rfl (wanted_none rfl) (q_callF (xs := _) rfl ok161 rfl rfl (fun w hw => bits_Mul.ok h18 w )) ?_
    refine F.q rfl rfl rfl (wanted_none rfl) (r_move rfl) ?_
    refine F.q rfl rfl rfl (wanted_none rfl) (r_extract rfl rfl) ?_
    refine F.q rfl rfl rfl (wanted_none rfl) (r_extract rfl rfl) ?_
    refine F.q rfl rfl rfl (wanted_none rfl) (r_assign rfl) ?_
    refine F.q rfl rfl rfl (wanted_none rfl) (r_assign rfl) ?_
    refine F.nil ?_
    refine Nrm.seq ?_
    refine Tri.seq ?_
    refine Tri.seq ?_
    obtain ⟨y26, hE_1, h⟩ := bind_some h
    refine Tri.cut (fun e' C' => e' = [(0, va0), (6, .int .u64 t18_2), (26, .bool y26)] ∧ C' = Sep w noM []) ?_ (fun hj_1 => ?_)
    · rintro _ _ ⟨rfl, rfl⟩
      refine Nrm.seq ?_
      refine Tri.cond (b := y26) rfl (fun g_2 => ?_) (fun g_2 => ?_)
      · replace h := if_tt g_2 h
        cases h
      · replace h := if_ff g_2 h
        refine Tri.skip ?_
        refine Nrm.seq ?_
        refine Tri.seq ?_
        obtain ⟨hm30, h⟩ := ck h
        refine Tri.reg (l := [0, 1, 2, 3]) rfl ?_
        refine F.q rfl rfl rfl (wanted_none rfl) (r_move rfl) ?_
        refine F.q rfl rfl rfl (wanted_none rfl) (r_conv Try.underlying142 Try.underlying3 rfl) ?_
        refine F.m rfl rfl rfl (wanted_none rfl) (m_make (x0 := (0 : Int)) Try.underlying38 ti3 rfl rfl rfl hm30.1 hm30.2 (by decide)) ?_
        rintro v30_1 _ ⟨S30_1, hl_v30_1, rfl⟩
        refine F.q rfl rfl rfl (wanted_none rfl) (r_assign rfl) ?_
        refine F.nil ?_
        refine Nrm.seq ?_
        refine Tri.seq ?_
        refine Tri.reg (l := [0, 1, 2, 3]) rfl ?_
        refine F.q rfl rfl rfl (wanted_none rfl) (r_move rfl) ?_
        refine F.q rfl rfl rfl (wanted_none rfl) (r_move rfl) ?_
        refine F.ef rfl rfl rfl (wanted_none rfl) (d_copy0 (i := 0) (m := a0) Try.underlying38 ti3 rfl rfl rfl (fun _ hw => hr_a0.sep hw)) ?_
        rintro _ _ ⟨rfl, rfl⟩
        refine F.q rfl rfl rfl (wanted_none rfl) (r_assign rfl) ?_
        refine F.nil ?_
        refine Nrm.seq ?_
        refine Tri.seq ?_
        obtain ⟨x7, hE_2, h⟩ := bind_some h
        refine Tri.block ?_
        refine Tri.only [7, 8] rfl ?_
        refine Tri.pick [0] rfl rfl ?_
        refine Tri.rounds (fun n e' C' => ∃ (x7' : List (Int)) (x8' : Int), slices_Repeat_int_int.l0 k n x7' x8' = some x7 ∧ SlLen v30_1 (x7').length ∧ e' = [(7, v30_1), (8, .int .i64 x8')] ∧ C' = Sep w noM [R.sl S30_1 v30_1 (x7' : List (Int))]) k ?_ ?_ ?_
        · exact ⟨cpl (List.replicate (IntKind.i64.wrap t18_2).toNat (0 : Int)) a0 0 (List.replicate (IntKind.i64.wrap t18_2).toNat (0 : Int)).length, ((min a0.length ((List.replicate (IntKind.i64.wrap t18_2).toNat (0 : Int)).length - 0) : Nat) : Int), hE_2, (cpl_len hl_v30_1 (Nat.zero_le _) (Nat.le_refl _)), rfl, rfl⟩
        · rintro _ _ ⟨_, _, hE_2, _⟩
          rw [slices_Repeat_int_int.l0.eq_1] at hE_2; cases hE_2
        · rintro n_1 _ _ ⟨x7, x8, hE_2, hl_x7, rfl, rfl⟩ ih_1
          rw [slices_Repeat_int_int.l0.eq_2] at hE_2
          refine Tri.seq ?_
          refine Tri.seq ?_
          refine Tri.reg (l := [0, 1, 2, 3]) rfl ?_
          refine F.q rfl rfl rfl (wanted_none rfl) (r_move rfl) ?_
          refine F.q rfl rfl rfl (wanted_none rfl) (r_move rfl) ?_
          refine F.q rfl rfl rfl (wanted_none rfl) (r_len Try.underlying38 rfl hl_x7) ?_
          refine F.q rfl rfl rfl (wanted_none rfl) (r_lss rfl rfl) ?_
          refine F.nil ?_
          refine Nrm.seq ?_
          refine Tri.cond (b := decide (x8 < (x7.length : Int))) rfl (fun g_3 => ?_) (fun g_3 => ?_)
          · replace hE_2 := if_tt g_3 hE_2
            refine Tri.skip ?_
            refine Nrm.seq ?_
            refine Tri.block ?_
            obtain ⟨t41, h41, hE_2⟩ := bind_some hE_2
            obtain ⟨t44, h44, hE_2⟩ := bind_some hE_2
            refine Tri.fact (fun w hw => Rd.shape ((rd_sl (i := 0) rfl) w hw)) (fun hz41_L => ?_)
            refine Tri.drawZ mixedT Sep.up [(0, true), (1, true), (2, true), (3, true), (4, true), (5, true), (6, true), (7, false)] [8, 9] (by kernel_rfl) ?_
            refine Z.q rfl rfl rfl (wanted_none rfl) (r_move rfl) ?_
            refine Z.q rfl rfl rfl (wanted_none rfl) (r_move rfl) ?_
            refine Z.q rfl rfl rfl (wanted_none rfl) (r_move rfl) ?_
            refine Z.q rfl rfl rfl (wanted_none rfl) (r_sliceLZ Try.underlying38 ti3 rfl hz41_L rfl h41) ?_
            refine Z.q rfl rfl rfl (wanted_none rfl) (r_move rfl) ?_
            refine Z.q rfl rfl rfl (wanted_none rfl) (r_move rfl) ?_
            refine Z.q rfl rfl rfl (wanted_none rfl) (r_sliceHZ Try.underlying38 ti3 rfl hz41_L rfl h44) ?_
            refine Z.ef rfl rfl rfl (wanted_none rfl) (d_copy (i := 0) (m := t44) Try.underlying38 ti3 rfl rfl rfl h41 (fun w hw => rd_slc ((rd_sl (i := 0) rfl) w hw) h44)) (by rintro _ _ ⟨rfl, rfl⟩; exact Sep.up) ?_
            rintro _ _ ⟨rfl, rfl⟩
            refine Z.nil ?_
            refine F.q rfl rfl rfl (wanted_none rfl) (r_add rfl rfl) ?_
            refine F.q rfl rfl rfl (wanted_none rfl) (r_assign rfl) ?_
            refine F.nil ?_
            refine Nrm.block ?_
            refine Nrm.round ?_
            refine Rnd.only [7, 8] rfl ?_
            refine Rnd.pick [0] rfl rfl ?_
            exact ih_1 _ _ ⟨cpl x7 t44 (x8 : Int).toNat ((x7.length : Int) : Int).toNat, w64 (x8 + ((min t44.length (((x7.length : Int) : Int).toNat - (x8 : Int).toNat) : Nat) : Int)), hE_2, (cpl_len hl_x7 (slc_b h41).1 (slc_b h41).2), rfl, rfl⟩
          · replace hE_2 := if_ff g_3 hE_2
            refine Tri.exit ?_
            refine Exi.then ?_
            refine Exi.then ?_
            refine Exi.same ?_
            cases hE_2
            refine Nrm.seq ?_
            refine Tri.seq ?_
            refine Tri.reg (l := [0, 1]) rfl ?_
            refine F.q rfl rfl rfl (wanted_none rfl) (r_move rfl) ?_
            refine F.q rfl rfl rfl (wanted_none rfl) (r_assign rfl) ?_
            refine F.nil ?_
            refine Nrm.seq ?_
            refine Tri.ret ?_
            cases h
            exact Rtn.body (.tmp rfl .nil) (fun w hw => ⟨_, _, rfl, ⟨S30_1, hl_x7, rfl⟩, Sep.pick (is := [0]) rfl rfl hw⟩)
    · rcases Bool.eq_false_or_eq_true (decide (t18_1 > 0)) with g23 | g23
      · replace hE_1 := if_tt g23 hE_1
        refine Tri.reg (l := [0, 1, 2, 3, 4, 5]) rfl ?_
        refine F.q rfl rfl rfl (wanted_none rfl) (r_move rfl) ?_
        refine F.q rfl rfl rfl (wanted_none rfl) (r_gtr rfl rfl) ?_
        refine F.q rfl rfl rfl (wanted_none rfl) (r_move rfl) ?_
        refine F.sk rfl rfl rfl (wf rfl rfl rfl g23) ?_
        refine F.sk rfl rfl rfl (wf rfl rfl rfl g23) ?_
        refine F.q rfl rfl rfl (wanted_none rfl) (r_pick rfl rfl g23) ?_
        refine F.nil ?_
        cases hE_1
        refine Nrm.only [0, 6, 26] rfl ?_
        refine Nrm.pick [] rfl rfl ?_
        exact hj_1 _ _ ⟨rfl, rfl⟩
      · replace hE_1 := if_ff g23 hE_1
        refine Tri.reg (l := [0, 1, 2, 3, 4, 5]) rfl ?_
        refine F.q rfl rfl rfl (wanted_none rfl) (r_move rfl) ?_
        refine F.q rfl rfl rfl (wanted_none rfl) (r_gtr rfl rfl) ?_
        refine F.q rfl rfl rfl (wanted_none rfl) (r_move rfl) ?_
        refine F.q rfl rfl rfl (wg rfl rfl rfl g23) (r_move rfl) ?_
        refine F.q rfl rfl rfl (wg rfl rfl rfl g23) (r_gtr rfl rfl) ?_
        refine F.q rfl rfl rfl (wanted_none rfl) (r_pickf rfl rfl g23) ?_
        refine F.nil ?_
        cases hE_1
        refine Nrm.only [0, 6, 26] rfl ?_
        refine Nrm.pick [] rfl rfl ?_
        exact hj_1 _ _ ⟨rfl, rfl⟩

end Go.Proofs

/- loop.example/g01158/impl.has -/

namespace Go.Proofs
open Go Go.Ga
set_option linter.unusedVariables false
set_option maxRecDepth 100000
set_option maxHeartbeats 4000000
def impl_has.f (k : Nat) (a0 : Int) (a1 : Int) : Option (Bool) := some ((bclr a1 a0) == 0)

theorem impl_has.ok {k : Nat}  {a0 : Int} {a1 : Int} {r0 : Bool} (h : impl_has.f k a0 a1 = some r0) (w : World) :
    Calls Try.prog 154 ([.int .i64 a0, .int .i64 a1] : List Value).toArray w (fun e w' => e = .returned (.bool r0) ∧ Ext w w') := by
  unfold impl_has.f at h
  refine Calls.of_tri (N := 9) Try.func154 rfl rfl rfl (Sep.nil (M := noM)) ?_
  refine Tri.seq ?_
  refine Tri.reg (l := [0]) rfl ?_
  refine F.q rfl rfl rfl (wanted_none rfl) (r_assign rfl) ?_
  refine F.nil ?_
  refine Nrm.seq ?_
  refine Tri.seq ?_
  refine Tri.reg (l := [0, 1, 2, 3, 4]) rfl ?_
  refine F.q rfl rfl rfl (wanted_none rfl) (r_move rfl) ?_
  refine F.q rfl rfl rfl (wanted_none rfl) (r_move rfl) ?_
  refine F.q rfl rfl rfl (wanted_none rfl) (r_andNot rfl rfl) ?_
  refine F.q rfl rfl rfl (wanted_none rfl) (r_eql rfl rfl) ?_
  refine F.q rfl rfl rfl (wanted_none rfl) (r_assign rfl) ?_
  refine F.nil ?_
  refine Nrm.seq ?_
  refine Tri.ret ?_
  cases h
  exact Rtn.body (.tmp rfl .nil) (fun w hw => ⟨rfl, hw.ext⟩)

end Go.Proofs

/- loop.example/g01158/impl.steps -/
namespace Go.Proofs
open Go Go.Ga
set_option linter.unusedVariables false
set_option maxRecDepth 100000
set_option maxHeartbeats 4000000
def impl_steps.l0 (k : Nat) (a0_1 : List (Int × Int × Int)) (a1 : Int) (a2 : Int) : Nat → Int → Int → Option (Int)
  | 0, _, _ => none
  | n + 1, x7, x13 => (if (decide (x13 < (a0_1.length : Int))) = true then ((rdl a0_1 x13).bind fun t15 => (impl_has.f k a2 t15.2.2).bind fun t20 => (if (!t20) = true then some x7 else ((if (t15.1 == a1) = true then if ¬ t15.2.1 < 0 then some (bor x7 (shl 1 t15.2.1)) else none else some x7)).bind fun y7 => ((if (t15.2.1 == a1) = true then if ¬ t15.1 < 0 then some (bor y7 (shl 1 t15.1)) else none else some y7)).bind fun y7r => some y7r)).bind fun y7 => impl_steps.l0 k a0_1 a1 a2 n y7 (w64 (x13 + 1)) else some x7)

def impl_steps.f (k : Nat) (a0_0 : Int) (a0_1 : List (Int × Int × Int)) (a0_2 : List Int) (a1 : Int) (a2 : Int) : Option (Int) := (impl_steps.l0 k a0_1 a1 a2 k 0 0).bind fun x7 => some x7

theorem impl_steps.ok {k : Nat}  {a0_0 : Int} {a0_1 : List (Int × Int × Int)} {a0_2 : List Int} {a1 : Int} {a2 : Int} {r0 : Int} (h : impl_steps.f k a0_0 a0_1 a0_2 a1 a2 = some r0) (w : World) {va0_1 : Value} {va0_2 : Value} (hr_a0_1 : Rd w va0_1 a0_1) (hr_a0_2 : Rd w va0_2 a0_2) :
    Calls Try.prog 162 ([.agg ([.int .i64 a0_0, va0_1, va0_2].toArray), .int .i64 a1, .int .i64 a2] : List Value).toArray w (fun e w' => e = .returned (.int .i64 r0) ∧ Ext w w') := by
  unfold impl_steps.f at h
  have hl_va0_1 := hr_a0_1.len
  have hl_va0_2 := hr_a0_2.len
  refine Calls.of_tri (N := 42) Try.func162 rfl rfl rfl (Sep.nil (M := noM)) ?_
  refine Tri.seq ?_
  refine Tri.reg (l := [0, 1]) rfl ?_
  refine F.m rfl rfl rfl (wanted_none rfl) (m_boxG rfl rfl) ?_
  rintro _ _ ⟨b3_1, rfl, rfl⟩
  refine F.q rfl rfl rfl (wanted_none rfl) (r_assign rfl) ?_
  refine F.nil ?_
  refine Nrm.seq ?_
  refine Tri.seq ?_
  refine Tri.reg (l := [0]) rfl ?_
  refine F.q rfl rfl rfl (wanted_none rfl) (r_assign rfl) ?_
  refine F.nil ?_
  refine Nrm.seq ?_
  refine Tri.seq ?_
  refine Tri.seq ?_
  refine Tri.reg (l := [0, 1, 2, 3]) rfl ?_
  refine F.q rfl rfl rfl (wanted_none rfl) (r_fieldAddr tf55_1 rfl) ?_
  refine F.q rfl rfl rfl (wanted_none rfl) (r_load ta49 rfl (fun w hw => cell_1 (box_cells (i := 0) rfl w hw) rfl)) ?_
  refine F.q rfl rfl rfl (wanted_none rfl) (r_len Try.underlying49 rfl hl_va0_1) ?_
  refine F.q rfl rfl rfl (wanted_none rfl) (r_move rfl) ?_
  refine F.nil ?_
  refine Nrm.seq ?_
  obtain ⟨x7, hE_1, h⟩ := bind_some h
  refine Tri.block ?_
  refine Tri.only [1, 2, 7, 11, 12, 13] rfl ?_
  refine Tri.pick [] rfl rfl ?_
  refine Tri.rounds (fun n e' C' => ∃ (x7' : Int) (x13' : Int), impl_steps.l0 k a0_1 a1 a2 n x7' x13' = some x7 ∧ e' = [(1, .int .i64 a1), (2, .int .i64 a2), (7, .int .i64 x7'), (11, va0_1), (12, .int .i64 (a0_1.length : Int)), (13, .int .i64 x13')] ∧ C' = Sep w noM []) k ?_ ?_ ?_
  · exact ⟨0, 0, hE_1, rfl, rfl⟩
  · rintro _ _ ⟨_, _, hE_1, _⟩
    rw [impl_steps.l0.eq_1] at hE_1; cases hE_1
  · rintro n_1 _ _ ⟨x7, x13, hE_1, rfl, rfl⟩ ih_1
    rw [impl_steps.l0.eq_2] at hE_1
    refine Tri.seq ?_
    refine Tri.reg (l := [0]) rfl ?_
    refine F.q rfl rfl rfl (wanted_none rfl) (r_lss rfl rfl) ?_
    refine F.nil ?_
    refine Nrm.seq ?_
    refine Tri.seq ?_
    refine Tri.cond (b := decide (x13 < (a0_1.length : Int))) rfl (fun g_1 => ?_) (fun g_1 => ?_)
    · replace hE_1 := if_tt g_1 hE_1
      refine Tri.skip ?_
      refine Nrm.seq ?_
      refine Tri.seq ?_
      obtain ⟨y7, hE_2, hE_1⟩ := bind_some hE_1
      refine Tri.cut (fun e' C' => e' = [(1, .int .i64 a1), (2, .int .i64 a2), (7, .int .i64 y7), (11, va0_1), (12, .int .i64 (a0_1.length : Int)), (13, .int .i64 x13)] ∧ C' = Sep w noM []) ?_ (fun hj_1 => ?_)
      · rintro _ _ ⟨rfl, rfl⟩
        refine Nrm.seq ?_
        refine Tri.reg (l := [0, 1]) rfl ?_
        refine F.q rfl rfl rfl (wanted_none rfl) (r_add rfl rfl) ?_
        refine F.q rfl rfl rfl (wanted_none rfl) (r_move rfl) ?_
        refine F.nil ?_
        refine Nrm.round ?_
        refine Rnd.only [1, 2, 7, 11, 12, 13] rfl ?_
        refine Rnd.pick [] rfl rfl ?_
        exact ih_1 _ _ ⟨y7, w64 (x13 + 1), hE_1, rfl, rfl⟩
      · refine Tri.block ?_
        refine Tri.seq ?_
        obtain ⟨t15, h15, hE_2⟩ := bind_some hE_2
        refine Tri.reg (l := [0, 1, 2, 3]) rfl ?_
        refine F.q rfl rfl rfl (wanted_none rfl) (r_indexAddrS Try.underlying49 ti140 rfl hl_va0_1 rfl (rdl_some h15).1 (rdl_some h15).2.1) ?_
        refine F.q rfl rfl rfl (wanted_none rfl) (r_loadA ta140 ti140 rfl rfl (fun w hw => (Rd.flat ((fun _ hw => hr_a0_1.sep hw) w hw) (rdl_some h15).2.2))) ?_
        refine F.m rfl rfl rfl (wanted_none rfl) (m_alloc ti140) ?_
        rintro _ _ ⟨b9_1, rfl, rfl⟩
        refine F.ef0 rfl rfl (wanted_none rfl) (d_storeG0 (i := 0) (cs2 := [.int .i64 t15.1, .int .i64 t15.2.1, .int .i64 t15.2.2]) ti140 rfl rfl rfl rfl rfl (Nat.le_of_ble_eq_true rfl) (lf_cons rfl (lf_cons rfl (lf_cons rfl lf_nil)))) ?_
        rintro _ _ ⟨rfl, rfl⟩
        refine F.nil ?_
        refine Nrm.seq ?_
        refine Tri.seq ?_
        refine Tri.seq ?_
        obtain ⟨t20, h20, hE_2⟩ := bind_some hE_2
        refine Tri.reg (l := [0, 1, 2, 3, 4]) rfl ?_
        refine F.q rfl rfl rfl (wanted_none rfl) (r_move rfl) ?_
        refine F.q rfl rfl rfl (wanted_none rfl) (r_indexAddrA Try.underlying140 ti3 rfl rfl (by decide) (by decide)) ?_
        refine F.q rfl rfl rfl (wanted_none rfl) (r_load ta3 rfl (fun w hw => cell_1 (box_cells (i := 0) rfl w hw) rfl)) ?_
        refine F.qc rfl rfl rfl (wanted_none rfl) (q_callF (xs := _) rfl ok154 rfl rfl (fun w hw => impl_has.ok h20 w )) ?_
        refine F.q rfl rfl rfl (wanted_none rfl) (r_not rfl) ?_
        refine F.nil ?_
        refine Nrm.seq ?_
        refine Tri.cond (b := !t20) rfl (fun g_2 => ?_) (fun g_2 => ?_)
        · replace hE_2 := if_tt g_2 hE_2
          refine Tri.exit ?_
          refine Exi.then ?_
          refine Exi.same ?_
          cases hE_2
          refine Nrm.only [1, 2, 7, 11, 12, 13] rfl ?_
          refine Nrm.pick [] rfl rfl ?_
          exact hj_1 _ _ ⟨rfl, rfl⟩
        · replace hE_2 := if_ff g_2 hE_2
          refine Tri.skip ?_
          refine Nrm.seq ?_
          refine Tri.seq ?_
          refine Tri.seq ?_
          refine Tri.reg (l := [0, 1, 2, 3]) rfl ?_
          refine F.q rfl rfl rfl (wanted_none rfl) (r_indexAddrA Try.underlying140 ti3 rfl rfl (by decide) (by decide)) ?_
          refine F.q rfl rfl rfl (wanted_none rfl) (r_load ta3 rfl (fun w hw => cell_1 (box_cells (i := 0) rfl w hw) rfl)) ?_
          refine F.q rfl rfl rfl (wanted_none rfl) (r_move rfl) ?_
          refine F.q rfl rfl rfl (wanted_none rfl) (r_eql rfl rfl) ?_
          refine F.nil ?_
          refine Nrm.seq ?_
          obtain ⟨y7, hE_3, hE_2⟩ := bind_some hE_2
          refine Tri.cut (fun e' C' => e' = [(1, .int .i64 a1), (2, .int .i64 a2), (7, .int .i64 y7), (9, .pointer (some ⟨b9_1, 0, none⟩)), (11, va0_1), (12, .int .i64 (a0_1.length : Int)), (13, .int .i64 x13)] ∧ C' = Sep w noM [R.box b9_1 140 [.int .i64 t15.1, .int .i64 t15.2.1, .int .i64 t15.2.2]]) ?_ (fun hj_2 => ?_)
          · rintro _ _ ⟨rfl, rfl⟩
            refine Nrm.seq ?_
            refine Tri.seq ?_
            refine Tri.reg (l := [0, 1, 2, 3]) rfl ?_
            refine F.q rfl rfl rfl (wanted_none rfl) (r_indexAddrA Try.underlying140 ti3 rfl rfl (by decide) (by decide)) ?_
            refine F.q rfl rfl rfl (wanted_none rfl) (r_load ta3 rfl (fun w hw => cell_1 (box_cells (i := 0) rfl w hw) rfl)) ?_
            refine F.q rfl rfl rfl (wanted_none rfl) (r_move rfl) ?_
            refine F.q rfl rfl rfl (wanted_none rfl) (r_eql rfl rfl) ?_
            refine F.nil ?_
            refine Nrm.seq ?_
            obtain ⟨y7r, hE_4, hE_2⟩ := bind_some hE_2
            refine Tri.cut (fun e' C' => e' = [(1, .int .i64 a1), (2, .int .i64 a2), (7, .int .i64 y7r), (11, va0_1), (12, .int .i64 (a0_1.length : Int)), (13, .int .i64 x13)] ∧ C' = Sep w noM []) ?_ (fun hj_3 => ?_)
            · rintro _ _ ⟨rfl, rfl⟩
              refine Nrm.block ?_
              cases hE_2
              refine Nrm.only [1, 2, 7, 11, 12, 13] rfl ?_
              refine Nrm.pick [] rfl rfl ?_
              exact hj_1 _ _ ⟨rfl, rfl⟩
            · refine Tri.cond (b := t15.2.1 == a1) rfl (fun g_4 => ?_) (fun g_4 => ?_)
              · replace hE_4 := if_tt g_4 hE_4
                obtain ⟨hs38, hE_4⟩ := ck hE_4
                refine Tri.reg (l := [0, 1, 2, 3, 4, 5]) rfl ?_
                refine F.q rfl rfl rfl (wanted_none rfl) (r_move rfl) ?_
                refine F.q rfl rfl rfl (wanted_none rfl) (r_indexAddrA Try.underlying140 ti3 rfl rfl (by decide) (by decide)) ?_
                refine F.q rfl rfl rfl (wanted_none rfl) (r_load ta3 rfl (fun w hw => cell_1 (box_cells (i := 0) rfl w hw) rfl)) ?_
                refine F.q rfl rfl rfl (wanted_none rfl) (r_shl rfl rfl hs38) ?_
                refine F.q rfl rfl rfl (wanted_none rfl) (r_or rfl rfl) ?_
                refine F.q rfl rfl rfl (wanted_none rfl) (r_assign rfl) ?_
                refine F.nil ?_
                cases hE_4
                refine Nrm.only [1, 2, 7, 11, 12, 13] rfl ?_
                refine Nrm.pick [] rfl rfl ?_
                exact hj_3 _ _ ⟨rfl, rfl⟩
              · replace hE_4 := if_ff g_4 hE_4
                refine Tri.skip ?_
                cases hE_4
                refine Nrm.only [1, 2, 7, 11, 12, 13] rfl ?_
                refine Nrm.pick [] rfl rfl ?_
                exact hj_3 _ _ ⟨rfl, rfl⟩
          · refine Tri.cond (b := t15.1 == a1) rfl (fun g_3 => ?_) (fun g_3 => ?_)
            · replace hE_3 := if_tt g_3 hE_3
              obtain ⟨hs29, hE_3⟩ := ck hE_3
              refine Tri.reg (l := [0, 1, 2, 3, 4, 5]) rfl ?_
              refine F.q rfl rfl rfl (wanted_none rfl) (r_move rfl) ?_
              refine F.q rfl rfl rfl (wanted_none rfl) (r_indexAddrA Try.underlying140 ti3 rfl rfl (by decide) (by decide)) ?_
              refine F.q rfl rfl rfl (wanted_none rfl) (r_load ta3 rfl (fun w hw => cell_1 (box_cells (i := 0) rfl w hw) rfl)) ?_
              refine F.q rfl rfl rfl (wanted_none rfl) (r_shl rfl rfl hs29) ?_
              refine F.q rfl rfl rfl (wanted_none rfl) (r_or rfl rfl) ?_
              refine F.q rfl rfl rfl (wanted_none rfl) (r_assign rfl) ?_
              refine F.nil ?_
              cases hE_3
              refine Nrm.only [1, 2, 7, 9, 11, 12, 13] rfl ?_
              refine Nrm.pick [0] rfl rfl ?_
              exact hj_2 _ _ ⟨rfl, rfl⟩
            · replace hE_3 := if_ff g_3 hE_3
              refine Tri.skip ?_
              cases hE_3
              refine Nrm.only [1, 2, 7, 9, 11, 12, 13] rfl ?_
              refine Nrm.pick [0] rfl rfl ?_
              exact hj_2 _ _ ⟨rfl, rfl⟩
    · replace hE_1 := if_ff g_1 hE_1
      refine Tri.exit ?_
      refine Exi.then ?_
      refine Exi.then ?_
      refine Exi.same ?_
      cases hE_1
      refine Nrm.seq ?_
      refine Tri.seq ?_
      refine Tri.reg (l := [0, 1]) rfl ?_
      refine F.q rfl rfl rfl (wanted_none rfl) (r_move rfl) ?_
      refine F.q rfl rfl rfl (wanted_none rfl) (r_assign rfl) ?_
      refine F.nil ?_
      refine Nrm.seq ?_
      refine Tri.ret ?_
      cases h
      exact Rtn.body (.tmp rfl .nil) (fun w hw => ⟨rfl, hw.ext⟩)

end Go.Proofs

/- loop.example/g01158/impl.reach -/
namespace Go.Proofs
open Go Go.Ga
set_option linter.unusedVariables false
set_option maxRecDepth 100000
set_option maxHeartbeats 4000000
def impl_reach.l0 (k : Nat) (a0_0 : Int) (a0_1 : List (Int × Int × Int)) (a0_2 : List Int) (a2 : Int) : Nat → Int → (List (Int)) → Option (Int)
  | 0, _, _ => none
  | n + 1, x7, x8 => (if (decide ((x8.length : Int) > 0)) = true then (rdl x8 0).bind fun t19 => (impl_steps.f k a0_0 a0_1 a0_2 t19 a2).bind fun t22 => (slc x8 1 (x8.length : Int)).bind fun t29 => (impl_members.f k (bclr t22 x7)).bind fun t31 => if (t29 ++ t31).length < 1099511627776 then impl_reach.l0 k a0_0 a0_1 a0_2 a2 n (bor x7 (bclr t22 x7)) (t29 ++ t31) else none else some x7)

def impl_reach.f (k : Nat) (a0_0 : Int) (a0_1 : List (Int × Int × Int)) (a0_2 : List Int) (a1 : Int) (a2 : Int) : Option (Int) := if ¬ a1 < 0 then (impl_reach.l0 k a0_0 a0_1 a0_2 a2 k (shl 1 a1) ([a1] : List (Int))).bind fun x7 => some x7 else none

theorem impl_reach.ok {k : Nat}  {a0_0 : Int} {a0_1 : List (Int × Int × Int)} {a0_2 : List Int} {a1 : Int} {a2 : Int} {r0 : Int} (h : impl_reach.f k a0_0 a0_1 a0_2 a1 a2 = some r0) (w : World) {va0_1 : Value} {va0_2 : Value} (hr_a0_1 : Rd w va0_1 a0_1) (hr_a0_2 : Rd w va0_2 a0_2) :
    Calls Try.prog 125 ([.agg ([.int .i64 a0_0, va0_1, va0_2].toArray), .int .i64 a1, .int .i64 a2] : List Value).toArray w (fun e w' => e = .returned (.int .i64 r0) ∧ Ext w w') := by
  unfold impl_reach.f at h
  have hl_va0_1 := hr_a0_1.len
  have hl_va0_2 := hr_a0_2.len
  refine Calls.of_tri (N := 34) Try.func125 rfl rfl rfl (Sep.nil (M := noM)) ?_
  refine Tri.seq ?_
  refine Tri.reg (l := [0, 1]) rfl ?_
  refine F.m rfl rfl rfl (wanted_none rfl) (m_boxG rfl rfl) ?_
  rintro _ _ ⟨b3_1, rfl, rfl⟩
  refine F.q rfl rfl rfl (wanted_none rfl) (r_assign rfl) ?_
  refine F.nil ?_
  refine Nrm.seq ?_
  refine Tri.seq ?_
  obtain ⟨hs11, h⟩ := ck h
  refine Tri.reg (l := [0, 1, 2, 3, 4, 5]) rfl ?_
  refine F.q rfl rfl rfl (wanted_none rfl) (r_move rfl) ?_
  refine F.q rfl rfl rfl (wanted_none rfl) (r_shl rfl rfl hs11) ?_
  refine F.q rfl rfl rfl (wanted_none rfl) (r_move rfl) ?_
  refine F.m rfl rfl rfl (wanted_none rfl) (m_buildF (l := ([a1] : List (Int))) Try.underlying38 ti3 rfl rfl rfl rfl rfl) ?_
  rintro v13_1 _ ⟨S13_1, hl_v13_1, rfl⟩
  refine F.q rfl rfl rfl (wanted_none rfl) (r_assign rfl) ?_
  refine F.q rfl rfl rfl (wanted_none rfl) (r_assign rfl) ?_
  refine F.nil ?_
  refine Nrm.seq ?_
  refine Tri.seq ?_
  obtain ⟨x7, hE_1, h⟩ := bind_some h
  refine Tri.block ?_
  refine Tri.only [2, 3, 7, 8] rfl ?_
  refine Tri.pick [1, 0] rfl rfl ?_
  refine Tri.rounds (fun n e' C' => ∃ (x7' : Int) (x8' : List (Int)) (w8 : Value) (T8 : Nat → Prop), impl_reach.l0 k a0_0 a0_1 a0_2 a2 n x7' x8' = some x7 ∧ SlLen w8 (x8').length ∧ e' = [(2, .int .i64 a2), (3, .pointer (some ⟨b3_1, 0, none⟩)), (7, .int .i64 x7'), (8, w8)] ∧ C' = Sep w noM [R.box b3_1 55 [.int .i64 a0_0, va0_1, va0_2], R.sl T8 w8 (x8' : List (Int))]) k ?_ ?_ ?_
  · exact ⟨shl 1 a1, ([a1] : List (Int)), v13_1, S13_1, hE_1, hl_v13_1, rfl, rfl⟩
  · rintro _ _ ⟨_, _, _, _, hE_1, _⟩
    rw [impl_reach.l0.eq_1] at hE_1; cases hE_1
  · rintro n_1 _ _ ⟨x7, x8, w8, T8, hE_1, hl_w8, rfl, rfl⟩ ih_1
    rw [impl_reach.l0.eq_2] at hE_1
    refine Tri.seq ?_
    refine Tri.seq ?_
    refine Tri.reg (l := [0, 1, 2]) rfl ?_
    refine F.q rfl rfl rfl (wanted_none rfl) (r_move rfl) ?_
    refine F.q rfl rfl rfl (wanted_none rfl) (r_len Try.underlying38 rfl hl_w8) ?_
    refine F.q rfl rfl rfl (wanted_none rfl) (r_gtr rfl rfl) ?_
    refine F.nil ?_
    refine Nrm.seq ?_
    refine Tri.cond (b := decide ((x8.length : Int) > 0)) rfl (fun g_1 => ?_) (fun g_1 => ?_)
    · replace hE_1 := if_tt g_1 hE_1
      refine Tri.skip ?_
      refine Nrm.seq ?_
      refine Tri.block ?_
      refine Tri.seq ?_
      obtain ⟨t19, h19, hE_1⟩ := bind_some hE_1
      obtain ⟨t22, h22, hE_1⟩ := bind_some hE_1
      refine Tri.drawA mixedT Sep.up [(0, true), (1, true), (2, true), (3, true), (4, true), (5, true), (6, true), (7, true), (8, true)] [] (by kernel_rfl) ?_
      refine S.q rfl rfl rfl (wanted_none rfl) (r_loadA ta55 ti55 rfl rfl (fun w hw => (box_cells (i := 0) rfl w hw))) ?_
      refine S.q rfl rfl rfl (wanted_none rfl) (r_move rfl) ?_
      refine S.q rfl rfl rfl (wanted_none rfl) (r_indexAddrS Try.underlying38 ti3 rfl hl_w8 rfl (rdl_some h19).1 (rdl_some h19).2.1) ?_
      refine S.q rfl rfl rfl (wanted_none rfl) (r_load ta3 rfl (fun w hw => cell_0 (Rd.flat ((rd_sl (i := 1) rfl) w hw) (rdl_some h19).2.2) rfl)) ?_
      refine S.q rfl rfl rfl (wanted_none rfl) (r_move rfl) ?_
      refine S.qc rfl rfl rfl (wanted_none rfl) (q_callF (xs := _) rfl ok162 rfl rfl (fun w hw => impl_steps.ok h22 w ((fun _ hw => hr_a0_1.sep hw) w hw) ((fun _ hw => hr_a0_2.sep hw) w hw))) ?_
      refine S.q rfl rfl rfl (wanted_none rfl) (r_move rfl) ?_
      refine S.q rfl rfl rfl (wanted_none rfl) (r_andNot rfl rfl) ?_
      refine S.q rfl rfl rfl (wanted_none rfl) (r_assign rfl) ?_
      refine S.nil ?_
      refine F.nil ?_
      refine Nrm.seq ?_
      refine Tri.seq ?_
      refine Tri.reg (l := [0, 1, 2, 3]) rfl ?_
      refine F.q rfl rfl rfl (wanted_none rfl) (r_move rfl) ?_
      refine F.q rfl rfl rfl (wanted_none rfl) (r_move rfl) ?_
      refine F.q rfl rfl rfl (wanted_none rfl) (r_or rfl rfl) ?_
      refine F.q rfl rfl rfl (wanted_none rfl) (r_assign rfl) ?_
      refine F.nil ?_
      refine Nrm.seq ?_
      obtain ⟨t29, h29, hE_1⟩ := bind_some hE_1
      obtain ⟨t31, h31, hE_1⟩ := bind_some hE_1
      obtain ⟨hs32, hE_1⟩ := ck hE_1
      refine Tri.drawA mixedT Sep.up [(0, true), (1, true), (2, true), (3, false)] [4, 5] (by kernel_rfl) ?_
      refine S.q rfl rfl rfl (wanted_none rfl) (r_move rfl) ?_
      refine S.q rfl rfl rfl (wanted_none rfl) (r_sliceL Try.underlying38 ti3 rfl (rd_sl (i := 1) rfl) rfl h29) ?_
      refine S.q rfl rfl rfl (wanted_none rfl) (r_move rfl) ?_
      refine S.m rfl rfl rfl (wanted_none rfl) (m_callF (xs := _) rfl ok112 rfl rfl (fun w hw => impl_members.ok h31 w )) ?_
      rintro v31_2 _ ⟨_, ⟨S31_2, hl_v31_2, rfl⟩, rfl⟩
      refine S.nil ?_
      refine F.ef rfl rfl rfl (wanted_none rfl) (Does.pre (fun w hw => Sep.resl (i := 2) rfl h29 hw) <| d_append (i := 2) Try.underlying38 Try.underlying38 ti3 rfl (by decide) rfl rfl rfl (rd_sl (i := 0) rfl) hs32) ?_
      rintro v32_2 _ ⟨S32_2, rfl, hl_v32_2⟩
      refine F.q rfl rfl rfl (wanted_none rfl) (r_assign rfl) ?_
      refine F.nil ?_
      refine Nrm.block ?_
      refine Nrm.round ?_
      refine Rnd.only [2, 3, 7, 8] rfl ?_
      refine Rnd.pick [1, 2] rfl rfl ?_
      exact ih_1 _ _ ⟨bor x7 (bclr t22 x7), t29 ++ t31, v32_2, S32_2, hE_1, hl_v32_2, rfl, rfl⟩
    · replace hE_1 := if_ff g_1 hE_1
      refine Tri.exit ?_
      refine Exi.then ?_
      refine Exi.then ?_
      refine Exi.same ?_
      cases hE_1
      refine Nrm.seq ?_
      refine Tri.seq ?_
      refine Tri.reg (l := [0, 1]) rfl ?_
      refine F.q rfl rfl rfl (wanted_none rfl) (r_move rfl) ?_
      refine F.q rfl rfl rfl (wanted_none rfl) (r_assign rfl) ?_
      refine F.nil ?_
      refine Nrm.seq ?_
      refine Tri.ret ?_
      cases h
      exact Rtn.body (.tmp rfl .nil) (fun w hw => ⟨rfl, hw.ext⟩)

end Go.Proofs

/- loop.example/g01158/impl.allNodes -/

namespace Go.Proofs
open Go Go.Ga
set_option linter.unusedVariables false
set_option maxRecDepth 100000
set_option maxHeartbeats 4000000
def impl_allNodes.f (k : Nat) (a0_0 : Int) (a0_1 : List (Int × Int × Int)) (a0_2 : List Int) : Option (Int) := if ¬ a0_0 < 0 then some (w64 ((shl 1 a0_0) - 1)) else none

theorem impl_allNodes.ok {k : Nat}  {a0_0 : Int} {a0_1 : List (Int × Int × Int)} {a0_2 : List Int} {r0 : Int} (h : impl_allNodes.f k a0_0 a0_1 a0_2 = some r0) (w : World) {va0_1 : Value} {va0_2 : Value} (hr_a0_1 : Rd w va0_1 a0_1) (hr_a0_2 : Rd w va0_2 a0_2) :
    Calls Try.prog 126 ([.agg ([.int .i64 a0_0, va0_1, va0_2].toArray)] : List Value).toArray w (fun e w' => e = .returned (.int .i64 r0) ∧ Ext w w') := by
  unfold impl_allNodes.f at h
  have hl_va0_1 := hr_a0_1.len
  have hl_va0_2 := hr_a0_2.len
  refine Calls.of_tri (N := 7) Try.func126 rfl rfl rfl (Sep.nil (M := noM)) ?_
  refine Tri.seq ?_
  refine Tri.reg (l := [0, 1]) rfl ?_
  refine F.m rfl rfl rfl (wanted_none rfl) (m_boxG rfl rfl) ?_
  rintro _ _ ⟨b1_1, rfl, rfl⟩
  refine F.q rfl rfl rfl (wanted_none rfl) (r_assign rfl) ?_
  refine F.nil ?_
  refine Nrm.seq ?_
  refine Tri.seq ?_
  obtain ⟨hs5, h⟩ := ck h
  refine Tri.reg (l := [0, 1, 2, 3, 4]) rfl ?_
  refine F.q rfl rfl rfl (wanted_none rfl) (r_fieldAddr tf55_0 rfl) ?_
  refine F.q rfl rfl rfl (wanted_none rfl) (r_load ta3 rfl (fun w hw => cell_1 (box_cells (i := 0) rfl w hw) rfl)) ?_
  refine F.q rfl rfl rfl (wanted_none rfl) (r_shl rfl rfl hs5) ?_
  refine F.q rfl rfl rfl (wanted_none rfl) (r_sub rfl rfl) ?_
  refine F.q rfl rfl rfl (wanted_none rfl) (r_assign rfl) ?_
  refine F.nil ?_
  refine Nrm.seq ?_
  refine Tri.ret ?_
  cases h
  exact Rtn.body (.tmp rfl .nil) (fun w hw => ⟨rfl, hw.ext⟩)

end Go.Proofs

/- slices.Equal[[]int,int] -/

namespace Go.Proofs
open Go Go.Ga
set_option linter.unusedVariables false
set_option maxRecDepth 100000
set_option maxHeartbeats 4000000
def slices_Equal_int_int.l0 (k : Nat) (a0 : List Int) (a1 : List Int) : Nat → Int → Option ((Unit) ⊕ (Bool))
  | 0, _ => none
  | n + 1, x13 => (if (decide (x13 < (a0.length : Int))) = true then (rdl a0 x13).bind fun t18 => (rdl a1 x13).bind fun t22 => (if (t18 != t22) = true then some (Sum.inr false) else slices_Equal_int_int.l0 k a0 a1 n (w64 (x13 + 1))) else some (Sum.inl ()))

def slices_Equal_int_int.f (k : Nat) (a0 : List Int) (a1 : List Int) : Option (Bool) := (if ((a0.length : Int) != (a1.length : Int)) = true then some false else (slices_Equal_int_int.l0 k a0 a1 k 0).bind fun s => Lr s some fun _ => some true)

theorem slices_Equal_int_int.ok {k : Nat}  {a0 : List Int} {a1 : List Int} {r0 : Bool} (h : slices_Equal_int_int.f k a0 a1 = some r0) (w : World) {va0 : Value} {va1 : Value} (hr_a0 : Rd w va0 a0) (hr_a1 : Rd w va1 a1) :
    Calls Try.prog 127 ([va0, va1] : List Value).toArray w (fun e w' => e = .returned (.bool r0) ∧ Ext w w') := by
  unfold slices_Equal_int_int.f at h
  have hl_va0 := hr_a0.len
  have hl_va1 := hr_a1.len
  refine Calls.of_tri (N := 26) Try.func127 rfl rfl rfl (Sep.nil (M := noM)) ?_
  refine Tri.seq ?_
  refine Tri.reg (l := [0]) rfl ?_
  refine F.q rfl rfl rfl (wanted_none rfl) (r_assign rfl) ?_
  refine F.nil ?_
  refine Nrm.seq ?_
  refine Tri.seq ?_
  refine Tri.seq ?_
  refine Tri.reg (l := [0, 1, 2, 3, 4]) rfl ?_
  refine F.q rfl rfl rfl (wanted_none rfl) (r_move rfl) ?_
  refine F.q rfl rfl rfl (wanted_none rfl) (r_len Try.underlying38 rfl hl_va0) ?_
  refine F.q rfl rfl rfl (wanted_none rfl) (r_move rfl) ?_
  refine F.q rfl rfl rfl (wanted_none rfl) (r_len Try.underlying38 rfl hl_va1) ?_
  refine F.q rfl rfl rfl (wanted_none rfl) (r_neq rfl rfl) ?_
  refine F.nil ?_
  refine Nrm.seq ?_
  refine Tri.cond (b := (a0.length : Int) != (a1.length : Int)) rfl (fun g_1 => ?_) (fun g_1 => ?_)
  · replace h := if_tt g_1 h
    refine Tri.seq ?_
    refine Tri.reg (l := [0]) rfl ?_
    refine F.q rfl rfl rfl (wanted_none rfl) (r_assign rfl) ?_
    refine F.nil ?_
    refine Nrm.seq ?_
    refine Tri.ret ?_
    refine Rtn.then ?_
    cases h
    exact Rtn.body (.tmp rfl .nil) (fun w hw => ⟨rfl, hw.ext⟩)
  · replace h := if_ff g_1 h
    refine Tri.skip ?_
    refine Nrm.seq ?_
    refine Tri.seq ?_
    refine Tri.seq ?_
    refine Tri.reg (l := [0, 1, 2]) rfl ?_
    refine F.q rfl rfl rfl (wanted_none rfl) (r_move rfl) ?_
    refine F.q rfl rfl rfl (wanted_none rfl) (r_len Try.underlying38 rfl hl_va0) ?_
    refine F.q rfl rfl rfl (wanted_none rfl) (r_move rfl) ?_
    refine F.nil ?_
    refine Nrm.seq ?_
    obtain ⟨s0, hE_1, h⟩ := bind_some h
    refine Tri.block ?_
    refine Tri.only [0, 1, 12, 13] rfl ?_
    refine Tri.pick [] rfl rfl ?_
    refine Tri.rounds (fun n e' C' => ∃ (x13' : Int), slices_Equal_int_int.l0 k a0 a1 n x13' = some s0 ∧ e' = [(0, va0), (1, va1), (12, .int .i64 (a0.length : Int)), (13, .int .i64 x13')] ∧ C' = Sep w noM []) k ?_ ?_ ?_
    · exact ⟨0, hE_1, rfl, rfl⟩
    · rintro _ _ ⟨_, hE_1, _⟩
      rw [slices_Equal_int_int.l0.eq_1] at hE_1; cases hE_1
    · rintro n_1 _ _ ⟨x13, hE_1, rfl, rfl⟩ ih_1
      rw [slices_Equal_int_int.l0.eq_2] at hE_1
      refine Tri.seq ?_
      refine Tri.reg (l := [0]) rfl ?_
      refine F.q rfl rfl rfl (wanted_none rfl) (r_lss rfl rfl) ?_
      refine F.nil ?_
      refine Nrm.seq ?_
      refine Tri.seq ?_
      refine Tri.cond (b := decide (x13 < (a0.length : Int))) rfl (fun g_2 => ?_) (fun g_2 => ?_)
      · replace hE_1 := if_tt g_2 hE_1
        refine Tri.skip ?_
        refine Nrm.seq ?_
        refine Tri.seq ?_
        refine Tri.block ?_
        refine Tri.seq ?_
        refine Tri.reg (l := [0, 1]) rfl ?_
        refine F.q rfl rfl rfl (wanted_none rfl) (r_move rfl) ?_
        refine F.q rfl rfl rfl (wanted_none rfl) (r_assign rfl) ?_
        refine F.nil ?_
        refine Nrm.seq ?_
        refine Tri.seq ?_
        obtain ⟨t18, h18, hE_1⟩ := bind_some hE_1
        obtain ⟨t22, h22, hE_1⟩ := bind_some hE_1
        refine Tri.drawA mixedT Sep.up [(0, true), (1, true), (2, true), (3, true), (4, true), (5, true), (6, true), (7, true), (8, true)] [] (by kernel_rfl) ?_
        refine S.q rfl rfl rfl (wanted_none rfl) (r_move rfl) ?_
        refine S.q rfl rfl rfl (wanted_none rfl) (r_move rfl) ?_
        refine S.q rfl rfl rfl (wanted_none rfl) (r_indexAddrS Try.underlying38 ti3 rfl hl_va0 rfl (rdl_some h18).1 (rdl_some h18).2.1) ?_
        refine S.q rfl rfl rfl (wanted_none rfl) (r_load ta3 rfl (fun w hw => cell_0 (Rd.flat ((fun _ hw => hr_a0.sep hw) w hw) (rdl_some h18).2.2) rfl)) ?_
        refine S.q rfl rfl rfl (wanted_none rfl) (r_move rfl) ?_
        refine S.q rfl rfl rfl (wanted_none rfl) (r_move rfl) ?_
        refine S.q rfl rfl rfl (wanted_none rfl) (r_indexAddrS Try.underlying38 ti3 rfl hl_va1 rfl (rdl_some h22).1 (rdl_some h22).2.1) ?_
        refine S.q rfl rfl rfl (wanted_none rfl) (r_load ta3 rfl (fun w hw => cell_0 (Rd.flat ((fun _ hw => hr_a1.sep hw) w hw) (rdl_some h22).2.2) rfl)) ?_
        refine S.q rfl rfl rfl (wanted_none rfl) (r_neq rfl rfl) ?_
        refine S.nil ?_
        refine F.nil ?_
        refine Nrm.seq ?_
        refine Tri.cond (b := t18 != t22) rfl (fun g_3 => ?_) (fun g_3 => ?_)
        · replace hE_1 := if_tt g_3 hE_1
          refine Tri.seq ?_
          refine Tri.reg (l := [0]) rfl ?_
          refine F.q rfl rfl rfl (wanted_none rfl) (r_assign rfl) ?_
          refine F.nil ?_
          refine Nrm.seq ?_
          refine Tri.ret ?_
          refine Rtn.block ?_
          refine Rtn.then ?_
          refine Rtn.then ?_
          refine Rtn.block ?_
          refine Rtn.then ?_
          cases hE_1
          replace h := Lr_inr h
          cases h
          exact Rtn.body (.tmp rfl .nil) (fun w hw => ⟨rfl, hw.ext⟩)
        · replace hE_1 := if_ff g_3 hE_1
          refine Tri.skip ?_
          refine Nrm.block ?_
          refine Nrm.seq ?_
          refine Tri.reg (l := [0, 1]) rfl ?_
          refine F.q rfl rfl rfl (wanted_none rfl) (r_add rfl rfl) ?_
          refine F.q rfl rfl rfl (wanted_none rfl) (r_move rfl) ?_
          refine F.nil ?_
          refine Nrm.round ?_
          refine Rnd.only [0, 1, 12, 13] rfl ?_
          refine Rnd.pick [] rfl rfl ?_
          exact ih_1 _ _ ⟨w64 (x13 + 1), hE_1, rfl, rfl⟩
      · replace hE_1 := if_ff g_2 hE_1
        refine Tri.exit ?_
        refine Exi.then ?_
        refine Exi.then ?_
        refine Exi.same ?_
        cases hE_1
        replace h := Lr_inl h
        refine Nrm.seq ?_
        refine Tri.seq ?_
        refine Tri.reg (l := [0]) rfl ?_
        refine F.q rfl rfl rfl (wanted_none rfl) (r_assign rfl) ?_
        refine F.nil ?_
        refine Nrm.seq ?_
        refine Tri.ret ?_
        cases h
        exact Rtn.body (.tmp rfl .nil) (fun w hw => ⟨rfl, hw.ext⟩)

end Go.Proofs
