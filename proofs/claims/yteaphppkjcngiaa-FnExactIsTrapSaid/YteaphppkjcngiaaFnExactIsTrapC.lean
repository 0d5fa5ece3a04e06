/- A part of the proof of FnExactIsTrap: plain facts on the model. No condition. -/
import Derived.Test.YteaphppkjcngiaaFnExactIsTrapB
/- loop.example/g01158/impl.IsTrap -/
namespace Go.Proofs
open Go Go.Ga
set_option linter.unusedVariables false
set_option maxRecDepth 100000
set_option maxHeartbeats 4000000
def impl_IsTrap.l0 (k : Nat) (a0_1 : List (Int × Int × Int)) (a0_3 : List Int) : Nat → Int → Option ((Unit) ⊕ (Bool))
  | 0, _ => none
  | n + 1, x12 => (if (decide (x12 < (a0_3.length : Int))) = true then (rdl a0_3 x12).bind fun t15 => ((impl_within.f k t15 0 (w64 ((a0_1.length : Int) - 1))).bind fun t23 => (if (!t23) = true then some true else (if (decide (x12 > 0)) = true then (rdl a0_3 (w64 (x12 - 1))).bind fun t34 => some (decide (t15 ≤ t34)) else some false))).bind fun y38 => (if y38 = true then some (Sum.inr false) else impl_IsTrap.l0 k a0_1 a0_3 n (w64 (x12 + 1))) else some (Sum.inl ()))

def impl_IsTrap.f (k : Nat) (a0_0 : Int) (a0_1 : List (Int × Int × Int)) (a0_2 : List Int) (a0_3 : List Int) : Option (Bool) := (impl_IsMaze.f k a0_0 a0_1 a0_2).bind fun t7 => (if (!t7) = true then some false else (impl_IsTrap.l0 k a0_1 a0_3 k 0).bind fun s => Lr s some fun _ => some true)

theorem impl_IsTrap.ok {k : Nat}  {a0_0 : Int} {a0_1 : List (Int × Int × Int)} {a0_2 : List Int} {a0_3 : List Int} {r0 : Bool} (h : impl_IsTrap.f k a0_0 a0_1 a0_2 a0_3 = some r0) (w : World) {va0_1 : Value} {va0_2 : Value} {va0_3 : Value} (hr_a0_1 : Rd w va0_1 a0_1) (hr_a0_2 : Rd w va0_2 a0_2) (hr_a0_3 : Rd w va0_3 a0_3) :
    Calls Try.prog 22 ([.agg ([.int .i64 a0_0, va0_1, va0_2, va0_3].toArray)] : List Value).toArray w (fun e w' => e = .returned (.bool r0) ∧ Ext w w') := by
  unfold impl_IsTrap.f at h
  have hl_va0_1 := hr_a0_1.len
  have hl_va0_2 := hr_a0_2.len
  have hl_va0_3 := hr_a0_3.len
  refine Calls.of_tri (N := 40) Try.func22 rfl rfl rfl (Sep.nil (M := noM)) ?_
  refine Tri.seq ?_
  refine Tri.reg (l := [0, 1]) rfl ?_
  refine F.m rfl rfl rfl (wanted_none rfl) (m_boxG rfl rfl) ?_
  rintro _ _ ⟨b1_1, rfl, rfl⟩
  refine F.q rfl rfl rfl (wanted_none rfl) (r_assign rfl) ?_
  refine F.nil ?_
  refine Nrm.seq ?_
  refine Tri.seq ?_
  refine Tri.seq ?_
  obtain ⟨t7, h7, h⟩ := bind_some h
  refine Tri.reg (l := [0, 1, 2, 3]) rfl ?_
  refine F.q rfl rfl rfl (wanted_none rfl) (r_fieldAddr tf39_0 rfl) ?_
  refine F.q rfl rfl rfl (wanted_none rfl) (r_loadA ta37 ti37 rfl rfl (fun w hw => cells_1 (cs' := [.int .i64 a0_0, va0_1, va0_2]) (box_cells (i := 0) rfl w hw) rfl)) ?_
  refine F.qc rfl rfl rfl (wanted_none rfl) (q_callF (xs := _) rfl ok82 rfl rfl (fun w hw => impl_IsMaze.ok h7 w ((fun _ hw => hr_a0_1.sep hw) w hw) ((fun _ hw => hr_a0_2.sep hw) w hw))) ?_
  refine F.q rfl rfl rfl (wanted_none rfl) (r_not rfl) ?_
  refine F.nil ?_
  refine Nrm.seq ?_
  refine Tri.cond (b := !t7) rfl (fun g_1 => ?_) (fun g_1 => ?_)
  · replace h := if_tt g_1 h
    refine Tri.seq ?_
    refine Tri.reg (l := [0]) rfl ?_
    refine F.q rfl rfl rfl (wanted_none rfl) (r_assign rfl) ?_
    refine F.nil ?_
    refine Nrm.seq ?_
    refine Tri.ret ?_
    refine Rtn.then ?_
    cases h
    exact Rtn.body (.tmp rfl .nil) (fun w hw => ⟨rfl, hw.ext⟩)
  · replace h := if_ff g_1 h
    refine Tri.skip ?_
    refine Nrm.seq ?_
    refine Tri.seq ?_
    refine Tri.seq ?_
    refine Tri.reg (l := [0, 1, 2, 3]) rfl ?_
    refine F.q rfl rfl rfl (wanted_none rfl) (r_fieldAddr tf39_1 rfl) ?_
    refine F.q rfl rfl rfl (wanted_none rfl) (r_load ta30 rfl (fun w hw => cell_1 (box_cells (i := 0) rfl w hw) rfl)) ?_
    refine F.q rfl rfl rfl (wanted_none rfl) (r_len Try.underlying30 rfl hl_va0_3) ?_
    refine F.q rfl rfl rfl (wanted_none rfl) (r_move rfl) ?_
    refine F.nil ?_
    refine Nrm.seq ?_
    obtain ⟨s0, hE_1, h⟩ := bind_some h
    refine Tri.block ?_
    refine Tri.only [1, 10, 11, 12] rfl ?_
    refine Tri.pick [0] rfl rfl ?_
    refine Tri.rounds (fun n e' C' => ∃ (x12' : Int), impl_IsTrap.l0 k a0_1 a0_3 n x12' = some s0 ∧ e' = [(1, .pointer (some ⟨b1_1, 0, none⟩)), (10, va0_3), (11, .int .i64 (a0_3.length : Int)), (12, .int .i64 x12')] ∧ C' = Sep w noM [R.box b1_1 39 [.int .i64 a0_0, va0_1, va0_2, va0_3]]) k ?_ ?_ ?_
    · exact ⟨0, hE_1, rfl, rfl⟩
    · rintro _ _ ⟨_, hE_1, _⟩
      rw [impl_IsTrap.l0.eq_1] at hE_1; cases hE_1
    · rintro n_1 _ _ ⟨x12, hE_1, rfl, rfl⟩ ih_1
      rw [impl_IsTrap.l0.eq_2] at hE_1
      refine Tri.seq ?_
      refine Tri.reg (l := [0]) rfl ?_
      refine F.q rfl rfl rfl (wanted_none rfl) (r_lss rfl rfl) ?_
      refine F.nil ?_
      refine Nrm.seq ?_
      refine Tri.seq ?_
      refine Tri.cond (b := decide (x12 < (a0_3.length : Int))) rfl (fun g_2 => ?_) (fun g_2 => ?_)
      · replace hE_1 := if_tt g_2 hE_1
        refine Tri.skip ?_
        refine Nrm.seq ?_
        refine Tri.seq ?_
        refine Tri.block ?_
        refine Tri.seq ?_
        obtain ⟨t15, h15, hE_1⟩ := bind_some hE_1
        refine Tri.reg (l := [0, 1, 2, 3, 4]) rfl ?_
        refine F.q rfl rfl rfl (wanted_none rfl) (r_move rfl) ?_
        refine F.q rfl rfl rfl (wanted_none rfl) (r_indexAddrS Try.underlying30 ti3 rfl hl_va0_3 rfl (rdl_some h15).1 (rdl_some h15).2.1) ?_
        refine F.q rfl rfl rfl (wanted_none rfl) (r_load ta3 rfl (fun w hw => cell_0 (Rd.flat ((fun _ hw => hr_a0_3.sep hw) w hw) (rdl_some h15).2.2) rfl)) ?_
        refine F.q rfl rfl rfl (wanted_none rfl) (r_assign rfl) ?_
        refine F.q rfl rfl rfl (wanted_none rfl) (r_assign rfl) ?_
        refine F.nil ?_
        refine Nrm.seq ?_
        refine Tri.seq ?_
        obtain ⟨y38, hE_2, hE_1⟩ := bind_some hE_1
        refine Tri.cut (fun e' C' => e' = [(1, .pointer (some ⟨b1_1, 0, none⟩)), (10, va0_3), (11, .int .i64 (a0_3.length : Int)), (12, .int .i64 x12), (38, .bool y38)] ∧ C' = Sep w noM [R.box b1_1 39 [.int .i64 a0_0, va0_1, va0_2, va0_3]]) ?_ (fun hj_1 => ?_)
        · rintro _ _ ⟨rfl, rfl⟩
          refine Nrm.seq ?_
          refine Tri.cond (b := y38) rfl (fun g_3 => ?_) (fun g_3 => ?_)
          · replace hE_1 := if_tt g_3 hE_1
            refine Tri.seq ?_
            refine Tri.reg (l := [0]) rfl ?_
            refine F.q rfl rfl rfl (wanted_none rfl) (r_assign rfl) ?_
            refine F.nil ?_
            refine Nrm.seq ?_
            refine Tri.ret ?_
            refine Rtn.block ?_
            refine Rtn.then ?_
            refine Rtn.then ?_
            refine Rtn.block ?_
            refine Rtn.then ?_
            cases hE_1
            replace h := Lr_inr h
            cases h
            exact Rtn.body (.tmp rfl .nil) (fun w hw => ⟨rfl, hw.ext⟩)
          · replace hE_1 := if_ff g_3 hE_1
            refine Tri.skip ?_
            refine Nrm.block ?_
            refine Nrm.seq ?_
            refine Tri.reg (l := [0, 1]) rfl ?_
            refine F.q rfl rfl rfl (wanted_none rfl) (r_add rfl rfl) ?_
            refine F.q rfl rfl rfl (wanted_none rfl) (r_move rfl) ?_
            refine F.nil ?_
            refine Nrm.round ?_
            refine Rnd.only [1, 10, 11, 12] rfl ?_
            refine Rnd.pick [0] rfl rfl ?_
            exact ih_1 _ _ ⟨w64 (x12 + 1), hE_1, rfl, rfl⟩
        · obtain ⟨t23, h23, hE_2⟩ := bind_some hE_2
          rcases Bool.eq_false_or_eq_true (!t23) with g25 | g25
          · replace hE_2 := if_tt g25 hE_2
            refine Tri.reg (l := [0, 1, 2, 3, 4, 5, 6, 7, 8, 9, 10, 11, 12, 13, 14, 15, 16, 17, 18, 19, 20, 21]) rfl ?_
            refine F.q rfl rfl rfl (wanted_none rfl) (r_move rfl) ?_
            refine F.q rfl rfl rfl (wanted_none rfl) (r_fieldAddr tf39_0 rfl) ?_
            refine F.q rfl rfl rfl (wanted_none rfl) (r_fieldAddr tf37_1 rfl) ?_
            refine F.q rfl rfl rfl (wanted_none rfl) (r_load ta29 rfl (fun w hw => cell_2 (box_cells (i := 0) rfl w hw) rfl)) ?_
            refine F.q rfl rfl rfl (wanted_none rfl) (r_len Try.underlying29 rfl hl_va0_1) ?_
            refine F.q rfl rfl rfl (wanted_none rfl) (r_sub rfl rfl) ?_
            refine F.qc rfl rfl rfl (wanted_none rfl) (q_callF (xs := _) rfl ok83 rfl rfl (fun w hw => impl_within.ok h23 w )) ?_
            refine F.q rfl rfl rfl (wanted_none rfl) (r_not rfl) ?_
            refine F.q rfl rfl rfl (wanted_none rfl) (r_move rfl) ?_
            refine F.sk rfl rfl rfl (wf rfl rfl rfl g25) ?_
            refine F.sk rfl rfl rfl (wf rfl rfl rfl g25) ?_
            refine F.sk rfl rfl rfl (wf rfl rfl rfl g25) ?_
            refine F.sk rfl rfl rfl (wanted_undef rfl rfl rfl) ?_
            refine F.sk rfl rfl rfl (wanted_undef rfl rfl rfl) ?_
            refine F.sk rfl rfl rfl (wanted_undef rfl rfl rfl) ?_
            refine F.sk rfl rfl rfl (wanted_undef rfl rfl rfl) ?_
            refine F.sk rfl rfl rfl (wanted_undef rfl rfl rfl) ?_
            refine F.sk rfl rfl rfl (wanted_undef rfl rfl rfl) ?_
            refine F.sk rfl rfl rfl (wanted_undef rfl rfl rfl) ?_
            refine F.sk rfl rfl rfl (wanted_undef rfl rfl rfl) ?_
            refine F.sk rfl rfl rfl (wf rfl rfl rfl g25) ?_
            refine F.q rfl rfl rfl (wanted_none rfl) (r_pick rfl rfl g25) ?_
            refine F.nil ?_
            cases hE_2
            refine Nrm.only [1, 10, 11, 12, 38] rfl ?_
            refine Nrm.pick [0] rfl rfl ?_
            exact hj_1 _ _ ⟨rfl, rfl⟩
          · replace hE_2 := if_ff g25 hE_2
            rcases Bool.eq_false_or_eq_true (decide (x12 > 0)) with g28 | g28
            · replace hE_2 := if_tt g28 hE_2
              obtain ⟨t34, h34, hE_2⟩ := bind_some hE_2
              refine Tri.reg (l := [0, 1, 2, 3, 4, 5, 6, 7, 8, 9, 10, 11, 12, 13, 14, 15, 16, 17, 18, 19, 20, 21]) rfl ?_
              refine F.q rfl rfl rfl (wanted_none rfl) (r_move rfl) ?_
              refine F.q rfl rfl rfl (wanted_none rfl) (r_fieldAddr tf39_0 rfl) ?_
              refine F.q rfl rfl rfl (wanted_none rfl) (r_fieldAddr tf37_1 rfl) ?_
              refine F.q rfl rfl rfl (wanted_none rfl) (r_load ta29 rfl (fun w hw => cell_2 (box_cells (i := 0) rfl w hw) rfl)) ?_
              refine F.q rfl rfl rfl (wanted_none rfl) (r_len Try.underlying29 rfl hl_va0_1) ?_
              refine F.q rfl rfl rfl (wanted_none rfl) (r_sub rfl rfl) ?_
              refine F.qc rfl rfl rfl (wanted_none rfl) (q_callF (xs := _) rfl ok83 rfl rfl (fun w hw => impl_within.ok h23 w )) ?_
              refine F.q rfl rfl rfl (wanted_none rfl) (r_not rfl) ?_
              refine F.q rfl rfl rfl (wanted_none rfl) (r_move rfl) ?_
              refine F.q rfl rfl rfl (wg rfl rfl rfl g25) (r_move rfl) ?_
              refine F.q rfl rfl rfl (wg rfl rfl rfl g25) (r_gtr rfl rfl) ?_
              refine F.q rfl rfl rfl (wg rfl rfl rfl g25) (r_move rfl) ?_
              refine F.q rfl rfl rfl (wg rfl rfl rfl g28) (r_move rfl) ?_
              refine F.q rfl rfl rfl (wg rfl rfl rfl g28) (r_fieldAddr tf39_1 rfl) ?_
              refine F.q rfl rfl rfl (wg rfl rfl rfl g28) (r_load ta30 rfl (fun w hw => cell_1 (box_cells (i := 0) rfl w hw) rfl)) ?_
              refine F.q rfl rfl rfl (wg rfl rfl rfl g28) (r_move rfl) ?_
              refine F.q rfl rfl rfl (wg rfl rfl rfl g28) (r_sub rfl rfl) ?_
              refine F.q rfl rfl rfl (wg rfl rfl rfl g28) (r_indexAddrS Try.underlying30 ti3 rfl hl_va0_3 rfl (rdl_some h34).1 (rdl_some h34).2.1) ?_
              refine F.q rfl rfl rfl (wg rfl rfl rfl g28) (r_load ta3 rfl (fun w hw => cell_0 (Rd.flat ((fun _ hw => hr_a0_3.sep hw) w hw) (rdl_some h34).2.2) rfl)) ?_
              refine F.q rfl rfl rfl (wg rfl rfl rfl g28) (r_leq rfl rfl) ?_
              refine F.q rfl rfl rfl (wg rfl rfl rfl g25) (r_pick rfl rfl g28) ?_
              refine F.q rfl rfl rfl (wanted_none rfl) (r_pickf rfl rfl g25) ?_
              refine F.nil ?_
              cases hE_2
              refine Nrm.only [1, 10, 11, 12, 38] rfl ?_
              refine Nrm.pick [0] rfl rfl ?_
              exact hj_1 _ _ ⟨rfl, rfl⟩
            · replace hE_2 := if_ff g28 hE_2
              refine Tri.reg (l := [0, 1, 2, 3, 4, 5, 6, 7, 8, 9, 10, 11, 12, 13, 14, 15, 16, 17, 18, 19, 20, 21]) rfl ?_
              refine F.q rfl rfl rfl (wanted_none rfl) (r_move rfl) ?_
              refine F.q rfl rfl rfl (wanted_none rfl) (r_fieldAddr tf39_0 rfl) ?_
              refine F.q rfl rfl rfl (wanted_none rfl) (r_fieldAddr tf37_1 rfl) ?_
              refine F.q rfl rfl rfl (wanted_none rfl) (r_load ta29 rfl (fun w hw => cell_2 (box_cells (i := 0) rfl w hw) rfl)) ?_
              refine F.q rfl rfl rfl (wanted_none rfl) (r_len Try.underlying29 rfl hl_va0_1) ?_
              refine F.q rfl rfl rfl (wanted_none rfl) (r_sub rfl rfl) ?_
              refine F.qc rfl rfl rfl (wanted_none rfl) (q_callF (xs := _) rfl ok83 rfl rfl (fun w hw => impl_within.ok h23 w )) ?_
              refine F.q rfl rfl rfl (wanted_none rfl) (r_not rfl) ?_
              refine F.q rfl rfl rfl (wanted_none rfl) (r_move rfl) ?_
              refine F.q rfl rfl rfl (wg rfl rfl rfl g25) (r_move rfl) ?_
              refine F.q rfl rfl rfl (wg rfl rfl rfl g25) (r_gtr rfl rfl) ?_
              refine F.q rfl rfl rfl (wg rfl rfl rfl g25) (r_move rfl) ?_
              refine F.sk rfl rfl rfl (wf rfl rfl rfl g28) ?_
              refine F.sk rfl rfl rfl (wf rfl rfl rfl g28) ?_
              refine F.sk rfl rfl rfl (wf rfl rfl rfl g28) ?_
              refine F.sk rfl rfl rfl (wf rfl rfl rfl g28) ?_
              refine F.sk rfl rfl rfl (wf rfl rfl rfl g28) ?_
              refine F.sk rfl rfl rfl (wf rfl rfl rfl g28) ?_
              refine F.sk rfl rfl rfl (wf rfl rfl rfl g28) ?_
              refine F.sk rfl rfl rfl (wf rfl rfl rfl g28) ?_
              refine F.q rfl rfl rfl (wg rfl rfl rfl g25) (r_pickf rfl rfl g28) ?_
              refine F.q rfl rfl rfl (wanted_none rfl) (r_pickf rfl rfl g25) ?_
              refine F.nil ?_
              cases hE_2
              refine Nrm.only [1, 10, 11, 12, 38] rfl ?_
              refine Nrm.pick [0] rfl rfl ?_
              exact hj_1 _ _ ⟨rfl, rfl⟩
      · replace hE_1 := if_ff g_2 hE_1
        refine Tri.exit ?_
        refine Exi.then ?_
        refine Exi.then ?_
        refine Exi.same ?_
        cases hE_1
        replace h := Lr_inl h
        refine Nrm.seq ?_
        refine Tri.seq ?_
        refine Tri.reg (l := [0]) rfl ?_
        refine F.q rfl rfl rfl (wanted_none rfl) (r_assign rfl) ?_
        refine F.nil ?_
        refine Nrm.seq ?_
        refine Tri.ret ?_
        cases h
        exact Rtn.body (.tmp rfl .nil) (fun w hw => ⟨rfl, hw.ext⟩)

end Go.Proofs

/- loop.example/g01158/laws.eqIntS -/

namespace Go.Proofs
open Go Go.Ga
set_option linter.unusedVariables false
set_option maxRecDepth 100000
set_option maxHeartbeats 4000000
def laws_eqIntS.l0 (k : Nat) (a0 : List Int) (a1 : List Int) : Nat → Int → Option ((Unit) ⊕ (Bool))
  | 0, _ => none
  | n + 1, x5 => (if (decide (x5 < (a0.length : Int))) = true then (rdl a0 x5).bind fun t19 => (rdl a1 x5).bind fun t23 => (if (t19 != t23) = true then some (Sum.inr false) else laws_eqIntS.l0 k a0 a1 n (w64 (x5 + 1))) else some (Sum.inl ()))

def laws_eqIntS.f (k : Nat) (a0 : List Int) (a1 : List Int) : Option (Bool) := (if ((a0.length : Int) != (a1.length : Int)) = true then some false else (laws_eqIntS.l0 k a0 a1 k 0).bind fun s => Lr s some fun _ => some true)

theorem laws_eqIntS.ok {k : Nat}  {a0 : List Int} {a1 : List Int} {r0 : Bool} (h : laws_eqIntS.f k a0 a1 = some r0) (w : World) {va0 : Value} {va1 : Value} (hr_a0 : Rd w va0 a0) (hr_a1 : Rd w va1 a1) :
    Calls Try.prog 47 ([va0, va1] : List Value).toArray w (fun e w' => e = .returned (.bool r0) ∧ Ext w w') := by
  unfold laws_eqIntS.f at h
  have hl_va0 := hr_a0.len
  have hl_va1 := hr_a1.len
  refine Calls.of_tri (N := 26) Try.func47 rfl rfl rfl (Sep.nil (M := noM)) ?_
  refine Tri.seq ?_
  refine Tri.reg (l := [0]) rfl ?_
  refine F.q rfl rfl rfl (wanted_none rfl) (r_assign rfl) ?_
  refine F.nil ?_
  refine Nrm.seq ?_
  refine Tri.seq ?_
  refine Tri.seq ?_
  refine Tri.reg (l := [0, 1, 2, 3, 4]) rfl ?_
  refine F.q rfl rfl rfl (wanted_none rfl) (r_move rfl) ?_
  refine F.q rfl rfl rfl (wanted_none rfl) (r_len Try.underlying30 rfl hl_va0) ?_
  refine F.q rfl rfl rfl (wanted_none rfl) (r_move rfl) ?_
  refine F.q rfl rfl rfl (wanted_none rfl) (r_len Try.underlying30 rfl hl_va1) ?_
  refine F.q rfl rfl rfl (wanted_none rfl) (r_neq rfl rfl) ?_
  refine F.nil ?_
  refine Nrm.seq ?_
  refine Tri.cond (b := (a0.length : Int) != (a1.length : Int)) rfl (fun g_1 => ?_) (fun g_1 => ?_)
  · replace h := if_tt g_1 h
    refine Tri.seq ?_
    refine Tri.reg (l := [0]) rfl ?_
    refine F.q rfl rfl rfl (wanted_none rfl) (r_assign rfl) ?_
    refine F.nil ?_
    refine Nrm.seq ?_
    refine Tri.ret ?_
    refine Rtn.then ?_
    cases h
    exact Rtn.body (.tmp rfl .nil) (fun w hw => ⟨rfl, hw.ext⟩)
  · replace h := if_ff g_1 h
    refine Tri.skip ?_
    refine Nrm.seq ?_
    refine Tri.seq ?_
    refine Tri.seq ?_
    refine Tri.reg (l := [0]) rfl ?_
    refine F.q rfl rfl rfl (wanted_none rfl) (r_assign rfl) ?_
    refine F.nil ?_
    refine Nrm.seq ?_
    obtain ⟨s0, hE_1, h⟩ := bind_some h
    refine Tri.block ?_
    refine Tri.only [0, 1, 5] rfl ?_
    refine Tri.pick [] rfl rfl ?_
    refine Tri.rounds (fun n e' C' => ∃ (x5' : Int), laws_eqIntS.l0 k a0 a1 n x5' = some s0 ∧ e' = [(0, va0), (1, va1), (5, .int .i64 x5')] ∧ C' = Sep w noM []) k ?_ ?_ ?_
    · exact ⟨0, hE_1, rfl, rfl⟩
    · rintro _ _ ⟨_, hE_1, _⟩
      rw [laws_eqIntS.l0.eq_1] at hE_1; cases hE_1
    · rintro n_1 _ _ ⟨x5, hE_1, rfl, rfl⟩ ih_1
      rw [laws_eqIntS.l0.eq_2] at hE_1
      refine Tri.seq ?_
      refine Tri.seq ?_
      refine Tri.reg (l := [0, 1, 2, 3]) rfl ?_
      refine F.q rfl rfl rfl (wanted_none rfl) (r_move rfl) ?_
      refine F.q rfl rfl rfl (wanted_none rfl) (r_move rfl) ?_
      refine F.q rfl rfl rfl (wanted_none rfl) (r_len Try.underlying30 rfl hl_va0) ?_
      refine F.q rfl rfl rfl (wanted_none rfl) (r_lss rfl rfl) ?_
      refine F.nil ?_
      refine Nrm.seq ?_
      refine Tri.cond (b := decide (x5 < (a0.length : Int))) rfl (fun g_2 => ?_) (fun g_2 => ?_)
      · replace hE_1 := if_tt g_2 hE_1
        refine Tri.skip ?_
        refine Nrm.seq ?_
        refine Tri.seq ?_
        refine Tri.block ?_
        refine Tri.seq ?_
        obtain ⟨t19, h19, hE_1⟩ := bind_some hE_1
        obtain ⟨t23, h23, hE_1⟩ := bind_some hE_1
        refine Tri.drawA mixedT Sep.up [(0, true), (1, true), (2, true), (3, true), (4, true), (5, true), (6, true), (7, true), (8, true)] [] (by kernel_rfl) ?_
        refine S.q rfl rfl rfl (wanted_none rfl) (r_move rfl) ?_
        refine S.q rfl rfl rfl (wanted_none rfl) (r_move rfl) ?_
        refine S.q rfl rfl rfl (wanted_none rfl) (r_indexAddrS Try.underlying30 ti3 rfl hl_va0 rfl (rdl_some h19).1 (rdl_some h19).2.1) ?_
        refine S.q rfl rfl rfl (wanted_none rfl) (r_load ta3 rfl (fun w hw => cell_0 (Rd.flat ((fun _ hw => hr_a0.sep hw) w hw) (rdl_some h19).2.2) rfl)) ?_
        refine S.q rfl rfl rfl (wanted_none rfl) (r_move rfl) ?_
        refine S.q rfl rfl rfl (wanted_none rfl) (r_move rfl) ?_
        refine S.q rfl rfl rfl (wanted_none rfl) (r_indexAddrS Try.underlying30 ti3 rfl hl_va1 rfl (rdl_some h23).1 (rdl_some h23).2.1) ?_
        refine S.q rfl rfl rfl (wanted_none rfl) (r_load ta3 rfl (fun w hw => cell_0 (Rd.flat ((fun _ hw => hr_a1.sep hw) w hw) (rdl_some h23).2.2) rfl)) ?_
        refine S.q rfl rfl rfl (wanted_none rfl) (r_neq rfl rfl) ?_
        refine S.nil ?_
        refine F.nil ?_
        refine Nrm.seq ?_
        refine Tri.cond (b := t19 != t23) rfl (fun g_3 => ?_) (fun g_3 => ?_)
        · replace hE_1 := if_tt g_3 hE_1
          refine Tri.seq ?_
          refine Tri.reg (l := [0]) rfl ?_
          refine F.q rfl rfl rfl (wanted_none rfl) (r_assign rfl) ?_
          refine F.nil ?_
          refine Nrm.seq ?_
          refine Tri.ret ?_
          refine Rtn.block ?_
          refine Rtn.then ?_
          refine Rtn.then ?_
          refine Rtn.block ?_
          refine Rtn.then ?_
          cases hE_1
          replace h := Lr_inr h
          cases h
          exact Rtn.body (.tmp rfl .nil) (fun w hw => ⟨rfl, hw.ext⟩)
        · replace hE_1 := if_ff g_3 hE_1
          refine Tri.skip ?_
          refine Nrm.block ?_
          refine Nrm.seq ?_
          refine Tri.reg (l := [0, 1, 2]) rfl ?_
          refine F.q rfl rfl rfl (wanted_none rfl) (r_move rfl) ?_
          refine F.q rfl rfl rfl (wanted_none rfl) (r_add rfl rfl) ?_
          refine F.q rfl rfl rfl (wanted_none rfl) (r_assign rfl) ?_
          refine F.nil ?_
          refine Nrm.round ?_
          refine Rnd.only [0, 1, 5] rfl ?_
          refine Rnd.pick [] rfl rfl ?_
          exact ih_1 _ _ ⟨w64 (x5 + 1), hE_1, rfl, rfl⟩
      · replace hE_1 := if_ff g_2 hE_1
        refine Tri.exit ?_
        refine Exi.then ?_
        refine Exi.then ?_
        refine Exi.same ?_
        cases hE_1
        replace h := Lr_inl h
        refine Nrm.seq ?_
        refine Tri.seq ?_
        refine Tri.reg (l := [0]) rfl ?_
        refine F.q rfl rfl rfl (wanted_none rfl) (r_assign rfl) ?_
        refine F.nil ?_
        refine Nrm.seq ?_
        refine Tri.ret ?_
        cases h
        exact Rtn.body (.tmp rfl .nil) (fun w hw => ⟨rfl, hw.ext⟩)

end Go.Proofs

/- loop.example/g01158/laws.eqIntA3 -/

namespace Go.Proofs
open Go Go.Ga
set_option linter.unusedVariables false
set_option maxRecDepth 100000
set_option maxHeartbeats 4000000
def laws_eqIntA3.l0 (k : Nat) (a0_0 : Int) (a0_1 : Int) (a0_2 : Int) (a1_0 : Int) (a1_1 : Int) (a1_2 : Int) : Nat → Int → Option ((Unit) ⊕ (Bool))
  | 0, _ => none
  | n + 1, x5 => (if (decide (x5 < 3)) = true then (rdl [a0_0, a0_1, a0_2] x5).bind fun t11 => (rdl [a1_0, a1_1, a1_2] x5).bind fun t14 => (if (t11 != t14) = true then some (Sum.inr false) else laws_eqIntA3.l0 k a0_0 a0_1 a0_2 a1_0 a1_1 a1_2 n (w64 (x5 + 1))) else some (Sum.inl ()))

def laws_eqIntA3.f (k : Nat) (a0_0 : Int) (a0_1 : Int) (a0_2 : Int) (a1_0 : Int) (a1_1 : Int) (a1_2 : Int) : Option (Bool) := (laws_eqIntA3.l0 k a0_0 a0_1 a0_2 a1_0 a1_1 a1_2 k 0).bind fun s => Lr s some fun _ => some true

theorem laws_eqIntA3.ok {k : Nat}  {a0_0 : Int} {a0_1 : Int} {a0_2 : Int} {a1_0 : Int} {a1_1 : Int} {a1_2 : Int} {r0 : Bool} (h : laws_eqIntA3.f k a0_0 a0_1 a0_2 a1_0 a1_1 a1_2 = some r0) (w : World) :
    Calls Try.prog 152 ([.agg ([.int .i64 a0_0, .int .i64 a0_1, .int .i64 a0_2].toArray), .agg ([.int .i64 a1_0, .int .i64 a1_1, .int .i64 a1_2].toArray)] : List Value).toArray w (fun e w' => e = .returned (.bool r0) ∧ Ext w w') := by
  unfold laws_eqIntA3.f at h
  refine Calls.of_tri (N := 17) Try.func152 rfl rfl rfl (Sep.nil (M := noM)) ?_
  refine Tri.seq ?_
  refine Tri.reg (l := [0, 1, 2]) rfl ?_
  refine F.m rfl rfl rfl (wanted_none rfl) (m_boxG rfl rfl) ?_
  rintro _ _ ⟨b2_1, rfl, rfl⟩
  refine F.m rfl rfl rfl (wanted_none rfl) (m_boxG rfl rfl) ?_
  rintro _ _ ⟨b3_1, rfl, rfl⟩
  refine F.q rfl rfl rfl (wanted_none rfl) (r_assign rfl) ?_
  refine F.nil ?_
  refine Nrm.seq ?_
  refine Tri.seq ?_
  refine Tri.seq ?_
  refine Tri.reg (l := [0]) rfl ?_
  refine F.q rfl rfl rfl (wanted_none rfl) (r_assign rfl) ?_
  refine F.nil ?_
  refine Nrm.seq ?_
  obtain ⟨s0, hE_1, h⟩ := bind_some h
  refine Tri.block ?_
  refine Tri.only [2, 3, 5] rfl ?_
  refine Tri.pick [0, 1] rfl rfl ?_
  refine Tri.rounds (fun n e' C' => ∃ (x5' : Int), laws_eqIntA3.l0 k a0_0 a0_1 a0_2 a1_0 a1_1 a1_2 n x5' = some s0 ∧ e' = [(2, .pointer (some ⟨b2_1, 0, none⟩)), (3, .pointer (some ⟨b3_1, 0, none⟩)), (5, .int .i64 x5')] ∧ C' = Sep w noM [R.box b3_1 145 [.int .i64 a1_0, .int .i64 a1_1, .int .i64 a1_2], R.box b2_1 145 [.int .i64 a0_0, .int .i64 a0_1, .int .i64 a0_2]]) k ?_ ?_ ?_
  · exact ⟨0, hE_1, rfl, rfl⟩
  · rintro _ _ ⟨_, hE_1, _⟩
    rw [laws_eqIntA3.l0.eq_1] at hE_1; cases hE_1
  · rintro n_1 _ _ ⟨x5, hE_1, rfl, rfl⟩ ih_1
    rw [laws_eqIntA3.l0.eq_2] at hE_1
    refine Tri.seq ?_
    refine Tri.seq ?_
    refine Tri.reg (l := [0, 1]) rfl ?_
    refine F.q rfl rfl rfl (wanted_none rfl) (r_move rfl) ?_
    refine F.q rfl rfl rfl (wanted_none rfl) (r_lss rfl rfl) ?_
    refine F.nil ?_
    refine Nrm.seq ?_
    refine Tri.cond (b := decide (x5 < 3)) rfl (fun g_1 => ?_) (fun g_1 => ?_)
    · replace hE_1 := if_tt g_1 hE_1
      refine Tri.skip ?_
      refine Nrm.seq ?_
      refine Tri.seq ?_
      refine Tri.block ?_
      refine Tri.seq ?_
      obtain ⟨t11, h11, hE_1⟩ := bind_some hE_1
      obtain ⟨t14, h14, hE_1⟩ := bind_some hE_1
      refine Tri.drawA mixedT Sep.up [(0, true), (1, true), (2, true), (3, true), (4, true), (5, true), (6, true)] [] (by kernel_rfl) ?_
      refine S.q rfl rfl rfl (wanted_none rfl) (r_move rfl) ?_
      refine S.q rfl rfl rfl (wanted_none rfl) (r_indexAddrA Try.underlying145 ti3 rfl rfl (rdl_some h11).1 (rdl_some h11).2.1) ?_
      refine S.q rfl rfl rfl (wanted_none rfl) (r_load ta3 rfl (fun w hw => cell_dynB (box_cells (i := 1) rfl w hw) rfl h11)) ?_
      refine S.q rfl rfl rfl (wanted_none rfl) (r_move rfl) ?_
      refine S.q rfl rfl rfl (wanted_none rfl) (r_indexAddrA Try.underlying145 ti3 rfl rfl (rdl_some h14).1 (rdl_some h14).2.1) ?_
      refine S.q rfl rfl rfl (wanted_none rfl) (r_load ta3 rfl (fun w hw => cell_dynB (box_cells (i := 0) rfl w hw) rfl h14)) ?_
      refine S.q rfl rfl rfl (wanted_none rfl) (r_neq rfl rfl) ?_
      refine S.nil ?_
      refine F.nil ?_
      refine Nrm.seq ?_
      refine Tri.cond (b := t11 != t14) rfl (fun g_2 => ?_) (fun g_2 => ?_)
      · replace hE_1 := if_tt g_2 hE_1
        refine Tri.seq ?_
        refine Tri.reg (l := [0]) rfl ?_
        refine F.q rfl rfl rfl (wanted_none rfl) (r_assign rfl) ?_
        refine F.nil ?_
        refine Nrm.seq ?_
        refine Tri.ret ?_
        refine Rtn.block ?_
        refine Rtn.then ?_
        refine Rtn.then ?_
        refine Rtn.block ?_
        refine Rtn.then ?_
        cases hE_1
        replace h := Lr_inr h
        cases h
        exact Rtn.body (.tmp rfl .nil) (fun w hw => ⟨rfl, hw.ext⟩)
      · replace hE_1 := if_ff g_2 hE_1
        refine Tri.skip ?_
        refine Nrm.block ?_
        refine Nrm.seq ?_
        refine Tri.reg (l := [0, 1, 2]) rfl ?_
        refine F.q rfl rfl rfl (wanted_none rfl) (r_move rfl) ?_
        refine F.q rfl rfl rfl (wanted_none rfl) (r_add rfl rfl) ?_
        refine F.q rfl rfl rfl (wanted_none rfl) (r_assign rfl) ?_
        refine F.nil ?_
        refine Nrm.round ?_
        refine Rnd.only [2, 3, 5] rfl ?_
        refine Rnd.pick [0, 1] rfl rfl ?_
        exact ih_1 _ _ ⟨w64 (x5 + 1), hE_1, rfl, rfl⟩
    · replace hE_1 := if_ff g_1 hE_1
      refine Tri.exit ?_
      refine Exi.then ?_
      refine Exi.then ?_
      refine Exi.same ?_
      cases hE_1
      replace h := Lr_inl h
      refine Nrm.seq ?_
      refine Tri.seq ?_
      refine Tri.reg (l := [0]) rfl ?_
      refine F.q rfl rfl rfl (wanted_none rfl) (r_assign rfl) ?_
      refine F.nil ?_
      refine Nrm.seq ?_
      refine Tri.ret ?_
      cases h
      exact Rtn.body (.tmp rfl .nil) (fun w hw => ⟨rfl, hw.ext⟩)

end Go.Proofs

/- loop.example/g01158/laws.eqIntA3S -/
namespace Go.Proofs
open Go Go.Ga
set_option linter.unusedVariables false
set_option maxRecDepth 100000
set_option maxHeartbeats 4000000
def laws_eqIntA3S.l0 (k : Nat) (a0 : List (Int × Int × Int)) (a1 : List (Int × Int × Int)) : Nat → Int → Option ((Unit) ⊕ (Bool))
  | 0, _ => none
  | n + 1, x5 => (if (decide (x5 < (a0.length : Int))) = true then (rdl a0 x5).bind fun t19 => (rdl a1 x5).bind fun t23 => (laws_eqIntA3.f k t19.1 t19.2.1 t19.2.2 t23.1 t23.2.1 t23.2.2).bind fun t25 => (if (!t25) = true then some (Sum.inr false) else laws_eqIntA3S.l0 k a0 a1 n (w64 (x5 + 1))) else some (Sum.inl ()))

def laws_eqIntA3S.f (k : Nat) (a0 : List (Int × Int × Int)) (a1 : List (Int × Int × Int)) : Option (Bool) := (if ((a0.length : Int) != (a1.length : Int)) = true then some false else (laws_eqIntA3S.l0 k a0 a1 k 0).bind fun s => Lr s some fun _ => some true)

theorem laws_eqIntA3S.ok {k : Nat}  {a0 : List (Int × Int × Int)} {a1 : List (Int × Int × Int)} {r0 : Bool} (h : laws_eqIntA3S.f k a0 a1 = some r0) (w : World) {va0 : Value} {va1 : Value} (hr_a0 : Rd w va0 a0) (hr_a1 : Rd w va1 a1) :
    Calls Try.prog 91 ([va0, va1] : List Value).toArray w (fun e w' => e = .returned (.bool r0) ∧ Ext w w') := by
  unfold laws_eqIntA3S.f at h
  have hl_va0 := hr_a0.len
  have hl_va1 := hr_a1.len
  refine Calls.of_tri (N := 27) Try.func91 rfl rfl rfl (Sep.nil (M := noM)) ?_
  refine Tri.seq ?_
  refine Tri.reg (l := [0]) rfl ?_
  refine F.q rfl rfl rfl (wanted_none rfl) (r_assign rfl) ?_
  refine F.nil ?_
  refine Nrm.seq ?_
  refine Tri.seq ?_
  refine Tri.seq ?_
  refine Tri.reg (l := [0, 1, 2, 3, 4]) rfl ?_
  refine F.q rfl rfl rfl (wanted_none rfl) (r_move rfl) ?_
  refine F.q rfl rfl rfl (wanted_none rfl) (r_len Try.underlying29 rfl hl_va0) ?_
  refine F.q rfl rfl rfl (wanted_none rfl) (r_move rfl) ?_
  refine F.q rfl rfl rfl (wanted_none rfl) (r_len Try.underlying29 rfl hl_va1) ?_
  refine F.q rfl rfl rfl (wanted_none rfl) (r_neq rfl rfl) ?_
  refine F.nil ?_
  refine Nrm.seq ?_
  refine Tri.cond (b := (a0.length : Int) != (a1.length : Int)) rfl (fun g_1 => ?_) (fun g_1 => ?_)
  · replace h := if_tt g_1 h
    refine Tri.seq ?_
    refine Tri.reg (l := [0]) rfl ?_
    refine F.q rfl rfl rfl (wanted_none rfl) (r_assign rfl) ?_
    refine F.nil ?_
    refine Nrm.seq ?_
    refine Tri.ret ?_
    refine Rtn.then ?_
    cases h
    exact Rtn.body (.tmp rfl .nil) (fun w hw => ⟨rfl, hw.ext⟩)
  · replace h := if_ff g_1 h
    refine Tri.skip ?_
    refine Nrm.seq ?_
    refine Tri.seq ?_
    refine Tri.seq ?_
    refine Tri.reg (l := [0]) rfl ?_
    refine F.q rfl rfl rfl (wanted_none rfl) (r_assign rfl) ?_
    refine F.nil ?_
    refine Nrm.seq ?_
    obtain ⟨s0, hE_1, h⟩ := bind_some h
    refine Tri.block ?_
    refine Tri.only [0, 1, 5] rfl ?_
    refine Tri.pick [] rfl rfl ?_
    refine Tri.rounds (fun n e' C' => ∃ (x5' : Int), laws_eqIntA3S.l0 k a0 a1 n x5' = some s0 ∧ e' = [(0, va0), (1, va1), (5, .int .i64 x5')] ∧ C' = Sep w noM []) k ?_ ?_ ?_
    · exact ⟨0, hE_1, rfl, rfl⟩
    · rintro _ _ ⟨_, hE_1, _⟩
      rw [laws_eqIntA3S.l0.eq_1] at hE_1; cases hE_1
    · rintro n_1 _ _ ⟨x5, hE_1, rfl, rfl⟩ ih_1
      rw [laws_eqIntA3S.l0.eq_2] at hE_1
      refine Tri.seq ?_
      refine Tri.seq ?_
      refine Tri.reg (l := [0, 1, 2, 3]) rfl ?_
      refine F.q rfl rfl rfl (wanted_none rfl) (r_move rfl) ?_
      refine F.q rfl rfl rfl (wanted_none rfl) (r_move rfl) ?_
      refine F.q rfl rfl rfl (wanted_none rfl) (r_len Try.underlying29 rfl hl_va0) ?_
      refine F.q rfl rfl rfl (wanted_none rfl) (r_lss rfl rfl) ?_
      refine F.nil ?_
      refine Nrm.seq ?_
      refine Tri.cond (b := decide (x5 < (a0.length : Int))) rfl (fun g_2 => ?_) (fun g_2 => ?_)
      · replace hE_1 := if_tt g_2 hE_1
        refine Tri.skip ?_
        refine Nrm.seq ?_
        refine Tri.seq ?_
        refine Tri.block ?_
        refine Tri.seq ?_
        obtain ⟨t19, h19, hE_1⟩ := bind_some hE_1
        obtain ⟨t23, h23, hE_1⟩ := bind_some hE_1
        obtain ⟨t25, h25, hE_1⟩ := bind_some hE_1
        refine Tri.drawA mixedT Sep.up [(0, true), (1, true), (2, true), (3, true), (4, true), (5, true), (6, true), (7, true), (8, true), (9, true)] [] (by kernel_rfl) ?_
        refine S.q rfl rfl rfl (wanted_none rfl) (r_move rfl) ?_
        refine S.q rfl rfl rfl (wanted_none rfl) (r_move rfl) ?_
        refine S.q rfl rfl rfl (wanted_none rfl) (r_indexAddrS Try.underlying29 ti145 rfl hl_va0 rfl (rdl_some h19).1 (rdl_some h19).2.1) ?_
        refine S.q rfl rfl rfl (wanted_none rfl) (r_loadA ta145 ti145 rfl rfl (fun w hw => (Rd.flat ((fun _ hw => hr_a0.sep hw) w hw) (rdl_some h19).2.2))) ?_
        refine S.q rfl rfl rfl (wanted_none rfl) (r_move rfl) ?_
        refine S.q rfl rfl rfl (wanted_none rfl) (r_move rfl) ?_
        refine S.q rfl rfl rfl (wanted_none rfl) (r_indexAddrS Try.underlying29 ti145 rfl hl_va1 rfl (rdl_some h23).1 (rdl_some h23).2.1) ?_
        refine S.q rfl rfl rfl (wanted_none rfl) (r_loadA ta145 ti145 rfl rfl (fun w hw => (Rd.flat ((fun _ hw => hr_a1.sep hw) w hw) (rdl_some h23).2.2))) ?_
        refine S.qc rfl rfl rfl (wanted_none rfl) (q_callF (xs := _) rfl ok152 rfl rfl (fun w hw => laws_eqIntA3.ok h25 w )) ?_
        refine S.q rfl rfl rfl (wanted_none rfl) (r_not rfl) ?_
        refine S.nil ?_
        refine F.nil ?_
        refine Nrm.seq ?_
        refine Tri.cond (b := !t25) rfl (fun g_3 => ?_) (fun g_3 => ?_)
        · replace hE_1 := if_tt g_3 hE_1
          refine Tri.seq ?_
          refine Tri.reg (l := [0]) rfl ?_
          refine F.q rfl rfl rfl (wanted_none rfl) (r_assign rfl) ?_
          refine F.nil ?_
          refine Nrm.seq ?_
          refine Tri.ret ?_
          refine Rtn.block ?_
          refine Rtn.then ?_
          refine Rtn.then ?_
          refine Rtn.block ?_
          refine Rtn.then ?_
          cases hE_1
          replace h := Lr_inr h
          cases h
          exact Rtn.body (.tmp rfl .nil) (fun w hw => ⟨rfl, hw.ext⟩)
        · replace hE_1 := if_ff g_3 hE_1
          refine Tri.skip ?_
          refine Nrm.block ?_
          refine Nrm.seq ?_
          refine Tri.reg (l := [0, 1, 2]) rfl ?_
          refine F.q rfl rfl rfl (wanted_none rfl) (r_move rfl) ?_
          refine F.q rfl rfl rfl (wanted_none rfl) (r_add rfl rfl) ?_
          refine F.q rfl rfl rfl (wanted_none rfl) (r_assign rfl) ?_
          refine F.nil ?_
          refine Nrm.round ?_
          refine Rnd.only [0, 1, 5] rfl ?_
          refine Rnd.pick [] rfl rfl ?_
          exact ih_1 _ _ ⟨w64 (x5 + 1), hE_1, rfl, rfl⟩
      · replace hE_1 := if_ff g_2 hE_1
        refine Tri.exit ?_
        refine Exi.then ?_
        refine Exi.then ?_
        refine Exi.same ?_
        cases hE_1
        replace h := Lr_inl h
        refine Nrm.seq ?_
        refine Tri.seq ?_
        refine Tri.reg (l := [0]) rfl ?_
        refine F.q rfl rfl rfl (wanted_none rfl) (r_assign rfl) ?_
        refine F.nil ?_
        refine Nrm.seq ?_
        refine Tri.ret ?_
        cases h
        exact Rtn.body (.tmp rfl .nil) (fun w hw => ⟨rfl, hw.ext⟩)

end Go.Proofs

/- loop.example/g01158/laws.eqMaze -/
namespace Go.Proofs
open Go Go.Ga
set_option linter.unusedVariables false
set_option maxRecDepth 100000
set_option maxHeartbeats 4000000
def laws_eqMaze.f (k : Nat) (a0_0 : Int) (a0_1 : List (Int × Int × Int)) (a0_2 : List Int) (a1_0 : Int) (a1_1 : List (Int × Int × Int)) (a1_2 : List Int) : Option (Bool) := (if (a0_0 != a1_0) = true then some false else (laws_eqIntA3S.f k a0_1 a1_1).bind fun t14 => (if (!t14) = true then some false else (laws_eqIntS.f k a0_2 a1_2).bind fun t20 => (if (!t20) = true then some false else some true)))

theorem laws_eqMaze.ok {k : Nat}  {a0_0 : Int} {a0_1 : List (Int × Int × Int)} {a0_2 : List Int} {a1_0 : Int} {a1_1 : List (Int × Int × Int)} {a1_2 : List Int} {r0 : Bool} (h : laws_eqMaze.f k a0_0 a0_1 a0_2 a1_0 a1_1 a1_2 = some r0) (w : World) {va0_1 : Value} {va0_2 : Value} {va1_1 : Value} {va1_2 : Value} (hr_a0_1 : Rd w va0_1 a0_1) (hr_a0_2 : Rd w va0_2 a0_2) (hr_a1_1 : Rd w va1_1 a1_1) (hr_a1_2 : Rd w va1_2 a1_2) :
    Calls Try.prog 33 ([.agg ([.int .i64 a0_0, va0_1, va0_2].toArray), .agg ([.int .i64 a1_0, va1_1, va1_2].toArray)] : List Value).toArray w (fun e w' => e = .returned (.bool r0) ∧ Ext w w') := by
  unfold laws_eqMaze.f at h
  have hl_va0_1 := hr_a0_1.len
  have hl_va0_2 := hr_a0_2.len
  have hl_va1_1 := hr_a1_1.len
  have hl_va1_2 := hr_a1_2.len
  refine Calls.of_tri (N := 22) Try.func33 rfl rfl rfl (Sep.nil (M := noM)) ?_
  refine Tri.seq ?_
  refine Tri.reg (l := [0, 1, 2]) rfl ?_
  refine F.m rfl rfl rfl (wanted_none rfl) (m_boxG rfl rfl) ?_
  rintro _ _ ⟨b2_1, rfl, rfl⟩
  refine F.m rfl rfl rfl (wanted_none rfl) (m_boxG rfl rfl) ?_
  rintro _ _ ⟨b3_1, rfl, rfl⟩
  refine F.q rfl rfl rfl (wanted_none rfl) (r_assign rfl) ?_
  refine F.nil ?_
  refine Nrm.seq ?_
  refine Tri.seq ?_
  refine Tri.seq ?_
  refine Tri.reg (l := [0, 1, 2, 3, 4]) rfl ?_
  refine F.q rfl rfl rfl (wanted_none rfl) (r_fieldAddr tf37_0 rfl) ?_
  refine F.q rfl rfl rfl (wanted_none rfl) (r_load ta3 rfl (fun w hw => cell_1 (box_cells (i := 1) rfl w hw) rfl)) ?_
  refine F.q rfl rfl rfl (wanted_none rfl) (r_fieldAddr tf37_0 rfl) ?_
  refine F.q rfl rfl rfl (wanted_none rfl) (r_load ta3 rfl (fun w hw => cell_1 (box_cells (i := 0) rfl w hw) rfl)) ?_
  refine F.q rfl rfl rfl (wanted_none rfl) (r_neq rfl rfl) ?_
  refine F.nil ?_
  refine Nrm.seq ?_
  refine Tri.cond (b := a0_0 != a1_0) rfl (fun g_1 => ?_) (fun g_1 => ?_)
  · replace h := if_tt g_1 h
    refine Tri.seq ?_
    refine Tri.reg (l := [0]) rfl ?_
    refine F.q rfl rfl rfl (wanted_none rfl) (r_assign rfl) ?_
    refine F.nil ?_
    refine Nrm.seq ?_
    refine Tri.ret ?_
    refine Rtn.then ?_
    cases h
    exact Rtn.body (.tmp rfl .nil) (fun w hw => ⟨rfl, hw.ext⟩)
  · replace h := if_ff g_1 h
    refine Tri.skip ?_
    refine Nrm.seq ?_
    refine Tri.seq ?_
    refine Tri.seq ?_
    obtain ⟨t14, h14, h⟩ := bind_some h
    refine Tri.reg (l := [0, 1, 2, 3, 4, 5]) rfl ?_
    refine F.q rfl rfl rfl (wanted_none rfl) (r_fieldAddr tf37_1 rfl) ?_
    refine F.q rfl rfl rfl (wanted_none rfl) (r_load ta29 rfl (fun w hw => cell_1 (box_cells (i := 1) rfl w hw) rfl)) ?_
    refine F.q rfl rfl rfl (wanted_none rfl) (r_fieldAddr tf37_1 rfl) ?_
    refine F.q rfl rfl rfl (wanted_none rfl) (r_load ta29 rfl (fun w hw => cell_1 (box_cells (i := 0) rfl w hw) rfl)) ?_
    refine F.qc rfl rfl rfl (wanted_none rfl) (q_callF (xs := _) rfl ok91 rfl rfl (fun w hw => laws_eqIntA3S.ok h14 w ((fun _ hw => hr_a0_1.sep hw) w hw) ((fun _ hw => hr_a1_1.sep hw) w hw))) ?_
    refine F.q rfl rfl rfl (wanted_none rfl) (r_not rfl) ?_
    refine F.nil ?_
    refine Nrm.seq ?_
    refine Tri.cond (b := !t14) rfl (fun g_2 => ?_) (fun g_2 => ?_)
    · replace h := if_tt g_2 h
      refine Tri.seq ?_
      refine Tri.reg (l := [0]) rfl ?_
      refine F.q rfl rfl rfl (wanted_none rfl) (r_assign rfl) ?_
      refine F.nil ?_
      refine Nrm.seq ?_
      refine Tri.ret ?_
      refine Rtn.then ?_
      cases h
      exact Rtn.body (.tmp rfl .nil) (fun w hw => ⟨rfl, hw.ext⟩)
    · replace h := if_ff g_2 h
      refine Tri.skip ?_
      refine Nrm.seq ?_
      refine Tri.seq ?_
      refine Tri.seq ?_
      obtain ⟨t20, h20, h⟩ := bind_some h
      refine Tri.reg (l := [0, 1, 2, 3, 4, 5]) rfl ?_
      refine F.q rfl rfl rfl (wanted_none rfl) (r_fieldAddr tf37_2 rfl) ?_
      refine F.q rfl rfl rfl (wanted_none rfl) (r_load ta30 rfl (fun w hw => cell_1 (box_cells (i := 1) rfl w hw) rfl)) ?_
      refine F.q rfl rfl rfl (wanted_none rfl) (r_fieldAddr tf37_2 rfl) ?_
      refine F.q rfl rfl rfl (wanted_none rfl) (r_load ta30 rfl (fun w hw => cell_1 (box_cells (i := 0) rfl w hw) rfl)) ?_
      refine F.qc rfl rfl rfl (wanted_none rfl) (q_callF (xs := _) rfl ok47 rfl rfl (fun w hw => laws_eqIntS.ok h20 w ((fun _ hw => hr_a0_2.sep hw) w hw) ((fun _ hw => hr_a1_2.sep hw) w hw))) ?_
      refine F.q rfl rfl rfl (wanted_none rfl) (r_not rfl) ?_
      refine F.nil ?_
      refine Nrm.seq ?_
      refine Tri.cond (b := !t20) rfl (fun g_3 => ?_) (fun g_3 => ?_)
      · replace h := if_tt g_3 h
        refine Tri.seq ?_
        refine Tri.reg (l := [0]) rfl ?_
        refine F.q rfl rfl rfl (wanted_none rfl) (r_assign rfl) ?_
        refine F.nil ?_
        refine Nrm.seq ?_
        refine Tri.ret ?_
        refine Rtn.then ?_
        cases h
        exact Rtn.body (.tmp rfl .nil) (fun w hw => ⟨rfl, hw.ext⟩)
      · replace h := if_ff g_3 h
        refine Tri.skip ?_
        refine Nrm.seq ?_
        refine Tri.seq ?_
        refine Tri.reg (l := [0]) rfl ?_
        refine F.q rfl rfl rfl (wanted_none rfl) (r_assign rfl) ?_
        refine F.nil ?_
        refine Nrm.seq ?_
        refine Tri.ret ?_
        cases h
        exact Rtn.body (.tmp rfl .nil) (fun w hw => ⟨rfl, hw.ext⟩)

end Go.Proofs

/- loop.example/g01158/laws.eqTrap -/
namespace Go.Proofs
open Go Go.Ga
set_option linter.unusedVariables false
set_option maxRecDepth 100000
set_option maxHeartbeats 4000000
def laws_eqTrap.f (k : Nat) (a0_0 : Int) (a0_1 : List (Int × Int × Int)) (a0_2 : List Int) (a0_3 : List Int) (a1_0 : Int) (a1_1 : List (Int × Int × Int)) (a1_2 : List Int) (a1_3 : List Int) : Option (Bool) := (laws_eqMaze.f k a0_0 a0_1 a0_2 a1_0 a1_1 a1_2).bind fun t9 => (if (!t9) = true then some false else (laws_eqIntS.f k a0_3 a1_3).bind fun t15 => (if (!t15) = true then some false else some true))

theorem laws_eqTrap.ok {k : Nat}  {a0_0 : Int} {a0_1 : List (Int × Int × Int)} {a0_2 : List Int} {a0_3 : List Int} {a1_0 : Int} {a1_1 : List (Int × Int × Int)} {a1_2 : List Int} {a1_3 : List Int} {r0 : Bool} (h : laws_eqTrap.f k a0_0 a0_1 a0_2 a0_3 a1_0 a1_1 a1_2 a1_3 = some r0) (w : World) {va0_1 : Value} {va0_2 : Value} {va0_3 : Value} {va1_1 : Value} {va1_2 : Value} {va1_3 : Value} (hr_a0_1 : Rd w va0_1 a0_1) (hr_a0_2 : Rd w va0_2 a0_2) (hr_a0_3 : Rd w va0_3 a0_3) (hr_a1_1 : Rd w va1_1 a1_1) (hr_a1_2 : Rd w va1_2 a1_2) (hr_a1_3 : Rd w va1_3 a1_3) :
    Calls Try.prog 23 ([.agg ([.int .i64 a0_0, va0_1, va0_2, va0_3].toArray), .agg ([.int .i64 a1_0, va1_1, va1_2, va1_3].toArray)] : List Value).toArray w (fun e w' => e = .returned (.bool r0) ∧ Ext w w') := by
  unfold laws_eqTrap.f at h
  have hl_va0_1 := hr_a0_1.len
  have hl_va0_2 := hr_a0_2.len
  have hl_va0_3 := hr_a0_3.len
  have hl_va1_1 := hr_a1_1.len
  have hl_va1_2 := hr_a1_2.len
  have hl_va1_3 := hr_a1_3.len
  refine Calls.of_tri (N := 17) Try.func23 rfl rfl rfl (Sep.nil (M := noM)) ?_
  refine Tri.seq ?_
  refine Tri.reg (l := [0, 1, 2]) rfl ?_
  refine F.m rfl rfl rfl (wanted_none rfl) (m_boxG rfl rfl) ?_
  rintro _ _ ⟨b2_1, rfl, rfl⟩
  refine F.m rfl rfl rfl (wanted_none rfl) (m_boxG rfl rfl) ?_
  rintro _ _ ⟨b3_1, rfl, rfl⟩
  refine F.q rfl rfl rfl (wanted_none rfl) (r_assign rfl) ?_
  refine F.nil ?_
  refine Nrm.seq ?_
  refine Tri.seq ?_
  refine Tri.seq ?_
  obtain ⟨t9, h9, h⟩ := bind_some h
  refine Tri.reg (l := [0, 1, 2, 3, 4, 5]) rfl ?_
  refine F.q rfl rfl rfl (wanted_none rfl) (r_fieldAddr tf39_0 rfl) ?_
  refine F.q rfl rfl rfl (wanted_none rfl) (r_loadA ta37 ti37 rfl rfl (fun w hw => cells_1 (cs' := [.int .i64 a0_0, va0_1, va0_2]) (box_cells (i := 1) rfl w hw) rfl)) ?_
  refine F.q rfl rfl rfl (wanted_none rfl) (r_fieldAddr tf39_0 rfl) ?_
  refine F.q rfl rfl rfl (wanted_none rfl) (r_loadA ta37 ti37 rfl rfl (fun w hw => cells_1 (cs' := [.int .i64 a1_0, va1_1, va1_2]) (box_cells (i := 0) rfl w hw) rfl)) ?_
  refine F.qc rfl rfl rfl (wanted_none rfl) (q_callF (xs := _) rfl ok33 rfl rfl (fun w hw => laws_eqMaze.ok h9 w ((fun _ hw => hr_a0_1.sep hw) w hw) ((fun _ hw => hr_a0_2.sep hw) w hw) ((fun _ hw => hr_a1_1.sep hw) w hw) ((fun _ hw => hr_a1_2.sep hw) w hw))) ?_
  refine F.q rfl rfl rfl (wanted_none rfl) (r_not rfl) ?_
  refine F.nil ?_
  refine Nrm.seq ?_
  refine Tri.cond (b := !t9) rfl (fun g_1 => ?_) (fun g_1 => ?_)
  · replace h := if_tt g_1 h
    refine Tri.seq ?_
    refine Tri.reg (l := [0]) rfl ?_
    refine F.q rfl rfl rfl (wanted_none rfl) (r_assign rfl) ?_
    refine F.nil ?_
    refine Nrm.seq ?_
    refine Tri.ret ?_
    refine Rtn.then ?_
    cases h
    exact Rtn.body (.tmp rfl .nil) (fun w hw => ⟨rfl, hw.ext⟩)
  · replace h := if_ff g_1 h
    refine Tri.skip ?_
    refine Nrm.seq ?_
    refine Tri.seq ?_
    refine Tri.seq ?_
    obtain ⟨t15, h15, h⟩ := bind_some h
    refine Tri.reg (l := [0, 1, 2, 3, 4, 5]) rfl ?_
    refine F.q rfl rfl rfl (wanted_none rfl) (r_fieldAddr tf39_1 rfl) ?_
    refine F.q rfl rfl rfl (wanted_none rfl) (r_load ta30 rfl (fun w hw => cell_1 (box_cells (i := 1) rfl w hw) rfl)) ?_
    refine F.q rfl rfl rfl (wanted_none rfl) (r_fieldAddr tf39_1 rfl) ?_
    refine F.q rfl rfl rfl (wanted_none rfl) (r_load ta30 rfl (fun w hw => cell_1 (box_cells (i := 0) rfl w hw) rfl)) ?_
    refine F.qc rfl rfl rfl (wanted_none rfl) (q_callF (xs := _) rfl ok47 rfl rfl (fun w hw => laws_eqIntS.ok h15 w ((fun _ hw => hr_a0_3.sep hw) w hw) ((fun _ hw => hr_a1_3.sep hw) w hw))) ?_
    refine F.q rfl rfl rfl (wanted_none rfl) (r_not rfl) ?_
    refine F.nil ?_
    refine Nrm.seq ?_
    refine Tri.cond (b := !t15) rfl (fun g_2 => ?_) (fun g_2 => ?_)
    · replace h := if_tt g_2 h
      refine Tri.seq ?_
      refine Tri.reg (l := [0]) rfl ?_
      refine F.q rfl rfl rfl (wanted_none rfl) (r_assign rfl) ?_
      refine F.nil ?_
      refine Nrm.seq ?_
      refine Tri.ret ?_
      refine Rtn.then ?_
      cases h
      exact Rtn.body (.tmp rfl .nil) (fun w hw => ⟨rfl, hw.ext⟩)
    · replace h := if_ff g_2 h
      refine Tri.skip ?_
      refine Nrm.seq ?_
      refine Tri.seq ?_
      refine Tri.reg (l := [0]) rfl ?_
      refine F.q rfl rfl rfl (wanted_none rfl) (r_assign rfl) ?_
      refine F.nil ?_
      refine Nrm.seq ?_
      refine Tri.ret ?_
      cases h
      exact Rtn.body (.tmp rfl .nil) (fun w hw => ⟨rfl, hw.ext⟩)

end Go.Proofs

/- loop.example/g01158/laws.FnExactIsTrap -/
namespace Go.Proofs
open Go Go.Ga
set_option linter.unusedVariables false
set_option maxRecDepth 100000
set_option maxHeartbeats 4000000
def laws_FnExactIsTrap.f (k : Nat) (a0_0 : Int) (a0_1 : List (Int × Int × Int)) (a0_2 : List Int) (a0_3 : List Int) : Option (Bool) := (laws_szTrap.f k a0_0 a0_1 a0_2 a0_3 1048576).bind fun t9 => (if (decide (t9 < 0)) = true then some true else (laws_toTrap.f k a0_0 a0_1 a0_2 a0_3).bind fun (t13_1, t13_2, t13_3, t13_4) => (spec_IsTrap.f k t13_1 t13_2 t13_3 t13_4).bind fun t14 => (laws_toTrap.f k a0_0 a0_1 a0_2 a0_3).bind fun (t16_1, t16_2, t16_3, t16_4) => (impl_IsTrap.f k t16_1 t16_2 t16_3 t16_4).bind fun t18 => (if (t18 != t14) = true then some false else (laws_toTrap.f k a0_0 a0_1 a0_2 a0_3).bind fun (t24_1, t24_2, t24_3, t24_4) => (laws_eqTrap.f k t16_1 t16_2 t16_3 t16_4 t24_1 t24_2 t24_3 t24_4).bind fun t25 => (if (!t25) = true then some false else some true)))

theorem laws_FnExactIsTrap.ok {k : Nat}  {a0_0 : Int} {a0_1 : List (Int × Int × Int)} {a0_2 : List Int} {a0_3 : List Int} {r0 : Bool} (h : laws_FnExactIsTrap.f k a0_0 a0_1 a0_2 a0_3 = some r0) (w : World) {va0_1 : Value} {va0_2 : Value} {va0_3 : Value} (hr_a0_1 : Rd w va0_1 a0_1) (hr_a0_2 : Rd w va0_2 a0_2) (hr_a0_3 : Rd w va0_3 a0_3) :
    Calls Try.prog 4 ([.agg ([.int .i64 a0_0, va0_1, va0_2, va0_3].toArray)] : List Value).toArray w (fun e w' => e = .returned (.bool r0) ∧ Ext w w') := by
  unfold laws_FnExactIsTrap.f at h
  have hl_va0_1 := hr_a0_1.len
  have hl_va0_2 := hr_a0_2.len
  have hl_va0_3 := hr_a0_3.len
  refine Calls.of_tri (N := 27) Try.func4 rfl rfl rfl (Sep.nil (M := noM)) ?_
  refine Tri.seq ?_
  refine Tri.reg (l := [0, 1]) rfl ?_
  refine F.m rfl rfl rfl (wanted_none rfl) (m_boxG rfl rfl) ?_
  rintro _ _ ⟨b1_1, rfl, rfl⟩
  refine F.q rfl rfl rfl (wanted_none rfl) (r_assign rfl) ?_
  refine F.nil ?_
  refine Nrm.seq ?_
  refine Tri.seq ?_
  refine Tri.reg (l := [0]) rfl ?_
  refine F.q rfl rfl rfl (wanted_none rfl) (r_assign rfl) ?_
  refine F.nil ?_
  refine Nrm.seq ?_
  refine Tri.seq ?_
  obtain ⟨t9, h9, h⟩ := bind_some h
  refine Tri.reg (l := [0, 1, 2, 3]) rfl ?_
  refine F.q rfl rfl rfl (wanted_none rfl) (r_loadA ta34 ti34 rfl rfl (fun w hw => (box_cells (i := 0) rfl w hw))) ?_
  refine F.q rfl rfl rfl (wanted_none rfl) (r_move rfl) ?_
  refine F.qc rfl rfl rfl (wanted_none rfl) (q_callF (xs := _) rfl ok19 rfl rfl (fun w hw => laws_szTrap.ok h9 w ((fun _ hw => hr_a0_1.sep hw) w hw) ((fun _ hw => hr_a0_2.sep hw) w hw) ((fun _ hw => hr_a0_3.sep hw) w hw))) ?_
  refine F.q rfl rfl rfl (wanted_none rfl) (r_assign rfl) ?_
  refine F.nil ?_
  refine Nrm.seq ?_
  refine Tri.seq ?_
  refine Tri.seq ?_
  refine Tri.reg (l := [0, 1]) rfl ?_
  refine F.q rfl rfl rfl (wanted_none rfl) (r_move rfl) ?_
  refine F.q rfl rfl rfl (wanted_none rfl) (r_lss rfl rfl) ?_
  refine F.nil ?_
  refine Nrm.seq ?_
  refine Tri.cond (b := decide (t9 < 0)) rfl (fun g_1 => ?_) (fun g_1 => ?_)
  · replace h := if_tt g_1 h
    refine Tri.seq ?_
    refine Tri.reg (l := [0]) rfl ?_
    refine F.q rfl rfl rfl (wanted_none rfl) (r_assign rfl) ?_
    refine F.nil ?_
    refine Nrm.seq ?_
    refine Tri.ret ?_
    refine Rtn.then ?_
    cases h
    exact Rtn.body (.tmp rfl .nil) (fun w hw => ⟨rfl, hw.ext⟩)
  · replace h := if_ff g_1 h
    refine Tri.skip ?_
    refine Nrm.seq ?_
    refine Tri.seq ?_
    obtain ⟨⟨t13_1, t13_2, t13_3, t13_4⟩, h13, h⟩ := bind_some h
    obtain ⟨t14, h14, h⟩ := bind_some h
    refine Tri.reg (l := [0, 1, 2, 3]) rfl ?_
    refine F.q rfl rfl rfl (wanted_none rfl) (r_loadA ta34 ti34 rfl rfl (fun w hw => (box_cells (i := 0) rfl w hw))) ?_
    refine F.m rfl rfl rfl (wanted_none rfl) (m_callF (xs := _) rfl ok21 rfl rfl (fun w hw => laws_toTrap.ok h13 w ((fun _ hw => hr_a0_1.sep hw) w hw) ((fun _ hw => hr_a0_2.sep hw) w hw) ((fun _ hw => hr_a0_3.sep hw) w hw))) ?_
    rintro _ _ ⟨_, ⟨v13_1, S13_1, v13_2, S13_2, v13_3, S13_3, rfl, hl_v13_1, hl_v13_2, hl_v13_3, rfl⟩, rfl⟩
    refine F.qc rfl rfl rfl (wanted_none rfl) (q_callF (xs := _) rfl ok20 rfl rfl (fun w hw => spec_IsTrap.ok h14 w ((rd_sl (i := 0) rfl) w hw) ((rd_sl (i := 1) rfl) w hw) ((rd_sl (i := 2) rfl) w hw))) ?_
    refine F.q rfl rfl rfl (wanted_none rfl) (r_assign rfl) ?_
    refine F.nil ?_
    refine Nrm.seq ?_
    refine Tri.seq ?_
    obtain ⟨⟨t16_1, t16_2, t16_3, t16_4⟩, h16, h⟩ := bind_some h
    refine Tri.reg (l := [0, 1, 2, 3]) rfl ?_
    refine F.q rfl rfl rfl (wanted_none rfl) (r_loadA ta34 ti34 rfl rfl (fun w hw => (box_cells (i := 3) rfl w hw))) ?_
    refine F.m rfl rfl rfl (wanted_none rfl) (m_callF (xs := _) rfl ok21 rfl rfl (fun w hw => laws_toTrap.ok h16 w ((fun _ hw => hr_a0_1.sep hw) w hw) ((fun _ hw => hr_a0_2.sep hw) w hw) ((fun _ hw => hr_a0_3.sep hw) w hw))) ?_
    rintro _ _ ⟨_, ⟨v16_1, S16_1, v16_2, S16_2, v16_3, S16_3, rfl, hl_v16_1, hl_v16_2, hl_v16_3, rfl⟩, rfl⟩
    refine F.m rfl rfl rfl (wanted_none rfl) (m_alloc ti39) ?_
    rintro _ _ ⟨b5_1, rfl, rfl⟩
    refine F.ef0 rfl rfl (wanted_none rfl) (d_storeG0 (i := 0) (cs2 := [.int .i64 t16_1, v16_1, v16_2, v16_3]) ti39 rfl rfl rfl rfl rfl (Nat.le_of_ble_eq_true rfl) (lf_cons rfl (lf_cons (sl_leaf hl_v16_1) (lf_cons (sl_leaf hl_v16_2) (lf_cons (sl_leaf hl_v16_3) lf_nil))))) ?_
    rintro _ _ ⟨rfl, rfl⟩
    refine F.nil ?_
    refine Nrm.seq ?_
    refine Tri.seq ?_
    obtain ⟨t18, h18, h⟩ := bind_some h
    refine Tri.reg (l := [0, 1, 2]) rfl ?_
    refine F.q rfl rfl rfl (wanted_none rfl) (r_loadA ta39 ti39 rfl rfl (fun w hw => (box_cells (i := 0) rfl w hw))) ?_
    refine F.qc rfl rfl rfl (wanted_none rfl) (q_callF (xs := _) rfl ok22 rfl rfl (fun w hw => impl_IsTrap.ok h18 w ((rd_sl (i := 1) rfl) w hw) ((rd_sl (i := 2) rfl) w hw) ((rd_sl (i := 3) rfl) w hw))) ?_
    refine F.q rfl rfl rfl (wanted_none rfl) (r_assign rfl) ?_
    refine F.nil ?_
    refine Nrm.seq ?_
    refine Tri.seq ?_
    refine Tri.seq ?_
    refine Tri.reg (l := [0, 1, 2]) rfl ?_
    refine F.q rfl rfl rfl (wanted_none rfl) (r_move rfl) ?_
    refine F.q rfl rfl rfl (wanted_none rfl) (r_move rfl) ?_
    refine F.q rfl rfl rfl (wanted_none rfl) (r_neqB Try.underlying4 rfl rfl) ?_
    refine F.nil ?_
    refine Nrm.seq ?_
    refine Tri.cond (b := t18 != t14) rfl (fun g_2 => ?_) (fun g_2 => ?_)
    · replace h := if_tt g_2 h
      refine Tri.seq ?_
      refine Tri.reg (l := [0]) rfl ?_
      refine F.q rfl rfl rfl (wanted_none rfl) (r_assign rfl) ?_
      refine F.nil ?_
      refine Nrm.seq ?_
      refine Tri.ret ?_
      refine Rtn.then ?_
      cases h
      exact Rtn.body (.tmp rfl .nil) (fun w hw => ⟨rfl, hw.ext⟩)
    · replace h := if_ff g_2 h
      refine Tri.skip ?_
      refine Nrm.seq ?_
      refine Tri.seq ?_
      refine Tri.seq ?_
      obtain ⟨⟨t24_1, t24_2, t24_3, t24_4⟩, h24, h⟩ := bind_some h
      obtain ⟨t25, h25, h⟩ := bind_some h
      refine Tri.drawA mixedT Sep.up [(0, true), (1, true), (2, false), (3, true), (4, true)] [] (by kernel_rfl) ?_
      refine S.q rfl rfl rfl (wanted_none rfl) (r_loadA ta39 ti39 rfl rfl (fun w hw => (box_cells (i := 0) rfl w hw))) ?_
      refine S.q rfl rfl rfl (wanted_none rfl) (r_loadA ta34 ti34 rfl rfl (fun w hw => (box_cells (i := 7) rfl w hw))) ?_
      refine S.m rfl rfl rfl (wanted_none rfl) (m_callF (xs := _) rfl ok21 rfl rfl (fun w hw => laws_toTrap.ok h24 w ((fun _ hw => hr_a0_1.sep hw) w hw) ((fun _ hw => hr_a0_2.sep hw) w hw) ((fun _ hw => hr_a0_3.sep hw) w hw))) ?_
      rintro _ _ ⟨_, ⟨v24_4, S24_4, v24_5, S24_5, v24_6, S24_6, rfl, hl_v24_4, hl_v24_5, hl_v24_6, rfl⟩, rfl⟩
      refine S.qc rfl rfl rfl (wanted_none rfl) (q_callF (xs := _) rfl ok23 rfl rfl (fun w hw => laws_eqTrap.ok h25 w ((rd_sl (i := 4) rfl) w hw) ((rd_sl (i := 5) rfl) w hw) ((rd_sl (i := 6) rfl) w hw) ((rd_sl (i := 0) rfl) w hw) ((rd_sl (i := 1) rfl) w hw) ((rd_sl (i := 2) rfl) w hw))) ?_
      refine S.q rfl rfl rfl (wanted_none rfl) (r_not rfl) ?_
      refine S.nil ?_
      refine F.nil ?_
      refine Nrm.seq ?_
      refine Tri.cond (b := !t25) rfl (fun g_3 => ?_) (fun g_3 => ?_)
      · replace h := if_tt g_3 h
        refine Tri.seq ?_
        refine Tri.reg (l := [0]) rfl ?_
        refine F.q rfl rfl rfl (wanted_none rfl) (r_assign rfl) ?_
        refine F.nil ?_
        refine Nrm.seq ?_
        refine Tri.ret ?_
        refine Rtn.then ?_
        cases h
        exact Rtn.body (.tmp rfl .nil) (fun w hw => ⟨rfl, hw.ext⟩)
      · replace h := if_ff g_3 h
        refine Tri.skip ?_
        refine Nrm.seq ?_
        refine Tri.seq ?_
        refine Tri.reg (l := [0]) rfl ?_
        refine F.q rfl rfl rfl (wanted_none rfl) (r_assign rfl) ?_
        refine F.nil ?_
        refine Nrm.seq ?_
        refine Tri.ret ?_
        cases h
        exact Rtn.body (.tmp rfl .nil) (fun w hw => ⟨rfl, hw.ext⟩)

end Go.Proofs

/- Plain laws: the bounded words, reading, and loops as the printer prints them. No program in sight. -/
namespace Go.Ga
open Go
open Go.Ga.Rp (rep own)
open Go.Ga.Flat (enc)
open Go.Ga.Wf (wfd)
/-- rounds enough for all loops that the guards let in -/
def Big : Nat := 1125899906842624
theorem w64_id {x : Int} (h : -9223372036854775808 ≤ x) (h' : x ≤ 9223372036854775807) : w64 x = x := by
  unfold w64 IntKind.wrap
  simp [IntKind.bits, IntKind.signed]
  omega
theorem rdl_nat {α : Type} (l : List α) (i : Nat) : rdl l (i : Int) = l[i]? := by simp [rdl]
theorem rdl_lt {α : Type} {l : List α} {i : Nat} (h : i < l.length) : rdl l (i : Int) = some l[i] := by simp [rdl, h]
theorem bta_lt {s : ByteArray} {i : Nat} (h : i < s.size) : bta s (i : Int) = some s[i] := by simp [bta, h]
theorem wrap_byte (b : UInt8) : IntKind.i64.wrap (b.toNat : Int) = b.toNat := by
  have h := b.toNat_lt
  exact w64_id (by omega) (by omega)

/-! loops -/
def itr {S : Type} (g : Nat → S → S) : Nat → Nat → S → S
  | 0, _, s => s
  | m + 1, i, s => itr g m (i + 1) (g i s)
theorem loop_state {S β : Type} {l : Nat → S → Int → Option β} {N : Nat} {g : Nat → S → S} {out : S → Option β} (Inv : Nat → S → Prop)
    (hs : ∀ n i s, i < N → Inv i s → l (n + 1) s (i : Int) = l n (g i s) ((i + 1 : Nat) : Int) ∧ Inv (i + 1) (g i s))
    (he : ∀ n s, Inv N s → l (n + 1) s (N : Int) = out s) {k : Nat} (hk : N < k) {s : S} (h0 : Inv 0 s) :
    l k s 0 = out (itr g N 0 s) ∧ Inv N (itr g N 0 s) := by
  have key : ∀ m i k s, i + m = N → m < k → Inv i s → l k s (i : Int) = out (itr g m i s) ∧ Inv N (itr g m i s) := by
    intro m
    induction m with
    | zero =>
      intro i k s hi hk hI
      obtain ⟨n, rfl⟩ : ∃ n, k = n + 1 := ⟨k - 1, by omega⟩
      have : i = N := by omega
      subst this
      exact ⟨he n s hI, hI⟩
    | succ m ih =>
      intro i k s hi hk hI
      obtain ⟨n, rfl⟩ : ∃ n, k = n + 1 := ⟨k - 1, by omega⟩
      obtain ⟨h1, h2⟩ := hs n i s (by omega) hI
      rw [h1]
      exact ih (i + 1) n _ (by omega) (by omega) h2
  have := key N 0 k s (by omega) hk h0
  simpa using this
/-- with an exit -/
def itx {S R : Type} (g : Nat → S → S ⊕ R) : Nat → Nat → S → S ⊕ R
  | 0, _, s => .inl s
  | m + 1, i, s => match g i s with | .inl s' => itx g m (i + 1) s' | .inr r => .inr r
theorem loop_exit {S R T : Type} {l : Nat → S → Int → Option (T ⊕ R)} {N : Nat} {g : Nat → S → S ⊕ R} {out : S → Option (T ⊕ R)} (Inv : Nat → S → Prop)
    (hs : ∀ n i s, i < N → Inv i s → (∃ s', g i s = .inl s' ∧ l (n + 1) s (i : Int) = l n s' ((i + 1 : Nat) : Int) ∧ Inv (i + 1) s') ∨ (∃ r, g i s = .inr r ∧ l (n + 1) s (i : Int) = some (.inr r)))
    (he : ∀ n s, Inv N s → l (n + 1) s (N : Int) = out s) {k : Nat} (hk : N < k) {s : S} (h0 : Inv 0 s) :
    l k s 0 = (match itx g N 0 s with | .inl s' => out s' | .inr r => some (.inr r)) := by
  have key : ∀ m i k s, i + m = N → m < k → Inv i s → l k s (i : Int) = (match itx g m i s with | .inl s' => out s' | .inr r => some (.inr r)) := by
    intro m
    induction m with
    | zero =>
      intro i k s hi hk hI
      obtain ⟨n, rfl⟩ : ∃ n, k = n + 1 := ⟨k - 1, by omega⟩
      have : i = N := by omega
      subst this
      exact he n s hI
    | succ m ih =>
      intro i k s hi hk hI
      obtain ⟨n, rfl⟩ : ∃ n, k = n + 1 := ⟨k - 1, by omega⟩
      rcases hs n i s (by omega) hI with ⟨s', h1, h2, h3⟩ | ⟨r, h1, h2⟩
      · rw [h2, ih (i + 1) n _ (by omega) (by omega) h3]; simp [itx, h1]
      · rw [h2]; simp [itx, h1]
  have := key N 0 k s (by omega) hk h0
  simpa using this
theorem itx_inv {S R : Type} {g : Nat → S → S ⊕ R} {N : Nat} (Inv : Nat → S → Prop) (hs : ∀ i s s', i < N → Inv i s → g i s = .inl s' → Inv (i + 1) s') {s s' : S} (h0 : Inv 0 s) (h : itx g N 0 s = .inl s') : Inv N s' := by
  have key : ∀ m i s, i + m = N → Inv i s → itx g m i s = .inl s' → Inv N s' := by
    intro m
    induction m with
    | zero =>
      intro i s hi hI h
      have : i = N := by omega
      unfold itx at h
      rw [← Sum.inl.inj h, ← this]; exact hI
    | succ m ih =>
      intro i s hi hI h
      unfold itx at h
      cases hg : g i s with
      | inl s2 => rw [hg] at h; exact ih (i + 1) s2 (by omega) (hs i s s2 (by omega) hI hg) h
      | inr r => rw [hg] at h; cases h
  exact key N 0 s (by omega) h0 h
/-- all elements, or else `z` -/
theorem loop_all {R : Type} {l : Nat → Int → Option (Unit ⊕ R)} {N : Nat} (ok : Nat → Bool) {z : R}
    (hs : ∀ n (i : Nat), i < N → l (n + 1) (i : Int) = if ok i = true then l n ((i + 1 : Nat) : Int) else some (.inr z))
    (he : ∀ n, l (n + 1) (N : Int) = some (.inl ())) {k : Nat} (hk : N < k) :
    l k 0 = some (if ∀ i, i < N → ok i = true then .inl () else .inr z) := by
  have key : ∀ m i k, i + m = N → m < k → l k (i : Int) = some (if (List.range' i m).all ok = true then .inl () else .inr z) := by
    intro m
    induction m with
    | zero =>
      intro i k hi hk
      obtain ⟨n, rfl⟩ : ∃ n, k = n + 1 := ⟨k - 1, by omega⟩
      have : i = N := by omega
      subst this
      rw [he]; rfl
    | succ m ih =>
      intro i k hi hk
      obtain ⟨n, rfl⟩ : ∃ n, k = n + 1 := ⟨k - 1, by omega⟩
      rw [hs n i (by omega), List.range'_succ, List.all_cons]
      by_cases h : ok i = true
      · rw [if_pos h, ih (i + 1) n (by omega) (by omega), h, Bool.true_and]
      · rw [if_neg h, if_neg (by simp [h])]
  have := key N 0 k (by omega) hk
  rw [show ((0 : Nat) : Int) = 0 from rfl] at this
  rw [this]
  congr 1
  have e : (List.range' 0 N).all ok = true ↔ ∀ i, i < N → ok i = true := by simp [List.all_eq_true, List.mem_range'_1]
  by_cases h : (List.range' 0 N).all ok = true
  · rw [if_pos h, if_pos (e.1 h)]
  · rw [if_neg h, if_neg (fun H => h (e.2 H))]
/-- the first index with an answer -/
theorem loop_find {R T : Type} {l : Nat → Int → Option (T ⊕ R)} {N : Nat} (g : Nat → Option R) {z : T ⊕ R}
    (hs : ∀ n (i : Nat), i < N → l (n + 1) (i : Int) = match g i with | none => l n ((i + 1 : Nat) : Int) | some r => some (.inr r))
    (he : ∀ n, l (n + 1) (N : Int) = some z) {k : Nat} (hk : N < k) :
    l k 0 = some (match (List.range N).findSome? g with | none => z | some r => .inr r) := by
  have key : ∀ m i k, i + m = N → m < k → l k (i : Int) = some (match (List.range' i m).findSome? g with | none => z | some r => .inr r) := by
    intro m
    induction m with
    | zero =>
      intro i k hi hk
      obtain ⟨n, rfl⟩ : ∃ n, k = n + 1 := ⟨k - 1, by omega⟩
      have : i = N := by omega
      subst this
      rw [he]; rfl
    | succ m ih =>
      intro i k hi hk
      obtain ⟨n, rfl⟩ : ∃ n, k = n + 1 := ⟨k - 1, by omega⟩
      rw [hs n i (by omega), List.range'_succ, List.findSome?_cons]
      cases h : g i with
      | none => simp only []; exact ih (i + 1) n (by omega) (by omega)
      | some r => simp only []
  have := key N 0 k (by omega) hk
  rw [show ((0 : Nat) : Int) = 0 from rfl] at this
  rw [this, List.range_eq_range']
theorem Lr_ite {X : Type} {R : Type} {c : Prop} [Decidable c] {z : R} {g : R → Option X} {f : Unit → Option X} : Lr (if c then .inl () else .inr z) g f = if c then f () else g z := by split <;> rfl
end Go.Ga
