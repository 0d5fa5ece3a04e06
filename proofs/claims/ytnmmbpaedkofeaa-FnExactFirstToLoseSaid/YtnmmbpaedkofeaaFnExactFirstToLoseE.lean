/- A part of the proof of FnExactFirstToLose: what the functions of the program compute, walked on the model. No condition. -/
import Derived.Test.YtnmmbpaedkofeaaFnExactFirstToLoseC
import Derived.Test.YtnmmbpaedkofeaaFnExactFirstToLoseD
set_option linter.unusedSimpArgs false
/- loop.example/g01158/impl.trapSteps -/
namespace Go.Proofs
open Go Go.Ga
set_option linter.unusedVariables false
set_option maxRecDepth 100000
set_option maxHeartbeats 4000000
def impl_trapSteps.l0 (k : Nat) (a0_1 : List (Int × Int × Int)) (a0_3 : List Int) (a1 : Int) (a2 : Int) : Nat → Int → Int → Option (Int)
  | 0, _, _ => none
  | n + 1, x7, x14 => (if (decide (x14 < (a0_1.length : Int))) = true then ((rdl a0_1 x14).bind fun t17 => (impl_has.f k a2 t17.2.2).bind fun t22 => (if (!t22) = true then some x7 else ((if (t17.1 == a1) = true then if ¬ t17.2.1 < 0 then some (bor x7 (shl 1 t17.2.1)) else none else some x7)).bind fun y7 => ((if (t17.2.1 == a1) = true then (slices_Contains_int_int.f k a0_3 x14).bind fun t41 => some (!t41) else some false)).bind fun y43 => ((if y43 = true then if ¬ t17.1 < 0 then some (bor y7 (shl 1 t17.1)) else none else some y7)).bind fun y7r => some y7r)).bind fun y7 => impl_trapSteps.l0 k a0_1 a0_3 a1 a2 n y7 (w64 (x14 + 1)) else some x7)

def impl_trapSteps.f (k : Nat) (a0_0 : Int) (a0_1 : List (Int × Int × Int)) (a0_2 : List Int) (a0_3 : List Int) (a1 : Int) (a2 : Int) : Option (Int) := (impl_trapSteps.l0 k a0_1 a0_3 a1 a2 k 0 0).bind fun x7 => some x7

theorem impl_trapSteps.ok {k : Nat}  {a0_0 : Int} {a0_1 : List (Int × Int × Int)} {a0_2 : List Int} {a0_3 : List Int} {a1 : Int} {a2 : Int} {r0 : Int} (h : impl_trapSteps.f k a0_0 a0_1 a0_2 a0_3 a1 a2 = some r0) (w : World) {va0_1 : Value} {va0_2 : Value} {va0_3 : Value} (hr_a0_1 : Rd w va0_1 a0_1) (hr_a0_2 : Rd w va0_2 a0_2) (hr_a0_3 : Rd w va0_3 a0_3) :
    Calls Try.prog 113 ([.agg ([.int .i64 a0_0, va0_1, va0_2, va0_3].toArray), .int .i64 a1, .int .i64 a2] : List Value).toArray w (fun e w' => e = .returned (.int .i64 r0) ∧ Ext w w') := by
  unfold impl_trapSteps.f at h
  have hl_va0_1 := hr_a0_1.len
  have hl_va0_2 := hr_a0_2.len
  have hl_va0_3 := hr_a0_3.len
  refine Calls.of_tri (N := 51) Try.func113 rfl rfl rfl (Sep.nil (M := noM)) ?_
  refine Tri.seq ?_
  refine Tri.reg (l := [0, 1]) rfl ?_
  refine F.m rfl rfl rfl (wanted_none rfl) (m_boxG rfl rfl) ?_
  rintro _ _ ⟨b3_1, rfl, rfl⟩
  refine F.q rfl rfl rfl (wanted_none rfl) (r_assign rfl) ?_
  refine F.nil ?_
  refine Nrm.seq ?_
  refine Tri.seq ?_
  refine Tri.reg (l := [0]) rfl ?_
  refine F.q rfl rfl rfl (wanted_none rfl) (r_assign rfl) ?_
  refine F.nil ?_
  refine Nrm.seq ?_
  refine Tri.seq ?_
  refine Tri.seq ?_
  refine Tri.reg (l := [0, 1, 2, 3, 4]) rfl ?_
  refine F.q rfl rfl rfl (wanted_none rfl) (r_fieldAddr tf57_0 rfl) ?_
  refine F.q rfl rfl rfl (wanted_none rfl) (r_fieldAddr tf55_1 rfl) ?_
  refine F.q rfl rfl rfl (wanted_none rfl) (r_load ta49 rfl (fun w hw => cell_2 (box_cells (i := 0) rfl w hw) rfl)) ?_
  refine F.q rfl rfl rfl (wanted_none rfl) (r_len Try.underlying49 rfl hl_va0_1) ?_
  refine F.q rfl rfl rfl (wanted_none rfl) (r_move rfl) ?_
  refine F.nil ?_
  refine Nrm.seq ?_
  obtain ⟨x7, hE_1, h⟩ := bind_some h
  refine Tri.block ?_
  refine Tri.only [1, 2, 3, 7, 12, 13, 14] rfl ?_
  refine Tri.pick [0] rfl rfl ?_
  refine Tri.rounds (fun n e' C' => ∃ (x7' : Int) (x14' : Int), impl_trapSteps.l0 k a0_1 a0_3 a1 a2 n x7' x14' = some x7 ∧ e' = [(1, .int .i64 a1), (2, .int .i64 a2), (3, .pointer (some ⟨b3_1, 0, none⟩)), (7, .int .i64 x7'), (12, va0_1), (13, .int .i64 (a0_1.length : Int)), (14, .int .i64 x14')] ∧ C' = Sep w noM [R.box b3_1 57 [.int .i64 a0_0, va0_1, va0_2, va0_3]]) k ?_ ?_ ?_
  · exact ⟨0, 0, hE_1, rfl, rfl⟩
  · rintro _ _ ⟨_, _, hE_1, _⟩
    rw [impl_trapSteps.l0.eq_1] at hE_1; cases hE_1
  · rintro n_1 _ _ ⟨x7, x14, hE_1, rfl, rfl⟩ ih_1
    rw [impl_trapSteps.l0.eq_2] at hE_1
    refine Tri.seq ?_
    refine Tri.reg (l := [0]) rfl ?_
    refine F.q rfl rfl rfl (wanted_none rfl) (r_lss rfl rfl) ?_
    refine F.nil ?_
    refine Nrm.seq ?_
    refine Tri.seq ?_
    refine Tri.cond (b := decide (x14 < (a0_1.length : Int))) rfl (fun g_1 => ?_) (fun g_1 => ?_)
    · replace hE_1 := if_tt g_1 hE_1
      refine Tri.skip ?_
      refine Nrm.seq ?_
      refine Tri.seq ?_
      obtain ⟨y7, hE_2, hE_1⟩ := bind_some hE_1
      refine Tri.cut (fun e' C' => e' = [(1, .int .i64 a1), (2, .int .i64 a2), (3, .pointer (some ⟨b3_1, 0, none⟩)), (7, .int .i64 y7), (12, va0_1), (13, .int .i64 (a0_1.length : Int)), (14, .int .i64 x14)] ∧ C' = Sep w noM [R.box b3_1 57 [.int .i64 a0_0, va0_1, va0_2, va0_3]]) ?_ (fun hj_1 => ?_)
      · rintro _ _ ⟨rfl, rfl⟩
        refine Nrm.seq ?_
        refine Tri.reg (l := [0, 1]) rfl ?_
        refine F.q rfl rfl rfl (wanted_none rfl) (r_add rfl rfl) ?_
        refine F.q rfl rfl rfl (wanted_none rfl) (r_move rfl) ?_
        refine F.nil ?_
        refine Nrm.round ?_
        refine Rnd.only [1, 2, 3, 7, 12, 13, 14] rfl ?_
        refine Rnd.pick [0] rfl rfl ?_
        exact ih_1 _ _ ⟨y7, w64 (x14 + 1), hE_1, rfl, rfl⟩
      · refine Tri.block ?_
        refine Tri.seq ?_
        obtain ⟨t17, h17, hE_2⟩ := bind_some hE_2
        refine Tri.reg (l := [0, 1, 2, 3, 4, 5]) rfl ?_
        refine F.q rfl rfl rfl (wanted_none rfl) (r_move rfl) ?_
        refine F.q rfl rfl rfl (wanted_none rfl) (r_indexAddrS Try.underlying49 ti140 rfl hl_va0_1 rfl (rdl_some h17).1 (rdl_some h17).2.1) ?_
        refine F.q rfl rfl rfl (wanted_none rfl) (r_loadA ta140 ti140 rfl rfl (fun w hw => (Rd.flat ((fun _ hw => hr_a0_1.sep hw) w hw) (rdl_some h17).2.2))) ?_
        refine F.m rfl rfl rfl (wanted_none rfl) (m_alloc ti140) ?_
        rintro _ _ ⟨b9_1, rfl, rfl⟩
        refine F.q rfl rfl rfl (wanted_none rfl) (r_assign rfl) ?_
        refine F.ef0 rfl rfl (wanted_none rfl) (d_storeG0 (i := 0) (cs2 := [.int .i64 t17.1, .int .i64 t17.2.1, .int .i64 t17.2.2]) ti140 rfl rfl rfl rfl rfl (Nat.le_of_ble_eq_true rfl) (lf_cons rfl (lf_cons rfl (lf_cons rfl lf_nil)))) ?_
        rintro _ _ ⟨rfl, rfl⟩
        refine F.nil ?_
        refine Nrm.seq ?_
        refine Tri.seq ?_
        refine Tri.seq ?_
        obtain ⟨t22, h22, hE_2⟩ := bind_some hE_2
        refine Tri.reg (l := [0, 1, 2, 3, 4]) rfl ?_
        refine F.q rfl rfl rfl (wanted_none rfl) (r_move rfl) ?_
        refine F.q rfl rfl rfl (wanted_none rfl) (r_indexAddrA Try.underlying140 ti3 rfl rfl (by decide) (by decide)) ?_
        refine F.q rfl rfl rfl (wanted_none rfl) (r_load ta3 rfl (fun w hw => cell_1 (box_cells (i := 0) rfl w hw) rfl)) ?_
        refine F.qc rfl rfl rfl (wanted_none rfl) (q_callF (xs := _) rfl ok154 rfl rfl (fun w hw => impl_has.ok h22 w )) ?_
        refine F.q rfl rfl rfl (wanted_none rfl) (r_not rfl) ?_
        refine F.nil ?_
        refine Nrm.seq ?_
        refine Tri.cond (b := !t22) rfl (fun g_2 => ?_) (fun g_2 => ?_)
        · replace hE_2 := if_tt g_2 hE_2
          refine Tri.exit ?_
          refine Exi.then ?_
          refine Exi.same ?_
          cases hE_2
          refine Nrm.only [1, 2, 3, 7, 12, 13, 14] rfl ?_
          refine Nrm.pick [1] rfl rfl ?_
          exact hj_1 _ _ ⟨rfl, rfl⟩
        · replace hE_2 := if_ff g_2 hE_2
          refine Tri.skip ?_
          refine Nrm.seq ?_
          refine Tri.seq ?_
          refine Tri.seq ?_
          refine Tri.reg (l := [0, 1, 2, 3]) rfl ?_
          refine F.q rfl rfl rfl (wanted_none rfl) (r_indexAddrA Try.underlying140 ti3 rfl rfl (by decide) (by decide)) ?_
          refine F.q rfl rfl rfl (wanted_none rfl) (r_load ta3 rfl (fun w hw => cell_1 (box_cells (i := 0) rfl w hw) rfl)) ?_
          refine F.q rfl rfl rfl (wanted_none rfl) (r_move rfl) ?_
          refine F.q rfl rfl rfl (wanted_none rfl) (r_eql rfl rfl) ?_
          refine F.nil ?_
          refine Nrm.seq ?_
          obtain ⟨y7, hE_3, hE_2⟩ := bind_some hE_2
          refine Tri.cut (fun e' C' => e' = [(1, .int .i64 a1), (2, .int .i64 a2), (3, .pointer (some ⟨b3_1, 0, none⟩)), (7, .int .i64 y7), (8, .int .i64 x14), (9, .pointer (some ⟨b9_1, 0, none⟩)), (12, va0_1), (13, .int .i64 (a0_1.length : Int)), (14, .int .i64 x14)] ∧ C' = Sep w noM [R.box b9_1 140 [.int .i64 t17.1, .int .i64 t17.2.1, .int .i64 t17.2.2], R.box b3_1 57 [.int .i64 a0_0, va0_1, va0_2, va0_3]]) ?_ (fun hj_2 => ?_)
          · rintro _ _ ⟨rfl, rfl⟩
            refine Nrm.seq ?_
            refine Tri.seq ?_
            obtain ⟨y43, hE_4, hE_2⟩ := bind_some hE_2
            refine Tri.cut (fun e' C' => e' = [(1, .int .i64 a1), (2, .int .i64 a2), (3, .pointer (some ⟨b3_1, 0, none⟩)), (7, .int .i64 y7), (9, .pointer (some ⟨b9_1, 0, none⟩)), (12, va0_1), (13, .int .i64 (a0_1.length : Int)), (14, .int .i64 x14), (43, .bool y43)] ∧ C' = Sep w noM [R.box b9_1 140 [.int .i64 t17.1, .int .i64 t17.2.1, .int .i64 t17.2.2], R.box b3_1 57 [.int .i64 a0_0, va0_1, va0_2, va0_3]]) ?_ (fun hj_3 => ?_)
            · rintro _ _ ⟨rfl, rfl⟩
              refine Nrm.seq ?_
              obtain ⟨y7r, hE_5, hE_2⟩ := bind_some hE_2
              refine Tri.cut (fun e' C' => e' = [(1, .int .i64 a1), (2, .int .i64 a2), (3, .pointer (some ⟨b3_1, 0, none⟩)), (7, .int .i64 y7r), (12, va0_1), (13, .int .i64 (a0_1.length : Int)), (14, .int .i64 x14)] ∧ C' = Sep w noM [R.box b3_1 57 [.int .i64 a0_0, va0_1, va0_2, va0_3]]) ?_ (fun hj_4 => ?_)
              · rintro _ _ ⟨rfl, rfl⟩
                refine Nrm.block ?_
                cases hE_2
                refine Nrm.only [1, 2, 3, 7, 12, 13, 14] rfl ?_
                refine Nrm.pick [0] rfl rfl ?_
                exact hj_1 _ _ ⟨rfl, rfl⟩
              · refine Tri.cond (b := y43) rfl (fun g_4 => ?_) (fun g_4 => ?_)
                · replace hE_5 := if_tt g_4 hE_5
                  obtain ⟨hs47, hE_5⟩ := ck hE_5
                  refine Tri.reg (l := [0, 1, 2, 3, 4, 5]) rfl ?_
                  refine F.q rfl rfl rfl (wanted_none rfl) (r_move rfl) ?_
                  refine F.q rfl rfl rfl (wanted_none rfl) (r_indexAddrA Try.underlying140 ti3 rfl rfl (by decide) (by decide)) ?_
                  refine F.q rfl rfl rfl (wanted_none rfl) (r_load ta3 rfl (fun w hw => cell_1 (box_cells (i := 0) rfl w hw) rfl)) ?_
                  refine F.q rfl rfl rfl (wanted_none rfl) (r_shl rfl rfl hs47) ?_
                  refine F.q rfl rfl rfl (wanted_none rfl) (r_or rfl rfl) ?_
                  refine F.q rfl rfl rfl (wanted_none rfl) (r_assign rfl) ?_
                  refine F.nil ?_
                  cases hE_5
                  refine Nrm.only [1, 2, 3, 7, 12, 13, 14] rfl ?_
                  refine Nrm.pick [1] rfl rfl ?_
                  exact hj_4 _ _ ⟨rfl, rfl⟩
                · replace hE_5 := if_ff g_4 hE_5
                  refine Tri.skip ?_
                  cases hE_5
                  refine Nrm.only [1, 2, 3, 7, 12, 13, 14] rfl ?_
                  refine Nrm.pick [1] rfl rfl ?_
                  exact hj_4 _ _ ⟨rfl, rfl⟩
            · rcases Bool.eq_false_or_eq_true (t17.2.1 == a1) with g37 | g37
              · replace hE_4 := if_tt g37 hE_4
                obtain ⟨t41, h41, hE_4⟩ := bind_some hE_4
                refine Tri.reg (l := [0, 1, 2, 3, 4, 5, 6, 7, 8, 9, 10]) rfl ?_
                refine F.q rfl rfl rfl (wanted_none rfl) (r_indexAddrA Try.underlying140 ti3 rfl rfl (by decide) (by decide)) ?_
                refine F.q rfl rfl rfl (wanted_none rfl) (r_load ta3 rfl (fun w hw => cell_1 (box_cells (i := 0) rfl w hw) rfl)) ?_
                refine F.q rfl rfl rfl (wanted_none rfl) (r_move rfl) ?_
                refine F.q rfl rfl rfl (wanted_none rfl) (r_eql rfl rfl) ?_
                refine F.q rfl rfl rfl (wanted_none rfl) (r_move rfl) ?_
                refine F.q rfl rfl rfl (wg rfl rfl rfl g37) (r_fieldAddr tf57_1 rfl) ?_
                refine F.q rfl rfl rfl (wg rfl rfl rfl g37) (r_load ta38 rfl (fun w hw => cell_1 (box_cells (i := 1) rfl w hw) rfl)) ?_
                refine F.q rfl rfl rfl (wg rfl rfl rfl g37) (r_move rfl) ?_
                refine F.qc rfl rfl rfl (wg rfl rfl rfl g37) (q_callF (xs := _) rfl ok155 rfl rfl (fun w hw => slices_Contains_int_int.ok h41 w ((fun _ hw => hr_a0_3.sep hw) w hw))) ?_
                refine F.q rfl rfl rfl (wg rfl rfl rfl g37) (r_not rfl) ?_
                refine F.q rfl rfl rfl (wanted_none rfl) (r_pick rfl rfl g37) ?_
                refine F.nil ?_
                cases hE_4
                refine Nrm.only [1, 2, 3, 7, 9, 12, 13, 14, 43] rfl ?_
                refine Nrm.pick [0, 1] rfl rfl ?_
                exact hj_3 _ _ ⟨rfl, rfl⟩
              · replace hE_4 := if_ff g37 hE_4
                refine Tri.reg (l := [0, 1, 2, 3, 4, 5, 6, 7, 8, 9, 10]) rfl ?_
                refine F.q rfl rfl rfl (wanted_none rfl) (r_indexAddrA Try.underlying140 ti3 rfl rfl (by decide) (by decide)) ?_
                refine F.q rfl rfl rfl (wanted_none rfl) (r_load ta3 rfl (fun w hw => cell_1 (box_cells (i := 0) rfl w hw) rfl)) ?_
                refine F.q rfl rfl rfl (wanted_none rfl) (r_move rfl) ?_
                refine F.q rfl rfl rfl (wanted_none rfl) (r_eql rfl rfl) ?_
                refine F.q rfl rfl rfl (wanted_none rfl) (r_move rfl) ?_
                refine F.sk rfl rfl rfl (wf rfl rfl rfl g37) ?_
                refine F.sk rfl rfl rfl (wf rfl rfl rfl g37) ?_
                refine F.sk rfl rfl rfl (wf rfl rfl rfl g37) ?_
                refine F.sk rfl rfl rfl (wf rfl rfl rfl g37) ?_
                refine F.sk rfl rfl rfl (wf rfl rfl rfl g37) ?_
                refine F.q rfl rfl rfl (wanted_none rfl) (r_pickf rfl rfl g37) ?_
                refine F.nil ?_
                cases hE_4
                refine Nrm.only [1, 2, 3, 7, 9, 12, 13, 14, 43] rfl ?_
                refine Nrm.pick [0, 1] rfl rfl ?_
                exact hj_3 _ _ ⟨rfl, rfl⟩
          · refine Tri.cond (b := t17.1 == a1) rfl (fun g_3 => ?_) (fun g_3 => ?_)
            · replace hE_3 := if_tt g_3 hE_3
              obtain ⟨hs31, hE_3⟩ := ck hE_3
              refine Tri.reg (l := [0, 1, 2, 3, 4, 5]) rfl ?_
              refine F.q rfl rfl rfl (wanted_none rfl) (r_move rfl) ?_
              refine F.q rfl rfl rfl (wanted_none rfl) (r_indexAddrA Try.underlying140 ti3 rfl rfl (by decide) (by decide)) ?_
              refine F.q rfl rfl rfl (wanted_none rfl) (r_load ta3 rfl (fun w hw => cell_1 (box_cells (i := 0) rfl w hw) rfl)) ?_
              refine F.q rfl rfl rfl (wanted_none rfl) (r_shl rfl rfl hs31) ?_
              refine F.q rfl rfl rfl (wanted_none rfl) (r_or rfl rfl) ?_
              refine F.q rfl rfl rfl (wanted_none rfl) (r_assign rfl) ?_
              refine F.nil ?_
              cases hE_3
              refine Nrm.only [1, 2, 3, 7, 8, 9, 12, 13, 14] rfl ?_
              refine Nrm.pick [0, 1] rfl rfl ?_
              exact hj_2 _ _ ⟨rfl, rfl⟩
            · replace hE_3 := if_ff g_3 hE_3
              refine Tri.skip ?_
              cases hE_3
              refine Nrm.only [1, 2, 3, 7, 8, 9, 12, 13, 14] rfl ?_
              refine Nrm.pick [0, 1] rfl rfl ?_
              exact hj_2 _ _ ⟨rfl, rfl⟩
    · replace hE_1 := if_ff g_1 hE_1
      refine Tri.exit ?_
      refine Exi.then ?_
      refine Exi.then ?_
      refine Exi.same ?_
      cases hE_1
      refine Nrm.seq ?_
      refine Tri.seq ?_
      refine Tri.reg (l := [0, 1]) rfl ?_
      refine F.q rfl rfl rfl (wanted_none rfl) (r_move rfl) ?_
      refine F.q rfl rfl rfl (wanted_none rfl) (r_assign rfl) ?_
      refine F.nil ?_
      refine Nrm.seq ?_
      refine Tri.ret ?_
      cases h
      exact Rtn.body (.tmp rfl .nil) (fun w hw => ⟨rfl, hw.ext⟩)

end Go.Proofs

/- loop.example/g01158/impl.better -/

namespace Go.Proofs
open Go Go.Ga
set_option linter.unusedVariables false
set_option maxRecDepth 100000
set_option maxHeartbeats 4000000
def impl_better.f (k : Nat) (a0 : Int) (a1 : Int) : Option (Bool) := ((if (decide (a0 ≥ 0)) = true then (if (decide (a1 < 0)) = true then some true else some (decide (a0 < a1))) else some false)).bind fun y4 => some y4

theorem impl_better.ok {k : Nat}  {a0 : Int} {a1 : Int} {r0 : Bool} (h : impl_better.f k a0 a1 = some r0) (w : World) :
    Calls Try.prog 170 ([.int .i64 a0, .int .i64 a1] : List Value).toArray w (fun e w' => e = .returned (.bool r0) ∧ Ext w w') := by
  unfold impl_better.f at h
  refine Calls.of_tri (N := 16) Try.func170 rfl rfl rfl (Sep.nil (M := noM)) ?_
  refine Tri.seq ?_
  refine Tri.reg (l := [0]) rfl ?_
  refine F.q rfl rfl rfl (wanted_none rfl) (r_assign rfl) ?_
  refine F.nil ?_
  refine Nrm.seq ?_
  refine Tri.seq ?_
  obtain ⟨y4, hE_1, h⟩ := bind_some h
  refine Tri.cut (fun e' C' => e' = [(4, .bool y4)] ∧ C' = Sep w noM []) ?_ (fun hj_1 => ?_)
  · rintro _ _ ⟨rfl, rfl⟩
    refine Nrm.seq ?_
    refine Tri.ret ?_
    cases h
    exact Rtn.body (.tmp rfl .nil) (fun w hw => ⟨rfl, hw.ext⟩)
  · rcases Bool.eq_false_or_eq_true (decide (a0 ≥ 0)) with g7 | g7
    · replace hE_1 := if_tt g7 hE_1
      rcases Bool.eq_false_or_eq_true (decide (a1 < 0)) with g10 | g10
      · replace hE_1 := if_tt g10 hE_1
        refine Tri.reg (l := [0, 1, 2, 3, 4, 5, 6, 7, 8, 9, 10, 11]) rfl ?_
        refine F.q rfl rfl rfl (wanted_none rfl) (r_move rfl) ?_
        refine F.q rfl rfl rfl (wanted_none rfl) (r_geq rfl rfl) ?_
        refine F.q rfl rfl rfl (wanted_none rfl) (r_move rfl) ?_
        refine F.q rfl rfl rfl (wg rfl rfl rfl g7) (r_move rfl) ?_
        refine F.q rfl rfl rfl (wg rfl rfl rfl g7) (r_lss rfl rfl) ?_
        refine F.q rfl rfl rfl (wg rfl rfl rfl g7) (r_move rfl) ?_
        refine F.sk rfl rfl rfl (wf rfl rfl rfl g10) ?_
        refine F.sk rfl rfl rfl (wf rfl rfl rfl g10) ?_
        refine F.sk rfl rfl rfl (wf rfl rfl rfl g10) ?_
        refine F.q rfl rfl rfl (wg rfl rfl rfl g7) (r_pick rfl rfl g10) ?_
        refine F.q rfl rfl rfl (wanted_none rfl) (r_pick rfl rfl g7) ?_
        refine F.q rfl rfl rfl (wanted_none rfl) (r_assign rfl) ?_
        refine F.nil ?_
        cases hE_1
        refine Nrm.only [4] rfl ?_
        refine Nrm.pick [] rfl rfl ?_
        exact hj_1 _ _ ⟨rfl, rfl⟩
      · replace hE_1 := if_ff g10 hE_1
        refine Tri.reg (l := [0, 1, 2, 3, 4, 5, 6, 7, 8, 9, 10, 11]) rfl ?_
        refine F.q rfl rfl rfl (wanted_none rfl) (r_move rfl) ?_
        refine F.q rfl rfl rfl (wanted_none rfl) (r_geq rfl rfl) ?_
        refine F.q rfl rfl rfl (wanted_none rfl) (r_move rfl) ?_
        refine F.q rfl rfl rfl (wg rfl rfl rfl g7) (r_move rfl) ?_
        refine F.q rfl rfl rfl (wg rfl rfl rfl g7) (r_lss rfl rfl) ?_
        refine F.q rfl rfl rfl (wg rfl rfl rfl g7) (r_move rfl) ?_
        refine F.q rfl rfl rfl (wg rfl rfl rfl g10) (r_move rfl) ?_
        refine F.q rfl rfl rfl (wg rfl rfl rfl g10) (r_move rfl) ?_
        refine F.q rfl rfl rfl (wg rfl rfl rfl g10) (r_lss rfl rfl) ?_
        refine F.q rfl rfl rfl (wg rfl rfl rfl g7) (r_pickf rfl rfl g10) ?_
        refine F.q rfl rfl rfl (wanted_none rfl) (r_pick rfl rfl g7) ?_
        refine F.q rfl rfl rfl (wanted_none rfl) (r_assign rfl) ?_
        refine F.nil ?_
        cases hE_1
        refine Nrm.only [4] rfl ?_
        refine Nrm.pick [] rfl rfl ?_
        exact hj_1 _ _ ⟨rfl, rfl⟩
    · replace hE_1 := if_ff g7 hE_1
      refine Tri.reg (l := [0, 1, 2, 3, 4, 5, 6, 7, 8, 9, 10, 11]) rfl ?_
      refine F.q rfl rfl rfl (wanted_none rfl) (r_move rfl) ?_
      refine F.q rfl rfl rfl (wanted_none rfl) (r_geq rfl rfl) ?_
      refine F.q rfl rfl rfl (wanted_none rfl) (r_move rfl) ?_
      refine F.sk rfl rfl rfl (wf rfl rfl rfl g7) ?_
      refine F.sk rfl rfl rfl (wf rfl rfl rfl g7) ?_
      refine F.sk rfl rfl rfl (wf rfl rfl rfl g7) ?_
      refine F.sk rfl rfl rfl (wanted_undef rfl rfl rfl) ?_
      refine F.sk rfl rfl rfl (wanted_undef rfl rfl rfl) ?_
      refine F.sk rfl rfl rfl (wanted_undef rfl rfl rfl) ?_
      refine F.sk rfl rfl rfl (wf rfl rfl rfl g7) ?_
      refine F.q rfl rfl rfl (wanted_none rfl) (r_pickf rfl rfl g7) ?_
      refine F.q rfl rfl rfl (wanted_none rfl) (r_assign rfl) ?_
      refine F.nil ?_
      cases hE_1
      refine Nrm.only [4] rfl ?_
      refine Nrm.pick [] rfl rfl ?_
      exact hj_1 _ _ ⟨rfl, rfl⟩

end Go.Proofs

/- loop.example/g01158/impl.trapTo -/
namespace Go.Proofs
open Go Go.Ga
set_option linter.unusedVariables false
set_option maxRecDepth 100000
set_option maxHeartbeats 4000000
def impl_trapTo.l1 (k : Nat) (a0_0 : Int) (a1 : (Int → Int → Option (Bool))) (x15 : Int) : Nat → Int → (Arr 768) → Option ((Arr 768))
  | 0, _, _ => none
  | n + 1, x18, xb5_1_0r => (if (decide (x18 < 64)) = true then if 0 ≤ x15 ∧ x15 < 12 then if 0 ≤ x18 ∧ x18 < 64 then ((if (decide (x15 < a0_0)) = true then (a1 x15 x18).bind fun t34 => some t34 else some false)).bind fun y35 => ((if y35 = true then if 0 ≤ x15 ∧ x15 < 12 then if 0 ≤ x18 ∧ x18 < 64 then some (Arr.put (Arr.put xb5_1_0r (x15 * 64 + x18) (-1)) (x15 * 64 + x18) 0) else none else none else some (Arr.put xb5_1_0r (x15 * 64 + x18) (-1)))).bind fun yb5_1_0 => impl_trapTo.l1 k a0_0 a1 x15 n (w64 (x18 + 1)) yb5_1_0 else none else none else some xb5_1_0r)

def impl_trapTo.l5 (k : Nat) (a0_2 : List Int) (x46 : Int) (x49 : Int) (t56 : List Int) : Nat → Bool → Int → (Arr 768) → Option ((Arr 768) × Bool)
  | 0, _, _, _ => none
  | n + 1, x8rrr, x58, xb5_1_0rrrrr => (if (decide (x58 < (t56.length : Int))) = true then (rdl t56 x58).bind fun t60 => (rdl a0_2 t60).bind fun t68 => if 0 ≤ t60 ∧ t60 < 12 then if 0 ≤ bor x49 t68 ∧ bor x49 t68 < 64 then ((if (decide ((Arr.at xb5_1_0rrrrr (t60 * 64 + (bor x49 t68))) ≥ 0)) = true then if 0 ≤ x46 ∧ x46 < 12 then if 0 ≤ x49 ∧ x49 < 64 then (impl_better.f k (w64 ((Arr.at xb5_1_0rrrrr (t60 * 64 + (bor x49 t68))) + 1)) (Arr.at xb5_1_0rrrrr (x46 * 64 + x49))).bind fun t84 => some t84 else none else none else some false)).bind fun y85 => ((if y85 = true then if 0 ≤ x46 ∧ x46 < 12 then if 0 ≤ x49 ∧ x49 < 64 then some (true, (Arr.put xb5_1_0rrrrr (x46 * 64 + x49) (w64 ((Arr.at xb5_1_0rrrrr (t60 * 64 + (bor x49 t68))) + 1)))) else none else none else some (x8rrr, xb5_1_0rrrrr))).bind fun (y8, yb5_1_0r) => impl_trapTo.l5 k a0_2 x46 x49 t56 n y8 (w64 (x58 + 1)) yb5_1_0r else none else none else some (xb5_1_0rrrrr, x8rrr))

def impl_trapTo.l4 (k : Nat) (a0_0 : Int) (a0_1 : List (Int × Int × Int)) (a0_2 : List Int) (a0_3 : List Int) (x46 : Int) : Nat → Bool → Int → (Arr 768) → Option ((Arr 768) × Bool)
  | 0, _, _, _ => none
  | n + 1, x8rr, x49, xb5_1_0rrrr => (if (decide (x49 < 64)) = true then (impl_trapSteps.f k a0_0 a0_1 a0_2 a0_3 x46 x49).bind fun t55 => (impl_members.f k t55).bind fun t56 => (impl_trapTo.l5 k a0_2 x46 x49 t56 k x8rr 0 xb5_1_0rrrr).bind fun (xb5_1_0rrrrr, x8rrr) => impl_trapTo.l4 k a0_0 a0_1 a0_2 a0_3 x46 n x8rrr (w64 (x49 + 1)) xb5_1_0rrrrr else some (xb5_1_0rrrr, x8rr))

def impl_trapTo.l3 (k : Nat) (a0_0 : Int) (a0_1 : List (Int × Int × Int)) (a0_2 : List Int) (a0_3 : List Int) : Nat → Bool → Int → (Arr 768) → Option ((Arr 768) × Bool)
  | 0, _, _, _ => none
  | n + 1, x8r, x46, xb5_1_0rrr => (if (decide (x46 < a0_0)) = true then (impl_trapTo.l4 k a0_0 a0_1 a0_2 a0_3 x46 k x8r 0 xb5_1_0rrr).bind fun (xb5_1_0rrrr, x8rr) => impl_trapTo.l3 k a0_0 a0_1 a0_2 a0_3 n x8rr (w64 (x46 + 1)) xb5_1_0rrrr else some (xb5_1_0rrr, x8r))

def impl_trapTo.l2 (k : Nat) (a0_0 : Int) (a0_1 : List (Int × Int × Int)) (a0_2 : List Int) (a0_3 : List Int) : Nat → Bool → (Arr 768) → Option ((Arr 768))
  | 0, _, _ => none
  | n + 1, x8, xb5_1_0rr => (if x8 = true then (impl_trapTo.l3 k a0_0 a0_1 a0_2 a0_3 k false 0 xb5_1_0rr).bind fun (xb5_1_0rrr, x8r) => impl_trapTo.l2 k a0_0 a0_1 a0_2 a0_3 n x8r xb5_1_0rrr else some xb5_1_0rr)

def impl_trapTo.l0 (k : Nat) (a0_0 : Int) (a1 : (Int → Int → Option (Bool))) : Nat → Int → (Arr 768) → Option ((Arr 768))
  | 0, _, _ => none
  | n + 1, x15, xb5_1_0 => (if (decide (x15 < 12)) = true then (impl_trapTo.l1 k a0_0 a1 x15 k 0 xb5_1_0).bind fun xb5_1_0r => impl_trapTo.l0 k a0_0 a1 n (w64 (x15 + 1)) xb5_1_0r else some xb5_1_0)

def impl_trapTo.f (k : Nat) (a0_0 : Int) (a0_1 : List (Int × Int × Int)) (a0_2 : List Int) (a0_3 : List Int) (a1 : (Int → Int → Option (Bool))) : Option ((Arr 768)) := (impl_trapTo.l0 k a0_0 a1 k 0 (Arr.rep 768 0)).bind fun xb5_1_0 => (impl_trapTo.l2 k a0_0 a0_1 a0_2 a0_3 k true xb5_1_0).bind fun xb5_1_0rr => some xb5_1_0rr

theorem impl_trapTo.ok {k : Nat}  {a0_0 : Int} {a0_1 : List (Int × Int × Int)} {a0_2 : List Int} {a0_3 : List Int} {a1 : (Int → Int → Option (Bool))} {r0 : Arr 768} (h : impl_trapTo.f k a0_0 a0_1 a0_2 a0_3 a1 = some r0) (w : World) {va0_1 : Value} {va0_2 : Value} {va0_3 : Value} (hr_a0_1 : Rd w va0_1 a0_1) (hr_a0_2 : Rd w va0_2 a0_2) (hr_a0_3 : Rd w va0_3 a0_3) {fi_a1 : FuncId} {ca_a1 : Array Value} (ho_a1 : CallOk Try.prog fi_a1) (hf_a1 : ∀ w2, Ext w w2 → ∀ (z0 : Int) (z1 : Int) (y : Bool), a1 z0 z1 = some y → Calls Try.prog fi_a1 (([.int .i64 z0, .int .i64 z1] : List Value) ++ ca_a1.toList).toArray w2 (fun e w3 => e = .returned (.bool y) ∧ Ext w2 w3)) :
    Calls Try.prog 145 ([.agg ([.int .i64 a0_0, va0_1, va0_2, va0_3].toArray), .func (.func fi_a1) #[] ca_a1] : List Value).toArray w (fun e w' => e = .returned (.agg (encA r0).toArray) ∧ Ext w w') := by
  unfold impl_trapTo.f at h
  have hl_va0_1 := hr_a0_1.len
  have hl_va0_2 := hr_a0_2.len
  have hl_va0_3 := hr_a0_3.len
  refine Calls.of_tri (N := 96) Try.func145 rfl rfl rfl (Sep.nil (M := noM)) ?_
  refine Tri.seq ?_
  refine Tri.reg (l := [0, 1]) rfl ?_
  refine F.m rfl rfl rfl (wanted_none rfl) (m_boxG rfl rfl) ?_
  rintro _ _ ⟨b2_1, rfl, rfl⟩
  refine F.m rfl rfl rfl (wanted_none rfl) (m_alloc ti114) ?_
  rintro _ _ ⟨b4_1, rfl, rfl⟩
  refine F.nil ?_
  refine Nrm.seq ?_
  refine Tri.seq ?_
  refine Tri.reg (l := [0, 1, 2]) rfl ?_
  refine F.q rfl rfl rfl (wanted_none rfl) (r_buildA (qs := []) (cs := encA (Arr.rep 768 0)) Try.underlying114 ti112 ti114 rfl .nil (encA_len _) rfl) ?_
  refine F.m rfl rfl rfl (wanted_none rfl) (m_alloc ti114) ?_
  rintro _ _ ⟨b5_1, rfl, rfl⟩
  refine F.ef0 rfl rfl (wanted_none rfl) (d_storeArr (i := 0) (g := (Arr.rep 768 0)) (h := (Arr.rep 768 0)) ti114 rfl rfl rfl) ?_
  rintro _ _ ⟨rfl, rfl⟩
  refine F.nil ?_
  refine Nrm.seq ?_
  refine Tri.seq ?_
  refine Tri.seq ?_
  refine Tri.reg (l := [0]) rfl ?_
  refine F.q rfl rfl rfl (wanted_none rfl) (r_move rfl) ?_
  refine F.nil ?_
  refine Nrm.seq ?_
  obtain ⟨xb5_1_0, hE_1, h⟩ := bind_some h
  refine Tri.block ?_
  refine Tri.only [1, 2, 4, 5, 15] rfl ?_
  refine Tri.pick [0, 1, 2] rfl rfl ?_
  refine Tri.rounds (fun n e' C' => ∃ (x15' : Int) (xb5_1_0' : Arr 768), impl_trapTo.l0 k a0_0 a1 n x15' xb5_1_0' = some xb5_1_0 ∧ e' = [(1, .func (.func fi_a1) #[] ca_a1), (2, .pointer (some ⟨b2_1, 0, none⟩)), (4, .pointer (some ⟨b4_1, 0, none⟩)), (5, .pointer (some ⟨b5_1, 0, none⟩)), (15, .int .i64 x15')] ∧ C' = Sep w noM [R.box b5_1 114 (encA xb5_1_0'), R.box b4_1 114 (encA (Arr.rep 768 0)), R.box b2_1 57 [.int .i64 a0_0, va0_1, va0_2, va0_3]]) k ?_ ?_ ?_
  · exact ⟨0, (Arr.rep 768 0), hE_1, rfl, rfl⟩
  · rintro _ _ ⟨_, _, hE_1, _⟩
    rw [impl_trapTo.l0.eq_1] at hE_1; cases hE_1
  · rintro n_1 _ _ ⟨x15, xb5_1_0, hE_1, rfl, rfl⟩ ih_1
    rw [impl_trapTo.l0.eq_2] at hE_1
    refine Tri.seq ?_
    refine Tri.reg (l := [0]) rfl ?_
    refine F.q rfl rfl rfl (wanted_none rfl) (r_lss rfl rfl) ?_
    refine F.nil ?_
    refine Nrm.seq ?_
    refine Tri.seq ?_
    refine Tri.cond (b := decide (x15 < 12)) rfl (fun g_1 => ?_) (fun g_1 => ?_)
    · replace hE_1 := if_tt g_1 hE_1
      refine Tri.skip ?_
      refine Nrm.seq ?_
      refine Tri.seq ?_
      refine Tri.block ?_
      refine Tri.seq ?_
      refine Tri.reg (l := [0, 1]) rfl ?_
      refine F.q rfl rfl rfl (wanted_none rfl) (r_move rfl) ?_
      refine F.q rfl rfl rfl (wanted_none rfl) (r_assign rfl) ?_
      refine F.nil ?_
      refine Nrm.seq ?_
      refine Tri.seq ?_
      refine Tri.reg (l := [0]) rfl ?_
      refine F.q rfl rfl rfl (wanted_none rfl) (r_move rfl) ?_
      refine F.nil ?_
      refine Nrm.seq ?_
      obtain ⟨xb5_1_0r, hE_2, hE_1⟩ := bind_some hE_1
      refine Tri.block ?_
      refine Tri.only [1, 2, 4, 5, 6, 15, 18] rfl ?_
      refine Tri.pick [0, 1, 2] rfl rfl ?_
      refine Tri.rounds (fun n e' C' => ∃ (x18' : Int) (xb5_1_0r' : Arr 768), impl_trapTo.l1 k a0_0 a1 x15 n x18' xb5_1_0r' = some xb5_1_0r ∧ e' = [(1, .func (.func fi_a1) #[] ca_a1), (2, .pointer (some ⟨b2_1, 0, none⟩)), (4, .pointer (some ⟨b4_1, 0, none⟩)), (5, .pointer (some ⟨b5_1, 0, none⟩)), (6, .int .i64 x15), (15, .int .i64 x15), (18, .int .i64 x18')] ∧ C' = Sep w noM [R.box b5_1 114 (encA xb5_1_0r'), R.box b4_1 114 (encA (Arr.rep 768 0)), R.box b2_1 57 [.int .i64 a0_0, va0_1, va0_2, va0_3]]) k ?_ ?_ ?_
      · exact ⟨0, xb5_1_0, hE_2, rfl, rfl⟩
      · rintro _ _ ⟨_, _, hE_2, _⟩
        rw [impl_trapTo.l1.eq_1] at hE_2; cases hE_2
      · rintro n_2 _ _ ⟨x18, xb5_1_0r, hE_2, rfl, rfl⟩ ih_2
        rw [impl_trapTo.l1.eq_2] at hE_2
        refine Tri.seq ?_
        refine Tri.reg (l := [0]) rfl ?_
        refine F.q rfl rfl rfl (wanted_none rfl) (r_lss rfl rfl) ?_
        refine F.nil ?_
        refine Nrm.seq ?_
        refine Tri.seq ?_
        refine Tri.cond (b := decide (x18 < 64)) rfl (fun g_2 => ?_) (fun g_2 => ?_)
        · replace hE_2 := if_tt g_2 hE_2
          refine Tri.skip ?_
          refine Nrm.seq ?_
          refine Tri.seq ?_
          refine Tri.block ?_
          refine Tri.seq ?_
          refine Tri.reg (l := [0, 1]) rfl ?_
          refine F.q rfl rfl rfl (wanted_none rfl) (r_move rfl) ?_
          refine F.q rfl rfl rfl (wanted_none rfl) (r_assign rfl) ?_
          refine F.nil ?_
          refine Nrm.seq ?_
          refine Tri.seq ?_
          obtain ⟨hb23, hE_2⟩ := ck hE_2
          obtain ⟨hb24, hE_2⟩ := ck hE_2
          refine Tri.reg (l := [0, 1, 2, 3, 4]) rfl ?_
          refine F.q rfl rfl rfl (wanted_none rfl) (r_move rfl) ?_
          refine F.q rfl rfl rfl (wanted_none rfl) (r_move rfl) ?_
          refine F.q rfl rfl rfl (wanted_none rfl) (r_indexAddrA Try.underlying114 ti112 rfl rfl hb23.1 hb23.2) ?_
          refine F.q rfl rfl rfl (wanted_none rfl) (r_indexAddrA Try.underlying112 ti3 rfl rfl hb24.1 hb24.2) ?_
          refine F.ef0 rfl rfl (wanted_none rfl) (d_storeTab (i := 0) (m := 64) (g := xb5_1_0r) (r := x15) (j := x18) (u := (-1)) ti3 rfl rfl rfl (tabB 12 64 768 hb23 rfl) hb24) ?_
          rintro _ _ ⟨rfl, rfl⟩
          refine F.nil ?_
          refine Nrm.seq ?_
          refine Tri.seq ?_
          obtain ⟨y35, hE_3, hE_2⟩ := bind_some hE_2
          refine Tri.cut (fun e' C' => e' = [(1, .func (.func fi_a1) #[] ca_a1), (2, .pointer (some ⟨b2_1, 0, none⟩)), (4, .pointer (some ⟨b4_1, 0, none⟩)), (5, .pointer (some ⟨b5_1, 0, none⟩)), (6, .int .i64 x15), (7, .int .i64 x18), (15, .int .i64 x15), (18, .int .i64 x18), (35, .bool y35)] ∧ C' = Sep w noM [R.box b5_1 114 (encA (Arr.put xb5_1_0r (x15 * 64 + x18) (-1))), R.box b4_1 114 (encA (Arr.rep 768 0)), R.box b2_1 57 [.int .i64 a0_0, va0_1, va0_2, va0_3]]) ?_ (fun hj_1 => ?_)
          · rintro _ _ ⟨rfl, rfl⟩
            refine Nrm.seq ?_
            obtain ⟨yb5_1_0, hE_4, hE_2⟩ := bind_some hE_2
            refine Tri.cut (fun e' C' => e' = [(1, .func (.func fi_a1) #[] ca_a1), (2, .pointer (some ⟨b2_1, 0, none⟩)), (4, .pointer (some ⟨b4_1, 0, none⟩)), (5, .pointer (some ⟨b5_1, 0, none⟩)), (6, .int .i64 x15), (15, .int .i64 x15), (18, .int .i64 x18)] ∧ C' = Sep w noM [R.box b5_1 114 (encA yb5_1_0), R.box b4_1 114 (encA (Arr.rep 768 0)), R.box b2_1 57 [.int .i64 a0_0, va0_1, va0_2, va0_3]]) ?_ (fun hj_2 => ?_)
            · rintro _ _ ⟨rfl, rfl⟩
              refine Nrm.block ?_
              refine Nrm.seq ?_
              refine Tri.reg (l := [0, 1]) rfl ?_
              refine F.q rfl rfl rfl (wanted_none rfl) (r_add rfl rfl) ?_
              refine F.q rfl rfl rfl (wanted_none rfl) (r_move rfl) ?_
              refine F.nil ?_
              refine Nrm.round ?_
              refine Rnd.only [1, 2, 4, 5, 6, 15, 18] rfl ?_
              refine Rnd.pick [0, 1, 2] rfl rfl ?_
              exact ih_2 _ _ ⟨w64 (x18 + 1), yb5_1_0, hE_2, rfl, rfl⟩
            · refine Tri.cond (b := y35) rfl (fun g_3 => ?_) (fun g_3 => ?_)
              · replace hE_4 := if_tt g_3 hE_4
                obtain ⟨hb38, hE_4⟩ := ck hE_4
                obtain ⟨hb39, hE_4⟩ := ck hE_4
                refine Tri.reg (l := [0, 1, 2, 3, 4]) rfl ?_
                refine F.q rfl rfl rfl (wanted_none rfl) (r_move rfl) ?_
                refine F.q rfl rfl rfl (wanted_none rfl) (r_move rfl) ?_
                refine F.q rfl rfl rfl (wanted_none rfl) (r_indexAddrA Try.underlying114 ti112 rfl rfl hb38.1 hb38.2) ?_
                refine F.q rfl rfl rfl (wanted_none rfl) (r_indexAddrA Try.underlying112 ti3 rfl rfl hb39.1 hb39.2) ?_
                refine F.ef0 rfl rfl (wanted_none rfl) (d_storeTab (i := 0) (m := 64) (g := (Arr.put xb5_1_0r (x15 * 64 + x18) (-1))) (r := x15) (j := x18) (u := 0) ti3 rfl rfl rfl (tabB 12 64 768 hb38 rfl) hb39) ?_
                rintro _ _ ⟨rfl, rfl⟩
                refine F.nil ?_
                cases hE_4
                refine Nrm.only [1, 2, 4, 5, 6, 15, 18] rfl ?_
                refine Nrm.pick [0, 1, 2] rfl rfl ?_
                exact hj_2 _ _ ⟨rfl, rfl⟩
              · replace hE_4 := if_ff g_3 hE_4
                refine Tri.skip ?_
                cases hE_4
                refine Nrm.only [1, 2, 4, 5, 6, 15, 18] rfl ?_
                refine Nrm.pick [0, 1, 2] rfl rfl ?_
                exact hj_2 _ _ ⟨rfl, rfl⟩
          · rcases Bool.eq_false_or_eq_true (decide (x15 < a0_0)) with g30 | g30
            · replace hE_3 := if_tt g30 hE_3
              obtain ⟨t34, h34, hE_3⟩ := bind_some hE_3
              refine Tri.reg (l := [0, 1, 2, 3, 4, 5, 6, 7, 8, 9, 10]) rfl ?_
              refine F.q rfl rfl rfl (wanted_none rfl) (r_move rfl) ?_
              refine F.q rfl rfl rfl (wanted_none rfl) (r_fieldAddr tf57_0 rfl) ?_
              refine F.q rfl rfl rfl (wanted_none rfl) (r_fieldAddr tf55_0 rfl) ?_
              refine F.q rfl rfl rfl (wanted_none rfl) (r_load ta3 rfl (fun w hw => cell_2 (box_cells (i := 2) rfl w hw) rfl)) ?_
              refine F.q rfl rfl rfl (wanted_none rfl) (r_lss rfl rfl) ?_
              refine F.q rfl rfl rfl (wanted_none rfl) (r_move rfl) ?_
              refine F.q rfl rfl rfl (wg rfl rfl rfl g30) (r_move rfl) ?_
              refine F.q rfl rfl rfl (wg rfl rfl rfl g30) (r_move rfl) ?_
              refine F.q rfl rfl rfl (wg rfl rfl rfl g30) (r_move rfl) ?_
              refine F.qc rfl rfl rfl (wg rfl rfl rfl g30) (q_callC (xs := _) rfl ho_a1 rfl rfl (fun w hw => hf_a1 w hw.ext _ _  _ h34)) ?_
              refine F.q rfl rfl rfl (wanted_none rfl) (r_pick rfl rfl g30) ?_
              refine F.nil ?_
              cases hE_3
              refine Nrm.only [1, 2, 4, 5, 6, 7, 15, 18, 35] rfl ?_
              refine Nrm.pick [0, 1, 2] rfl rfl ?_
              exact hj_1 _ _ ⟨rfl, rfl⟩
            · replace hE_3 := if_ff g30 hE_3
              refine Tri.reg (l := [0, 1, 2, 3, 4, 5, 6, 7, 8, 9, 10]) rfl ?_
              refine F.q rfl rfl rfl (wanted_none rfl) (r_move rfl) ?_
              refine F.q rfl rfl rfl (wanted_none rfl) (r_fieldAddr tf57_0 rfl) ?_
              refine F.q rfl rfl rfl (wanted_none rfl) (r_fieldAddr tf55_0 rfl) ?_
              refine F.q rfl rfl rfl (wanted_none rfl) (r_load ta3 rfl (fun w hw => cell_2 (box_cells (i := 2) rfl w hw) rfl)) ?_
              refine F.q rfl rfl rfl (wanted_none rfl) (r_lss rfl rfl) ?_
              refine F.q rfl rfl rfl (wanted_none rfl) (r_move rfl) ?_
              refine F.sk rfl rfl rfl (wf rfl rfl rfl g30) ?_
              refine F.sk rfl rfl rfl (wf rfl rfl rfl g30) ?_
              refine F.sk rfl rfl rfl (wf rfl rfl rfl g30) ?_
              refine F.sk rfl rfl rfl (wf rfl rfl rfl g30) ?_
              refine F.q rfl rfl rfl (wanted_none rfl) (r_pickf rfl rfl g30) ?_
              refine F.nil ?_
              cases hE_3
              refine Nrm.only [1, 2, 4, 5, 6, 7, 15, 18, 35] rfl ?_
              refine Nrm.pick [0, 1, 2] rfl rfl ?_
              exact hj_1 _ _ ⟨rfl, rfl⟩
        · replace hE_2 := if_ff g_2 hE_2
          refine Tri.exit ?_
          refine Exi.then ?_
          refine Exi.then ?_
          refine Exi.same ?_
          cases hE_2
          refine Nrm.block ?_
          refine Nrm.seq ?_
          refine Tri.reg (l := [0, 1]) rfl ?_
          refine F.q rfl rfl rfl (wanted_none rfl) (r_add rfl rfl) ?_
          refine F.q rfl rfl rfl (wanted_none rfl) (r_move rfl) ?_
          refine F.nil ?_
          refine Nrm.round ?_
          refine Rnd.only [1, 2, 4, 5, 15] rfl ?_
          refine Rnd.pick [0, 1, 2] rfl rfl ?_
          exact ih_1 _ _ ⟨w64 (x15 + 1), xb5_1_0r, hE_1, rfl, rfl⟩
    · replace hE_1 := if_ff g_1 hE_1
      refine Tri.exit ?_
      refine Exi.then ?_
      refine Exi.then ?_
      refine Exi.same ?_
      cases hE_1
      refine Nrm.seq ?_
      refine Tri.seq ?_
      refine Tri.seq ?_
      refine Tri.reg (l := [0]) rfl ?_
      refine F.q rfl rfl rfl (wanted_none rfl) (r_assign rfl) ?_
      refine F.nil ?_
      refine Nrm.seq ?_
      obtain ⟨xb5_1_0rr, hE_5, h⟩ := bind_some h
      refine Tri.block ?_
      refine Tri.only [2, 4, 5, 8] rfl ?_
      refine Tri.pick [0, 1, 2] rfl rfl ?_
      refine Tri.rounds (fun n e' C' => ∃ (x8' : Bool) (xb5_1_0rr' : Arr 768), impl_trapTo.l2 k a0_0 a0_1 a0_2 a0_3 n x8' xb5_1_0rr' = some xb5_1_0rr ∧ e' = [(2, .pointer (some ⟨b2_1, 0, none⟩)), (4, .pointer (some ⟨b4_1, 0, none⟩)), (5, .pointer (some ⟨b5_1, 0, none⟩)), (8, .bool x8')] ∧ C' = Sep w noM [R.box b5_1 114 (encA xb5_1_0rr'), R.box b4_1 114 (encA (Arr.rep 768 0)), R.box b2_1 57 [.int .i64 a0_0, va0_1, va0_2, va0_3]]) k ?_ ?_ ?_
      · exact ⟨true, xb5_1_0, hE_5, rfl, rfl⟩
      · rintro _ _ ⟨_, _, hE_5, _⟩
        rw [impl_trapTo.l2.eq_1] at hE_5; cases hE_5
      · rintro n_3 _ _ ⟨x8, xb5_1_0rr, hE_5, rfl, rfl⟩ ih_3
        rw [impl_trapTo.l2.eq_2] at hE_5
        refine Tri.seq ?_
        refine Tri.seq ?_
        refine Tri.reg (l := [0]) rfl ?_
        refine F.q rfl rfl rfl (wanted_none rfl) (r_move rfl) ?_
        refine F.nil ?_
        refine Nrm.seq ?_
        refine Tri.cond (b := x8) rfl (fun g_4 => ?_) (fun g_4 => ?_)
        · replace hE_5 := if_tt g_4 hE_5
          refine Tri.skip ?_
          refine Nrm.seq ?_
          refine Tri.block ?_
          refine Tri.seq ?_
          refine Tri.reg (l := [0]) rfl ?_
          refine F.q rfl rfl rfl (wanted_none rfl) (r_assign rfl) ?_
          refine F.nil ?_
          refine Nrm.seq ?_
          refine Tri.seq ?_
          refine Tri.reg (l := [0, 1, 2, 3]) rfl ?_
          refine F.q rfl rfl rfl (wanted_none rfl) (r_fieldAddr tf57_0 rfl) ?_
          refine F.q rfl rfl rfl (wanted_none rfl) (r_fieldAddr tf55_0 rfl) ?_
          refine F.q rfl rfl rfl (wanted_none rfl) (r_load ta3 rfl (fun w hw => cell_2 (box_cells (i := 2) rfl w hw) rfl)) ?_
          refine F.q rfl rfl rfl (wanted_none rfl) (r_move rfl) ?_
          refine F.nil ?_
          refine Nrm.seq ?_
          obtain ⟨⟨xb5_1_0rrr, x8r⟩, hE_6, hE_5⟩ := bind_some hE_5
          refine Tri.block ?_
          refine Tri.only [2, 4, 5, 8, 45, 46] rfl ?_
          refine Tri.pick [0, 1, 2] rfl rfl ?_
          refine Tri.rounds (fun n e' C' => ∃ (x8r' : Bool) (x46' : Int) (xb5_1_0rrr' : Arr 768), impl_trapTo.l3 k a0_0 a0_1 a0_2 a0_3 n x8r' x46' xb5_1_0rrr' = some (xb5_1_0rrr, x8r) ∧ e' = [(2, .pointer (some ⟨b2_1, 0, none⟩)), (4, .pointer (some ⟨b4_1, 0, none⟩)), (5, .pointer (some ⟨b5_1, 0, none⟩)), (8, .bool x8r'), (45, .int .i64 a0_0), (46, .int .i64 x46')] ∧ C' = Sep w noM [R.box b5_1 114 (encA xb5_1_0rrr'), R.box b4_1 114 (encA (Arr.rep 768 0)), R.box b2_1 57 [.int .i64 a0_0, va0_1, va0_2, va0_3]]) k ?_ ?_ ?_
          · exact ⟨false, 0, xb5_1_0rr, hE_6, rfl, rfl⟩
          · rintro _ _ ⟨_, _, _, hE_6, _⟩
            rw [impl_trapTo.l3.eq_1] at hE_6; cases hE_6
          · rintro n_4 _ _ ⟨x8r, x46, xb5_1_0rrr, hE_6, rfl, rfl⟩ ih_4
            rw [impl_trapTo.l3.eq_2] at hE_6
            refine Tri.seq ?_
            refine Tri.reg (l := [0]) rfl ?_
            refine F.q rfl rfl rfl (wanted_none rfl) (r_lss rfl rfl) ?_
            refine F.nil ?_
            refine Nrm.seq ?_
            refine Tri.seq ?_
            refine Tri.cond (b := decide (x46 < a0_0)) rfl (fun g_5 => ?_) (fun g_5 => ?_)
            · replace hE_6 := if_tt g_5 hE_6
              refine Tri.skip ?_
              refine Nrm.seq ?_
              refine Tri.seq ?_
              refine Tri.block ?_
              refine Tri.seq ?_
              refine Tri.reg (l := [0, 1]) rfl ?_
              refine F.q rfl rfl rfl (wanted_none rfl) (r_move rfl) ?_
              refine F.q rfl rfl rfl (wanted_none rfl) (r_assign rfl) ?_
              refine F.nil ?_
              refine Nrm.seq ?_
              refine Tri.seq ?_
              refine Tri.reg (l := [0]) rfl ?_
              refine F.q rfl rfl rfl (wanted_none rfl) (r_move rfl) ?_
              refine F.nil ?_
              refine Nrm.seq ?_
              obtain ⟨⟨xb5_1_0rrrr, x8rr⟩, hE_7, hE_6⟩ := bind_some hE_6
              refine Tri.block ?_
              refine Tri.only [2, 4, 5, 8, 9, 45, 46, 49] rfl ?_
              refine Tri.pick [0, 1, 2] rfl rfl ?_
              refine Tri.rounds (fun n e' C' => ∃ (x8rr' : Bool) (x49' : Int) (xb5_1_0rrrr' : Arr 768), impl_trapTo.l4 k a0_0 a0_1 a0_2 a0_3 x46 n x8rr' x49' xb5_1_0rrrr' = some (xb5_1_0rrrr, x8rr) ∧ e' = [(2, .pointer (some ⟨b2_1, 0, none⟩)), (4, .pointer (some ⟨b4_1, 0, none⟩)), (5, .pointer (some ⟨b5_1, 0, none⟩)), (8, .bool x8rr'), (9, .int .i64 x46), (45, .int .i64 a0_0), (46, .int .i64 x46), (49, .int .i64 x49')] ∧ C' = Sep w noM [R.box b5_1 114 (encA xb5_1_0rrrr'), R.box b4_1 114 (encA (Arr.rep 768 0)), R.box b2_1 57 [.int .i64 a0_0, va0_1, va0_2, va0_3]]) k ?_ ?_ ?_
              · exact ⟨x8r, 0, xb5_1_0rrr, hE_7, rfl, rfl⟩
              · rintro _ _ ⟨_, _, _, hE_7, _⟩
                rw [impl_trapTo.l4.eq_1] at hE_7; cases hE_7
              · rintro n_5 _ _ ⟨x8rr, x49, xb5_1_0rrrr, hE_7, rfl, rfl⟩ ih_5
                rw [impl_trapTo.l4.eq_2] at hE_7
                refine Tri.seq ?_
                refine Tri.reg (l := [0]) rfl ?_
                refine F.q rfl rfl rfl (wanted_none rfl) (r_lss rfl rfl) ?_
                refine F.nil ?_
                refine Nrm.seq ?_
                refine Tri.seq ?_
                refine Tri.cond (b := decide (x49 < 64)) rfl (fun g_6 => ?_) (fun g_6 => ?_)
                · replace hE_7 := if_tt g_6 hE_7
                  refine Tri.skip ?_
                  refine Nrm.seq ?_
                  refine Tri.seq ?_
                  refine Tri.block ?_
                  refine Tri.seq ?_
                  refine Tri.reg (l := [0, 1]) rfl ?_
                  refine F.q rfl rfl rfl (wanted_none rfl) (r_move rfl) ?_
                  refine F.q rfl rfl rfl (wanted_none rfl) (r_assign rfl) ?_
                  refine F.nil ?_
                  refine Nrm.seq ?_
                  refine Tri.seq ?_
                  obtain ⟨t55, h55, hE_7⟩ := bind_some hE_7
                  obtain ⟨t56, h56, hE_7⟩ := bind_some hE_7
                  refine Tri.reg (l := [0, 1, 2, 3, 4, 5, 6]) rfl ?_
                  refine F.q rfl rfl rfl (wanted_none rfl) (r_loadA ta57 ti57 rfl rfl (fun w hw => (box_cells (i := 2) rfl w hw))) ?_
                  refine F.q rfl rfl rfl (wanted_none rfl) (r_move rfl) ?_
                  refine F.q rfl rfl rfl (wanted_none rfl) (r_move rfl) ?_
                  refine F.qc rfl rfl rfl (wanted_none rfl) (q_callF (xs := _) rfl ok113 rfl rfl (fun w hw => impl_trapSteps.ok h55 w ((fun _ hw => hr_a0_1.sep hw) w hw) ((fun _ hw => hr_a0_2.sep hw) w hw) ((fun _ hw => hr_a0_3.sep hw) w hw))) ?_
                  refine F.m rfl rfl rfl (wanted_none rfl) (m_callF (xs := _) rfl ok112 rfl rfl (fun w hw => impl_members.ok h56 w )) ?_
                  rintro v56_1 _ ⟨_, ⟨S56_1, hl_v56_1, rfl⟩, rfl⟩
                  refine F.q rfl rfl rfl (wanted_none rfl) (r_len Try.underlying38 rfl hl_v56_1) ?_
                  refine F.q rfl rfl rfl (wanted_none rfl) (r_move rfl) ?_
                  refine F.nil ?_
                  refine Nrm.seq ?_
                  obtain ⟨⟨xb5_1_0rrrrr, x8rrr⟩, hE_8, hE_7⟩ := bind_some hE_7
                  refine Tri.block ?_
                  refine Tri.only [2, 4, 5, 8, 9, 10, 45, 46, 49, 56, 57, 58] rfl ?_
                  refine Tri.pick [1, 2, 3, 0] rfl rfl ?_
                  refine Tri.rounds (fun n e' C' => ∃ (x8rrr' : Bool) (x58' : Int) (xb5_1_0rrrrr' : Arr 768), impl_trapTo.l5 k a0_2 x46 x49 t56 n x8rrr' x58' xb5_1_0rrrrr' = some (xb5_1_0rrrrr, x8rrr) ∧ e' = [(2, .pointer (some ⟨b2_1, 0, none⟩)), (4, .pointer (some ⟨b4_1, 0, none⟩)), (5, .pointer (some ⟨b5_1, 0, none⟩)), (8, .bool x8rrr'), (9, .int .i64 x46), (10, .int .i64 x49), (45, .int .i64 a0_0), (46, .int .i64 x46), (49, .int .i64 x49), (56, v56_1), (57, .int .i64 (t56.length : Int)), (58, .int .i64 x58')] ∧ C' = Sep w noM [R.box b5_1 114 (encA xb5_1_0rrrrr'), R.box b4_1 114 (encA (Arr.rep 768 0)), R.box b2_1 57 [.int .i64 a0_0, va0_1, va0_2, va0_3], R.sl S56_1 v56_1 (t56 : List (Int))]) k ?_ ?_ ?_
                  · exact ⟨x8rr, 0, xb5_1_0rrrr, hE_8, rfl, rfl⟩
                  · rintro _ _ ⟨_, _, _, hE_8, _⟩
                    rw [impl_trapTo.l5.eq_1] at hE_8; cases hE_8
                  · rintro n_6 _ _ ⟨x8rrr, x58, xb5_1_0rrrrr, hE_8, rfl, rfl⟩ ih_6
                    rw [impl_trapTo.l5.eq_2] at hE_8
                    refine Tri.seq ?_
                    refine Tri.reg (l := [0]) rfl ?_
                    refine F.q rfl rfl rfl (wanted_none rfl) (r_lss rfl rfl) ?_
                    refine F.nil ?_
                    refine Nrm.seq ?_
                    refine Tri.seq ?_
                    refine Tri.cond (b := decide (x58 < (t56.length : Int))) rfl (fun g_7 => ?_) (fun g_7 => ?_)
                    · replace hE_8 := if_tt g_7 hE_8
                      refine Tri.skip ?_
                      refine Nrm.seq ?_
                      refine Tri.seq ?_
                      refine Tri.block ?_
                      refine Tri.seq ?_
                      obtain ⟨t60, h60, hE_8⟩ := bind_some hE_8
                      refine Tri.reg (l := [0, 1, 2]) rfl ?_
                      refine F.q rfl rfl rfl (wanted_none rfl) (r_indexAddrS Try.underlying38 ti3 rfl hl_v56_1 rfl (rdl_some h60).1 (rdl_some h60).2.1) ?_
                      refine F.q rfl rfl rfl (wanted_none rfl) (r_load ta3 rfl (fun w hw => cell_0 (Rd.flat ((rd_sl (i := 3) rfl) w hw) (rdl_some h60).2.2) rfl)) ?_
                      refine F.q rfl rfl rfl (wanted_none rfl) (r_assign rfl) ?_
                      refine F.nil ?_
                      refine Nrm.seq ?_
                      refine Tri.seq ?_
                      obtain ⟨t68, h68, hE_8⟩ := bind_some hE_8
                      obtain ⟨hb71, hE_8⟩ := ck hE_8
                      obtain ⟨hb72, hE_8⟩ := ck hE_8
                      refine Tri.drawA mixedT Sep.up [(0, true), (1, true), (2, true), (3, true), (4, true), (5, true), (6, true), (7, true), (8, true), (9, true), (10, true), (11, true), (12, true)] [] (by kernel_rfl) ?_
                      refine S.q rfl rfl rfl (wanted_none rfl) (r_move rfl) ?_
                      refine S.q rfl rfl rfl (wanted_none rfl) (r_move rfl) ?_
                      refine S.q rfl rfl rfl (wanted_none rfl) (r_fieldAddr tf57_0 rfl) ?_
                      refine S.q rfl rfl rfl (wanted_none rfl) (r_fieldAddr tf55_2 rfl) ?_
                      refine S.q rfl rfl rfl (wanted_none rfl) (r_load ta38 rfl (fun w hw => cell_2 (box_cells (i := 2) rfl w hw) rfl)) ?_
                      refine S.q rfl rfl rfl (wanted_none rfl) (r_move rfl) ?_
                      refine S.q rfl rfl rfl (wanted_none rfl) (r_indexAddrS Try.underlying38 ti3 rfl hl_va0_2 rfl (rdl_some h68).1 (rdl_some h68).2.1) ?_
                      refine S.q rfl rfl rfl (wanted_none rfl) (r_load ta3 rfl (fun w hw => cell_0 (Rd.flat ((fun _ hw => hr_a0_2.sep hw) w hw) (rdl_some h68).2.2) rfl)) ?_
                      refine S.q rfl rfl rfl (wanted_none rfl) (r_or rfl rfl) ?_
                      refine S.q rfl rfl rfl (wanted_none rfl) (r_indexAddrA Try.underlying114 ti112 rfl rfl hb71.1 hb71.2) ?_
                      refine S.q rfl rfl rfl (wanted_none rfl) (r_indexAddrA Try.underlying112 ti3 rfl rfl hb72.1 hb72.2) ?_
                      refine S.q rfl rfl rfl (wanted_none rfl) (r_load ta3 rfl (fun w hw => cell_tab (g := xb5_1_0rrrrr) (m := 64) (box_cells (i := 0) rfl w hw) (tabB 12 64 768 hb71 rfl) hb72)) ?_
                      refine S.q rfl rfl rfl (wanted_none rfl) (r_assign rfl) ?_
                      refine S.nil ?_
                      refine F.nil ?_
                      refine Nrm.seq ?_
                      refine Tri.seq ?_
                      obtain ⟨y85, hE_9, hE_8⟩ := bind_some hE_8
                      refine Tri.cut (fun e' C' => e' = [(2, .pointer (some ⟨b2_1, 0, none⟩)), (4, .pointer (some ⟨b4_1, 0, none⟩)), (5, .pointer (some ⟨b5_1, 0, none⟩)), (8, .bool x8rrr), (9, .int .i64 x46), (10, .int .i64 x49), (13, .int .i64 (Arr.at xb5_1_0rrrrr (t60 * 64 + (bor x49 t68)))), (45, .int .i64 a0_0), (46, .int .i64 x46), (49, .int .i64 x49), (56, v56_1), (57, .int .i64 (t56.length : Int)), (58, .int .i64 x58), (85, .bool y85)] ∧ C' = Sep w noM [R.box b5_1 114 (encA xb5_1_0rrrrr), R.box b4_1 114 (encA (Arr.rep 768 0)), R.box b2_1 57 [.int .i64 a0_0, va0_1, va0_2, va0_3], R.sl S56_1 v56_1 (t56 : List (Int))]) ?_ (fun hj_3 => ?_)
                      · rintro _ _ ⟨rfl, rfl⟩
                        refine Nrm.seq ?_
                        obtain ⟨⟨y8, yb5_1_0r⟩, hE_10, hE_8⟩ := bind_some hE_8
                        refine Tri.cut (fun e' C' => e' = [(2, .pointer (some ⟨b2_1, 0, none⟩)), (4, .pointer (some ⟨b4_1, 0, none⟩)), (5, .pointer (some ⟨b5_1, 0, none⟩)), (8, .bool y8), (9, .int .i64 x46), (10, .int .i64 x49), (45, .int .i64 a0_0), (46, .int .i64 x46), (49, .int .i64 x49), (56, v56_1), (57, .int .i64 (t56.length : Int)), (58, .int .i64 x58)] ∧ C' = Sep w noM [R.box b5_1 114 (encA yb5_1_0r), R.box b4_1 114 (encA (Arr.rep 768 0)), R.box b2_1 57 [.int .i64 a0_0, va0_1, va0_2, va0_3], R.sl S56_1 v56_1 (t56 : List (Int))]) ?_ (fun hj_4 => ?_)
                        · rintro _ _ ⟨rfl, rfl⟩
                          refine Nrm.block ?_
                          refine Nrm.seq ?_
                          refine Tri.reg (l := [0, 1]) rfl ?_
                          refine F.q rfl rfl rfl (wanted_none rfl) (r_add rfl rfl) ?_
                          refine F.q rfl rfl rfl (wanted_none rfl) (r_move rfl) ?_
                          refine F.nil ?_
                          refine Nrm.round ?_
                          refine Rnd.only [2, 4, 5, 8, 9, 10, 45, 46, 49, 56, 57, 58] rfl ?_
                          refine Rnd.pick [0, 1, 2, 3] rfl rfl ?_
                          exact ih_6 _ _ ⟨y8, w64 (x58 + 1), yb5_1_0r, hE_8, rfl, rfl⟩
                        · refine Tri.cond (b := y85) rfl (fun g_8 => ?_) (fun g_8 => ?_)
                          · replace hE_10 := if_tt g_8 hE_10
                            refine Tri.seq ?_
                            obtain ⟨hb90, hE_10⟩ := ck hE_10
                            obtain ⟨hb91, hE_10⟩ := ck hE_10
                            refine Tri.reg (l := [0, 1, 2, 3, 4, 5, 6]) rfl ?_
                            refine F.q rfl rfl rfl (wanted_none rfl) (r_move rfl) ?_
                            refine F.q rfl rfl rfl (wanted_none rfl) (r_move rfl) ?_
                            refine F.q rfl rfl rfl (wanted_none rfl) (r_move rfl) ?_
                            refine F.q rfl rfl rfl (wanted_none rfl) (r_add rfl rfl) ?_
                            refine F.q rfl rfl rfl (wanted_none rfl) (r_indexAddrA Try.underlying114 ti112 rfl rfl hb90.1 hb90.2) ?_
                            refine F.q rfl rfl rfl (wanted_none rfl) (r_indexAddrA Try.underlying112 ti3 rfl rfl hb91.1 hb91.2) ?_
                            refine F.ef0 rfl rfl (wanted_none rfl) (d_storeTab (i := 0) (m := 64) (g := xb5_1_0rrrrr) (r := x46) (j := x49) (u := w64 ((Arr.at xb5_1_0rrrrr (t60 * 64 + (bor x49 t68))) + 1)) ti3 rfl rfl rfl (tabB 12 64 768 hb90 rfl) hb91) ?_
                            rintro _ _ ⟨rfl, rfl⟩
                            refine F.nil ?_
                            refine Nrm.seq ?_
                            refine Tri.reg (l := [0]) rfl ?_
                            refine F.q rfl rfl rfl (wanted_none rfl) (r_assign rfl) ?_
                            refine F.nil ?_
                            cases hE_10
                            refine Nrm.only [2, 4, 5, 8, 9, 10, 45, 46, 49, 56, 57, 58] rfl ?_
                            refine Nrm.pick [0, 1, 2, 3] rfl rfl ?_
                            exact hj_4 _ _ ⟨rfl, rfl⟩
                          · replace hE_10 := if_ff g_8 hE_10
                            refine Tri.skip ?_
                            cases hE_10
                            refine Nrm.only [2, 4, 5, 8, 9, 10, 45, 46, 49, 56, 57, 58] rfl ?_
                            refine Nrm.pick [0, 1, 2, 3] rfl rfl ?_
                            exact hj_4 _ _ ⟨rfl, rfl⟩
                      · rcases Bool.eq_false_or_eq_true (decide ((Arr.at xb5_1_0rrrrr (t60 * 64 + (bor x49 t68))) ≥ 0)) with g76 | g76
                        · replace hE_9 := if_tt g76 hE_9
                          obtain ⟨hb81, hE_9⟩ := ck hE_9
                          obtain ⟨hb82, hE_9⟩ := ck hE_9
                          obtain ⟨t84, h84, hE_9⟩ := bind_some hE_9
                          refine Tri.reg (l := [0, 1, 2, 3, 4, 5, 6, 7, 8, 9, 10, 11]) rfl ?_
                          refine F.q rfl rfl rfl (wanted_none rfl) (r_move rfl) ?_
                          refine F.q rfl rfl rfl (wanted_none rfl) (r_geq rfl rfl) ?_
                          refine F.q rfl rfl rfl (wanted_none rfl) (r_move rfl) ?_
                          refine F.q rfl rfl rfl (wg rfl rfl rfl g76) (r_move rfl) ?_
                          refine F.q rfl rfl rfl (wg rfl rfl rfl g76) (r_add rfl rfl) ?_
                          refine F.q rfl rfl rfl (wg rfl rfl rfl g76) (r_move rfl) ?_
                          refine F.q rfl rfl rfl (wg rfl rfl rfl g76) (r_move rfl) ?_
                          refine F.q rfl rfl rfl (wg rfl rfl rfl g76) (r_indexAddrA Try.underlying114 ti112 rfl rfl hb81.1 hb81.2) ?_
                          refine F.q rfl rfl rfl (wg rfl rfl rfl g76) (r_indexAddrA Try.underlying112 ti3 rfl rfl hb82.1 hb82.2) ?_
                          refine F.q rfl rfl rfl (wg rfl rfl rfl g76) (r_load ta3 rfl (fun w hw => cell_tab (g := xb5_1_0rrrrr) (m := 64) (box_cells (i := 0) rfl w hw) (tabB 12 64 768 hb81 rfl) hb82)) ?_
                          refine F.qc rfl rfl rfl (wg rfl rfl rfl g76) (q_callF (xs := _) rfl ok170 rfl rfl (fun w hw => impl_better.ok h84 w )) ?_
                          refine F.q rfl rfl rfl (wanted_none rfl) (r_pick rfl rfl g76) ?_
                          refine F.nil ?_
                          cases hE_9
                          refine Nrm.only [2, 4, 5, 8, 9, 10, 13, 45, 46, 49, 56, 57, 58, 85] rfl ?_
                          refine Nrm.pick [0, 1, 2, 3] rfl rfl ?_
                          exact hj_3 _ _ ⟨rfl, rfl⟩
                        · replace hE_9 := if_ff g76 hE_9
                          refine Tri.reg (l := [0, 1, 2, 3, 4, 5, 6, 7, 8, 9, 10, 11]) rfl ?_
                          refine F.q rfl rfl rfl (wanted_none rfl) (r_move rfl) ?_
                          refine F.q rfl rfl rfl (wanted_none rfl) (r_geq rfl rfl) ?_
                          refine F.q rfl rfl rfl (wanted_none rfl) (r_move rfl) ?_
                          refine F.sk rfl rfl rfl (wf rfl rfl rfl g76) ?_
                          refine F.sk rfl rfl rfl (wf rfl rfl rfl g76) ?_
                          refine F.sk rfl rfl rfl (wf rfl rfl rfl g76) ?_
                          refine F.sk rfl rfl rfl (wf rfl rfl rfl g76) ?_
                          refine F.sk rfl rfl rfl (wf rfl rfl rfl g76) ?_
                          refine F.sk rfl rfl rfl (wf rfl rfl rfl g76) ?_
                          refine F.sk rfl rfl rfl (wf rfl rfl rfl g76) ?_
                          refine F.sk rfl rfl rfl (wf rfl rfl rfl g76) ?_
                          refine F.q rfl rfl rfl (wanted_none rfl) (r_pickf rfl rfl g76) ?_
                          refine F.nil ?_
                          cases hE_9
                          refine Nrm.only [2, 4, 5, 8, 9, 10, 13, 45, 46, 49, 56, 57, 58, 85] rfl ?_
                          refine Nrm.pick [0, 1, 2, 3] rfl rfl ?_
                          exact hj_3 _ _ ⟨rfl, rfl⟩
                    · replace hE_8 := if_ff g_7 hE_8
                      refine Tri.exit ?_
                      refine Exi.then ?_
                      refine Exi.then ?_
                      refine Exi.same ?_
                      cases hE_8
                      refine Nrm.block ?_
                      refine Nrm.seq ?_
                      refine Tri.reg (l := [0, 1]) rfl ?_
                      refine F.q rfl rfl rfl (wanted_none rfl) (r_add rfl rfl) ?_
                      refine F.q rfl rfl rfl (wanted_none rfl) (r_move rfl) ?_
                      refine F.nil ?_
                      refine Nrm.round ?_
                      refine Rnd.only [2, 4, 5, 8, 9, 45, 46, 49] rfl ?_
                      refine Rnd.pick [0, 1, 2] rfl rfl ?_
                      exact ih_5 _ _ ⟨x8rrr, w64 (x49 + 1), xb5_1_0rrrrr, hE_7, rfl, rfl⟩
                · replace hE_7 := if_ff g_6 hE_7
                  refine Tri.exit ?_
                  refine Exi.then ?_
                  refine Exi.then ?_
                  refine Exi.same ?_
                  cases hE_7
                  refine Nrm.block ?_
                  refine Nrm.seq ?_
                  refine Tri.reg (l := [0, 1]) rfl ?_
                  refine F.q rfl rfl rfl (wanted_none rfl) (r_add rfl rfl) ?_
                  refine F.q rfl rfl rfl (wanted_none rfl) (r_move rfl) ?_
                  refine F.nil ?_
                  refine Nrm.round ?_
                  refine Rnd.only [2, 4, 5, 8, 45, 46] rfl ?_
                  refine Rnd.pick [0, 1, 2] rfl rfl ?_
                  exact ih_4 _ _ ⟨x8rr, w64 (x46 + 1), xb5_1_0rrrr, hE_6, rfl, rfl⟩
            · replace hE_6 := if_ff g_5 hE_6
              refine Tri.exit ?_
              refine Exi.then ?_
              refine Exi.then ?_
              refine Exi.same ?_
              cases hE_6
              refine Nrm.block ?_
              refine Nrm.round ?_
              refine Rnd.only [2, 4, 5, 8] rfl ?_
              refine Rnd.pick [0, 1, 2] rfl rfl ?_
              exact ih_3 _ _ ⟨x8r, xb5_1_0rrr, hE_5, rfl, rfl⟩
        · replace hE_5 := if_ff g_4 hE_5
          refine Tri.exit ?_
          refine Exi.then ?_
          refine Exi.then ?_
          refine Exi.same ?_
          cases hE_5
          refine Nrm.seq ?_
          refine Tri.seq ?_
          refine Tri.reg (l := [0, 1]) rfl ?_
          refine F.q rfl rfl rfl (wanted_none rfl) (r_loadA (cs := encA xb5_1_0rr) ta114 ti114 rfl (encA_len _) (fun w hw => (box_cells (i := 0) rfl w hw))) ?_
          refine F.ef0 rfl rfl (wanted_none rfl) (d_storeArr (i := 1) (g := (Arr.rep 768 0)) (h := xb5_1_0rr) ti114 rfl rfl rfl) ?_
          rintro _ _ ⟨rfl, rfl⟩
          refine F.nil ?_
          refine Nrm.seq ?_
          refine Tri.ret ?_
          cases h
          exact Rtn.body (.cell rfl ta114 ti114 (encA_len _) (fun _ hw => box_cells (i := 1) rfl _ hw) .nil) (fun w hw => ⟨rfl, hw.ext⟩)

end Go.Proofs

/- loop.example/g01158/impl.toTrapGoal$1 -/

namespace Go.Proofs
open Go Go.Ga
set_option linter.unusedVariables false
set_option maxRecDepth 100000
set_option maxHeartbeats 4000000
def impl_toTrapGoal_1.f (k : Nat) (a0 : Int) (a1 : Int) (c0_0 : Int) (c0_1 : List (Int × Int × Int)) (c0_2 : List Int) (c0_3 : List Int) : Option (Bool) := some (a0 == (w64 (c0_0 - 1)))

theorem impl_toTrapGoal_1.ok {k : Nat} {pc0 : Addr} {a0 : Int} {a1 : Int} {c0_0 : Int} {c0_1 : List (Int × Int × Int)} {c0_2 : List Int} {c0_3 : List Int} {r0 : Bool} (h : impl_toTrapGoal_1.f k a0 a1 c0_0 c0_1 c0_2 c0_3 = some r0) (w : World) {vc0_1 : Value} {vc0_2 : Value} {vc0_3 : Value} (hb_c0 : CellsAt w pc0 [.int .i64 c0_0, vc0_1, vc0_2, vc0_3]) (hr_c0_1 : Rd w vc0_1 c0_1) (hr_c0_2 : Rd w vc0_2 c0_2) (hr_c0_3 : Rd w vc0_3 c0_3) :
    Calls Try.prog 146 ([.int .i64 a0, .int .i64 a1, .pointer (some pc0)] : List Value).toArray w (fun e w' => e = .returned (.bool r0) ∧ Ext w w') := by
  unfold impl_toTrapGoal_1.f at h
  have hl_vc0_1 := hr_c0_1.len
  have hl_vc0_2 := hr_c0_2.len
  have hl_vc0_3 := hr_c0_3.len
  refine Calls.of_tri (N := 12) Try.func146 rfl rfl rfl (Sep.nil (M := noM)) ?_
  refine Tri.seq ?_
  refine Tri.reg (l := [0]) rfl ?_
  refine F.q rfl rfl rfl (wanted_none rfl) (r_assign rfl) ?_
  refine F.nil ?_
  refine Nrm.seq ?_
  refine Tri.seq ?_
  refine Tri.reg (l := [0, 1, 2, 3, 4, 5, 6]) rfl ?_
  refine F.q rfl rfl rfl (wanted_none rfl) (r_move rfl) ?_
  refine F.q rfl rfl rfl (wanted_none rfl) (r_fieldAddr tf57_0 rfl) ?_
  refine F.q rfl rfl rfl (wanted_none rfl) (r_fieldAddr tf55_0 rfl) ?_
  refine F.q rfl rfl rfl (wanted_none rfl) (r_load ta3 rfl (fun w hw => cell_2 (hb_c0.sep hw) rfl)) ?_
  refine F.q rfl rfl rfl (wanted_none rfl) (r_sub rfl rfl) ?_
  refine F.q rfl rfl rfl (wanted_none rfl) (r_eql rfl rfl) ?_
  refine F.q rfl rfl rfl (wanted_none rfl) (r_assign rfl) ?_
  refine F.nil ?_
  refine Nrm.seq ?_
  refine Tri.ret ?_
  cases h
  exact Rtn.body (.tmp rfl .nil) (fun w hw => ⟨rfl, hw.ext⟩)

end Go.Proofs

/- loop.example/g01158/impl.toTrapGoal -/
namespace Go.Proofs
open Go Go.Ga
set_option linter.unusedVariables false
set_option maxRecDepth 100000
set_option maxHeartbeats 4000000
def impl_toTrapGoal.f (k : Nat) (a0_0 : Int) (a0_1 : List (Int × Int × Int)) (a0_2 : List Int) (a0_3 : List Int) : Option ((Arr 768)) := (impl_trapTo.f k a0_0 a0_1 a0_2 a0_3 (fun z0 z1 => impl_toTrapGoal_1.f k z0 z1 a0_0 a0_1 a0_2 a0_3)).bind fun t5 => some t5

theorem impl_toTrapGoal.ok {k : Nat}  {a0_0 : Int} {a0_1 : List (Int × Int × Int)} {a0_2 : List Int} {a0_3 : List Int} {r0 : Arr 768} (h : impl_toTrapGoal.f k a0_0 a0_1 a0_2 a0_3 = some r0) (w : World) {va0_1 : Value} {va0_2 : Value} {va0_3 : Value} (hr_a0_1 : Rd w va0_1 a0_1) (hr_a0_2 : Rd w va0_2 a0_2) (hr_a0_3 : Rd w va0_3 a0_3) :
    Calls Try.prog 100 ([.agg ([.int .i64 a0_0, va0_1, va0_2, va0_3].toArray)] : List Value).toArray w (fun e w' => e = .returned (.agg (encA r0).toArray) ∧ Ext w w') := by
  unfold impl_toTrapGoal.f at h
  have hl_va0_1 := hr_a0_1.len
  have hl_va0_2 := hr_a0_2.len
  have hl_va0_3 := hr_a0_3.len
  refine Calls.of_tri (N := 6) Try.func100 rfl rfl rfl (Sep.nil (M := noM)) ?_
  refine Tri.seq ?_
  refine Tri.reg (l := [0, 1]) rfl ?_
  refine F.m rfl rfl rfl (wanted_none rfl) (m_boxG rfl rfl) ?_
  rintro _ _ ⟨b1_1, rfl, rfl⟩
  refine F.m rfl rfl rfl (wanted_none rfl) (m_alloc ti114) ?_
  rintro _ _ ⟨b2_1, rfl, rfl⟩
  refine F.nil ?_
  refine Nrm.seq ?_
  refine Tri.seq ?_
  obtain ⟨t5, h5, h⟩ := bind_some h
  refine Tri.reg (l := [0, 1, 2, 3]) rfl ?_
  refine F.q rfl rfl rfl (wanted_none rfl) (r_loadA ta57 ti57 rfl rfl (fun w hw => (box_cells (i := 1) rfl w hw))) ?_
  refine F.q rfl rfl rfl (wanted_none rfl) (r_makeFunc rfl) ?_
  refine F.qc rfl rfl rfl (wanted_none rfl) (q_callF (xs := _) rfl ok145 rfl rfl (fun w hw => impl_trapTo.ok h5 w ((fun _ hw => hr_a0_1.sep hw) w hw) ((fun _ hw => hr_a0_2.sep hw) w hw) ((fun _ hw => hr_a0_3.sep hw) w hw) ok146 (fun w2 he2 z0 z1 y2 hy2 => impl_toTrapGoal_1.ok hy2 w2 ((box_cells (i := 1) rfl w hw).ext he2) (((fun _ hw => hr_a0_1.sep hw) w hw).ext he2) (((fun _ hw => hr_a0_2.sep hw) w hw).ext he2) (((fun _ hw => hr_a0_3.sep hw) w hw).ext he2)))) ?_
  refine F.ef0 rfl rfl (wanted_none rfl) (d_storeArr (i := 0) (g := (Arr.rep 768 0)) (h := t5) ti114 rfl rfl rfl) ?_
  rintro _ _ ⟨rfl, rfl⟩
  refine F.nil ?_
  refine Nrm.seq ?_
  refine Tri.ret ?_
  cases h
  exact Rtn.body (.cell rfl ta114 ti114 (encA_len _) (fun _ hw => box_cells (i := 0) rfl _ hw) .nil) (fun w hw => ⟨rfl, hw.ext⟩)

end Go.Proofs

/- loop.example/g01158/impl.toLost$1 -/

namespace Go.Proofs
open Go Go.Ga
set_option linter.unusedVariables false
set_option maxRecDepth 100000
set_option maxHeartbeats 4000000
def impl_toLost_1.f (k : Nat) (a0 : Int) (a1 : Int) (c0 : Arr 768) : Option (Bool) := if 0 ≤ a0 ∧ a0 < 12 then if 0 ≤ a1 ∧ a1 < 64 then some (decide ((Arr.at c0 (a0 * 64 + a1)) < 0)) else none else none

theorem impl_toLost_1.ok {k : Nat} {pc0 : Addr} {a0 : Int} {a1 : Int} {c0 : Arr 768} {r0 : Bool} (h : impl_toLost_1.f k a0 a1 c0 = some r0) (w : World) (hb_c0 : CellsAt w pc0 (encA c0)) :
    Calls Try.prog 156 ([.int .i64 a0, .int .i64 a1, .pointer (some pc0)] : List Value).toArray w (fun e w' => e = .returned (.bool r0) ∧ Ext w w') := by
  unfold impl_toLost_1.f at h
  refine Calls.of_tri (N := 12) Try.func156 rfl rfl rfl (Sep.nil (M := noM)) ?_
  refine Tri.seq ?_
  refine Tri.reg (l := [0]) rfl ?_
  refine F.q rfl rfl rfl (wanted_none rfl) (r_assign rfl) ?_
  refine F.nil ?_
  refine Nrm.seq ?_
  refine Tri.seq ?_
  obtain ⟨hb8, h⟩ := ck h
  obtain ⟨hb9, h⟩ := ck h
  refine Tri.reg (l := [0, 1, 2, 3, 4, 5, 6]) rfl ?_
  refine F.q rfl rfl rfl (wanted_none rfl) (r_move rfl) ?_
  refine F.q rfl rfl rfl (wanted_none rfl) (r_move rfl) ?_
  refine F.q rfl rfl rfl (wanted_none rfl) (r_indexAddrA Try.underlying114 ti112 rfl rfl hb8.1 hb8.2) ?_
  refine F.q rfl rfl rfl (wanted_none rfl) (r_indexAddrA Try.underlying112 ti3 rfl rfl hb9.1 hb9.2) ?_
  refine F.q rfl rfl rfl (wanted_none rfl) (r_load ta3 rfl (fun w hw => cell_tab (g := c0) (m := 64) (hb_c0.sep hw) (tabB 12 64 768 hb8 rfl) hb9)) ?_
  refine F.q rfl rfl rfl (wanted_none rfl) (r_lss rfl rfl) ?_
  refine F.q rfl rfl rfl (wanted_none rfl) (r_assign rfl) ?_
  refine F.nil ?_
  refine Nrm.seq ?_
  refine Tri.ret ?_
  cases h
  exact Rtn.body (.tmp rfl .nil) (fun w hw => ⟨rfl, hw.ext⟩)

end Go.Proofs

/- loop.example/g01158/impl.toLost -/
namespace Go.Proofs
open Go Go.Ga
set_option linter.unusedVariables false
set_option maxRecDepth 100000
set_option maxHeartbeats 4000000
def impl_toLost.f (k : Nat) (a0_0 : Int) (a0_1 : List (Int × Int × Int)) (a0_2 : List Int) (a0_3 : List Int) : Option ((Arr 768)) := (impl_toTrapGoal.f k a0_0 a0_1 a0_2 a0_3).bind fun t5 => (impl_trapTo.f k a0_0 a0_1 a0_2 a0_3 (fun z0 z1 => impl_toLost_1.f k z0 z1 t5)).bind fun t8 => some t8

theorem impl_toLost.ok {k : Nat}  {a0_0 : Int} {a0_1 : List (Int × Int × Int)} {a0_2 : List Int} {a0_3 : List Int} {r0 : Arr 768} (h : impl_toLost.f k a0_0 a0_1 a0_2 a0_3 = some r0) (w : World) {va0_1 : Value} {va0_2 : Value} {va0_3 : Value} (hr_a0_1 : Rd w va0_1 a0_1) (hr_a0_2 : Rd w va0_2 a0_2) (hr_a0_3 : Rd w va0_3 a0_3) :
    Calls Try.prog 115 ([.agg ([.int .i64 a0_0, va0_1, va0_2, va0_3].toArray)] : List Value).toArray w (fun e w' => e = .returned (.agg (encA r0).toArray) ∧ Ext w w') := by
  unfold impl_toLost.f at h
  have hl_va0_1 := hr_a0_1.len
  have hl_va0_2 := hr_a0_2.len
  have hl_va0_3 := hr_a0_3.len
  refine Calls.of_tri (N := 9) Try.func115 rfl rfl rfl (Sep.nil (M := noM)) ?_
  refine Tri.seq ?_
  refine Tri.reg (l := [0, 1]) rfl ?_
  refine F.m rfl rfl rfl (wanted_none rfl) (m_boxG rfl rfl) ?_
  rintro _ _ ⟨b1_1, rfl, rfl⟩
  refine F.m rfl rfl rfl (wanted_none rfl) (m_alloc ti114) ?_
  rintro _ _ ⟨b2_1, rfl, rfl⟩
  refine F.nil ?_
  refine Nrm.seq ?_
  refine Tri.seq ?_
  obtain ⟨t5, h5, h⟩ := bind_some h
  refine Tri.reg (l := [0, 1, 2, 3]) rfl ?_
  refine F.q rfl rfl rfl (wanted_none rfl) (r_loadA ta57 ti57 rfl rfl (fun w hw => (box_cells (i := 1) rfl w hw))) ?_
  refine F.qc rfl rfl rfl (wanted_none rfl) (q_callF (xs := _) rfl ok100 rfl rfl (fun w hw => impl_toTrapGoal.ok h5 w ((fun _ hw => hr_a0_1.sep hw) w hw) ((fun _ hw => hr_a0_2.sep hw) w hw) ((fun _ hw => hr_a0_3.sep hw) w hw))) ?_
  refine F.m rfl rfl rfl (wanted_none rfl) (m_alloc ti114) ?_
  rintro _ _ ⟨b3_1, rfl, rfl⟩
  refine F.ef0 rfl rfl (wanted_none rfl) (d_storeArr (i := 0) (g := (Arr.rep 768 0)) (h := t5) ti114 rfl rfl rfl) ?_
  rintro _ _ ⟨rfl, rfl⟩
  refine F.nil ?_
  refine Nrm.seq ?_
  refine Tri.seq ?_
  obtain ⟨t8, h8, h⟩ := bind_some h
  refine Tri.reg (l := [0, 1, 2, 3]) rfl ?_
  refine F.q rfl rfl rfl (wanted_none rfl) (r_loadA ta57 ti57 rfl rfl (fun w hw => (box_cells (i := 2) rfl w hw))) ?_
  refine F.q rfl rfl rfl (wanted_none rfl) (r_makeFunc rfl) ?_
  refine F.qc rfl rfl rfl (wanted_none rfl) (q_callF (xs := _) rfl ok145 rfl rfl (fun w hw => impl_trapTo.ok h8 w ((fun _ hw => hr_a0_1.sep hw) w hw) ((fun _ hw => hr_a0_2.sep hw) w hw) ((fun _ hw => hr_a0_3.sep hw) w hw) ok156 (fun w2 he2 z0 z1 y2 hy2 => impl_toLost_1.ok hy2 w2 ((box_cells (i := 0) rfl w hw).ext he2)))) ?_
  refine F.ef0 rfl rfl (wanted_none rfl) (d_storeArr (i := 1) (g := (Arr.rep 768 0)) (h := t8) ti114 rfl rfl rfl) ?_
  rintro _ _ ⟨rfl, rfl⟩
  refine F.nil ?_
  refine Nrm.seq ?_
  refine Tri.ret ?_
  cases h
  exact Rtn.body (.cell rfl ta114 ti114 (encA_len _) (fun _ hw => box_cells (i := 1) rfl _ hw) .nil) (fun w hw => ⟨rfl, hw.ext⟩)

end Go.Proofs

/- loop.example/g01158/impl.FirstToLose -/
namespace Go.Proofs
open Go Go.Ga
set_option linter.unusedVariables false
set_option maxRecDepth 100000
set_option maxHeartbeats 4000000
def impl_FirstToLose.l1 (k : Nat) (a0_2 : List Int) (t14 : Arr 768) (x5 : Int) (x6 : Int) (t37 : List Int) : Nat → Int → Option (Int × Int)
  | 0, _ => none
  | n + 1, x39 => (if (decide (x39 < (t37.length : Int))) = true then (rdl t37 x39).bind fun t41 => (rdl a0_2 t41).bind fun t49 => if 0 ≤ t41 ∧ t41 < 12 then if 0 ≤ bor x6 t49 ∧ bor x6 t49 < 64 then if 0 ≤ x5 ∧ x5 < 12 then if 0 ≤ x6 ∧ x6 < 64 then (if ((Arr.at t14 (t41 * 64 + (bor x6 t49))) == (w64 ((Arr.at t14 (x5 * 64 + x6)) - 1))) = true then (rdl a0_2 t41).bind fun t68 => some (t41, bor x6 t68) else impl_FirstToLose.l1 k a0_2 t14 x5 x6 t37 n (w64 (x39 + 1))) else none else none else none else none else some (x5, x6))

def impl_FirstToLose.l0 (k : Nat) (a0_0 : Int) (a0_1 : List (Int × Int × Int)) (a0_2 : List Int) (a0_3 : List Int) (t14 : Arr 768) : Nat → Int → Int → (List (Int)) → Option ((List (Int)))
  | 0, _, _, _ => none
  | n + 1, x5, x6, x7 => if 0 ≤ x5 ∧ x5 < 12 then if 0 ≤ x6 ∧ x6 < 64 then (if (decide ((Arr.at t14 (x5 * 64 + x6)) > 0)) = true then (impl_trapSteps.f k a0_0 a0_1 a0_2 a0_3 x5 x6).bind fun t36 => (impl_members.f k t36).bind fun t37 => (impl_FirstToLose.l1 k a0_2 t14 x5 x6 t37 k 0).bind fun (y5, y6) => if (x7 ++ ([y5] : List (Int))).length < 1099511627776 then impl_FirstToLose.l0 k a0_0 a0_1 a0_2 a0_3 t14 n y5 y6 (x7 ++ ([y5] : List (Int))) else none else some x7) else none else none

def impl_FirstToLose.f (k : Nat) (a0_0 : Int) (a0_1 : List (Int × Int × Int)) (a0_2 : List Int) (a0_3 : List Int) : Option ((List Int) × Bool) := (impl_IsTrap.f k a0_0 a0_1 a0_2 a0_3).bind fun t11 => (if (!t11) = true then some ([], false) else (impl_toLost.f k a0_0 a0_1 a0_2 a0_3).bind fun t14 => (rdl a0_2 0).bind fun t18 => if 0 ≤ t18 ∧ t18 < 64 then (if (decide ((Arr.at t14 (0 * 64 + t18)) < 0)) = true then some ([], false) else (impl_FirstToLose.l0 k a0_0 a0_1 a0_2 a0_3 t14 k 0 t18 ([0] : List (Int))).bind fun x7 => some (x7, true)) else none)

theorem impl_FirstToLose.ok {k : Nat}  {a0_0 : Int} {a0_1 : List (Int × Int × Int)} {a0_2 : List Int} {a0_3 : List Int} {r0 : List Int} {r1 : Bool} (h : impl_FirstToLose.f k a0_0 a0_1 a0_2 a0_3 = some (r0, r1)) (w : World) {va0_1 : Value} {va0_2 : Value} {va0_3 : Value} (hr_a0_1 : Rd w va0_1 a0_1) (hr_a0_2 : Rd w va0_2 a0_2) (hr_a0_3 : Rd w va0_3 a0_3) :
    Calls Try.prog 58 ([.agg ([.int .i64 a0_0, va0_1, va0_2, va0_3].toArray)] : List Value).toArray w (Post (fun u ns => ∃ (ur0 : Value) (Sr0 : Nat → Prop), u = .tuple #[ur0, .bool r1] ∧ SlLen ur0 r0.length ∧ ns = [R.sl Sr0 ur0 r0]) w) := by
  unfold impl_FirstToLose.f at h
  have hl_va0_1 := hr_a0_1.len
  have hl_va0_2 := hr_a0_2.len
  have hl_va0_3 := hr_a0_3.len
  refine Calls.of_tri (N := 77) Try.func58 rfl rfl rfl (Sep.nil (M := noM)) ?_
  refine Tri.seq ?_
  refine Tri.reg (l := [0, 1, 2]) rfl ?_
  refine F.m rfl rfl rfl (wanted_none rfl) (m_boxG rfl rfl) ?_
  rintro _ _ ⟨b1_1, rfl, rfl⟩
  refine F.q rfl rfl rfl (wanted_none rfl) (r_assign rfl) ?_
  refine F.q rfl rfl rfl (wanted_none rfl) (r_assign rfl) ?_
  refine F.nil ?_
  refine Nrm.seq ?_
  refine Tri.seq ?_
  refine Tri.seq ?_
  obtain ⟨t11, h11, h⟩ := bind_some h
  refine Tri.reg (l := [0, 1, 2]) rfl ?_
  refine F.q rfl rfl rfl (wanted_none rfl) (r_loadA ta57 ti57 rfl rfl (fun w hw => (box_cells (i := 0) rfl w hw))) ?_
  refine F.qc rfl rfl rfl (wanted_none rfl) (q_callF (xs := _) rfl ok87 rfl rfl (fun w hw => impl_IsTrap.ok h11 w ((fun _ hw => hr_a0_1.sep hw) w hw) ((fun _ hw => hr_a0_2.sep hw) w hw) ((fun _ hw => hr_a0_3.sep hw) w hw))) ?_
  refine F.q rfl rfl rfl (wanted_none rfl) (r_not rfl) ?_
  refine F.nil ?_
  refine Nrm.seq ?_
  refine Tri.cond (b := !t11) rfl (fun g_1 => ?_) (fun g_1 => ?_)
  · replace h := if_tt g_1 h
    refine Tri.seq ?_
    refine Tri.reg (l := [0, 1]) rfl ?_
    refine F.q rfl rfl rfl (wanted_none rfl) (r_assign rfl) ?_
    refine F.q rfl rfl rfl (wanted_none rfl) (r_assign rfl) ?_
    refine F.nil ?_
    refine Nrm.seq ?_
    refine Tri.ret ?_
    refine Rtn.then ?_
    cases h
    exact Rtn.body (.tmp rfl (.tmp rfl .nil)) (fun w hw => ⟨_, _, rfl, ⟨.slice none 0 0, fun _ => False, rfl, len_nil, rfl⟩, Sep.pick (is := [0]) rfl rfl hw.pushNil⟩)
  · replace h := if_ff g_1 h
    refine Tri.skip ?_
    refine Nrm.seq ?_
    refine Tri.seq ?_
    obtain ⟨t14, h14, h⟩ := bind_some h
    obtain ⟨t18, h18, h⟩ := bind_some h
    refine Tri.drawB mixedT Sep.up [(0, true), (1, true), (2, true), (3, true), (4, true), (5, true), (6, true), (7, false), (8, false), (9, false)] [10] (by kernel_rfl) ?_
    refine B.q rfl rfl rfl (wanted_none rfl) (r_loadA ta57 ti57 rfl rfl (fun w hw => (box_cells (i := 0) rfl w hw))) ?_
    refine B.qc rfl rfl rfl (wanted_none rfl) (q_callF (xs := _) rfl ok115 rfl rfl (fun w hw => impl_toLost.ok h14 w ((fun _ hw => hr_a0_1.sep hw) w hw) ((fun _ hw => hr_a0_2.sep hw) w hw) ((fun _ hw => hr_a0_3.sep hw) w hw))) ?_
    refine B.q rfl rfl rfl (wanted_none rfl) (r_fieldAddr tf57_0 rfl) ?_
    refine B.q rfl rfl rfl (wanted_none rfl) (r_fieldAddr tf55_2 rfl) ?_
    refine B.q rfl rfl rfl (wanted_none rfl) (r_load ta38 rfl (fun w hw => cell_2 (box_cells (i := 0) rfl w hw) rfl)) ?_
    refine B.q rfl rfl rfl (wanted_none rfl) (r_indexAddrS Try.underlying38 ti3 rfl hl_va0_2 rfl (rdl_some h18).1 (rdl_some h18).2.1) ?_
    refine B.q rfl rfl rfl (wanted_none rfl) (r_load ta3 rfl (fun w hw => cell_0 (Rd.flat ((fun _ hw => hr_a0_2.sep hw) w hw) (rdl_some h18).2.2) rfl)) ?_
    refine B.ef rfl rfl rfl (wanted_none rfl) (Makes.does (m_alloc ti114)) (by rintro _ _ ⟨b4_2, rfl, rfl⟩; exact upd rfl [1] rfl rfl) ?_
    rintro _ _ ⟨b4_2, rfl, rfl⟩
    refine B.ef0 rfl rfl (wanted_none rfl) (d_storeArr (i := 0) (g := (Arr.rep 768 0)) (h := t14) ti114 rfl rfl rfl) (by rintro _ _ ⟨rfl, rfl⟩; exact upd rfl [1] rfl rfl) ?_
    rintro _ _ ⟨rfl, rfl⟩
    refine B.ef rfl rfl rfl (wanted_none rfl) (Runs.does (r_assign rfl)) (by rintro _ _ ⟨rfl, rfl⟩; exact upd rfl [1] rfl rfl) ?_
    rintro _ _ ⟨rfl, rfl⟩
    refine B.nil ?_
    refine F.q rfl rfl rfl (wanted_none rfl) (r_assign rfl) ?_
    refine F.nil ?_
    refine Nrm.seq ?_
    refine Tri.seq ?_
    refine Tri.seq ?_
    obtain ⟨hb23, h⟩ := ck h
    refine Tri.reg (l := [0, 1, 2, 3, 4, 5]) rfl ?_
    refine F.q rfl rfl rfl (wanted_none rfl) (r_move rfl) ?_
    refine F.q rfl rfl rfl (wanted_none rfl) (r_move rfl) ?_
    refine F.q rfl rfl rfl (wanted_none rfl) (r_indexAddrA Try.underlying114 ti112 rfl rfl (by decide) (by decide)) ?_
    refine F.q rfl rfl rfl (wanted_none rfl) (r_indexAddrA Try.underlying112 ti3 rfl rfl hb23.1 hb23.2) ?_
    refine F.q rfl rfl rfl (wanted_none rfl) (r_load ta3 rfl (fun w hw => cell_tab (g := t14) (m := 64) (box_cells (i := 0) rfl w hw) (tabB 12 64 768 ⟨by decide, by decide⟩ rfl) hb23)) ?_
    refine F.q rfl rfl rfl (wanted_none rfl) (r_lss rfl rfl) ?_
    refine F.nil ?_
    refine Nrm.seq ?_
    refine Tri.cond (b := decide ((Arr.at t14 (0 * 64 + t18)) < 0)) rfl (fun g_2 => ?_) (fun g_2 => ?_)
    · replace h := if_tt g_2 h
      refine Tri.seq ?_
      refine Tri.reg (l := [0, 1]) rfl ?_
      refine F.q rfl rfl rfl (wanted_none rfl) (r_assign rfl) ?_
      refine F.q rfl rfl rfl (wanted_none rfl) (r_assign rfl) ?_
      refine F.nil ?_
      refine Nrm.seq ?_
      refine Tri.ret ?_
      refine Rtn.then ?_
      cases h
      exact Rtn.body (.tmp rfl (.tmp rfl .nil)) (fun w hw => ⟨_, _, rfl, ⟨.slice none 0 0, fun _ => False, rfl, len_nil, rfl⟩, Sep.pick (is := [0]) rfl rfl hw.pushNil⟩)
    · replace h := if_ff g_2 h
      refine Tri.skip ?_
      refine Nrm.seq ?_
      refine Tri.seq ?_
      refine Tri.reg (l := [0, 1]) rfl ?_
      refine F.m rfl rfl rfl (wanted_none rfl) (m_buildF (l := ([0] : List (Int))) Try.underlying38 ti3 rfl rfl rfl rfl rfl) ?_
      rintro v26_1 _ ⟨S26_1, hl_v26_1, rfl⟩
      refine F.q rfl rfl rfl (wanted_none rfl) (r_assign rfl) ?_
      refine F.nil ?_
      refine Nrm.seq ?_
      refine Tri.seq ?_
      obtain ⟨x7, hE_1, h⟩ := bind_some h
      refine Tri.block ?_
      refine Tri.only [1, 4, 5, 6, 7] rfl ?_
      refine Tri.pick [1, 2, 0] rfl rfl ?_
      refine Tri.rounds (fun n e' C' => ∃ (x5' : Int) (x6' : Int) (x7' : List (Int)) (w7 : Value) (T7 : Nat → Prop), impl_FirstToLose.l0 k a0_0 a0_1 a0_2 a0_3 t14 n x5' x6' x7' = some x7 ∧ SlLen w7 (x7').length ∧ e' = [(1, .pointer (some ⟨b1_1, 0, none⟩)), (4, .pointer (some ⟨b4_2, 0, none⟩)), (5, .int .i64 x5'), (6, .int .i64 x6'), (7, w7)] ∧ C' = Sep w noM [R.box b4_2 114 (encA t14), R.box b1_1 57 [.int .i64 a0_0, va0_1, va0_2, va0_3], R.sl T7 w7 (x7' : List (Int))]) k ?_ ?_ ?_
      · exact ⟨0, t18, ([0] : List (Int)), v26_1, S26_1, hE_1, hl_v26_1, rfl, rfl⟩
      · rintro _ _ ⟨_, _, _, _, _, hE_1, _⟩
        rw [impl_FirstToLose.l0.eq_1] at hE_1; cases hE_1
      · rintro n_1 _ _ ⟨x5, x6, x7, w7, T7, hE_1, hl_w7, rfl, rfl⟩ ih_1
        rw [impl_FirstToLose.l0.eq_2] at hE_1
        refine Tri.seq ?_
        refine Tri.seq ?_
        obtain ⟨hb29, hE_1⟩ := ck hE_1
        obtain ⟨hb30, hE_1⟩ := ck hE_1
        refine Tri.reg (l := [0, 1, 2, 3, 4, 5]) rfl ?_
        refine F.q rfl rfl rfl (wanted_none rfl) (r_move rfl) ?_
        refine F.q rfl rfl rfl (wanted_none rfl) (r_move rfl) ?_
        refine F.q rfl rfl rfl (wanted_none rfl) (r_indexAddrA Try.underlying114 ti112 rfl rfl hb29.1 hb29.2) ?_
        refine F.q rfl rfl rfl (wanted_none rfl) (r_indexAddrA Try.underlying112 ti3 rfl rfl hb30.1 hb30.2) ?_
        refine F.q rfl rfl rfl (wanted_none rfl) (r_load ta3 rfl (fun w hw => cell_tab (g := t14) (m := 64) (box_cells (i := 0) rfl w hw) (tabB 12 64 768 hb29 rfl) hb30)) ?_
        refine F.q rfl rfl rfl (wanted_none rfl) (r_gtr rfl rfl) ?_
        refine F.nil ?_
        refine Nrm.seq ?_
        refine Tri.cond (b := decide ((Arr.at t14 (x5 * 64 + x6)) > 0)) rfl (fun g_3 => ?_) (fun g_3 => ?_)
        · replace hE_1 := if_tt g_3 hE_1
          refine Tri.skip ?_
          refine Nrm.seq ?_
          refine Tri.block ?_
          refine Tri.seq ?_
          refine Tri.seq ?_
          obtain ⟨t36, h36, hE_1⟩ := bind_some hE_1
          obtain ⟨t37, h37, hE_1⟩ := bind_some hE_1
          refine Tri.reg (l := [0, 1, 2, 3, 4, 5, 6]) rfl ?_
          refine F.q rfl rfl rfl (wanted_none rfl) (r_loadA ta57 ti57 rfl rfl (fun w hw => (box_cells (i := 1) rfl w hw))) ?_
          refine F.q rfl rfl rfl (wanted_none rfl) (r_move rfl) ?_
          refine F.q rfl rfl rfl (wanted_none rfl) (r_move rfl) ?_
          refine F.qc rfl rfl rfl (wanted_none rfl) (q_callF (xs := _) rfl ok113 rfl rfl (fun w hw => impl_trapSteps.ok h36 w ((fun _ hw => hr_a0_1.sep hw) w hw) ((fun _ hw => hr_a0_2.sep hw) w hw) ((fun _ hw => hr_a0_3.sep hw) w hw))) ?_
          refine F.m rfl rfl rfl (wanted_none rfl) (m_callF (xs := _) rfl ok112 rfl rfl (fun w hw => impl_members.ok h37 w )) ?_
          rintro v37_1 _ ⟨_, ⟨S37_1, hl_v37_1, rfl⟩, rfl⟩
          refine F.q rfl rfl rfl (wanted_none rfl) (r_len Try.underlying38 rfl hl_v37_1) ?_
          refine F.q rfl rfl rfl (wanted_none rfl) (r_move rfl) ?_
          refine F.nil ?_
          refine Nrm.seq ?_
          obtain ⟨⟨y5, y6⟩, hE_2, hE_1⟩ := bind_some hE_1
          refine Tri.cut (fun e' C' => e' = [(1, .pointer (some ⟨b1_1, 0, none⟩)), (4, .pointer (some ⟨b4_2, 0, none⟩)), (5, .int .i64 y5), (6, .int .i64 y6), (7, w7)] ∧ C' = Sep w noM [R.box b4_2 114 (encA t14), R.box b1_1 57 [.int .i64 a0_0, va0_1, va0_2, va0_3], R.sl T7 w7 (x7 : List (Int))]) ?_ (fun hj_1 => ?_)
          · rintro _ _ ⟨rfl, rfl⟩
            refine Nrm.seq ?_
            obtain ⟨hs75, hE_1⟩ := ck hE_1
            refine Tri.reg (l := [0, 1, 2, 3, 4]) rfl ?_
            refine F.q rfl rfl rfl (wanted_none rfl) (r_move rfl) ?_
            refine F.q rfl rfl rfl (wanted_none rfl) (r_move rfl) ?_
            refine F.m rfl rfl rfl (wanted_none rfl) (m_buildF (l := ([y5] : List (Int))) Try.underlying38 ti3 rfl rfl rfl rfl rfl) ?_
            rintro v74_1 _ ⟨S74_1, hl_v74_1, rfl⟩
            refine F.ef rfl rfl rfl (wanted_none rfl) (d_append (i := 3) Try.underlying38 Try.underlying38 ti3 rfl (by decide) rfl rfl rfl (rd_sl (i := 0) rfl) hs75) ?_
            rintro v75_1 _ ⟨S75_1, rfl, hl_v75_1⟩
            refine F.q rfl rfl rfl (wanted_none rfl) (r_assign rfl) ?_
            refine F.nil ?_
            refine Nrm.block ?_
            refine Nrm.round ?_
            refine Rnd.only [1, 4, 5, 6, 7] rfl ?_
            refine Rnd.pick [1, 2, 3] rfl rfl ?_
            exact ih_1 _ _ ⟨y5, y6, x7 ++ ([y5] : List (Int)), v75_1, S75_1, hE_1, hl_v75_1, rfl, rfl⟩
          · refine Tri.block ?_
            refine Tri.only [1, 4, 5, 6, 7, 37, 38, 39] rfl ?_
            refine Tri.pick [1, 2, 0, 3] rfl rfl ?_
            refine Tri.rounds (fun n e' C' => ∃ (x39' : Int), impl_FirstToLose.l1 k a0_2 t14 x5 x6 t37 n x39' = some (y5, y6) ∧ e' = [(1, .pointer (some ⟨b1_1, 0, none⟩)), (4, .pointer (some ⟨b4_2, 0, none⟩)), (5, .int .i64 x5), (6, .int .i64 x6), (7, w7), (37, v37_1), (38, .int .i64 (t37.length : Int)), (39, .int .i64 x39')] ∧ C' = Sep w noM [R.box b4_2 114 (encA t14), R.box b1_1 57 [.int .i64 a0_0, va0_1, va0_2, va0_3], R.sl S37_1 v37_1 (t37 : List (Int)), R.sl T7 w7 (x7 : List (Int))]) k ?_ ?_ ?_
            · exact ⟨0, hE_2, rfl, rfl⟩
            · rintro _ _ ⟨_, hE_3, _⟩
              rw [impl_FirstToLose.l1.eq_1] at hE_3; cases hE_3
            · rintro n_2 _ _ ⟨x39, hE_3, rfl, rfl⟩ ih_2
              rw [impl_FirstToLose.l1.eq_2] at hE_3
              refine Tri.seq ?_
              refine Tri.reg (l := [0]) rfl ?_
              refine F.q rfl rfl rfl (wanted_none rfl) (r_lss rfl rfl) ?_
              refine F.nil ?_
              refine Nrm.seq ?_
              refine Tri.seq ?_
              refine Tri.cond (b := decide (x39 < (t37.length : Int))) rfl (fun g_4 => ?_) (fun g_4 => ?_)
              · replace hE_3 := if_tt g_4 hE_3
                refine Tri.skip ?_
                refine Nrm.seq ?_
                refine Tri.seq ?_
                refine Tri.block ?_
                refine Tri.seq ?_
                obtain ⟨t41, h41, hE_3⟩ := bind_some hE_3
                refine Tri.reg (l := [0, 1, 2]) rfl ?_
                refine F.q rfl rfl rfl (wanted_none rfl) (r_indexAddrS Try.underlying38 ti3 rfl hl_v37_1 rfl (rdl_some h41).1 (rdl_some h41).2.1) ?_
                refine F.q rfl rfl rfl (wanted_none rfl) (r_load ta3 rfl (fun w hw => cell_0 (Rd.flat ((rd_sl (i := 2) rfl) w hw) (rdl_some h41).2.2) rfl)) ?_
                refine F.q rfl rfl rfl (wanted_none rfl) (r_assign rfl) ?_
                refine F.nil ?_
                refine Nrm.seq ?_
                refine Tri.seq ?_
                obtain ⟨t49, h49, hE_3⟩ := bind_some hE_3
                obtain ⟨hb52, hE_3⟩ := ck hE_3
                obtain ⟨hb53, hE_3⟩ := ck hE_3
                obtain ⟨hb57, hE_3⟩ := ck hE_3
                obtain ⟨hb58, hE_3⟩ := ck hE_3
                refine Tri.drawA mixedT Sep.up [(0, true), (1, true), (2, true), (3, true), (4, true), (5, true), (6, true), (7, true), (8, true), (9, true), (10, true), (11, true), (12, true), (13, true), (14, true), (15, true), (16, true), (17, true), (18, true)] [] (by kernel_rfl) ?_
                refine S.q rfl rfl rfl (wanted_none rfl) (r_move rfl) ?_
                refine S.q rfl rfl rfl (wanted_none rfl) (r_move rfl) ?_
                refine S.q rfl rfl rfl (wanted_none rfl) (r_fieldAddr tf57_0 rfl) ?_
                refine S.q rfl rfl rfl (wanted_none rfl) (r_fieldAddr tf55_2 rfl) ?_
                refine S.q rfl rfl rfl (wanted_none rfl) (r_load ta38 rfl (fun w hw => cell_2 (box_cells (i := 1) rfl w hw) rfl)) ?_
                refine S.q rfl rfl rfl (wanted_none rfl) (r_move rfl) ?_
                refine S.q rfl rfl rfl (wanted_none rfl) (r_indexAddrS Try.underlying38 ti3 rfl hl_va0_2 rfl (rdl_some h49).1 (rdl_some h49).2.1) ?_
                refine S.q rfl rfl rfl (wanted_none rfl) (r_load ta3 rfl (fun w hw => cell_0 (Rd.flat ((fun _ hw => hr_a0_2.sep hw) w hw) (rdl_some h49).2.2) rfl)) ?_
                refine S.q rfl rfl rfl (wanted_none rfl) (r_or rfl rfl) ?_
                refine S.q rfl rfl rfl (wanted_none rfl) (r_indexAddrA Try.underlying114 ti112 rfl rfl hb52.1 hb52.2) ?_
                refine S.q rfl rfl rfl (wanted_none rfl) (r_indexAddrA Try.underlying112 ti3 rfl rfl hb53.1 hb53.2) ?_
                refine S.q rfl rfl rfl (wanted_none rfl) (r_load ta3 rfl (fun w hw => cell_tab (g := t14) (m := 64) (box_cells (i := 0) rfl w hw) (tabB 12 64 768 hb52 rfl) hb53)) ?_
                refine S.q rfl rfl rfl (wanted_none rfl) (r_move rfl) ?_
                refine S.q rfl rfl rfl (wanted_none rfl) (r_move rfl) ?_
                refine S.q rfl rfl rfl (wanted_none rfl) (r_indexAddrA Try.underlying114 ti112 rfl rfl hb57.1 hb57.2) ?_
                refine S.q rfl rfl rfl (wanted_none rfl) (r_indexAddrA Try.underlying112 ti3 rfl rfl hb58.1 hb58.2) ?_
                refine S.q rfl rfl rfl (wanted_none rfl) (r_load ta3 rfl (fun w hw => cell_tab (g := t14) (m := 64) (box_cells (i := 0) rfl w hw) (tabB 12 64 768 hb57 rfl) hb58)) ?_
                refine S.q rfl rfl rfl (wanted_none rfl) (r_sub rfl rfl) ?_
                refine S.q rfl rfl rfl (wanted_none rfl) (r_eql rfl rfl) ?_
                refine S.nil ?_
                refine F.nil ?_
                refine Nrm.seq ?_
                refine Tri.cond (b := (Arr.at t14 (t41 * 64 + (bor x6 t49))) == (w64 ((Arr.at t14 (x5 * 64 + x6)) - 1))) rfl (fun g_5 => ?_) (fun g_5 => ?_)
                · replace hE_3 := if_tt g_5 hE_3
                  refine Tri.seq ?_
                  obtain ⟨t68, h68, hE_3⟩ := bind_some hE_3
                  refine Tri.drawA mixedT Sep.up [(0, true), (1, true), (2, true), (3, true), (4, true), (5, true), (6, true), (7, true), (8, true), (9, true), (10, true)] [] (by kernel_rfl) ?_
                  refine S.q rfl rfl rfl (wanted_none rfl) (r_move rfl) ?_
                  refine S.q rfl rfl rfl (wanted_none rfl) (r_move rfl) ?_
                  refine S.q rfl rfl rfl (wanted_none rfl) (r_fieldAddr tf57_0 rfl) ?_
                  refine S.q rfl rfl rfl (wanted_none rfl) (r_fieldAddr tf55_2 rfl) ?_
                  refine S.q rfl rfl rfl (wanted_none rfl) (r_load ta38 rfl (fun w hw => cell_2 (box_cells (i := 1) rfl w hw) rfl)) ?_
                  refine S.q rfl rfl rfl (wanted_none rfl) (r_move rfl) ?_
                  refine S.q rfl rfl rfl (wanted_none rfl) (r_indexAddrS Try.underlying38 ti3 rfl hl_va0_2 rfl (rdl_some h68).1 (rdl_some h68).2.1) ?_
                  refine S.q rfl rfl rfl (wanted_none rfl) (r_load ta3 rfl (fun w hw => cell_0 (Rd.flat ((fun _ hw => hr_a0_2.sep hw) w hw) (rdl_some h68).2.2) rfl)) ?_
                  refine S.q rfl rfl rfl (wanted_none rfl) (r_or rfl rfl) ?_
                  refine S.q rfl rfl rfl (wanted_none rfl) (r_assign rfl) ?_
                  refine S.q rfl rfl rfl (wanted_none rfl) (r_assign rfl) ?_
                  refine S.nil ?_
                  refine F.nil ?_
                  refine Nrm.seq ?_
                  refine Tri.exit ?_
                  refine Exi.other rfl ?_
                  refine Exi.then ?_
                  refine Exi.then ?_
                  refine Exi.same ?_
                  cases hE_3
                  refine Nrm.only [1, 4, 5, 6, 7] rfl ?_
                  refine Nrm.pick [0, 1, 3] rfl rfl ?_
                  exact hj_1 _ _ ⟨rfl, rfl⟩
                · replace hE_3 := if_ff g_5 hE_3
                  refine Tri.skip ?_
                  refine Nrm.block ?_
                  refine Nrm.seq ?_
                  refine Tri.reg (l := [0, 1]) rfl ?_
                  refine F.q rfl rfl rfl (wanted_none rfl) (r_add rfl rfl) ?_
                  refine F.q rfl rfl rfl (wanted_none rfl) (r_move rfl) ?_
                  refine F.nil ?_
                  refine Nrm.round ?_
                  refine Rnd.only [1, 4, 5, 6, 7, 37, 38, 39] rfl ?_
                  refine Rnd.pick [0, 1, 2, 3] rfl rfl ?_
                  exact ih_2 _ _ ⟨w64 (x39 + 1), hE_3, rfl, rfl⟩
              · replace hE_3 := if_ff g_4 hE_3
                refine Tri.exit ?_
                refine Exi.then ?_
                refine Exi.then ?_
                refine Exi.same ?_
                cases hE_3
                refine Nrm.only [1, 4, 5, 6, 7] rfl ?_
                refine Nrm.pick [0, 1, 3] rfl rfl ?_
                exact hj_1 _ _ ⟨rfl, rfl⟩
        · replace hE_1 := if_ff g_3 hE_1
          refine Tri.exit ?_
          refine Exi.then ?_
          refine Exi.then ?_
          refine Exi.same ?_
          cases hE_1
          refine Nrm.seq ?_
          refine Tri.seq ?_
          refine Tri.reg (l := [0, 1, 2]) rfl ?_
          refine F.q rfl rfl rfl (wanted_none rfl) (r_move rfl) ?_
          refine F.q rfl rfl rfl (wanted_none rfl) (r_assign rfl) ?_
          refine F.q rfl rfl rfl (wanted_none rfl) (r_assign rfl) ?_
          refine F.nil ?_
          refine Nrm.seq ?_
          refine Tri.ret ?_
          cases h
          exact Rtn.body (.tmp rfl (.tmp rfl .nil)) (fun w hw => ⟨_, _, rfl, ⟨w7, T7, rfl, hl_w7, rfl⟩, Sep.pick (is := [2]) rfl rfl hw⟩)

end Go.Proofs

/- loop.example/g01158/laws.FnExactFirstToLose -/
namespace Go.Proofs
open Go Go.Ga
set_option linter.unusedVariables false
set_option maxRecDepth 100000
set_option maxHeartbeats 4000000
def laws_FnExactFirstToLose.f (k : Nat) (a0_0 : Int) (a0_1 : List (Int × Int × Int)) (a0_2 : List Int) (a0_3 : List Int) : Option (Bool) := (laws_szTrap.f k a0_0 a0_1 a0_2 a0_3 1048576).bind fun t16 => (if (decide (t16 < 0)) = true then some true else (laws_toTrap.f k a0_0 a0_1 a0_2 a0_3).bind fun (t21_1, t21_2, t21_3, t21_4) => (spec_FirstToLose.f k t21_1 t21_2 t21_3 t21_4).bind fun (t22_1, t22_2) => (laws_toTrap.f k a0_0 a0_1 a0_2 a0_3).bind fun (t26_1, t26_2, t26_3, t26_4) => (impl_FirstToLose.f k t26_1 t26_2 t26_3 t26_4).bind fun (t29_1, t29_2) => ((laws_eqIntS.f k t29_1 t22_1).bind fun t34 => (if (!t34) = true then some true else some (t29_2 != t22_2))).bind fun y40 => (if y40 = true then some false else (laws_toTrap.f k a0_0 a0_1 a0_2 a0_3).bind fun (t43_1, t43_2, t43_3, t43_4) => (laws_eqTrap.f k t26_1 t26_2 t26_3 t26_4 t43_1 t43_2 t43_3 t43_4).bind fun t44 => (if (!t44) = true then some false else (laws_markTrap.f k t26_1 t26_2 t26_3 t26_4 1).bind fun (t48_1, t48_2, t48_3, t48_4) => ((if (decide (t48_1 < 0)) = true then some true else (laws_eqIntS.f k t29_1 t22_1).bind fun t54 => (if (!t54) = true then some true else some (t29_2 != t22_2)))).bind fun y61 => (if y61 = true then some false else (laws_markIntS.f k t29_1 1).bind fun (t64_1, t64_2) => (laws_heldIntS.f k t64_2 1).bind fun t67 => (if (decide (t67 < 0)) = true then some false else (if (t67 != t64_1) = true then some false else (laws_toTrap.f k a0_0 a0_1 a0_2 a0_3).bind fun (t75_1, t75_2, t75_3, t75_4) => (impl_FirstToLose.f k t75_1 t75_2 t75_3 t75_4).bind fun (t76_1, t76_2) => ((laws_eqIntS.f k t76_1 t22_1).bind fun t81 => (if (!t81) = true then some true else some (t76_2 != t22_2))).bind fun y87 => (if y87 = true then some false else (laws_heldIntS.f k t64_2 1).bind fun t90 => (if (decide (t90 < 0)) = true then some false else (if (t90 != t64_1) = true then some false else some true)))))))))

theorem laws_FnExactFirstToLose.ok {k : Nat}  {a0_0 : Int} {a0_1 : List (Int × Int × Int)} {a0_2 : List Int} {a0_3 : List Int} {r0 : Bool} (h : laws_FnExactFirstToLose.f k a0_0 a0_1 a0_2 a0_3 = some r0) (w : World) {va0_1 : Value} {va0_2 : Value} {va0_3 : Value} (hr_a0_1 : Rd w va0_1 a0_1) (hr_a0_2 : Rd w va0_2 a0_2) (hr_a0_3 : Rd w va0_3 a0_3) :
    Calls Try.prog 14 ([.agg ([.int .i64 a0_0, va0_1, va0_2, va0_3].toArray)] : List Value).toArray w (fun e w' => e = .returned (.bool r0) ∧ Ext w w') := by
  unfold laws_FnExactFirstToLose.f at h
  have hl_va0_1 := hr_a0_1.len
  have hl_va0_2 := hr_a0_2.len
  have hl_va0_3 := hr_a0_3.len
  refine Calls.of_tri (N := 96) Try.func14 rfl rfl rfl (Sep.nil (M := noM)) ?_
  refine Tri.seq ?_
  refine Tri.reg (l := [0, 1]) rfl ?_
  refine F.m rfl rfl rfl (wanted_none rfl) (m_boxG rfl rfl) ?_
  rintro _ _ ⟨b1_1, rfl, rfl⟩
  refine F.q rfl rfl rfl (wanted_none rfl) (r_assign rfl) ?_
  refine F.nil ?_
  refine Nrm.seq ?_
  refine Tri.seq ?_
  refine Tri.reg (l := [0]) rfl ?_
  refine F.q rfl rfl rfl (wanted_none rfl) (r_assign rfl) ?_
  refine F.nil ?_
  refine Nrm.seq ?_
  refine Tri.seq ?_
  obtain ⟨t16, h16, h⟩ := bind_some h
  refine Tri.reg (l := [0, 1, 2, 3]) rfl ?_
  refine F.q rfl rfl rfl (wanted_none rfl) (r_loadA ta53 ti53 rfl rfl (fun w hw => (box_cells (i := 0) rfl w hw))) ?_
  refine F.q rfl rfl rfl (wanted_none rfl) (r_move rfl) ?_
  refine F.qc rfl rfl rfl (wanted_none rfl) (q_callF (xs := _) rfl ok35 rfl rfl (fun w hw => laws_szTrap.ok h16 w ((fun _ hw => hr_a0_1.sep hw) w hw) ((fun _ hw => hr_a0_2.sep hw) w hw) ((fun _ hw => hr_a0_3.sep hw) w hw))) ?_
  refine F.q rfl rfl rfl (wanted_none rfl) (r_assign rfl) ?_
  refine F.nil ?_
  refine Nrm.seq ?_
  refine Tri.seq ?_
  refine Tri.seq ?_
  refine Tri.reg (l := [0, 1]) rfl ?_
  refine F.q rfl rfl rfl (wanted_none rfl) (r_move rfl) ?_
  refine F.q rfl rfl rfl (wanted_none rfl) (r_lss rfl rfl) ?_
  refine F.nil ?_
  refine Nrm.seq ?_
  refine Tri.cond (b := decide (t16 < 0)) rfl (fun g_1 => ?_) (fun g_1 => ?_)
  · replace h := if_tt g_1 h
    refine Tri.seq ?_
    refine Tri.reg (l := [0]) rfl ?_
    refine F.q rfl rfl rfl (wanted_none rfl) (r_assign rfl) ?_
    refine F.nil ?_
    refine Nrm.seq ?_
    refine Tri.ret ?_
    refine Rtn.then ?_
    cases h
    exact Rtn.body (.tmp rfl .nil) (fun w hw => ⟨rfl, hw.ext⟩)
  · replace h := if_ff g_1 h
    refine Tri.skip ?_
    refine Nrm.seq ?_
    refine Tri.seq ?_
    obtain ⟨⟨t21_1, t21_2, t21_3, t21_4⟩, h21, h⟩ := bind_some h
    obtain ⟨⟨t22_1, t22_2⟩, h22, h⟩ := bind_some h
    refine Tri.reg (l := [0, 1, 2, 3, 4, 5, 6, 7]) rfl ?_
    refine F.q rfl rfl rfl (wanted_none rfl) (r_loadA ta53 ti53 rfl rfl (fun w hw => (box_cells (i := 0) rfl w hw))) ?_
    refine F.m rfl rfl rfl (wanted_none rfl) (m_callF (xs := _) rfl ok37 rfl rfl (fun w hw => laws_toTrap.ok h21 w ((fun _ hw => hr_a0_1.sep hw) w hw) ((fun _ hw => hr_a0_2.sep hw) w hw) ((fun _ hw => hr_a0_3.sep hw) w hw))) ?_
    rintro _ _ ⟨_, ⟨v21_1, S21_1, v21_2, S21_2, v21_3, S21_3, rfl, hl_v21_1, hl_v21_2, hl_v21_3, rfl⟩, rfl⟩
    refine F.m rfl rfl rfl (wanted_none rfl) (m_callF (xs := _) rfl ok57 rfl rfl (fun w hw => spec_FirstToLose.ok h22 w ((rd_sl (i := 0) rfl) w hw) ((rd_sl (i := 1) rfl) w hw) ((rd_sl (i := 2) rfl) w hw))) ?_
    rintro _ _ ⟨_, ⟨v22_1, S22_1, rfl, hl_v22_1, rfl⟩, rfl⟩
    refine F.q rfl rfl rfl (wanted_none rfl) (r_move rfl) ?_
    refine F.q rfl rfl rfl (wanted_none rfl) (r_extract rfl rfl) ?_
    refine F.q rfl rfl rfl (wanted_none rfl) (r_extract rfl rfl) ?_
    refine F.q rfl rfl rfl (wanted_none rfl) (r_assign rfl) ?_
    refine F.q rfl rfl rfl (wanted_none rfl) (r_assign rfl) ?_
    refine F.nil ?_
    refine Nrm.seq ?_
    refine Tri.seq ?_
    obtain ⟨⟨t26_1, t26_2, t26_3, t26_4⟩, h26, h⟩ := bind_some h
    refine Tri.reg (l := [0, 1, 2, 3]) rfl ?_
    refine F.q rfl rfl rfl (wanted_none rfl) (r_loadA ta53 ti53 rfl rfl (fun w hw => (box_cells (i := 4) rfl w hw))) ?_
    refine F.m rfl rfl rfl (wanted_none rfl) (m_callF (xs := _) rfl ok37 rfl rfl (fun w hw => laws_toTrap.ok h26 w ((fun _ hw => hr_a0_1.sep hw) w hw) ((fun _ hw => hr_a0_2.sep hw) w hw) ((fun _ hw => hr_a0_3.sep hw) w hw))) ?_
    rintro _ _ ⟨_, ⟨v26_1, S26_1, v26_2, S26_2, v26_3, S26_3, rfl, hl_v26_1, hl_v26_2, hl_v26_3, rfl⟩, rfl⟩
    refine F.m rfl rfl rfl (wanted_none rfl) (m_alloc ti57) ?_
    rintro _ _ ⟨b6_1, rfl, rfl⟩
    refine F.ef0 rfl rfl (wanted_none rfl) (d_storeG0 (i := 0) (cs2 := [.int .i64 t26_1, v26_1, v26_2, v26_3]) ti57 rfl rfl rfl rfl rfl (Nat.le_of_ble_eq_true rfl) (lf_cons rfl (lf_cons (sl_leaf hl_v26_1) (lf_cons (sl_leaf hl_v26_2) (lf_cons (sl_leaf hl_v26_3) lf_nil))))) ?_
    rintro _ _ ⟨rfl, rfl⟩
    refine F.nil ?_
    refine Nrm.seq ?_
    refine Tri.seq ?_
    obtain ⟨⟨t29_1, t29_2⟩, h29, h⟩ := bind_some h
    refine Tri.reg (l := [0, 1, 2, 3, 4, 5, 6]) rfl ?_
    refine F.q rfl rfl rfl (wanted_none rfl) (r_loadA ta57 ti57 rfl rfl (fun w hw => (box_cells (i := 0) rfl w hw))) ?_
    refine F.m rfl rfl rfl (wanted_none rfl) (m_callF (xs := _) rfl ok58 rfl rfl (fun w hw => impl_FirstToLose.ok h29 w ((rd_sl (i := 1) rfl) w hw) ((rd_sl (i := 2) rfl) w hw) ((rd_sl (i := 3) rfl) w hw))) ?_
    rintro _ _ ⟨_, ⟨v29_1, S29_1, rfl, hl_v29_1, rfl⟩, rfl⟩
    refine F.q rfl rfl rfl (wanted_none rfl) (r_move rfl) ?_
    refine F.q rfl rfl rfl (wanted_none rfl) (r_extract rfl rfl) ?_
    refine F.q rfl rfl rfl (wanted_none rfl) (r_extract rfl rfl) ?_
    refine F.q rfl rfl rfl (wanted_none rfl) (r_assign rfl) ?_
    refine F.q rfl rfl rfl (wanted_none rfl) (r_assign rfl) ?_
    refine F.nil ?_
    refine Nrm.seq ?_
    refine Tri.seq ?_
    refine Tri.seq ?_
    obtain ⟨y40, hE_1, h⟩ := bind_some h
    refine Tri.cut (fun e' C' => e' = [(1, .pointer (some ⟨b1_1, 0, none⟩)), (4, v22_1), (5, .bool t22_2), (6, .pointer (some ⟨b6_1, 0, none⟩)), (7, v29_1), (8, .bool t29_2), (40, .bool y40)] ∧ C' = Sep w noM [R.box b6_1 57 [.int .i64 t26_1, v26_1, v26_2, v26_3], R.box b1_1 53 [.int .i64 a0_0, va0_1, va0_2, va0_3], R.sl S22_1 v22_1 (t22_1 : List (Int)), R.sl S26_1 v26_1 (t26_2 : List (Int × Int × Int)), R.sl S26_2 v26_2 (t26_3 : List (Int)), R.sl S26_3 v26_3 (t26_4 : List (Int)), R.sl S29_1 v29_1 (t29_1 : List (Int))]) ?_ (fun hj_1 => ?_)
    · rintro _ _ ⟨rfl, rfl⟩
      refine Nrm.seq ?_
      refine Tri.cond (b := y40) rfl (fun g_2 => ?_) (fun g_2 => ?_)
      · replace h := if_tt g_2 h
        refine Tri.seq ?_
        refine Tri.reg (l := [0]) rfl ?_
        refine F.q rfl rfl rfl (wanted_none rfl) (r_assign rfl) ?_
        refine F.nil ?_
        refine Nrm.seq ?_
        refine Tri.ret ?_
        refine Rtn.then ?_
        cases h
        exact Rtn.body (.tmp rfl .nil) (fun w hw => ⟨rfl, hw.ext⟩)
      · replace h := if_ff g_2 h
        refine Tri.skip ?_
        refine Nrm.seq ?_
        refine Tri.seq ?_
        refine Tri.seq ?_
        obtain ⟨⟨t43_1, t43_2, t43_3, t43_4⟩, h43, h⟩ := bind_some h
        obtain ⟨t44, h44, h⟩ := bind_some h
        refine Tri.drawA mixedT Sep.up [(0, true), (1, true), (2, false), (3, true), (4, true)] [] (by kernel_rfl) ?_
        refine S.q rfl rfl rfl (wanted_none rfl) (r_loadA ta57 ti57 rfl rfl (fun w hw => (box_cells (i := 0) rfl w hw))) ?_
        refine S.q rfl rfl rfl (wanted_none rfl) (r_loadA ta53 ti53 rfl rfl (fun w hw => (box_cells (i := 1) rfl w hw))) ?_
        refine S.m rfl rfl rfl (wanted_none rfl) (m_callF (xs := _) rfl ok37 rfl rfl (fun w hw => laws_toTrap.ok h43 w ((fun _ hw => hr_a0_1.sep hw) w hw) ((fun _ hw => hr_a0_2.sep hw) w hw) ((fun _ hw => hr_a0_3.sep hw) w hw))) ?_
        rintro _ _ ⟨_, ⟨v43_4, S43_4, v43_5, S43_5, v43_6, S43_6, rfl, hl_v43_4, hl_v43_5, hl_v43_6, rfl⟩, rfl⟩
        refine S.qc rfl rfl rfl (wanted_none rfl) (q_callF (xs := _) rfl ok39 rfl rfl (fun w hw => laws_eqTrap.ok h44 w ((rd_sl (i := 6) rfl) w hw) ((rd_sl (i := 7) rfl) w hw) ((rd_sl (i := 8) rfl) w hw) ((rd_sl (i := 0) rfl) w hw) ((rd_sl (i := 1) rfl) w hw) ((rd_sl (i := 2) rfl) w hw))) ?_
        refine S.q rfl rfl rfl (wanted_none rfl) (r_not rfl) ?_
        refine S.nil ?_
        refine F.nil ?_
        refine Nrm.seq ?_
        refine Tri.cond (b := !t44) rfl (fun g_3 => ?_) (fun g_3 => ?_)
        · replace h := if_tt g_3 h
          refine Tri.seq ?_
          refine Tri.reg (l := [0]) rfl ?_
          refine F.q rfl rfl rfl (wanted_none rfl) (r_assign rfl) ?_
          refine F.nil ?_
          refine Nrm.seq ?_
          refine Tri.ret ?_
          refine Rtn.then ?_
          cases h
          exact Rtn.body (.tmp rfl .nil) (fun w hw => ⟨rfl, hw.ext⟩)
        · replace h := if_ff g_3 h
          refine Tri.skip ?_
          refine Nrm.seq ?_
          refine Tri.seq ?_
          refine Tri.reg (l := [0]) rfl ?_
          refine F.q rfl rfl rfl (wanted_none rfl) (r_assign rfl) ?_
          refine F.nil ?_
          refine Nrm.seq ?_
          refine Tri.seq ?_
          obtain ⟨⟨t48_1, t48_2, t48_3, t48_4⟩, h48, h⟩ := bind_some h
          refine Tri.reg (l := [0, 1, 2, 3]) rfl ?_
          refine F.q rfl rfl rfl (wanted_none rfl) (r_loadA ta57 ti57 rfl rfl (fun w hw => (box_cells (i := 3) rfl w hw))) ?_
          refine F.q rfl rfl rfl (wanted_none rfl) (r_move rfl) ?_
          refine F.ef rfl rfl rfl (wanted_none rfl) (d_callM (xs := _) (cs := [R.sl S26_1 v26_1 (t26_2 : List (Int × Int × Int)), R.sl S26_2 v26_2 (t26_3 : List (Int)), R.sl S26_3 v26_3 (t26_4 : List (Int))]) (rest := [R.sl S43_4 v43_4 (t43_2 : List (Int × Int × Int)), R.sl S43_5 v43_5 (t43_3 : List (Int)), R.sl S43_6 v43_6 (t43_4 : List (Int)), R.box b6_1 57 [.int .i64 t26_1, v26_1, v26_2, v26_3], R.box b1_1 53 [.int .i64 a0_0, va0_1, va0_2, va0_3], R.sl S22_1 v22_1 (t22_1 : List (Int)), R.sl S29_1 v29_1 (t29_1 : List (Int))]) [6, 7, 8] [0, 1, 2, 3, 4, 5, 9] rfl ok40 rfl rfl rfl rfl (fun w hw => laws_markTrap.ok h48 w hl_v26_1 hl_v26_2 hl_v26_3 (Sep.sub hw))) ?_
          rintro _ _ ⟨_, ⟨rfl, hl_t48_2, hl_t48_3, hl_t48_4, rfl⟩, rfl⟩
          refine F.q rfl rfl rfl (wanted_none rfl) (r_assign rfl) ?_
          refine F.nil ?_
          refine Nrm.seq ?_
          refine Tri.seq ?_
          refine Tri.seq ?_
          obtain ⟨y61, hE_2, h⟩ := bind_some h
          refine Tri.cut (fun e' C' => e' = [(1, .pointer (some ⟨b1_1, 0, none⟩)), (4, v22_1), (5, .bool t22_2), (7, v29_1), (61, .bool y61)] ∧ C' = Sep w noM [R.box b1_1 53 [.int .i64 a0_0, va0_1, va0_2, va0_3], R.sl S22_1 v22_1 (t22_1 : List (Int)), R.sl S29_1 v29_1 (t29_1 : List (Int))]) ?_ (fun hj_2 => ?_)
          · rintro _ _ ⟨rfl, rfl⟩
            refine Nrm.seq ?_
            refine Tri.cond (b := y61) rfl (fun g_4 => ?_) (fun g_4 => ?_)
            · replace h := if_tt g_4 h
              refine Tri.seq ?_
              refine Tri.reg (l := [0]) rfl ?_
              refine F.q rfl rfl rfl (wanted_none rfl) (r_assign rfl) ?_
              refine F.nil ?_
              refine Nrm.seq ?_
              refine Tri.ret ?_
              refine Rtn.then ?_
              cases h
              exact Rtn.body (.tmp rfl .nil) (fun w hw => ⟨rfl, hw.ext⟩)
            · replace h := if_ff g_4 h
              refine Tri.skip ?_
              refine Nrm.seq ?_
              refine Tri.seq ?_
              refine Tri.reg (l := [0]) rfl ?_
              refine F.q rfl rfl rfl (wanted_none rfl) (r_assign rfl) ?_
              refine F.nil ?_
              refine Nrm.seq ?_
              refine Tri.seq ?_
              obtain ⟨⟨t64_1, t64_2⟩, h64, h⟩ := bind_some h
              refine Tri.reg (l := [0, 1, 2, 3]) rfl ?_
              refine F.q rfl rfl rfl (wanted_none rfl) (r_move rfl) ?_
              refine F.q rfl rfl rfl (wanted_none rfl) (r_move rfl) ?_
              refine F.ef rfl rfl rfl (wanted_none rfl) (d_callM (xs := _) (cs := [R.sl S29_1 v29_1 (t29_1 : List (Int))]) (rest := [R.box b1_1 53 [.int .i64 a0_0, va0_1, va0_2, va0_3], R.sl S22_1 v22_1 (t22_1 : List (Int))]) [2] [0, 1] rfl ok27 rfl rfl rfl rfl (fun w hw => laws_markIntS.ok h64 w hl_v29_1 (Sep.sub hw))) ?_
              rintro _ _ ⟨_, ⟨rfl, hl_t64_2, rfl⟩, rfl⟩
              refine F.q rfl rfl rfl (wanted_none rfl) (r_assign rfl) ?_
              refine F.nil ?_
              refine Nrm.seq ?_
              refine Tri.seq ?_
              refine Tri.reg (l := [0]) rfl ?_
              refine F.q rfl rfl rfl (wanted_none rfl) (r_assign rfl) ?_
              refine F.nil ?_
              refine Nrm.seq ?_
              refine Tri.seq ?_
              obtain ⟨t67, h67, h⟩ := bind_some h
              refine Tri.reg (l := [0, 1, 2, 3]) rfl ?_
              refine F.q rfl rfl rfl (wanted_none rfl) (r_move rfl) ?_
              refine F.q rfl rfl rfl (wanted_none rfl) (r_move rfl) ?_
              refine F.qc rfl rfl rfl (wanted_none rfl) (q_callF (xs := _) rfl ok28 rfl rfl (fun w hw => laws_heldIntS.ok h67 w ((rd_sl (i := 0) rfl) w hw))) ?_
              refine F.q rfl rfl rfl (wanted_none rfl) (r_assign rfl) ?_
              refine F.nil ?_
              refine Nrm.seq ?_
              refine Tri.seq ?_
              refine Tri.seq ?_
              refine Tri.reg (l := [0, 1]) rfl ?_
              refine F.q rfl rfl rfl (wanted_none rfl) (r_move rfl) ?_
              refine F.q rfl rfl rfl (wanted_none rfl) (r_lss rfl rfl) ?_
              refine F.nil ?_
              refine Nrm.seq ?_
              refine Tri.cond (b := decide (t67 < 0)) rfl (fun g_5 => ?_) (fun g_5 => ?_)
              · replace h := if_tt g_5 h
                refine Tri.seq ?_
                refine Tri.reg (l := [0]) rfl ?_
                refine F.q rfl rfl rfl (wanted_none rfl) (r_assign rfl) ?_
                refine F.nil ?_
                refine Nrm.seq ?_
                refine Tri.ret ?_
                refine Rtn.then ?_
                cases h
                exact Rtn.body (.tmp rfl .nil) (fun w hw => ⟨rfl, hw.ext⟩)
              · replace h := if_ff g_5 h
                refine Tri.skip ?_
                refine Nrm.seq ?_
                refine Tri.seq ?_
                refine Tri.seq ?_
                refine Tri.reg (l := [0, 1, 2]) rfl ?_
                refine F.q rfl rfl rfl (wanted_none rfl) (r_move rfl) ?_
                refine F.q rfl rfl rfl (wanted_none rfl) (r_move rfl) ?_
                refine F.q rfl rfl rfl (wanted_none rfl) (r_neq rfl rfl) ?_
                refine F.nil ?_
                refine Nrm.seq ?_
                refine Tri.cond (b := t67 != t64_1) rfl (fun g_6 => ?_) (fun g_6 => ?_)
                · replace h := if_tt g_6 h
                  refine Tri.seq ?_
                  refine Tri.reg (l := [0]) rfl ?_
                  refine F.q rfl rfl rfl (wanted_none rfl) (r_assign rfl) ?_
                  refine F.nil ?_
                  refine Nrm.seq ?_
                  refine Tri.ret ?_
                  refine Rtn.then ?_
                  cases h
                  exact Rtn.body (.tmp rfl .nil) (fun w hw => ⟨rfl, hw.ext⟩)
                · replace h := if_ff g_6 h
                  refine Tri.skip ?_
                  refine Nrm.seq ?_
                  refine Tri.seq ?_
                  obtain ⟨⟨t75_1, t75_2, t75_3, t75_4⟩, h75, h⟩ := bind_some h
                  obtain ⟨⟨t76_1, t76_2⟩, h76, h⟩ := bind_some h
                  refine Tri.reg (l := [0, 1, 2, 3, 4, 5, 6, 7]) rfl ?_
                  refine F.q rfl rfl rfl (wanted_none rfl) (r_loadA ta53 ti53 rfl rfl (fun w hw => (box_cells (i := 1) rfl w hw))) ?_
                  refine F.m rfl rfl rfl (wanted_none rfl) (m_callF (xs := _) rfl ok37 rfl rfl (fun w hw => laws_toTrap.ok h75 w ((fun _ hw => hr_a0_1.sep hw) w hw) ((fun _ hw => hr_a0_2.sep hw) w hw) ((fun _ hw => hr_a0_3.sep hw) w hw))) ?_
                  rintro _ _ ⟨_, ⟨v75_1, S75_1, v75_2, S75_2, v75_3, S75_3, rfl, hl_v75_1, hl_v75_2, hl_v75_3, rfl⟩, rfl⟩
                  refine F.m rfl rfl rfl (wanted_none rfl) (m_callF (xs := _) rfl ok58 rfl rfl (fun w hw => impl_FirstToLose.ok h76 w ((rd_sl (i := 0) rfl) w hw) ((rd_sl (i := 1) rfl) w hw) ((rd_sl (i := 2) rfl) w hw))) ?_
                  rintro _ _ ⟨_, ⟨v76_1, S76_1, rfl, hl_v76_1, rfl⟩, rfl⟩
                  refine F.q rfl rfl rfl (wanted_none rfl) (r_move rfl) ?_
                  refine F.q rfl rfl rfl (wanted_none rfl) (r_extract rfl rfl) ?_
                  refine F.q rfl rfl rfl (wanted_none rfl) (r_extract rfl rfl) ?_
                  refine F.q rfl rfl rfl (wanted_none rfl) (r_assign rfl) ?_
                  refine F.q rfl rfl rfl (wanted_none rfl) (r_assign rfl) ?_
                  refine F.nil ?_
                  refine Nrm.seq ?_
                  refine Tri.seq ?_
                  refine Tri.seq ?_
                  obtain ⟨y87, hE_3, h⟩ := bind_some h
                  refine Tri.cut (fun e' C' => e' = [(7, v29_1), (10, .int .i64 t64_1), (87, .bool y87)] ∧ C' = Sep w noM [R.sl S29_1 v29_1 (t64_2 : List (Int))]) ?_ (fun hj_3 => ?_)
                  · rintro _ _ ⟨rfl, rfl⟩
                    refine Nrm.seq ?_
                    refine Tri.cond (b := y87) rfl (fun g_7 => ?_) (fun g_7 => ?_)
                    · replace h := if_tt g_7 h
                      refine Tri.seq ?_
                      refine Tri.reg (l := [0]) rfl ?_
                      refine F.q rfl rfl rfl (wanted_none rfl) (r_assign rfl) ?_
                      refine F.nil ?_
                      refine Nrm.seq ?_
                      refine Tri.ret ?_
                      refine Rtn.then ?_
                      cases h
                      exact Rtn.body (.tmp rfl .nil) (fun w hw => ⟨rfl, hw.ext⟩)
                    · replace h := if_ff g_7 h
                      refine Tri.skip ?_
                      refine Nrm.seq ?_
                      refine Tri.seq ?_
                      refine Tri.reg (l := [0]) rfl ?_
                      refine F.q rfl rfl rfl (wanted_none rfl) (r_assign rfl) ?_
                      refine F.nil ?_
                      refine Nrm.seq ?_
                      refine Tri.seq ?_
                      obtain ⟨t90, h90, h⟩ := bind_some h
                      refine Tri.reg (l := [0, 1, 2, 3]) rfl ?_
                      refine F.q rfl rfl rfl (wanted_none rfl) (r_move rfl) ?_
                      refine F.q rfl rfl rfl (wanted_none rfl) (r_move rfl) ?_
                      refine F.qc rfl rfl rfl (wanted_none rfl) (q_callF (xs := _) rfl ok28 rfl rfl (fun w hw => laws_heldIntS.ok h90 w ((rd_sl (i := 0) rfl) w hw))) ?_
                      refine F.q rfl rfl rfl (wanted_none rfl) (r_assign rfl) ?_
                      refine F.nil ?_
                      refine Nrm.seq ?_
                      refine Tri.seq ?_
                      refine Tri.seq ?_
                      refine Tri.reg (l := [0, 1]) rfl ?_
                      refine F.q rfl rfl rfl (wanted_none rfl) (r_move rfl) ?_
                      refine F.q rfl rfl rfl (wanted_none rfl) (r_lss rfl rfl) ?_
                      refine F.nil ?_
                      refine Nrm.seq ?_
                      refine Tri.cond (b := decide (t90 < 0)) rfl (fun g_8 => ?_) (fun g_8 => ?_)
                      · replace h := if_tt g_8 h
                        refine Tri.seq ?_
                        refine Tri.reg (l := [0]) rfl ?_
                        refine F.q rfl rfl rfl (wanted_none rfl) (r_assign rfl) ?_
                        refine F.nil ?_
                        refine Nrm.seq ?_
                        refine Tri.ret ?_
                        refine Rtn.then ?_
                        cases h
                        exact Rtn.body (.tmp rfl .nil) (fun w hw => ⟨rfl, hw.ext⟩)
                      · replace h := if_ff g_8 h
                        refine Tri.skip ?_
                        refine Nrm.seq ?_
                        refine Tri.seq ?_
                        refine Tri.seq ?_
                        refine Tri.reg (l := [0, 1, 2]) rfl ?_
                        refine F.q rfl rfl rfl (wanted_none rfl) (r_move rfl) ?_
                        refine F.q rfl rfl rfl (wanted_none rfl) (r_move rfl) ?_
                        refine F.q rfl rfl rfl (wanted_none rfl) (r_neq rfl rfl) ?_
                        refine F.nil ?_
                        refine Nrm.seq ?_
                        refine Tri.cond (b := t90 != t64_1) rfl (fun g_9 => ?_) (fun g_9 => ?_)
                        · replace h := if_tt g_9 h
                          refine Tri.seq ?_
                          refine Tri.reg (l := [0]) rfl ?_
                          refine F.q rfl rfl rfl (wanted_none rfl) (r_assign rfl) ?_
                          refine F.nil ?_
                          refine Nrm.seq ?_
                          refine Tri.ret ?_
                          refine Rtn.then ?_
                          cases h
                          exact Rtn.body (.tmp rfl .nil) (fun w hw => ⟨rfl, hw.ext⟩)
                        · replace h := if_ff g_9 h
                          refine Tri.skip ?_
                          refine Nrm.seq ?_
                          refine Tri.seq ?_
                          refine Tri.reg (l := [0]) rfl ?_
                          refine F.q rfl rfl rfl (wanted_none rfl) (r_assign rfl) ?_
                          refine F.nil ?_
                          refine Nrm.seq ?_
                          refine Tri.ret ?_
                          cases h
                          exact Rtn.body (.tmp rfl .nil) (fun w hw => ⟨rfl, hw.ext⟩)
                  · obtain ⟨t81, h81, hE_3⟩ := bind_some hE_3
                    rcases Bool.eq_false_or_eq_true (!t81) with g83 | g83
                    · replace hE_3 := if_tt g83 hE_3
                      refine Tri.reg (l := [0, 1, 2, 3, 4, 5, 6, 7, 8]) rfl ?_
                      refine F.q rfl rfl rfl (wanted_none rfl) (r_move rfl) ?_
                      refine F.q rfl rfl rfl (wanted_none rfl) (r_move rfl) ?_
                      refine F.qc rfl rfl rfl (wanted_none rfl) (q_callF (xs := _) rfl ok26 rfl rfl (fun w hw => laws_eqIntS.ok h81 w ((rd_sl (i := 0) rfl) w hw) ((rd_sl (i := 6) rfl) w hw))) ?_
                      refine F.q rfl rfl rfl (wanted_none rfl) (r_not rfl) ?_
                      refine F.q rfl rfl rfl (wanted_none rfl) (r_move rfl) ?_
                      refine F.sk rfl rfl rfl (wf rfl rfl rfl g83) ?_
                      refine F.sk rfl rfl rfl (wf rfl rfl rfl g83) ?_
                      refine F.sk rfl rfl rfl (wf rfl rfl rfl g83) ?_
                      refine F.q rfl rfl rfl (wanted_none rfl) (r_pick rfl rfl g83) ?_
                      refine F.nil ?_
                      cases hE_3
                      refine Nrm.only [7, 10, 87] rfl ?_
                      refine Nrm.pick [4] rfl rfl ?_
                      exact hj_3 _ _ ⟨rfl, rfl⟩
                    · replace hE_3 := if_ff g83 hE_3
                      refine Tri.reg (l := [0, 1, 2, 3, 4, 5, 6, 7, 8]) rfl ?_
                      refine F.q rfl rfl rfl (wanted_none rfl) (r_move rfl) ?_
                      refine F.q rfl rfl rfl (wanted_none rfl) (r_move rfl) ?_
                      refine F.qc rfl rfl rfl (wanted_none rfl) (q_callF (xs := _) rfl ok26 rfl rfl (fun w hw => laws_eqIntS.ok h81 w ((rd_sl (i := 0) rfl) w hw) ((rd_sl (i := 6) rfl) w hw))) ?_
                      refine F.q rfl rfl rfl (wanted_none rfl) (r_not rfl) ?_
                      refine F.q rfl rfl rfl (wanted_none rfl) (r_move rfl) ?_
                      refine F.q rfl rfl rfl (wg rfl rfl rfl g83) (r_move rfl) ?_
                      refine F.q rfl rfl rfl (wg rfl rfl rfl g83) (r_move rfl) ?_
                      refine F.q rfl rfl rfl (wg rfl rfl rfl g83) (r_neqB Try.underlying4 rfl rfl) ?_
                      refine F.q rfl rfl rfl (wanted_none rfl) (r_pickf rfl rfl g83) ?_
                      refine F.nil ?_
                      cases hE_3
                      refine Nrm.only [7, 10, 87] rfl ?_
                      refine Nrm.pick [4] rfl rfl ?_
                      exact hj_3 _ _ ⟨rfl, rfl⟩
          · rcases Bool.eq_false_or_eq_true (decide (t48_1 < 0)) with g51 | g51
            · replace hE_2 := if_tt g51 hE_2
              refine Tri.reg (l := [0, 1, 2, 3, 4, 5, 6, 7, 8, 9, 10, 11, 12]) rfl ?_
              refine F.q rfl rfl rfl (wanted_none rfl) (r_move rfl) ?_
              refine F.q rfl rfl rfl (wanted_none rfl) (r_lss rfl rfl) ?_
              refine F.q rfl rfl rfl (wanted_none rfl) (r_move rfl) ?_
              refine F.sk rfl rfl rfl (wf rfl rfl rfl g51) ?_
              refine F.sk rfl rfl rfl (wf rfl rfl rfl g51) ?_
              refine F.sk rfl rfl rfl (wf rfl rfl rfl g51) ?_
              refine F.sk rfl rfl rfl (wf rfl rfl rfl g51) ?_
              refine F.q rfl rfl rfl (wanted_none rfl) (r_pick rfl rfl g51) ?_
              refine F.q rfl rfl rfl (wanted_none rfl) (r_move rfl) ?_
              refine F.sk rfl rfl rfl (wf rfl rfl rfl rfl) ?_
              refine F.sk rfl rfl rfl (wf rfl rfl rfl rfl) ?_
              refine F.sk rfl rfl rfl (wf rfl rfl rfl rfl) ?_
              refine F.q rfl rfl rfl (wanted_none rfl) (r_pick rfl rfl rfl) ?_
              refine F.nil ?_
              cases hE_2
              refine Nrm.only [1, 4, 5, 7, 61] rfl ?_
              refine Nrm.pick [7, 8, 9] rfl rfl ?_
              exact hj_2 _ _ ⟨rfl, rfl⟩
            · replace hE_2 := if_ff g51 hE_2
              obtain ⟨t54, h54, hE_2⟩ := bind_some hE_2
              rcases Bool.eq_false_or_eq_true (!t54) with g57 | g57
              · replace hE_2 := if_tt g57 hE_2
                refine Tri.reg (l := [0, 1, 2, 3, 4, 5, 6, 7, 8, 9, 10, 11, 12]) rfl ?_
                refine F.q rfl rfl rfl (wanted_none rfl) (r_move rfl) ?_
                refine F.q rfl rfl rfl (wanted_none rfl) (r_lss rfl rfl) ?_
                refine F.q rfl rfl rfl (wanted_none rfl) (r_move rfl) ?_
                refine F.q rfl rfl rfl (wg rfl rfl rfl g51) (r_move rfl) ?_
                refine F.q rfl rfl rfl (wg rfl rfl rfl g51) (r_move rfl) ?_
                refine F.qc rfl rfl rfl (wg rfl rfl rfl g51) (q_callF (xs := _) rfl ok26 rfl rfl (fun w hw => laws_eqIntS.ok h54 w ((rd_sl (i := 9) rfl) w hw) ((rd_sl (i := 8) rfl) w hw))) ?_
                refine F.q rfl rfl rfl (wg rfl rfl rfl g51) (r_not rfl) ?_
                refine F.q rfl rfl rfl (wanted_none rfl) (r_pickf rfl rfl g51) ?_
                refine F.q rfl rfl rfl (wanted_none rfl) (r_move rfl) ?_
                refine F.sk rfl rfl rfl (wf rfl rfl rfl g57) ?_
                refine F.sk rfl rfl rfl (wf rfl rfl rfl g57) ?_
                refine F.sk rfl rfl rfl (wf rfl rfl rfl g57) ?_
                refine F.q rfl rfl rfl (wanted_none rfl) (r_pick rfl rfl g57) ?_
                refine F.nil ?_
                cases hE_2
                refine Nrm.only [1, 4, 5, 7, 61] rfl ?_
                refine Nrm.pick [7, 8, 9] rfl rfl ?_
                exact hj_2 _ _ ⟨rfl, rfl⟩
              · replace hE_2 := if_ff g57 hE_2
                refine Tri.reg (l := [0, 1, 2, 3, 4, 5, 6, 7, 8, 9, 10, 11, 12]) rfl ?_
                refine F.q rfl rfl rfl (wanted_none rfl) (r_move rfl) ?_
                refine F.q rfl rfl rfl (wanted_none rfl) (r_lss rfl rfl) ?_
                refine F.q rfl rfl rfl (wanted_none rfl) (r_move rfl) ?_
                refine F.q rfl rfl rfl (wg rfl rfl rfl g51) (r_move rfl) ?_
                refine F.q rfl rfl rfl (wg rfl rfl rfl g51) (r_move rfl) ?_
                refine F.qc rfl rfl rfl (wg rfl rfl rfl g51) (q_callF (xs := _) rfl ok26 rfl rfl (fun w hw => laws_eqIntS.ok h54 w ((rd_sl (i := 9) rfl) w hw) ((rd_sl (i := 8) rfl) w hw))) ?_
                refine F.q rfl rfl rfl (wg rfl rfl rfl g51) (r_not rfl) ?_
                refine F.q rfl rfl rfl (wanted_none rfl) (r_pickf rfl rfl g51) ?_
                refine F.q rfl rfl rfl (wanted_none rfl) (r_move rfl) ?_
                refine F.q rfl rfl rfl (wg rfl rfl rfl g57) (r_move rfl) ?_
                refine F.q rfl rfl rfl (wg rfl rfl rfl g57) (r_move rfl) ?_
                refine F.q rfl rfl rfl (wg rfl rfl rfl g57) (r_neqB Try.underlying4 rfl rfl) ?_
                refine F.q rfl rfl rfl (wanted_none rfl) (r_pickf rfl rfl g57) ?_
                refine F.nil ?_
                cases hE_2
                refine Nrm.only [1, 4, 5, 7, 61] rfl ?_
                refine Nrm.pick [7, 8, 9] rfl rfl ?_
                exact hj_2 _ _ ⟨rfl, rfl⟩
    · obtain ⟨t34, h34, hE_1⟩ := bind_some hE_1
      rcases Bool.eq_false_or_eq_true (!t34) with g36 | g36
      · replace hE_1 := if_tt g36 hE_1
        refine Tri.reg (l := [0, 1, 2, 3, 4, 5, 6, 7, 8]) rfl ?_
        refine F.q rfl rfl rfl (wanted_none rfl) (r_move rfl) ?_
        refine F.q rfl rfl rfl (wanted_none rfl) (r_move rfl) ?_
        refine F.qc rfl rfl rfl (wanted_none rfl) (q_callF (xs := _) rfl ok26 rfl rfl (fun w hw => laws_eqIntS.ok h34 w ((rd_sl (i := 0) rfl) w hw) ((rd_sl (i := 5) rfl) w hw))) ?_
        refine F.q rfl rfl rfl (wanted_none rfl) (r_not rfl) ?_
        refine F.q rfl rfl rfl (wanted_none rfl) (r_move rfl) ?_
        refine F.sk rfl rfl rfl (wf rfl rfl rfl g36) ?_
        refine F.sk rfl rfl rfl (wf rfl rfl rfl g36) ?_
        refine F.sk rfl rfl rfl (wf rfl rfl rfl g36) ?_
        refine F.q rfl rfl rfl (wanted_none rfl) (r_pick rfl rfl g36) ?_
        refine F.nil ?_
        cases hE_1
        refine Nrm.only [1, 4, 5, 6, 7, 8, 40] rfl ?_
        refine Nrm.pick [1, 9, 5, 2, 3, 4, 0] rfl rfl ?_
        exact hj_1 _ _ ⟨rfl, rfl⟩
      · replace hE_1 := if_ff g36 hE_1
        refine Tri.reg (l := [0, 1, 2, 3, 4, 5, 6, 7, 8]) rfl ?_
        refine F.q rfl rfl rfl (wanted_none rfl) (r_move rfl) ?_
        refine F.q rfl rfl rfl (wanted_none rfl) (r_move rfl) ?_
        refine F.qc rfl rfl rfl (wanted_none rfl) (q_callF (xs := _) rfl ok26 rfl rfl (fun w hw => laws_eqIntS.ok h34 w ((rd_sl (i := 0) rfl) w hw) ((rd_sl (i := 5) rfl) w hw))) ?_
        refine F.q rfl rfl rfl (wanted_none rfl) (r_not rfl) ?_
        refine F.q rfl rfl rfl (wanted_none rfl) (r_move rfl) ?_
        refine F.q rfl rfl rfl (wg rfl rfl rfl g36) (r_move rfl) ?_
        refine F.q rfl rfl rfl (wg rfl rfl rfl g36) (r_move rfl) ?_
        refine F.q rfl rfl rfl (wg rfl rfl rfl g36) (r_neqB Try.underlying4 rfl rfl) ?_
        refine F.q rfl rfl rfl (wanted_none rfl) (r_pickf rfl rfl g36) ?_
        refine F.nil ?_
        cases hE_1
        refine Nrm.only [1, 4, 5, 6, 7, 8, 40] rfl ?_
        refine Nrm.pick [1, 9, 5, 2, 3, 4, 0] rfl rfl ?_
        exact hj_1 _ _ ⟨rfl, rfl⟩

end Go.Proofs
