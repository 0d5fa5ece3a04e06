/- A part of the proof of FnExactDoDeeds: what the functions of the program compute, walked on the model. No condition. -/
import Derived.Test.YtijhomjbcpaknaaGreatFnExactDoDeedsC
set_option linter.unusedSimpArgs false
/- loop.example/g01158/spec.AddDoor -/
namespace Go.Proofs
open Go Go.Ga
set_option linter.unusedVariables false
set_option maxRecDepth 100000
set_option maxHeartbeats 4000000
def spec_AddDoor.f (k : Nat) (a0_0 : Int) (a0_1 : List (Int × Int × Int)) (a0_2 : List Int) (a1 : Int) (a2 : Int) (a3 : Int) : Option (Int × (List (Int × Int × Int)) × (List Int) × Bool) := ((spec_l2Node.f k a0_0 a0_1 a0_2 a1).bind fun t13 => (if (!t13) = true then some true else (spec_l2Node.f k a0_0 a0_1 a0_2 a2).bind fun t18 => (if (!t18) = true then some true else (if (a1 == a2) = true then some true else (spec_l2Set.f k a3).bind fun t28 => some (!t28))))).bind fun y30 => (if y30 = true then some (0, [], [], false) else (spec_l2Own.f k a0_0 a0_1 a0_2).bind fun (t33_1, t33_2, t33_3) => (spec_l2Put.f k t33_2 a1 a2 a3).bind fun t39 => (if ((t39.length : Int) == (a0_1.length : Int)) = true then some (0, [], [], false) else (spec_l2Kept.f k t33_1 t39 t33_3).bind fun (t50_1, t50_2, t50_3, t50_4) => some (t50_1, t50_2, t50_3, t50_4)))

theorem spec_AddDoor.ok {k : Nat}  {a0_0 : Int} {a0_1 : List (Int × Int × Int)} {a0_2 : List Int} {a1 : Int} {a2 : Int} {a3 : Int} {r0 : Int} {r1 : List (Int × Int × Int)} {r2 : List Int} {r3 : Bool} (h : spec_AddDoor.f k a0_0 a0_1 a0_2 a1 a2 a3 = some (r0, r1, r2, r3)) (w : World) {va0_1 : Value} {va0_2 : Value} (hr_a0_1 : Rd w va0_1 a0_1) (hr_a0_2 : Rd w va0_2 a0_2) :
    Calls Tryz.prog 56 ([.agg ([.int .i64 a0_0, va0_1, va0_2].toArray), .int .i64 a1, .int .i64 a2, .int .i64 a3] : List Value).toArray w (Post (fun u ns => ∃ (ur1 : Value) (Sr1 : Nat → Prop) (ur2 : Value) (Sr2 : Nat → Prop), u = .tuple #[.agg [.int .i64 r0, ur1, ur2].toArray, .bool r3] ∧ SlLen ur1 r1.length ∧ SlLen ur2 r2.length ∧ ns = [R.sl Sr1 ur1 r1, R.sl Sr2 ur2 r2]) w) := by
  unfold spec_AddDoor.f at h
  have hl_va0_1 := hr_a0_1.len
  have hl_va0_2 := hr_a0_2.len
  refine Calls.of_tri (N := 53) Tryz.func56 rfl rfl rfl (Sep.nil (M := noM)) ?_
  refine Tri.seq ?_
  refine Tri.reg (l := [0, 1, 2]) rfl ?_
  refine F.m rfl rfl rfl (wanted_none rfl) (m_boxG rfl rfl) ?_
  rintro _ _ ⟨b4_1, rfl, rfl⟩
  refine F.m rfl rfl rfl (wanted_none rfl) (m_alloc ti31) ?_
  rintro _ _ ⟨b8_1, rfl, rfl⟩
  refine F.q rfl rfl rfl (wanted_none rfl) (r_assign rfl) ?_
  refine F.nil ?_
  refine Nrm.seq ?_
  refine Tri.seq ?_
  refine Tri.seq ?_
  obtain ⟨y30, hE_1, h⟩ := bind_some h
  refine Tri.cut (fun e' C' => e' = [(1, .int .i64 a1), (2, .int .i64 a2), (3, .int .i64 a3), (4, .pointer (some ⟨b4_1, 0, none⟩)), (8, .pointer (some ⟨b8_1, 0, none⟩)), (30, .bool y30)] ∧ C' = Sep w noM [R.box b8_1 31 [.int .i64 0, .slice none 0 0, .slice none 0 0], R.box b4_1 31 [.int .i64 a0_0, va0_1, va0_2]]) ?_ (fun hj_1 => ?_)
  · rintro _ _ ⟨rfl, rfl⟩
    refine Nrm.seq ?_
    refine Tri.cond (b := y30) rfl (fun g_1 => ?_) (fun g_1 => ?_)
    · replace h := if_tt g_1 h
      refine Tri.seq ?_
      refine Tri.reg (l := [0, 1, 2]) rfl ?_
      refine F.q rfl rfl rfl (wanted_none rfl) (r_build (pl := [(0, 1), (1, 1), (2, 1)]) (qs := []) (cs := [.int .i64 0, .slice none 0 0, .slice none 0 0]) (by kernel_rfl) ti31 rfl .nil rfl rfl) ?_
      refine F.ef0 rfl rfl (wanted_none rfl) (d_storeG0 (i := 0) (cs2 := [.int .i64 0, .slice none 0 0, .slice none 0 0]) ti31 rfl rfl rfl rfl rfl (Nat.le_of_ble_eq_true rfl) (lf_cons rfl (lf_cons rfl (lf_cons rfl lf_nil)))) ?_
      rintro _ _ ⟨rfl, rfl⟩
      refine F.q rfl rfl rfl (wanted_none rfl) (r_assign rfl) ?_
      refine F.nil ?_
      refine Nrm.seq ?_
      refine Tri.ret ?_
      refine Rtn.then ?_
      cases h
      exact Rtn.body (.cell rfl ta31 ti31 rfl (fun _ hw => box_cells (i := 0) rfl _ hw) (.tmp rfl .nil)) (fun w hw => ⟨_, _, rfl, ⟨.slice none 0 0, fun _ => False, .slice none 0 0, fun _ => False, rfl, len_nil, len_nil, rfl⟩, Sep.pick (is := [0, 1]) rfl rfl hw.pushNil.pushNil⟩)
    · replace h := if_ff g_1 h
      refine Tri.skip ?_
      refine Nrm.seq ?_
      refine Tri.seq ?_
      obtain ⟨⟨t33_1, t33_2, t33_3⟩, h33, h⟩ := bind_some h
      refine Tri.reg (l := [0, 1, 2, 3]) rfl ?_
      refine F.q rfl rfl rfl (wanted_none rfl) (r_loadA ta31 ti31 rfl rfl (fun w hw => (box_cells (i := 1) rfl w hw))) ?_
      refine F.m rfl rfl rfl (wanted_none rfl) (m_callF (xs := _) rfl ok37 rfl rfl (fun w hw => spec_l2Own.ok h33 w ((fun _ hw => hr_a0_1.sep hw) w hw) ((fun _ hw => hr_a0_2.sep hw) w hw))) ?_
      rintro _ _ ⟨_, ⟨v33_1, S33_1, v33_2, S33_2, rfl, hl_v33_1, hl_v33_2, rfl⟩, rfl⟩
      refine F.m rfl rfl rfl (wanted_none rfl) (m_alloc ti31) ?_
      rintro _ _ ⟨b10_1, rfl, rfl⟩
      refine F.ef0 rfl rfl (wanted_none rfl) (d_storeG0 (i := 0) (cs2 := [.int .i64 t33_1, v33_1, v33_2]) ti31 rfl rfl rfl rfl rfl (Nat.le_of_ble_eq_true rfl) (lf_cons rfl (lf_cons (sl_leaf hl_v33_1) (lf_cons (sl_leaf hl_v33_2) lf_nil)))) ?_
      rintro _ _ ⟨rfl, rfl⟩
      refine F.nil ?_
      refine Nrm.seq ?_
      refine Tri.seq ?_
      obtain ⟨t39, h39, h⟩ := bind_some h
      refine Tri.reg (l := [0, 1, 2, 3, 4, 5, 6, 7]) rfl ?_
      refine F.q rfl rfl rfl (wanted_none rfl) (r_fieldAddr tf31_1 rfl) ?_
      refine F.q rfl rfl rfl (wanted_none rfl) (r_load ta22 rfl (fun w hw => cell_1 (box_cells (i := 0) rfl w hw) rfl)) ?_
      refine F.q rfl rfl rfl (wanted_none rfl) (r_move rfl) ?_
      refine F.q rfl rfl rfl (wanted_none rfl) (r_move rfl) ?_
      refine F.q rfl rfl rfl (wanted_none rfl) (r_move rfl) ?_
      refine F.ef rfl rfl rfl (wanted_none rfl) (d_callM (xs := _) (cs := [R.sl S33_1 v33_1 (t33_2 : List (Int × Int × Int))]) (rest := [R.box b10_1 31 [.int .i64 t33_1, v33_1, v33_2], R.sl S33_2 v33_2 (t33_3 : List (Int)), R.box b8_1 31 [.int .i64 0, .slice none 0 0, .slice none 0 0], R.box b4_1 31 [.int .i64 a0_0, va0_1, va0_2]]) [1] [0, 2, 3, 4] rfl ok74 rfl rfl rfl rfl (fun w hw => spec_l2Put.ok h39 w hl_v33_1 (Sep.sub hw))) ?_
      rintro v39_1 _ ⟨_, ⟨S39_1, hl_v39_1, rfl⟩, rfl⟩
      refine F.q rfl rfl rfl (wanted_none rfl) (r_fieldAddr tf31_1 rfl) ?_
      refine F.ef0 rfl rfl (wanted_none rfl) (d_storeG1 (i := 1) (cs2 := [v39_1]) ti22 rfl rfl rfl (sl_cells hl_v39_1) rfl (Nat.le_of_ble_eq_true rfl) (lf_cons (sl_leaf hl_v39_1) lf_nil)) ?_
      rintro _ _ ⟨rfl, rfl⟩
      refine F.nil ?_
      refine Nrm.seq ?_
      refine Tri.seq ?_
      refine Tri.seq ?_
      refine Tri.reg (l := [0, 1, 2, 3, 4, 5, 6]) rfl ?_
      refine F.q rfl rfl rfl (wanted_none rfl) (r_fieldAddr tf31_1 rfl) ?_
      refine F.q rfl rfl rfl (wanted_none rfl) (r_load ta22 rfl (fun w hw => cell_1 (box_cells (i := 1) rfl w hw) rfl)) ?_
      refine F.q rfl rfl rfl (wanted_none rfl) (r_len Tryz.underlying22 rfl hl_v39_1) ?_
      refine F.q rfl rfl rfl (wanted_none rfl) (r_fieldAddr tf31_1 rfl) ?_
      refine F.q rfl rfl rfl (wanted_none rfl) (r_load ta22 rfl (fun w hw => cell_1 (box_cells (i := 4) rfl w hw) rfl)) ?_
      refine F.q rfl rfl rfl (wanted_none rfl) (r_len Tryz.underlying22 rfl hl_va0_1) ?_
      refine F.q rfl rfl rfl (wanted_none rfl) (r_eql rfl rfl) ?_
      refine F.nil ?_
      refine Nrm.seq ?_
      refine Tri.cond (b := (t39.length : Int) == (a0_1.length : Int)) rfl (fun g_2 => ?_) (fun g_2 => ?_)
      · replace h := if_tt g_2 h
        refine Tri.seq ?_
        refine Tri.reg (l := [0, 1, 2]) rfl ?_
        refine F.q rfl rfl rfl (wanted_none rfl) (r_build (pl := [(0, 1), (1, 1), (2, 1)]) (qs := []) (cs := [.int .i64 0, .slice none 0 0, .slice none 0 0]) (by kernel_rfl) ti31 rfl .nil rfl rfl) ?_
        refine F.ef0 rfl rfl (wanted_none rfl) (d_storeG0 (i := 3) (cs2 := [.int .i64 0, .slice none 0 0, .slice none 0 0]) ti31 rfl rfl rfl rfl rfl (Nat.le_of_ble_eq_true rfl) (lf_cons rfl (lf_cons rfl (lf_cons rfl lf_nil)))) ?_
        rintro _ _ ⟨rfl, rfl⟩
        refine F.q rfl rfl rfl (wanted_none rfl) (r_assign rfl) ?_
        refine F.nil ?_
        refine Nrm.seq ?_
        refine Tri.ret ?_
        refine Rtn.then ?_
        cases h
        exact Rtn.body (.cell rfl ta31 ti31 rfl (fun _ hw => box_cells (i := 3) rfl _ hw) (.tmp rfl .nil)) (fun w hw => ⟨_, _, rfl, ⟨.slice none 0 0, fun _ => False, .slice none 0 0, fun _ => False, rfl, len_nil, len_nil, rfl⟩, Sep.pick (is := [0, 1]) rfl rfl hw.pushNil.pushNil⟩)
      · replace h := if_ff g_2 h
        refine Tri.skip ?_
        refine Nrm.seq ?_
        refine Tri.seq ?_
        obtain ⟨⟨t50_1, t50_2, t50_3, t50_4⟩, h50, h⟩ := bind_some h
        refine Tri.reg (l := [0, 1, 2, 3, 4, 5]) rfl ?_
        refine F.q rfl rfl rfl (wanted_none rfl) (r_loadA ta31 ti31 rfl rfl (fun w hw => (box_cells (i := 1) rfl w hw))) ?_
        refine F.ef rfl rfl rfl (wanted_none rfl) (d_callM (xs := _) (cs := [R.sl S39_1 v39_1 (t39 : List (Int × Int × Int)), R.sl S33_2 v33_2 (t33_3 : List (Int))]) (rest := [R.box b10_1 31 [.int .i64 t33_1, v39_1, v33_2], R.box b8_1 31 [.int .i64 0, .slice none 0 0, .slice none 0 0], R.box b4_1 31 [.int .i64 a0_0, va0_1, va0_2]]) [0, 2] [1, 3, 4] rfl ok75 rfl rfl rfl rfl (fun w hw => spec_l2Kept.ok h50 w hl_v39_1 hl_v33_2 (Sep.sub hw))) ?_
        rintro _ _ ⟨_, ⟨v50_1, S50_1, v50_2, S50_2, rfl, hl_v50_1, hl_v50_2, rfl⟩, rfl⟩
        refine F.q rfl rfl rfl (wanted_none rfl) (r_extract rfl rfl) ?_
        refine F.q rfl rfl rfl (wanted_none rfl) (r_extract rfl rfl) ?_
        refine F.ef0 rfl rfl (wanted_none rfl) (d_storeG0 (i := 3) (cs2 := [.int .i64 t50_1, v50_1, v50_2]) ti31 rfl rfl rfl rfl rfl (Nat.le_of_ble_eq_true rfl) (lf_cons rfl (lf_cons (sl_leaf hl_v50_1) (lf_cons (sl_leaf hl_v50_2) lf_nil)))) ?_
        rintro _ _ ⟨rfl, rfl⟩
        refine F.q rfl rfl rfl (wanted_none rfl) (r_assign rfl) ?_
        refine F.nil ?_
        refine Nrm.seq ?_
        refine Tri.ret ?_
        cases h
        exact Rtn.body (.cell rfl ta31 ti31 rfl (fun _ hw => box_cells (i := 3) rfl _ hw) (.tmp rfl .nil)) (fun w hw => ⟨_, _, rfl, ⟨v50_1, S50_1, v50_2, S50_2, rfl, hl_v50_1, hl_v50_2, rfl⟩, Sep.pick (is := [0, 1]) rfl rfl hw⟩)
  · obtain ⟨t13, h13, hE_1⟩ := bind_some hE_1
    rcases Bool.eq_false_or_eq_true (!t13) with g15 | g15
    · replace hE_1 := if_tt g15 hE_1
      refine Tri.reg (l := [0, 1, 2, 3, 4, 5, 6, 7, 8, 9, 10, 11, 12, 13, 14, 15, 16, 17, 18, 19]) rfl ?_
      refine F.q rfl rfl rfl (wanted_none rfl) (r_loadA ta31 ti31 rfl rfl (fun w hw => (box_cells (i := 1) rfl w hw))) ?_
      refine F.q rfl rfl rfl (wanted_none rfl) (r_move rfl) ?_
      refine F.qc rfl rfl rfl (wanted_none rfl) (q_callF (xs := _) rfl ok73 rfl rfl (fun w hw => spec_l2Node.ok h13 w ((fun _ hw => hr_a0_1.sep hw) w hw) ((fun _ hw => hr_a0_2.sep hw) w hw))) ?_
      refine F.q rfl rfl rfl (wanted_none rfl) (r_not rfl) ?_
      refine F.q rfl rfl rfl (wanted_none rfl) (r_move rfl) ?_
      refine F.sk rfl rfl rfl (wf rfl rfl rfl g15) ?_
      refine F.sk rfl rfl rfl (wf rfl rfl rfl g15) ?_
      refine F.sk rfl rfl rfl (wf rfl rfl rfl g15) ?_
      refine F.sk rfl rfl rfl (wf rfl rfl rfl g15) ?_
      refine F.q rfl rfl rfl (wanted_none rfl) (r_pick rfl rfl g15) ?_
      refine F.q rfl rfl rfl (wanted_none rfl) (r_move rfl) ?_
      refine F.sk rfl rfl rfl (wf rfl rfl rfl rfl) ?_
      refine F.sk rfl rfl rfl (wf rfl rfl rfl rfl) ?_
      refine F.sk rfl rfl rfl (wf rfl rfl rfl rfl) ?_
      refine F.q rfl rfl rfl (wanted_none rfl) (r_pick rfl rfl rfl) ?_
      refine F.q rfl rfl rfl (wanted_none rfl) (r_move rfl) ?_
      refine F.sk rfl rfl rfl (wf rfl rfl rfl rfl) ?_
      refine F.sk rfl rfl rfl (wf rfl rfl rfl rfl) ?_
      refine F.sk rfl rfl rfl (wf rfl rfl rfl rfl) ?_
      refine F.q rfl rfl rfl (wanted_none rfl) (r_pick rfl rfl rfl) ?_
      refine F.nil ?_
      cases hE_1
      refine Nrm.only [1, 2, 3, 4, 8, 30] rfl ?_
      refine Nrm.pick [0, 1] rfl rfl ?_
      exact hj_1 _ _ ⟨rfl, rfl⟩
    · replace hE_1 := if_ff g15 hE_1
      obtain ⟨t18, h18, hE_1⟩ := bind_some hE_1
      rcases Bool.eq_false_or_eq_true (!t18) with g21 | g21
      · replace hE_1 := if_tt g21 hE_1
        refine Tri.reg (l := [0, 1, 2, 3, 4, 5, 6, 7, 8, 9, 10, 11, 12, 13, 14, 15, 16, 17, 18, 19]) rfl ?_
        refine F.q rfl rfl rfl (wanted_none rfl) (r_loadA ta31 ti31 rfl rfl (fun w hw => (box_cells (i := 1) rfl w hw))) ?_
        refine F.q rfl rfl rfl (wanted_none rfl) (r_move rfl) ?_
        refine F.qc rfl rfl rfl (wanted_none rfl) (q_callF (xs := _) rfl ok73 rfl rfl (fun w hw => spec_l2Node.ok h13 w ((fun _ hw => hr_a0_1.sep hw) w hw) ((fun _ hw => hr_a0_2.sep hw) w hw))) ?_
        refine F.q rfl rfl rfl (wanted_none rfl) (r_not rfl) ?_
        refine F.q rfl rfl rfl (wanted_none rfl) (r_move rfl) ?_
        refine F.q rfl rfl rfl (wg rfl rfl rfl g15) (r_loadA ta31 ti31 rfl rfl (fun w hw => (box_cells (i := 1) rfl w hw))) ?_
        refine F.q rfl rfl rfl (wg rfl rfl rfl g15) (r_move rfl) ?_
        refine F.qc rfl rfl rfl (wg rfl rfl rfl g15) (q_callF (xs := _) rfl ok73 rfl rfl (fun w hw => spec_l2Node.ok h18 w ((fun _ hw => hr_a0_1.sep hw) w hw) ((fun _ hw => hr_a0_2.sep hw) w hw))) ?_
        refine F.q rfl rfl rfl (wg rfl rfl rfl g15) (r_not rfl) ?_
        refine F.q rfl rfl rfl (wanted_none rfl) (r_pickf rfl rfl g15) ?_
        refine F.q rfl rfl rfl (wanted_none rfl) (r_move rfl) ?_
        refine F.sk rfl rfl rfl (wf rfl rfl rfl g21) ?_
        refine F.sk rfl rfl rfl (wf rfl rfl rfl g21) ?_
        refine F.sk rfl rfl rfl (wf rfl rfl rfl g21) ?_
        refine F.q rfl rfl rfl (wanted_none rfl) (r_pick rfl rfl g21) ?_
        refine F.q rfl rfl rfl (wanted_none rfl) (r_move rfl) ?_
        refine F.sk rfl rfl rfl (wf rfl rfl rfl rfl) ?_
        refine F.sk rfl rfl rfl (wf rfl rfl rfl rfl) ?_
        refine F.sk rfl rfl rfl (wf rfl rfl rfl rfl) ?_
        refine F.q rfl rfl rfl (wanted_none rfl) (r_pick rfl rfl rfl) ?_
        refine F.nil ?_
        cases hE_1
        refine Nrm.only [1, 2, 3, 4, 8, 30] rfl ?_
        refine Nrm.pick [0, 1] rfl rfl ?_
        exact hj_1 _ _ ⟨rfl, rfl⟩
      · replace hE_1 := if_ff g21 hE_1
        rcases Bool.eq_false_or_eq_true (a1 == a2) with g26 | g26
        · replace hE_1 := if_tt g26 hE_1
          refine Tri.reg (l := [0, 1, 2, 3, 4, 5, 6, 7, 8, 9, 10, 11, 12, 13, 14, 15, 16, 17, 18, 19]) rfl ?_
          refine F.q rfl rfl rfl (wanted_none rfl) (r_loadA ta31 ti31 rfl rfl (fun w hw => (box_cells (i := 1) rfl w hw))) ?_
          refine F.q rfl rfl rfl (wanted_none rfl) (r_move rfl) ?_
          refine F.qc rfl rfl rfl (wanted_none rfl) (q_callF (xs := _) rfl ok73 rfl rfl (fun w hw => spec_l2Node.ok h13 w ((fun _ hw => hr_a0_1.sep hw) w hw) ((fun _ hw => hr_a0_2.sep hw) w hw))) ?_
          refine F.q rfl rfl rfl (wanted_none rfl) (r_not rfl) ?_
          refine F.q rfl rfl rfl (wanted_none rfl) (r_move rfl) ?_
          refine F.q rfl rfl rfl (wg rfl rfl rfl g15) (r_loadA ta31 ti31 rfl rfl (fun w hw => (box_cells (i := 1) rfl w hw))) ?_
          refine F.q rfl rfl rfl (wg rfl rfl rfl g15) (r_move rfl) ?_
          refine F.qc rfl rfl rfl (wg rfl rfl rfl g15) (q_callF (xs := _) rfl ok73 rfl rfl (fun w hw => spec_l2Node.ok h18 w ((fun _ hw => hr_a0_1.sep hw) w hw) ((fun _ hw => hr_a0_2.sep hw) w hw))) ?_
          refine F.q rfl rfl rfl (wg rfl rfl rfl g15) (r_not rfl) ?_
          refine F.q rfl rfl rfl (wanted_none rfl) (r_pickf rfl rfl g15) ?_
          refine F.q rfl rfl rfl (wanted_none rfl) (r_move rfl) ?_
          refine F.q rfl rfl rfl (wg rfl rfl rfl g21) (r_move rfl) ?_
          refine F.q rfl rfl rfl (wg rfl rfl rfl g21) (r_move rfl) ?_
          refine F.q rfl rfl rfl (wg rfl rfl rfl g21) (r_eql rfl rfl) ?_
          refine F.q rfl rfl rfl (wanted_none rfl) (r_pickf rfl rfl g21) ?_
          refine F.q rfl rfl rfl (wanted_none rfl) (r_move rfl) ?_
          refine F.sk rfl rfl rfl (wf rfl rfl rfl g26) ?_
          refine F.sk rfl rfl rfl (wf rfl rfl rfl g26) ?_
          refine F.sk rfl rfl rfl (wf rfl rfl rfl g26) ?_
          refine F.q rfl rfl rfl (wanted_none rfl) (r_pick rfl rfl g26) ?_
          refine F.nil ?_
          cases hE_1
          refine Nrm.only [1, 2, 3, 4, 8, 30] rfl ?_
          refine Nrm.pick [0, 1] rfl rfl ?_
          exact hj_1 _ _ ⟨rfl, rfl⟩
        · replace hE_1 := if_ff g26 hE_1
          obtain ⟨t28, h28, hE_1⟩ := bind_some hE_1
          refine Tri.reg (l := [0, 1, 2, 3, 4, 5, 6, 7, 8, 9, 10, 11, 12, 13, 14, 15, 16, 17, 18, 19]) rfl ?_
          refine F.q rfl rfl rfl (wanted_none rfl) (r_loadA ta31 ti31 rfl rfl (fun w hw => (box_cells (i := 1) rfl w hw))) ?_
          refine F.q rfl rfl rfl (wanted_none rfl) (r_move rfl) ?_
          refine F.qc rfl rfl rfl (wanted_none rfl) (q_callF (xs := _) rfl ok73 rfl rfl (fun w hw => spec_l2Node.ok h13 w ((fun _ hw => hr_a0_1.sep hw) w hw) ((fun _ hw => hr_a0_2.sep hw) w hw))) ?_
          refine F.q rfl rfl rfl (wanted_none rfl) (r_not rfl) ?_
          refine F.q rfl rfl rfl (wanted_none rfl) (r_move rfl) ?_
          refine F.q rfl rfl rfl (wg rfl rfl rfl g15) (r_loadA ta31 ti31 rfl rfl (fun w hw => (box_cells (i := 1) rfl w hw))) ?_
          refine F.q rfl rfl rfl (wg rfl rfl rfl g15) (r_move rfl) ?_
          refine F.qc rfl rfl rfl (wg rfl rfl rfl g15) (q_callF (xs := _) rfl ok73 rfl rfl (fun w hw => spec_l2Node.ok h18 w ((fun _ hw => hr_a0_1.sep hw) w hw) ((fun _ hw => hr_a0_2.sep hw) w hw))) ?_
          refine F.q rfl rfl rfl (wg rfl rfl rfl g15) (r_not rfl) ?_
          refine F.q rfl rfl rfl (wanted_none rfl) (r_pickf rfl rfl g15) ?_
          refine F.q rfl rfl rfl (wanted_none rfl) (r_move rfl) ?_
          refine F.q rfl rfl rfl (wg rfl rfl rfl g21) (r_move rfl) ?_
          refine F.q rfl rfl rfl (wg rfl rfl rfl g21) (r_move rfl) ?_
          refine F.q rfl rfl rfl (wg rfl rfl rfl g21) (r_eql rfl rfl) ?_
          refine F.q rfl rfl rfl (wanted_none rfl) (r_pickf rfl rfl g21) ?_
          refine F.q rfl rfl rfl (wanted_none rfl) (r_move rfl) ?_
          refine F.q rfl rfl rfl (wg rfl rfl rfl g26) (r_move rfl) ?_
          refine F.qc rfl rfl rfl (wg rfl rfl rfl g26) (q_callF (xs := _) rfl ok52 rfl rfl (fun w hw => spec_l2Set.ok h28 w )) ?_
          refine F.q rfl rfl rfl (wg rfl rfl rfl g26) (r_not rfl) ?_
          refine F.q rfl rfl rfl (wanted_none rfl) (r_pickf rfl rfl g26) ?_
          refine F.nil ?_
          cases hE_1
          refine Nrm.only [1, 2, 3, 4, 8, 30] rfl ?_
          refine Nrm.pick [0, 1] rfl rfl ?_
          exact hj_1 _ _ ⟨rfl, rfl⟩

end Go.Proofs

/- loop.example/g01158/spec.DropDoor -/
namespace Go.Proofs
open Go Go.Ga
set_option linter.unusedVariables false
set_option maxRecDepth 100000
set_option maxHeartbeats 4000000
def spec_DropDoor.f (k : Nat) (a0_0 : Int) (a0_1 : List (Int × Int × Int)) (a0_2 : List Int) (a1 : Int) : Option (Int × (List (Int × Int × Int)) × (List Int) × Bool) := ((spec_l2Maze.f k a0_0 a0_1 a0_2).bind fun t8 => (if (!t8) = true then some true else (spec_l1In.f k a1 0 (w64 ((a0_1.length : Int) - 1))).bind fun t16 => some (!t16))).bind fun y18 => (if y18 = true then some (0, [], [], false) else (spec_l2Own.f k a0_0 a0_1 a0_2).bind fun (t21_1, t21_2, t21_3) => (slc a0_1 0 a1).bind fun t26 => (slc a0_1 (w64 (a1 + 1)) (a0_1.length : Int)).bind fun t32 => if (([] : List (Int × Int × Int)) ++ t26).length < 1099511627776 then if ((([] : List (Int × Int × Int)) ++ t26) ++ t32).length < 1099511627776 then some (t21_1, (([] : List (Int × Int × Int)) ++ t26) ++ t32, t21_3, true) else none else none)

theorem spec_DropDoor.ok {k : Nat}  {a0_0 : Int} {a0_1 : List (Int × Int × Int)} {a0_2 : List Int} {a1 : Int} {r0 : Int} {r1 : List (Int × Int × Int)} {r2 : List Int} {r3 : Bool} (h : spec_DropDoor.f k a0_0 a0_1 a0_2 a1 = some (r0, r1, r2, r3)) (w : World) {va0_1 : Value} {va0_2 : Value} (hr_a0_1 : Rd w va0_1 a0_1) (hr_a0_2 : Rd w va0_2 a0_2) :
    Calls Tryz.prog 57 ([.agg ([.int .i64 a0_0, va0_1, va0_2].toArray), .int .i64 a1] : List Value).toArray w (Post (fun u ns => ∃ (ur1 : Value) (Sr1 : Nat → Prop) (ur2 : Value) (Sr2 : Nat → Prop), u = .tuple #[.agg [.int .i64 r0, ur1, ur2].toArray, .bool r3] ∧ SlLen ur1 r1.length ∧ SlLen ur2 r2.length ∧ ns = [R.sl Sr1 ur1 r1, R.sl Sr2 ur2 r2]) w) := by
  unfold spec_DropDoor.f at h
  have hl_va0_1 := hr_a0_1.len
  have hl_va0_2 := hr_a0_2.len
  refine Calls.of_tri (N := 36) Tryz.func57 rfl rfl rfl (Sep.nil (M := noM)) ?_
  refine Tri.seq ?_
  refine Tri.reg (l := [0, 1, 2]) rfl ?_
  refine F.m rfl rfl rfl (wanted_none rfl) (m_boxG rfl rfl) ?_
  rintro _ _ ⟨b2_1, rfl, rfl⟩
  refine F.m rfl rfl rfl (wanted_none rfl) (m_alloc ti31) ?_
  rintro _ _ ⟨b4_1, rfl, rfl⟩
  refine F.q rfl rfl rfl (wanted_none rfl) (r_assign rfl) ?_
  refine F.nil ?_
  refine Nrm.seq ?_
  refine Tri.seq ?_
  refine Tri.seq ?_
  obtain ⟨y18, hE_1, h⟩ := bind_some h
  refine Tri.cut (fun e' C' => e' = [(1, .int .i64 a1), (2, .pointer (some ⟨b2_1, 0, none⟩)), (4, .pointer (some ⟨b4_1, 0, none⟩)), (18, .bool y18)] ∧ C' = Sep w noM [R.box b4_1 31 [.int .i64 0, .slice none 0 0, .slice none 0 0], R.box b2_1 31 [.int .i64 a0_0, va0_1, va0_2]]) ?_ (fun hj_1 => ?_)
  · rintro _ _ ⟨rfl, rfl⟩
    refine Nrm.seq ?_
    refine Tri.cond (b := y18) rfl (fun g_1 => ?_) (fun g_1 => ?_)
    · replace h := if_tt g_1 h
      refine Tri.seq ?_
      refine Tri.reg (l := [0, 1, 2]) rfl ?_
      refine F.q rfl rfl rfl (wanted_none rfl) (r_build (pl := [(0, 1), (1, 1), (2, 1)]) (qs := []) (cs := [.int .i64 0, .slice none 0 0, .slice none 0 0]) (by kernel_rfl) ti31 rfl .nil rfl rfl) ?_
      refine F.ef0 rfl rfl (wanted_none rfl) (d_storeG0 (i := 0) (cs2 := [.int .i64 0, .slice none 0 0, .slice none 0 0]) ti31 rfl rfl rfl rfl rfl (Nat.le_of_ble_eq_true rfl) (lf_cons rfl (lf_cons rfl (lf_cons rfl lf_nil)))) ?_
      rintro _ _ ⟨rfl, rfl⟩
      refine F.q rfl rfl rfl (wanted_none rfl) (r_assign rfl) ?_
      refine F.nil ?_
      refine Nrm.seq ?_
      refine Tri.ret ?_
      refine Rtn.then ?_
      cases h
      exact Rtn.body (.cell rfl ta31 ti31 rfl (fun _ hw => box_cells (i := 0) rfl _ hw) (.tmp rfl .nil)) (fun w hw => ⟨_, _, rfl, ⟨.slice none 0 0, fun _ => False, .slice none 0 0, fun _ => False, rfl, len_nil, len_nil, rfl⟩, Sep.pick (is := [0, 1]) rfl rfl hw.pushNil.pushNil⟩)
    · replace h := if_ff g_1 h
      refine Tri.skip ?_
      refine Nrm.seq ?_
      refine Tri.seq ?_
      obtain ⟨⟨t21_1, t21_2, t21_3⟩, h21, h⟩ := bind_some h
      refine Tri.reg (l := [0, 1, 2, 3]) rfl ?_
      refine F.q rfl rfl rfl (wanted_none rfl) (r_loadA ta31 ti31 rfl rfl (fun w hw => (box_cells (i := 1) rfl w hw))) ?_
      refine F.m rfl rfl rfl (wanted_none rfl) (m_callF (xs := _) rfl ok37 rfl rfl (fun w hw => spec_l2Own.ok h21 w ((fun _ hw => hr_a0_1.sep hw) w hw) ((fun _ hw => hr_a0_2.sep hw) w hw))) ?_
      rintro _ _ ⟨_, ⟨v21_1, S21_1, v21_2, S21_2, rfl, hl_v21_1, hl_v21_2, rfl⟩, rfl⟩
      refine F.m rfl rfl rfl (wanted_none rfl) (m_alloc ti31) ?_
      rintro _ _ ⟨b6_1, rfl, rfl⟩
      refine F.ef0 rfl rfl (wanted_none rfl) (d_storeG0 (i := 0) (cs2 := [.int .i64 t21_1, v21_1, v21_2]) ti31 rfl rfl rfl rfl rfl (Nat.le_of_ble_eq_true rfl) (lf_cons rfl (lf_cons (sl_leaf hl_v21_1) (lf_cons (sl_leaf hl_v21_2) lf_nil)))) ?_
      rintro _ _ ⟨rfl, rfl⟩
      refine F.nil ?_
      refine Nrm.seq ?_
      refine Tri.seq ?_
      obtain ⟨t26, h26, h⟩ := bind_some h
      obtain ⟨t32, h32, h⟩ := bind_some h
      obtain ⟨hs27, h⟩ := ck h
      obtain ⟨hs33, h⟩ := ck h
      refine Tri.drawB mixedT Sep.up [(1, true), (2, true), (3, true), (4, true), (6, true), (7, true), (8, true), (9, true), (10, true), (0, false), (5, false)] [11, 12, 13] (by kernel_rfl) ?_
      refine B.q rfl rfl rfl (wanted_none rfl) (r_fieldAddr tf31_1 rfl) ?_
      refine B.q rfl rfl rfl (wanted_none rfl) (r_load ta22 rfl (fun w hw => cell_1 (box_cells (i := 4) rfl w hw) rfl)) ?_
      refine B.q rfl rfl rfl (wanted_none rfl) (r_move rfl) ?_
      refine B.q rfl rfl rfl (wanted_none rfl) (r_sliceH Tryz.underlying22 ti72 rfl (fun _ hw => hr_a0_1.sep hw) rfl h26) ?_
      refine B.q rfl rfl rfl (wanted_none rfl) (r_fieldAddr tf31_1 rfl) ?_
      refine B.q rfl rfl rfl (wanted_none rfl) (r_load ta22 rfl (fun w hw => cell_1 (box_cells (i := 4) rfl w hw) rfl)) ?_
      refine B.q rfl rfl rfl (wanted_none rfl) (r_move rfl) ?_
      refine B.q rfl rfl rfl (wanted_none rfl) (r_add rfl rfl) ?_
      refine B.q rfl rfl rfl (wanted_none rfl) (r_sliceL Tryz.underlying22 ti72 rfl (fun _ hw => hr_a0_1.sep hw) rfl h32) ?_
      refine B.ef rfl rfl rfl (wanted_none rfl) (Makes.does (m_build0 (α := Int × Int × Int) Tryz.underlying22 ti72)) (by rintro v22_2 _ ⟨S22_2, hl_v22_2, rfl⟩; exact upd rfl [1, 2, 3, 4, 5] rfl rfl) ?_
      rintro v22_2 _ ⟨S22_2, hl_v22_2, rfl⟩
      refine B.ef rfl rfl rfl (wanted_none rfl) (d_append (i := 0) Tryz.underlying22 Tryz.underlying22 ti72 rfl (by decide) rfl rfl rfl (fun w hw => rd_slc ((fun _ hw => hr_a0_1.sep hw) w hw) h26) hs27) (by rintro v27_2 _ ⟨S27_2, rfl, hl_v27_2⟩; exact upd rfl [1, 2, 3, 4, 5] rfl rfl) ?_
      rintro v27_2 _ ⟨S27_2, rfl, hl_v27_2⟩
      refine B.nil ?_
      refine F.ef rfl rfl rfl (wanted_none rfl) (d_append (i := 0) Tryz.underlying22 Tryz.underlying22 ti72 rfl (by decide) rfl rfl rfl (fun w hw => rd_slc ((fun _ hw => hr_a0_1.sep hw) w hw) h32) hs33) ?_
      rintro v33_2 _ ⟨S33_2, rfl, hl_v33_2⟩
      refine F.q rfl rfl rfl (wanted_none rfl) (r_fieldAddr tf31_1 rfl) ?_
      refine F.ef0 rfl rfl (wanted_none rfl) (d_storeG1 (i := 1) (cs2 := [v33_2]) ti22 rfl rfl rfl (sl_cells hl_v33_2) rfl (Nat.le_of_ble_eq_true rfl) (lf_cons (sl_leaf hl_v33_2) lf_nil)) ?_
      rintro _ _ ⟨rfl, rfl⟩
      refine F.nil ?_
      refine Nrm.seq ?_
      refine Tri.seq ?_
      refine Tri.reg (l := [0, 1, 2]) rfl ?_
      refine F.q rfl rfl rfl (wanted_none rfl) (r_loadA ta31 ti31 rfl rfl (fun w hw => (box_cells (i := 1) rfl w hw))) ?_
      refine F.ef0 rfl rfl (wanted_none rfl) (d_storeG0 (i := 4) (cs2 := [.int .i64 t21_1, v33_2, v21_2]) ti31 rfl rfl rfl rfl rfl (Nat.le_of_ble_eq_true rfl) (lf_cons rfl (lf_cons (sl_leaf hl_v33_2) (lf_cons (sl_leaf hl_v21_2) lf_nil)))) ?_
      rintro _ _ ⟨rfl, rfl⟩
      refine F.q rfl rfl rfl (wanted_none rfl) (r_assign rfl) ?_
      refine F.nil ?_
      refine Nrm.seq ?_
      refine Tri.ret ?_
      cases h
      exact Rtn.body (.cell rfl ta31 ti31 rfl (fun _ hw => box_cells (i := 4) rfl _ hw) (.tmp rfl .nil)) (fun w hw => ⟨_, _, rfl, ⟨v33_2, S33_2, v21_2, S21_2, rfl, hl_v33_2, hl_v21_2, rfl⟩, Sep.pick (is := [0, 3]) rfl rfl hw⟩)
  · obtain ⟨t8, h8, hE_1⟩ := bind_some hE_1
    rcases Bool.eq_false_or_eq_true (!t8) with g10 | g10
    · replace hE_1 := if_tt g10 hE_1
      refine Tri.reg (l := [0, 1, 2, 3, 4, 5, 6, 7, 8, 9, 10, 11]) rfl ?_
      refine F.q rfl rfl rfl (wanted_none rfl) (r_loadA ta31 ti31 rfl rfl (fun w hw => (box_cells (i := 1) rfl w hw))) ?_
      refine F.qc rfl rfl rfl (wanted_none rfl) (q_callF (xs := _) rfl ok34 rfl rfl (fun w hw => spec_l2Maze.ok h8 w ((fun _ hw => hr_a0_1.sep hw) w hw) ((fun _ hw => hr_a0_2.sep hw) w hw))) ?_
      refine F.q rfl rfl rfl (wanted_none rfl) (r_not rfl) ?_
      refine F.q rfl rfl rfl (wanted_none rfl) (r_move rfl) ?_
      refine F.sk rfl rfl rfl (wf rfl rfl rfl g10) ?_
      refine F.sk rfl rfl rfl (wf rfl rfl rfl g10) ?_
      refine F.sk rfl rfl rfl (wf rfl rfl rfl g10) ?_
      refine F.sk rfl rfl rfl (wf rfl rfl rfl g10) ?_
      refine F.sk rfl rfl rfl (wf rfl rfl rfl g10) ?_
      refine F.sk rfl rfl rfl (wf rfl rfl rfl g10) ?_
      refine F.sk rfl rfl rfl (wf rfl rfl rfl g10) ?_
      refine F.q rfl rfl rfl (wanted_none rfl) (r_pick rfl rfl g10) ?_
      refine F.nil ?_
      cases hE_1
      refine Nrm.only [1, 2, 4, 18] rfl ?_
      refine Nrm.pick [0, 1] rfl rfl ?_
      exact hj_1 _ _ ⟨rfl, rfl⟩
    · replace hE_1 := if_ff g10 hE_1
      obtain ⟨t16, h16, hE_1⟩ := bind_some hE_1
      refine Tri.reg (l := [0, 1, 2, 3, 4, 5, 6, 7, 8, 9, 10, 11]) rfl ?_
      refine F.q rfl rfl rfl (wanted_none rfl) (r_loadA ta31 ti31 rfl rfl (fun w hw => (box_cells (i := 1) rfl w hw))) ?_
      refine F.qc rfl rfl rfl (wanted_none rfl) (q_callF (xs := _) rfl ok34 rfl rfl (fun w hw => spec_l2Maze.ok h8 w ((fun _ hw => hr_a0_1.sep hw) w hw) ((fun _ hw => hr_a0_2.sep hw) w hw))) ?_
      refine F.q rfl rfl rfl (wanted_none rfl) (r_not rfl) ?_
      refine F.q rfl rfl rfl (wanted_none rfl) (r_move rfl) ?_
      refine F.q rfl rfl rfl (wg rfl rfl rfl g10) (r_move rfl) ?_
      refine F.q rfl rfl rfl (wg rfl rfl rfl g10) (r_fieldAddr tf31_1 rfl) ?_
      refine F.q rfl rfl rfl (wg rfl rfl rfl g10) (r_load ta22 rfl (fun w hw => cell_1 (box_cells (i := 1) rfl w hw) rfl)) ?_
      refine F.q rfl rfl rfl (wg rfl rfl rfl g10) (r_len Tryz.underlying22 rfl hl_va0_1) ?_
      refine F.q rfl rfl rfl (wg rfl rfl rfl g10) (r_sub rfl rfl) ?_
      refine F.qc rfl rfl rfl (wg rfl rfl rfl g10) (q_callF (xs := _) rfl ok35 rfl rfl (fun w hw => spec_l1In.ok h16 w )) ?_
      refine F.q rfl rfl rfl (wg rfl rfl rfl g10) (r_not rfl) ?_
      refine F.q rfl rfl rfl (wanted_none rfl) (r_pickf rfl rfl g10) ?_
      refine F.nil ?_
      cases hE_1
      refine Nrm.only [1, 2, 4, 18] rfl ?_
      refine Nrm.pick [0, 1] rfl rfl ?_
      exact hj_1 _ _ ⟨rfl, rfl⟩

end Go.Proofs

/- loop.example/g01158/spec.l12Make -/
namespace Go.Proofs
open Go Go.Ga
set_option linter.unusedVariables false
set_option maxRecDepth 100000
set_option maxHeartbeats 4000000
def spec_l12Make.f (k : Nat) (a0_0 : Int) (a0_1 : List (Int × Int × Int)) (a0_2 : List Int) (a0_3 : List Int) (a0_4 : Int) (a1_0 : Int) (a1_1 : Int) (a1_2 : Int) (a1_3 : Int) : Option (Int × (List (Int × Int × Int)) × (List Int) × (List Int) × Int × Bool) := (if (a1_0 == 1) = true then if (a0_3 ++ ([a1_1] : List (Int))).length < 1099511627776 then ((if (a1_2 == 0) = true then some (a1_3 == 0) else some false)).bind fun y6 => some (a0_0, a0_1, a0_2, a0_3 ++ ([a1_1] : List (Int)), a0_4, y6) else none else (if (a1_0 == 2) = true then ((if (decide ((a0_3.length : Int) > 1)) = true then (if (a1_1 == 0) = true then (if (a1_2 == 0) = true then some (a1_3 == 0) else some false) else some false) else some false)).bind fun y6r => (spec_l1Most.f k 1 (w64 ((a0_3.length : Int) - 1))).bind fun t54 => (slc a0_3 0 t54).bind fun t55 => some (a0_0, a0_1, a0_2, t55, a0_4, y6r) else (if (a1_0 == 3) = true then ((spec_l1In.f k a1_1 0 (w64 (a0_0 - 1))).bind fun t65 => (if (!t65) = true then some true else some (a1_3 != 0))).bind fun y71 => (if y71 = true then some (a0_0, a0_1, a0_2, a0_3, a0_4, false) else (rdl a0_2 a1_1).bind fun t80 => some (a0_0, a0_1, a0_2.set a1_1.toNat a1_2, a0_3, a0_4, true)) else (if (a1_0 == 4) = true then (spec_AddDoor.f k a0_0 a0_1 a0_2 a1_1 a1_2 a1_3).bind fun (t92_1, t92_2, t92_3, t92_4) => some (t92_1, t92_2, t92_3, a0_3, a0_4, t92_4) else (if (a1_0 == 5) = true then (spec_DropDoor.f k a0_0 a0_1 a0_2 a1_1).bind fun (t103_1, t103_2, t103_3, t103_4) => ((if t103_4 = true then (if (a1_2 == 0) = true then some (a1_3 == 0) else some false) else some false)).bind fun y6rr => some (t103_1, t103_2, t103_3, a0_3, a0_4, y6rr) else some (a0_0, a0_1, a0_2, a0_3, a0_4, false))))))

theorem spec_l12Make.ok {k : Nat}  {a0_0 : Int} {a0_1 : List (Int × Int × Int)} {a0_2 : List Int} {a0_3 : List Int} {a0_4 : Int} {a1_0 : Int} {a1_1 : Int} {a1_2 : Int} {a1_3 : Int} {r0 : Int} {r1 : List (Int × Int × Int)} {r2 : List Int} {r3 : List Int} {r4 : Int} {r5 : Bool} (h : spec_l12Make.f k a0_0 a0_1 a0_2 a0_3 a0_4 a1_0 a1_1 a1_2 a1_3 = some (r0, r1, r2, r3, r4, r5)) (w : World) {va0_1 : Value} {Sa0_1 : Nat → Prop} (hl_va0_1 : SlLen va0_1 a0_1.length) {va0_2 : Value} {Sa0_2 : Nat → Prop} (hl_va0_2 : SlLen va0_2 a0_2.length) {va0_3 : Value} {Sa0_3 : Nat → Prop} (hl_va0_3 : SlLen va0_3 a0_3.length) (hw0 : Sep w (footM [R.sl Sa0_1 va0_1 a0_1, R.sl Sa0_2 va0_2 a0_2, R.sl Sa0_3 va0_3 a0_3]) [R.sl Sa0_1 va0_1 a0_1, R.sl Sa0_2 va0_2 a0_2, R.sl Sa0_3 va0_3 a0_3] w) :
    Calls Tryz.prog 39 ([.agg ([.int .i64 a0_0, va0_1, va0_2, va0_3, .int .i64 a0_4].toArray), .agg ([.int .i64 a1_0, .int .i64 a1_1, .int .i64 a1_2, .int .i64 a1_3].toArray)] : List Value).toArray w (PostM (footM [R.sl Sa0_1 va0_1 a0_1, R.sl Sa0_2 va0_2 a0_2, R.sl Sa0_3 va0_3 a0_3]) (fun u ns => ∃ (ur1 : Value) (Sr1 : Nat → Prop) (ur2 : Value) (Sr2 : Nat → Prop) (ur3 : Value) (Sr3 : Nat → Prop), u = .tuple #[.agg [.int .i64 r0, ur1, ur2, ur3, .int .i64 r4].toArray, .bool r5] ∧ SlLen ur1 r1.length ∧ SlLen ur2 r2.length ∧ SlLen ur3 r3.length ∧ ns = [R.sl Sr1 ur1 r1, R.sl Sr2 ur2 r2, R.sl Sr3 ur3 r3]) w) := by
  unfold spec_l12Make.f at h
  refine Calls.of_tri (N := 120) Tryz.func39 rfl rfl rfl hw0 ?_
  refine Tri.seq ?_
  refine Tri.reg (l := [0, 1, 2, 3]) rfl ?_
  refine F.m rfl rfl rfl (wanted_none rfl) (m_boxG rfl rfl) ?_
  rintro _ _ ⟨b2_1, rfl, rfl⟩
  refine F.m rfl rfl rfl (wanted_none rfl) (m_boxG rfl rfl) ?_
  rintro _ _ ⟨b3_1, rfl, rfl⟩
  refine F.m rfl rfl rfl (wanted_none rfl) (m_alloc ti33) ?_
  rintro _ _ ⟨b4_1, rfl, rfl⟩
  refine F.q rfl rfl rfl (wanted_none rfl) (r_assign rfl) ?_
  refine F.nil ?_
  refine Nrm.seq ?_
  refine Tri.seq ?_
  refine Tri.reg (l := [0]) rfl ?_
  refine F.q rfl rfl rfl (wanted_none rfl) (r_assign rfl) ?_
  refine F.nil ?_
  refine Nrm.seq ?_
  refine Tri.seq ?_
  refine Tri.seq ?_
  refine Tri.reg (l := [0, 1]) rfl ?_
  refine F.q rfl rfl rfl (wanted_none rfl) (r_fieldAddr tf51_0 rfl) ?_
  refine F.q rfl rfl rfl (wanted_none rfl) (r_load ta3 rfl (fun w hw => cell_1 (box_cells (i := 1) rfl w hw) rfl)) ?_
  refine F.nil ?_
  refine Nrm.seq ?_
  refine Tri.block ?_
  refine Tri.seq ?_
  refine Tri.reg (l := [0, 1]) rfl ?_
  refine F.q rfl rfl rfl (wanted_none rfl) (r_eql rfl rfl) ?_
  refine F.q rfl rfl rfl (wanted_none rfl) (r_assign rfl) ?_
  refine F.nil ?_
  refine Nrm.seq ?_
  refine Tri.cond (b := a1_0 == 1) rfl (fun g_1 => ?_) (fun g_1 => ?_)
  · replace h := if_tt g_1 h
    refine Tri.seq ?_
    obtain ⟨hs17, h⟩ := ck h
    refine Tri.reg (l := [0, 1, 2, 3, 4, 5, 6, 7]) rfl ?_
    refine F.q rfl rfl rfl (wanted_none rfl) (r_fieldAddr tf33_1 rfl) ?_
    refine F.q rfl rfl rfl (wanted_none rfl) (r_load ta23 rfl (fun w hw => cell_1 (box_cells (i := 2) rfl w hw) rfl)) ?_
    refine F.q rfl rfl rfl (wanted_none rfl) (r_fieldAddr tf51_1 rfl) ?_
    refine F.q rfl rfl rfl (wanted_none rfl) (r_load ta3 rfl (fun w hw => cell_1 (box_cells (i := 1) rfl w hw) rfl)) ?_
    refine F.m rfl rfl rfl (wanted_none rfl) (m_buildF (l := ([a1_1] : List (Int))) Tryz.underlying23 ti3 rfl rfl rfl rfl rfl) ?_
    rintro v16_1 _ ⟨S16_1, hl_v16_1, rfl⟩
    refine F.ef rfl rfl rfl (wanted_none rfl) (d_append (i := 6) Tryz.underlying23 Tryz.underlying23 ti3 rfl (by decide) rfl rfl rfl (rd_sl (i := 0) rfl) hs17) ?_
    rintro v17_1 _ ⟨S17_1, rfl, hl_v17_1⟩
    refine F.q rfl rfl rfl (wanted_none rfl) (r_fieldAddr tf33_1 rfl) ?_
    refine F.ef0 rfl rfl (wanted_none rfl) (d_storeG1 (i := 3) (cs2 := [v17_1]) ti23 rfl rfl rfl (sl_cells hl_v17_1) rfl (Nat.le_of_ble_eq_true rfl) (lf_cons (sl_leaf hl_v17_1) lf_nil)) ?_
    rintro _ _ ⟨rfl, rfl⟩
    refine F.nil ?_
    refine Nrm.seq ?_
    obtain ⟨y6, hE_1, h⟩ := bind_some h
    refine Tri.cut (fun e' C' => e' = [(2, .pointer (some ⟨b2_1, 0, none⟩)), (4, .pointer (some ⟨b4_1, 0, none⟩)), (6, .bool y6)] ∧ C' = Sep w (footM [R.sl Sa0_1 va0_1 a0_1, R.sl Sa0_2 va0_2 a0_2, R.sl Sa0_3 va0_3 a0_3]) [R.box b4_1 33 [.int .i64 0, .slice none 0 0, .slice none 0 0, .slice none 0 0, .int .i64 0], R.box b2_1 33 [.int .i64 a0_0, va0_1, va0_2, v17_1, .int .i64 a0_4], R.sl S17_1 v17_1 (a0_3 ++ ([a1_1] : List (Int)) : List (Int)), R.sl Sa0_1 va0_1 (a0_1 : List (Int × Int × Int)), R.sl Sa0_2 va0_2 (a0_2 : List (Int))]) ?_ (fun hj_1 => ?_)
    · rintro _ _ ⟨rfl, rfl⟩
      refine Nrm.block ?_
      refine Nrm.seq ?_
      refine Tri.seq ?_
      refine Tri.reg (l := [0, 1, 2, 3]) rfl ?_
      refine F.q rfl rfl rfl (wanted_none rfl) (r_loadA ta33 ti33 rfl rfl (fun w hw => (box_cells (i := 1) rfl w hw))) ?_
      refine F.q rfl rfl rfl (wanted_none rfl) (r_move rfl) ?_
      refine F.ef0 rfl rfl (wanted_none rfl) (d_storeG0 (i := 0) (cs2 := [.int .i64 a0_0, va0_1, va0_2, v17_1, .int .i64 a0_4]) ti33 rfl rfl rfl rfl rfl (Nat.le_of_ble_eq_true rfl) (lf_cons rfl (lf_cons (sl_leaf hl_va0_1) (lf_cons (sl_leaf hl_va0_2) (lf_cons (sl_leaf hl_v17_1) (lf_cons rfl lf_nil)))))) ?_
      rintro _ _ ⟨rfl, rfl⟩
      refine F.q rfl rfl rfl (wanted_none rfl) (r_assign rfl) ?_
      refine F.nil ?_
      refine Nrm.seq ?_
      refine Tri.ret ?_
      cases h
      exact Rtn.body (.cell rfl ta33 ti33 rfl (fun _ hw => box_cells (i := 0) rfl _ hw) (.tmp rfl .nil)) (fun w hw => ⟨_, _, rfl, ⟨va0_1, Sa0_1, va0_2, Sa0_2, v17_1, S17_1, rfl, hl_va0_1, hl_va0_2, hl_v17_1, rfl⟩, Sep.pick (is := [3, 4, 2]) rfl rfl hw⟩)
    · rcases Bool.eq_false_or_eq_true (a1_2 == 0) with g22 | g22
      · replace hE_1 := if_tt g22 hE_1
        refine Tri.reg (l := [0, 1, 2, 3, 4, 5, 6, 7, 8]) rfl ?_
        refine F.q rfl rfl rfl (wanted_none rfl) (r_fieldAddr tf51_2 rfl) ?_
        refine F.q rfl rfl rfl (wanted_none rfl) (r_load ta3 rfl (fun w hw => cell_1 (box_cells (i := 2) rfl w hw) rfl)) ?_
        refine F.q rfl rfl rfl (wanted_none rfl) (r_eql rfl rfl) ?_
        refine F.q rfl rfl rfl (wanted_none rfl) (r_move rfl) ?_
        refine F.q rfl rfl rfl (wg rfl rfl rfl g22) (r_fieldAddr tf51_3 rfl) ?_
        refine F.q rfl rfl rfl (wg rfl rfl rfl g22) (r_load ta3 rfl (fun w hw => cell_1 (box_cells (i := 2) rfl w hw) rfl)) ?_
        refine F.q rfl rfl rfl (wg rfl rfl rfl g22) (r_eql rfl rfl) ?_
        refine F.q rfl rfl rfl (wanted_none rfl) (r_pick rfl rfl g22) ?_
        refine F.q rfl rfl rfl (wanted_none rfl) (r_assign rfl) ?_
        refine F.nil ?_
        cases hE_1
        refine Nrm.only [2, 4, 6] rfl ?_
        refine Nrm.pick [1, 3, 6, 4, 5] rfl rfl ?_
        exact hj_1 _ _ ⟨rfl, rfl⟩
      · replace hE_1 := if_ff g22 hE_1
        refine Tri.reg (l := [0, 1, 2, 3, 4, 5, 6, 7, 8]) rfl ?_
        refine F.q rfl rfl rfl (wanted_none rfl) (r_fieldAddr tf51_2 rfl) ?_
        refine F.q rfl rfl rfl (wanted_none rfl) (r_load ta3 rfl (fun w hw => cell_1 (box_cells (i := 2) rfl w hw) rfl)) ?_
        refine F.q rfl rfl rfl (wanted_none rfl) (r_eql rfl rfl) ?_
        refine F.q rfl rfl rfl (wanted_none rfl) (r_move rfl) ?_
        refine F.sk rfl rfl rfl (wf rfl rfl rfl g22) ?_
        refine F.sk rfl rfl rfl (wf rfl rfl rfl g22) ?_
        refine F.sk rfl rfl rfl (wf rfl rfl rfl g22) ?_
        refine F.q rfl rfl rfl (wanted_none rfl) (r_pickf rfl rfl g22) ?_
        refine F.q rfl rfl rfl (wanted_none rfl) (r_assign rfl) ?_
        refine F.nil ?_
        cases hE_1
        refine Nrm.only [2, 4, 6] rfl ?_
        refine Nrm.pick [1, 3, 6, 4, 5] rfl rfl ?_
        exact hj_1 _ _ ⟨rfl, rfl⟩
  · replace h := if_ff g_1 h
    refine Tri.seq ?_
    refine Tri.reg (l := [0, 1]) rfl ?_
    refine F.q rfl rfl rfl (wanted_none rfl) (r_eql rfl rfl) ?_
    refine F.q rfl rfl rfl (wanted_none rfl) (r_assign rfl) ?_
    refine F.nil ?_
    refine Nrm.seq ?_
    refine Tri.cond (b := a1_0 == 2) rfl (fun g_2 => ?_) (fun g_2 => ?_)
    · replace h := if_tt g_2 h
      refine Tri.seq ?_
      obtain ⟨y6r, hE_2, h⟩ := bind_some h
      refine Tri.cut (fun e' C' => e' = [(2, .pointer (some ⟨b2_1, 0, none⟩)), (4, .pointer (some ⟨b4_1, 0, none⟩)), (6, .bool y6r)] ∧ C' = Sep w (footM [R.sl Sa0_1 va0_1 a0_1, R.sl Sa0_2 va0_2 a0_2, R.sl Sa0_3 va0_3 a0_3]) [R.box b4_1 33 [.int .i64 0, .slice none 0 0, .slice none 0 0, .slice none 0 0, .int .i64 0], R.box b2_1 33 [.int .i64 a0_0, va0_1, va0_2, va0_3, .int .i64 a0_4], R.sl Sa0_1 va0_1 (a0_1 : List (Int × Int × Int)), R.sl Sa0_2 va0_2 (a0_2 : List (Int)), R.sl Sa0_3 va0_3 (a0_3 : List (Int))]) ?_ (fun hj_2 => ?_)
      · rintro _ _ ⟨rfl, rfl⟩
        refine Nrm.seq ?_
        obtain ⟨t54, h54, h⟩ := bind_some h
        obtain ⟨t55, h55, h⟩ := bind_some h
        refine Tri.drawA mixedT Sep.up [(0, true), (1, true), (2, true), (3, true), (4, true), (5, true), (6, true), (7, true), (8, true)] [9] (by kernel_rfl) ?_
        refine S.q rfl rfl rfl (wanted_none rfl) (r_fieldAddr tf33_1 rfl) ?_
        refine S.q rfl rfl rfl (wanted_none rfl) (r_load ta23 rfl (fun w hw => cell_1 (box_cells (i := 1) rfl w hw) rfl)) ?_
        refine S.q rfl rfl rfl (wanted_none rfl) (r_fieldAddr tf33_1 rfl) ?_
        refine S.q rfl rfl rfl (wanted_none rfl) (r_load ta23 rfl (fun w hw => cell_1 (box_cells (i := 1) rfl w hw) rfl)) ?_
        refine S.q rfl rfl rfl (wanted_none rfl) (r_len Tryz.underlying23 rfl hl_va0_3) ?_
        refine S.q rfl rfl rfl (wanted_none rfl) (r_sub rfl rfl) ?_
        refine S.qc rfl rfl rfl (wanted_none rfl) (q_callF (xs := _) rfl ok55 rfl rfl (fun w hw => spec_l1Most.ok h54 w )) ?_
        refine S.q rfl rfl rfl (wanted_none rfl) (r_sliceH Tryz.underlying23 ti3 rfl (rd_sl (i := 4) rfl) rfl h55) ?_
        refine S.q rfl rfl rfl (wanted_none rfl) (r_fieldAddr tf33_1 rfl) ?_
        refine S.nil ?_
        refine F.ef0 rfl rfl (wanted_none rfl) (d_storeG1 (i := 1) (cs2 := [(slSub va0_3 1 (0 : Int).toNat (t54 : Int).toNat)]) ti23 rfl rfl rfl (sl_cells (slc_len hl_va0_3 h55)) rfl (Nat.le_of_ble_eq_true rfl) (lf_cons (sl_leaf (slc_len hl_va0_3 h55)) lf_nil)) ?_
        rintro _ _ ⟨rfl, rfl⟩
        refine F.nil ?_
        refine Nrm.imp (fun w hw => Sep.resl (i := 4) rfl h55 hw) ?_
        refine Nrm.block ?_
        refine Nrm.seq ?_
        refine Tri.seq ?_
        refine Tri.reg (l := [0, 1, 2, 3]) rfl ?_
        refine F.q rfl rfl rfl (wanted_none rfl) (r_loadA ta33 ti33 rfl rfl (fun w hw => (box_cells (i := 1) rfl w hw))) ?_
        refine F.q rfl rfl rfl (wanted_none rfl) (r_move rfl) ?_
        refine F.ef0 rfl rfl (wanted_none rfl) (d_storeG0 (i := 0) (cs2 := [.int .i64 a0_0, va0_1, va0_2, (slSub va0_3 1 (0 : Int).toNat (t54 : Int).toNat), .int .i64 a0_4]) ti33 rfl rfl rfl rfl rfl (Nat.le_of_ble_eq_true rfl) (lf_cons rfl (lf_cons (sl_leaf hl_va0_1) (lf_cons (sl_leaf hl_va0_2) (lf_cons (sl_leaf (slc_len hl_va0_3 h55)) (lf_cons rfl lf_nil)))))) ?_
        rintro _ _ ⟨rfl, rfl⟩
        refine F.q rfl rfl rfl (wanted_none rfl) (r_assign rfl) ?_
        refine F.nil ?_
        refine Nrm.seq ?_
        refine Tri.ret ?_
        cases h
        exact Rtn.body (.cell rfl ta33 ti33 rfl (fun _ hw => box_cells (i := 0) rfl _ hw) (.tmp rfl .nil)) (fun w hw => ⟨_, _, rfl, ⟨va0_1, Sa0_1, va0_2, Sa0_2, (slSub va0_3 1 (0 : Int).toNat (t54 : Int).toNat), Sa0_3, rfl, hl_va0_1, hl_va0_2, (slc_len hl_va0_3 h55), rfl⟩, Sep.pick (is := [2, 3, 4]) rfl rfl hw⟩)
      · rcases Bool.eq_false_or_eq_true (decide ((a0_3.length : Int) > 1)) with g33 | g33
        · replace hE_2 := if_tt g33 hE_2
          rcases Bool.eq_false_or_eq_true (a1_1 == 0) with g38 | g38
          · replace hE_2 := if_tt g38 hE_2
            rcases Bool.eq_false_or_eq_true (a1_2 == 0) with g43 | g43
            · replace hE_2 := if_tt g43 hE_2
              refine Tri.reg (l := [0, 1, 2, 3, 4, 5, 6, 7, 8, 9, 10, 11, 12, 13, 14, 15, 16, 17, 18, 19]) rfl ?_
              refine F.q rfl rfl rfl (wanted_none rfl) (r_fieldAddr tf33_1 rfl) ?_
              refine F.q rfl rfl rfl (wanted_none rfl) (r_load ta23 rfl (fun w hw => cell_1 (box_cells (i := 2) rfl w hw) rfl)) ?_
              refine F.q rfl rfl rfl (wanted_none rfl) (r_len Tryz.underlying23 rfl hl_va0_3) ?_
              refine F.q rfl rfl rfl (wanted_none rfl) (r_gtr rfl rfl) ?_
              refine F.q rfl rfl rfl (wanted_none rfl) (r_move rfl) ?_
              refine F.q rfl rfl rfl (wg rfl rfl rfl g33) (r_fieldAddr tf51_1 rfl) ?_
              refine F.q rfl rfl rfl (wg rfl rfl rfl g33) (r_load ta3 rfl (fun w hw => cell_1 (box_cells (i := 1) rfl w hw) rfl)) ?_
              refine F.q rfl rfl rfl (wg rfl rfl rfl g33) (r_eql rfl rfl) ?_
              refine F.q rfl rfl rfl (wanted_none rfl) (r_pick rfl rfl g33) ?_
              refine F.q rfl rfl rfl (wanted_none rfl) (r_move rfl) ?_
              refine F.q rfl rfl rfl (wg rfl rfl rfl g38) (r_fieldAddr tf51_2 rfl) ?_
              refine F.q rfl rfl rfl (wg rfl rfl rfl g38) (r_load ta3 rfl (fun w hw => cell_1 (box_cells (i := 1) rfl w hw) rfl)) ?_
              refine F.q rfl rfl rfl (wg rfl rfl rfl g38) (r_eql rfl rfl) ?_
              refine F.q rfl rfl rfl (wanted_none rfl) (r_pick rfl rfl g38) ?_
              refine F.q rfl rfl rfl (wanted_none rfl) (r_move rfl) ?_
              refine F.q rfl rfl rfl (wg rfl rfl rfl g43) (r_fieldAddr tf51_3 rfl) ?_
              refine F.q rfl rfl rfl (wg rfl rfl rfl g43) (r_load ta3 rfl (fun w hw => cell_1 (box_cells (i := 1) rfl w hw) rfl)) ?_
              refine F.q rfl rfl rfl (wg rfl rfl rfl g43) (r_eql rfl rfl) ?_
              refine F.q rfl rfl rfl (wanted_none rfl) (r_pick rfl rfl g43) ?_
              refine F.q rfl rfl rfl (wanted_none rfl) (r_assign rfl) ?_
              refine F.nil ?_
              cases hE_2
              refine Nrm.only [2, 4, 6] rfl ?_
              refine Nrm.pick [0, 2, 3, 4, 5] rfl rfl ?_
              exact hj_2 _ _ ⟨rfl, rfl⟩
            · replace hE_2 := if_ff g43 hE_2
              refine Tri.reg (l := [0, 1, 2, 3, 4, 5, 6, 7, 8, 9, 10, 11, 12, 13, 14, 15, 16, 17, 18, 19]) rfl ?_
              refine F.q rfl rfl rfl (wanted_none rfl) (r_fieldAddr tf33_1 rfl) ?_
              refine F.q rfl rfl rfl (wanted_none rfl) (r_load ta23 rfl (fun w hw => cell_1 (box_cells (i := 2) rfl w hw) rfl)) ?_
              refine F.q rfl rfl rfl (wanted_none rfl) (r_len Tryz.underlying23 rfl hl_va0_3) ?_
              refine F.q rfl rfl rfl (wanted_none rfl) (r_gtr rfl rfl) ?_
              refine F.q rfl rfl rfl (wanted_none rfl) (r_move rfl) ?_
              refine F.q rfl rfl rfl (wg rfl rfl rfl g33) (r_fieldAddr tf51_1 rfl) ?_
              refine F.q rfl rfl rfl (wg rfl rfl rfl g33) (r_load ta3 rfl (fun w hw => cell_1 (box_cells (i := 1) rfl w hw) rfl)) ?_
              refine F.q rfl rfl rfl (wg rfl rfl rfl g33) (r_eql rfl rfl) ?_
              refine F.q rfl rfl rfl (wanted_none rfl) (r_pick rfl rfl g33) ?_
              refine F.q rfl rfl rfl (wanted_none rfl) (r_move rfl) ?_
              refine F.q rfl rfl rfl (wg rfl rfl rfl g38) (r_fieldAddr tf51_2 rfl) ?_
              refine F.q rfl rfl rfl (wg rfl rfl rfl g38) (r_load ta3 rfl (fun w hw => cell_1 (box_cells (i := 1) rfl w hw) rfl)) ?_
              refine F.q rfl rfl rfl (wg rfl rfl rfl g38) (r_eql rfl rfl) ?_
              refine F.q rfl rfl rfl (wanted_none rfl) (r_pick rfl rfl g38) ?_
              refine F.q rfl rfl rfl (wanted_none rfl) (r_move rfl) ?_
              refine F.sk rfl rfl rfl (wf rfl rfl rfl g43) ?_
              refine F.sk rfl rfl rfl (wf rfl rfl rfl g43) ?_
              refine F.sk rfl rfl rfl (wf rfl rfl rfl g43) ?_
              refine F.q rfl rfl rfl (wanted_none rfl) (r_pickf rfl rfl g43) ?_
              refine F.q rfl rfl rfl (wanted_none rfl) (r_assign rfl) ?_
              refine F.nil ?_
              cases hE_2
              refine Nrm.only [2, 4, 6] rfl ?_
              refine Nrm.pick [0, 2, 3, 4, 5] rfl rfl ?_
              exact hj_2 _ _ ⟨rfl, rfl⟩
          · replace hE_2 := if_ff g38 hE_2
            refine Tri.reg (l := [0, 1, 2, 3, 4, 5, 6, 7, 8, 9, 10, 11, 12, 13, 14, 15, 16, 17, 18, 19]) rfl ?_
            refine F.q rfl rfl rfl (wanted_none rfl) (r_fieldAddr tf33_1 rfl) ?_
            refine F.q rfl rfl rfl (wanted_none rfl) (r_load ta23 rfl (fun w hw => cell_1 (box_cells (i := 2) rfl w hw) rfl)) ?_
            refine F.q rfl rfl rfl (wanted_none rfl) (r_len Tryz.underlying23 rfl hl_va0_3) ?_
            refine F.q rfl rfl rfl (wanted_none rfl) (r_gtr rfl rfl) ?_
            refine F.q rfl rfl rfl (wanted_none rfl) (r_move rfl) ?_
            refine F.q rfl rfl rfl (wg rfl rfl rfl g33) (r_fieldAddr tf51_1 rfl) ?_
            refine F.q rfl rfl rfl (wg rfl rfl rfl g33) (r_load ta3 rfl (fun w hw => cell_1 (box_cells (i := 1) rfl w hw) rfl)) ?_
            refine F.q rfl rfl rfl (wg rfl rfl rfl g33) (r_eql rfl rfl) ?_
            refine F.q rfl rfl rfl (wanted_none rfl) (r_pick rfl rfl g33) ?_
            refine F.q rfl rfl rfl (wanted_none rfl) (r_move rfl) ?_
            refine F.sk rfl rfl rfl (wf rfl rfl rfl g38) ?_
            refine F.sk rfl rfl rfl (wf rfl rfl rfl g38) ?_
            refine F.sk rfl rfl rfl (wf rfl rfl rfl g38) ?_
            refine F.q rfl rfl rfl (wanted_none rfl) (r_pickf rfl rfl g38) ?_
            refine F.q rfl rfl rfl (wanted_none rfl) (r_move rfl) ?_
            refine F.sk rfl rfl rfl (wf rfl rfl rfl rfl) ?_
            refine F.sk rfl rfl rfl (wf rfl rfl rfl rfl) ?_
            refine F.sk rfl rfl rfl (wf rfl rfl rfl rfl) ?_
            refine F.q rfl rfl rfl (wanted_none rfl) (r_pickf rfl rfl rfl) ?_
            refine F.q rfl rfl rfl (wanted_none rfl) (r_assign rfl) ?_
            refine F.nil ?_
            cases hE_2
            refine Nrm.only [2, 4, 6] rfl ?_
            refine Nrm.pick [0, 2, 3, 4, 5] rfl rfl ?_
            exact hj_2 _ _ ⟨rfl, rfl⟩
        · replace hE_2 := if_ff g33 hE_2
          refine Tri.reg (l := [0, 1, 2, 3, 4, 5, 6, 7, 8, 9, 10, 11, 12, 13, 14, 15, 16, 17, 18, 19]) rfl ?_
          refine F.q rfl rfl rfl (wanted_none rfl) (r_fieldAddr tf33_1 rfl) ?_
          refine F.q rfl rfl rfl (wanted_none rfl) (r_load ta23 rfl (fun w hw => cell_1 (box_cells (i := 2) rfl w hw) rfl)) ?_
          refine F.q rfl rfl rfl (wanted_none rfl) (r_len Tryz.underlying23 rfl hl_va0_3) ?_
          refine F.q rfl rfl rfl (wanted_none rfl) (r_gtr rfl rfl) ?_
          refine F.q rfl rfl rfl (wanted_none rfl) (r_move rfl) ?_
          refine F.sk rfl rfl rfl (wf rfl rfl rfl g33) ?_
          refine F.sk rfl rfl rfl (wf rfl rfl rfl g33) ?_
          refine F.sk rfl rfl rfl (wf rfl rfl rfl g33) ?_
          refine F.q rfl rfl rfl (wanted_none rfl) (r_pickf rfl rfl g33) ?_
          refine F.q rfl rfl rfl (wanted_none rfl) (r_move rfl) ?_
          refine F.sk rfl rfl rfl (wf rfl rfl rfl rfl) ?_
          refine F.sk rfl rfl rfl (wf rfl rfl rfl rfl) ?_
          refine F.sk rfl rfl rfl (wf rfl rfl rfl rfl) ?_
          refine F.q rfl rfl rfl (wanted_none rfl) (r_pickf rfl rfl rfl) ?_
          refine F.q rfl rfl rfl (wanted_none rfl) (r_move rfl) ?_
          refine F.sk rfl rfl rfl (wf rfl rfl rfl rfl) ?_
          refine F.sk rfl rfl rfl (wf rfl rfl rfl rfl) ?_
          refine F.sk rfl rfl rfl (wf rfl rfl rfl rfl) ?_
          refine F.q rfl rfl rfl (wanted_none rfl) (r_pickf rfl rfl rfl) ?_
          refine F.q rfl rfl rfl (wanted_none rfl) (r_assign rfl) ?_
          refine F.nil ?_
          cases hE_2
          refine Nrm.only [2, 4, 6] rfl ?_
          refine Nrm.pick [0, 2, 3, 4, 5] rfl rfl ?_
          exact hj_2 _ _ ⟨rfl, rfl⟩
    · replace h := if_ff g_2 h
      refine Tri.seq ?_
      refine Tri.reg (l := [0, 1]) rfl ?_
      refine F.q rfl rfl rfl (wanted_none rfl) (r_eql rfl rfl) ?_
      refine F.q rfl rfl rfl (wanted_none rfl) (r_assign rfl) ?_
      refine F.nil ?_
      refine Nrm.seq ?_
      refine Tri.cond (b := a1_0 == 3) rfl (fun g_3 => ?_) (fun g_3 => ?_)
      · replace h := if_tt g_3 h
        refine Tri.seq ?_
        refine Tri.seq ?_
        obtain ⟨y71, hE_3, h⟩ := bind_some h
        refine Tri.cut (fun e' C' => e' = [(2, .pointer (some ⟨b2_1, 0, none⟩)), (3, .pointer (some ⟨b3_1, 0, none⟩)), (4, .pointer (some ⟨b4_1, 0, none⟩)), (6, .bool true), (71, .bool y71)] ∧ C' = Sep w (footM [R.sl Sa0_1 va0_1 a0_1, R.sl Sa0_2 va0_2 a0_2, R.sl Sa0_3 va0_3 a0_3]) [R.box b4_1 33 [.int .i64 0, .slice none 0 0, .slice none 0 0, .slice none 0 0, .int .i64 0], R.box b3_1 51 [.int .i64 a1_0, .int .i64 a1_1, .int .i64 a1_2, .int .i64 a1_3], R.box b2_1 33 [.int .i64 a0_0, va0_1, va0_2, va0_3, .int .i64 a0_4], R.sl Sa0_1 va0_1 (a0_1 : List (Int × Int × Int)), R.sl Sa0_2 va0_2 (a0_2 : List (Int)), R.sl Sa0_3 va0_3 (a0_3 : List (Int))]) ?_ (fun hj_3 => ?_)
        · rintro _ _ ⟨rfl, rfl⟩
          refine Nrm.seq ?_
          refine Tri.cond (b := y71) rfl (fun g_4 => ?_) (fun g_4 => ?_)
          · replace h := if_tt g_4 h
            refine Tri.seq ?_
            refine Tri.reg (l := [0, 1, 2]) rfl ?_
            refine F.q rfl rfl rfl (wanted_none rfl) (r_loadA ta33 ti33 rfl rfl (fun w hw => (box_cells (i := 2) rfl w hw))) ?_
            refine F.ef0 rfl rfl (wanted_none rfl) (d_storeG0 (i := 0) (cs2 := [.int .i64 a0_0, va0_1, va0_2, va0_3, .int .i64 a0_4]) ti33 rfl rfl rfl rfl rfl (Nat.le_of_ble_eq_true rfl) (lf_cons rfl (lf_cons (sl_leaf hl_va0_1) (lf_cons (sl_leaf hl_va0_2) (lf_cons (sl_leaf hl_va0_3) (lf_cons rfl lf_nil)))))) ?_
            rintro _ _ ⟨rfl, rfl⟩
            refine F.q rfl rfl rfl (wanted_none rfl) (r_assign rfl) ?_
            refine F.nil ?_
            refine Nrm.seq ?_
            refine Tri.ret ?_
            refine Rtn.then ?_
            refine Rtn.block ?_
            refine Rtn.then ?_
            cases h
            exact Rtn.body (.cell rfl ta33 ti33 rfl (fun _ hw => box_cells (i := 0) rfl _ hw) (.tmp rfl .nil)) (fun w hw => ⟨_, _, rfl, ⟨va0_1, Sa0_1, va0_2, Sa0_2, va0_3, Sa0_3, rfl, hl_va0_1, hl_va0_2, hl_va0_3, rfl⟩, Sep.pick (is := [3, 4, 5]) rfl rfl hw⟩)
          · replace h := if_ff g_4 h
            refine Tri.skip ?_
            refine Nrm.seq ?_
            obtain ⟨t80, h80, h⟩ := bind_some h
            refine Tri.reg (l := [0, 1, 2, 3, 4, 5, 6, 7, 8]) rfl ?_
            refine F.q rfl rfl rfl (wanted_none rfl) (r_fieldAddr tf33_0 rfl) ?_
            refine F.q rfl rfl rfl (wanted_none rfl) (r_fieldAddr tf31_2 rfl) ?_
            refine F.q rfl rfl rfl (wanted_none rfl) (r_load ta23 rfl (fun w hw => cell_2 (box_cells (i := 2) rfl w hw) rfl)) ?_
            refine F.q rfl rfl rfl (wanted_none rfl) (r_fieldAddr tf51_1 rfl) ?_
            refine F.q rfl rfl rfl (wanted_none rfl) (r_load ta3 rfl (fun w hw => cell_1 (box_cells (i := 1) rfl w hw) rfl)) ?_
            refine F.q rfl rfl rfl (wanted_none rfl) (r_fieldAddr tf51_2 rfl) ?_
            refine F.q rfl rfl rfl (wanted_none rfl) (r_load ta3 rfl (fun w hw => cell_1 (box_cells (i := 1) rfl w hw) rfl)) ?_
            refine F.q rfl rfl rfl (wanted_none rfl) (r_indexAddrS Tryz.underlying23 ti3 rfl hl_va0_2 rfl (rdl_some h80).1 (rdl_some h80).2.1) ?_
            refine F.ef0 rfl rfl (wanted_none rfl) (d_storeE (i := 4) (x1 := a1_2) ti3 rfl rfl rfl (rdl_some h80) rfl) ?_
            rintro _ _ ⟨rfl, rfl⟩
            refine F.nil ?_
            refine Nrm.block ?_
            refine Nrm.seq ?_
            refine Tri.seq ?_
            refine Tri.reg (l := [0, 1, 2, 3]) rfl ?_
            refine F.q rfl rfl rfl (wanted_none rfl) (r_loadA ta33 ti33 rfl rfl (fun w hw => (box_cells (i := 2) rfl w hw))) ?_
            refine F.q rfl rfl rfl (wanted_none rfl) (r_move rfl) ?_
            refine F.ef0 rfl rfl (wanted_none rfl) (d_storeG0 (i := 0) (cs2 := [.int .i64 a0_0, va0_1, va0_2, va0_3, .int .i64 a0_4]) ti33 rfl rfl rfl rfl rfl (Nat.le_of_ble_eq_true rfl) (lf_cons rfl (lf_cons (sl_leaf hl_va0_1) (lf_cons (sl_leaf hl_va0_2) (lf_cons (sl_leaf hl_va0_3) (lf_cons rfl lf_nil)))))) ?_
            rintro _ _ ⟨rfl, rfl⟩
            refine F.q rfl rfl rfl (wanted_none rfl) (r_assign rfl) ?_
            refine F.nil ?_
            refine Nrm.seq ?_
            refine Tri.ret ?_
            cases h
            exact Rtn.body (.cell rfl ta33 ti33 rfl (fun _ hw => box_cells (i := 0) rfl _ hw) (.tmp rfl .nil)) (fun w hw => ⟨_, _, rfl, ⟨va0_1, Sa0_1, va0_2, Sa0_2, va0_3, Sa0_3, rfl, hl_va0_1, (len_set hl_va0_2), hl_va0_3, rfl⟩, Sep.pick (is := [3, 4, 5]) rfl rfl hw⟩)
        · obtain ⟨t65, h65, hE_3⟩ := bind_some hE_3
          rcases Bool.eq_false_or_eq_true (!t65) with g67 | g67
          · replace hE_3 := if_tt g67 hE_3
            refine Tri.reg (l := [0, 1, 2, 3, 4, 5, 6, 7, 8, 9, 10, 11, 12]) rfl ?_
            refine F.q rfl rfl rfl (wanted_none rfl) (r_fieldAddr tf51_1 rfl) ?_
            refine F.q rfl rfl rfl (wanted_none rfl) (r_load ta3 rfl (fun w hw => cell_1 (box_cells (i := 1) rfl w hw) rfl)) ?_
            refine F.q rfl rfl rfl (wanted_none rfl) (r_fieldAddr tf33_0 rfl) ?_
            refine F.q rfl rfl rfl (wanted_none rfl) (r_fieldAddr tf31_0 rfl) ?_
            refine F.q rfl rfl rfl (wanted_none rfl) (r_load ta3 rfl (fun w hw => cell_2 (box_cells (i := 2) rfl w hw) rfl)) ?_
            refine F.q rfl rfl rfl (wanted_none rfl) (r_sub rfl rfl) ?_
            refine F.qc rfl rfl rfl (wanted_none rfl) (q_callF (xs := _) rfl ok35 rfl rfl (fun w hw => spec_l1In.ok h65 w )) ?_
            refine F.q rfl rfl rfl (wanted_none rfl) (r_not rfl) ?_
            refine F.q rfl rfl rfl (wanted_none rfl) (r_move rfl) ?_
            refine F.sk rfl rfl rfl (wf rfl rfl rfl g67) ?_
            refine F.sk rfl rfl rfl (wf rfl rfl rfl g67) ?_
            refine F.sk rfl rfl rfl (wf rfl rfl rfl g67) ?_
            refine F.q rfl rfl rfl (wanted_none rfl) (r_pick rfl rfl g67) ?_
            refine F.nil ?_
            cases hE_3
            refine Nrm.only [2, 3, 4, 6, 71] rfl ?_
            refine Nrm.pick [0, 1, 2, 3, 4, 5] rfl rfl ?_
            exact hj_3 _ _ ⟨rfl, rfl⟩
          · replace hE_3 := if_ff g67 hE_3
            refine Tri.reg (l := [0, 1, 2, 3, 4, 5, 6, 7, 8, 9, 10, 11, 12]) rfl ?_
            refine F.q rfl rfl rfl (wanted_none rfl) (r_fieldAddr tf51_1 rfl) ?_
            refine F.q rfl rfl rfl (wanted_none rfl) (r_load ta3 rfl (fun w hw => cell_1 (box_cells (i := 1) rfl w hw) rfl)) ?_
            refine F.q rfl rfl rfl (wanted_none rfl) (r_fieldAddr tf33_0 rfl) ?_
            refine F.q rfl rfl rfl (wanted_none rfl) (r_fieldAddr tf31_0 rfl) ?_
            refine F.q rfl rfl rfl (wanted_none rfl) (r_load ta3 rfl (fun w hw => cell_2 (box_cells (i := 2) rfl w hw) rfl)) ?_
            refine F.q rfl rfl rfl (wanted_none rfl) (r_sub rfl rfl) ?_
            refine F.qc rfl rfl rfl (wanted_none rfl) (q_callF (xs := _) rfl ok35 rfl rfl (fun w hw => spec_l1In.ok h65 w )) ?_
            refine F.q rfl rfl rfl (wanted_none rfl) (r_not rfl) ?_
            refine F.q rfl rfl rfl (wanted_none rfl) (r_move rfl) ?_
            refine F.q rfl rfl rfl (wg rfl rfl rfl g67) (r_fieldAddr tf51_3 rfl) ?_
            refine F.q rfl rfl rfl (wg rfl rfl rfl g67) (r_load ta3 rfl (fun w hw => cell_1 (box_cells (i := 1) rfl w hw) rfl)) ?_
            refine F.q rfl rfl rfl (wg rfl rfl rfl g67) (r_neq rfl rfl) ?_
            refine F.q rfl rfl rfl (wanted_none rfl) (r_pickf rfl rfl g67) ?_
            refine F.nil ?_
            cases hE_3
            refine Nrm.only [2, 3, 4, 6, 71] rfl ?_
            refine Nrm.pick [0, 1, 2, 3, 4, 5] rfl rfl ?_
            exact hj_3 _ _ ⟨rfl, rfl⟩
      · replace h := if_ff g_3 h
        refine Tri.seq ?_
        refine Tri.reg (l := [0, 1]) rfl ?_
        refine F.q rfl rfl rfl (wanted_none rfl) (r_eql rfl rfl) ?_
        refine F.q rfl rfl rfl (wanted_none rfl) (r_assign rfl) ?_
        refine F.nil ?_
        refine Nrm.seq ?_
        refine Tri.cond (b := a1_0 == 4) rfl (fun g_5 => ?_) (fun g_5 => ?_)
        · replace h := if_tt g_5 h
          obtain ⟨⟨t92_1, t92_2, t92_3, t92_4⟩, h92, h⟩ := bind_some h
          refine Tri.reg (l := [0, 1, 2, 3, 4, 5, 6, 7, 8, 9, 10, 11, 12, 13, 14]) rfl ?_
          refine F.q rfl rfl rfl (wanted_none rfl) (r_fieldAddr tf33_0 rfl) ?_
          refine F.q rfl rfl rfl (wanted_none rfl) (r_loadA ta31 ti31 rfl rfl (fun w hw => cells_1 (cs' := [.int .i64 a0_0, va0_1, va0_2]) (box_cells (i := 2) rfl w hw) rfl)) ?_
          refine F.q rfl rfl rfl (wanted_none rfl) (r_fieldAddr tf51_1 rfl) ?_
          refine F.q rfl rfl rfl (wanted_none rfl) (r_load ta3 rfl (fun w hw => cell_1 (box_cells (i := 1) rfl w hw) rfl)) ?_
          refine F.q rfl rfl rfl (wanted_none rfl) (r_fieldAddr tf51_2 rfl) ?_
          refine F.q rfl rfl rfl (wanted_none rfl) (r_load ta3 rfl (fun w hw => cell_1 (box_cells (i := 1) rfl w hw) rfl)) ?_
          refine F.q rfl rfl rfl (wanted_none rfl) (r_fieldAddr tf51_3 rfl) ?_
          refine F.q rfl rfl rfl (wanted_none rfl) (r_load ta3 rfl (fun w hw => cell_1 (box_cells (i := 1) rfl w hw) rfl)) ?_
          refine F.m rfl rfl rfl (wanted_none rfl) (m_callF (xs := _) rfl ok56 rfl rfl (fun w hw => spec_AddDoor.ok h92 w ((rd_sl (i := 3) rfl) w hw) ((rd_sl (i := 4) rfl) w hw))) ?_
          rintro _ _ ⟨_, ⟨v92_1, S92_1, v92_2, S92_2, rfl, hl_v92_1, hl_v92_2, rfl⟩, rfl⟩
          refine F.q rfl rfl rfl (wanted_none rfl) (r_move rfl) ?_
          refine F.q rfl rfl rfl (wanted_none rfl) (r_extract rfl rfl) ?_
          refine F.q rfl rfl rfl (wanted_none rfl) (r_extract rfl rfl) ?_
          refine F.q rfl rfl rfl (wanted_none rfl) (r_fieldAddr tf33_0 rfl) ?_
          refine F.ef0 rfl rfl (wanted_none rfl) (d_storeG1 (i := 4) (cs2 := [.int .i64 t92_1, v92_1, v92_2]) ti31 rfl rfl rfl rfl rfl (Nat.le_of_ble_eq_true rfl) (lf_cons rfl (lf_cons (sl_leaf hl_v92_1) (lf_cons (sl_leaf hl_v92_2) lf_nil)))) ?_
          rintro _ _ ⟨rfl, rfl⟩
          refine F.q rfl rfl rfl (wanted_none rfl) (r_assign rfl) ?_
          refine F.nil ?_
          refine Nrm.block ?_
          refine Nrm.seq ?_
          refine Tri.seq ?_
          refine Tri.reg (l := [0, 1, 2, 3]) rfl ?_
          refine F.q rfl rfl rfl (wanted_none rfl) (r_loadA ta33 ti33 rfl rfl (fun w hw => (box_cells (i := 4) rfl w hw))) ?_
          refine F.q rfl rfl rfl (wanted_none rfl) (r_move rfl) ?_
          refine F.ef0 rfl rfl (wanted_none rfl) (d_storeG0 (i := 2) (cs2 := [.int .i64 t92_1, v92_1, v92_2, va0_3, .int .i64 a0_4]) ti33 rfl rfl rfl rfl rfl (Nat.le_of_ble_eq_true rfl) (lf_cons rfl (lf_cons (sl_leaf hl_v92_1) (lf_cons (sl_leaf hl_v92_2) (lf_cons (sl_leaf hl_va0_3) (lf_cons rfl lf_nil)))))) ?_
          rintro _ _ ⟨rfl, rfl⟩
          refine F.q rfl rfl rfl (wanted_none rfl) (r_assign rfl) ?_
          refine F.nil ?_
          refine Nrm.seq ?_
          refine Tri.ret ?_
          cases h
          exact Rtn.body (.cell rfl ta33 ti33 rfl (fun _ hw => box_cells (i := 2) rfl _ hw) (.tmp rfl .nil)) (fun w hw => ⟨_, _, rfl, ⟨v92_1, S92_1, v92_2, S92_2, va0_3, Sa0_3, rfl, hl_v92_1, hl_v92_2, hl_va0_3, rfl⟩, Sep.pick (is := [0, 1, 7]) rfl rfl hw⟩)
        · replace h := if_ff g_5 h
          refine Tri.seq ?_
          refine Tri.reg (l := [0, 1]) rfl ?_
          refine F.q rfl rfl rfl (wanted_none rfl) (r_eql rfl rfl) ?_
          refine F.q rfl rfl rfl (wanted_none rfl) (r_assign rfl) ?_
          refine F.nil ?_
          refine Nrm.seq ?_
          refine Tri.cond (b := a1_0 == 5) rfl (fun g_6 => ?_) (fun g_6 => ?_)
          · replace h := if_tt g_6 h
            refine Tri.seq ?_
            obtain ⟨⟨t103_1, t103_2, t103_3, t103_4⟩, h103, h⟩ := bind_some h
            refine Tri.reg (l := [0, 1, 2, 3, 4, 5, 6, 7, 8, 9, 10]) rfl ?_
            refine F.q rfl rfl rfl (wanted_none rfl) (r_fieldAddr tf33_0 rfl) ?_
            refine F.q rfl rfl rfl (wanted_none rfl) (r_loadA ta31 ti31 rfl rfl (fun w hw => cells_1 (cs' := [.int .i64 a0_0, va0_1, va0_2]) (box_cells (i := 2) rfl w hw) rfl)) ?_
            refine F.q rfl rfl rfl (wanted_none rfl) (r_fieldAddr tf51_1 rfl) ?_
            refine F.q rfl rfl rfl (wanted_none rfl) (r_load ta3 rfl (fun w hw => cell_1 (box_cells (i := 1) rfl w hw) rfl)) ?_
            refine F.m rfl rfl rfl (wanted_none rfl) (m_callF (xs := _) rfl ok57 rfl rfl (fun w hw => spec_DropDoor.ok h103 w ((rd_sl (i := 3) rfl) w hw) ((rd_sl (i := 4) rfl) w hw))) ?_
            rintro _ _ ⟨_, ⟨v103_1, S103_1, v103_2, S103_2, rfl, hl_v103_1, hl_v103_2, rfl⟩, rfl⟩
            refine F.q rfl rfl rfl (wanted_none rfl) (r_move rfl) ?_
            refine F.q rfl rfl rfl (wanted_none rfl) (r_extract rfl rfl) ?_
            refine F.q rfl rfl rfl (wanted_none rfl) (r_extract rfl rfl) ?_
            refine F.q rfl rfl rfl (wanted_none rfl) (r_fieldAddr tf33_0 rfl) ?_
            refine F.ef0 rfl rfl (wanted_none rfl) (d_storeG1 (i := 4) (cs2 := [.int .i64 t103_1, v103_1, v103_2]) ti31 rfl rfl rfl rfl rfl (Nat.le_of_ble_eq_true rfl) (lf_cons rfl (lf_cons (sl_leaf hl_v103_1) (lf_cons (sl_leaf hl_v103_2) lf_nil)))) ?_
            rintro _ _ ⟨rfl, rfl⟩
            refine F.q rfl rfl rfl (wanted_none rfl) (r_assign rfl) ?_
            refine F.nil ?_
            refine Nrm.seq ?_
            obtain ⟨y6rr, hE_4, h⟩ := bind_some h
            refine Tri.cut (fun e' C' => e' = [(2, .pointer (some ⟨b2_1, 0, none⟩)), (4, .pointer (some ⟨b4_1, 0, none⟩)), (6, .bool y6rr)] ∧ C' = Sep w (footM [R.sl Sa0_1 va0_1 a0_1, R.sl Sa0_2 va0_2 a0_2, R.sl Sa0_3 va0_3 a0_3]) [R.box b4_1 33 [.int .i64 0, .slice none 0 0, .slice none 0 0, .slice none 0 0, .int .i64 0], R.box b2_1 33 [.int .i64 t103_1, v103_1, v103_2, va0_3, .int .i64 a0_4], R.sl S103_1 v103_1 (t103_2 : List (Int × Int × Int)), R.sl S103_2 v103_2 (t103_3 : List (Int)), R.sl Sa0_3 va0_3 (a0_3 : List (Int))]) ?_ (fun hj_4 => ?_)
            · rintro _ _ ⟨rfl, rfl⟩
              refine Nrm.block ?_
              refine Nrm.seq ?_
              refine Tri.seq ?_
              refine Tri.reg (l := [0, 1, 2, 3]) rfl ?_
              refine F.q rfl rfl rfl (wanted_none rfl) (r_loadA ta33 ti33 rfl rfl (fun w hw => (box_cells (i := 1) rfl w hw))) ?_
              refine F.q rfl rfl rfl (wanted_none rfl) (r_move rfl) ?_
              refine F.ef0 rfl rfl (wanted_none rfl) (d_storeG0 (i := 0) (cs2 := [.int .i64 t103_1, v103_1, v103_2, va0_3, .int .i64 a0_4]) ti33 rfl rfl rfl rfl rfl (Nat.le_of_ble_eq_true rfl) (lf_cons rfl (lf_cons (sl_leaf hl_v103_1) (lf_cons (sl_leaf hl_v103_2) (lf_cons (sl_leaf hl_va0_3) (lf_cons rfl lf_nil)))))) ?_
              rintro _ _ ⟨rfl, rfl⟩
              refine F.q rfl rfl rfl (wanted_none rfl) (r_assign rfl) ?_
              refine F.nil ?_
              refine Nrm.seq ?_
              refine Tri.ret ?_
              cases h
              exact Rtn.body (.cell rfl ta33 ti33 rfl (fun _ hw => box_cells (i := 0) rfl _ hw) (.tmp rfl .nil)) (fun w hw => ⟨_, _, rfl, ⟨v103_1, S103_1, v103_2, S103_2, va0_3, Sa0_3, rfl, hl_v103_1, hl_v103_2, hl_va0_3, rfl⟩, Sep.pick (is := [2, 3, 4]) rfl rfl hw⟩)
            · rcases Bool.eq_false_or_eq_true (t103_4) with g108 | g108
              · replace hE_4 := if_tt g108 hE_4
                rcases Bool.eq_false_or_eq_true (a1_2 == 0) with g113 | g113
                · replace hE_4 := if_tt g113 hE_4
                  refine Tri.reg (l := [0, 1, 2, 3, 4, 5, 6, 7, 8, 9, 10, 11]) rfl ?_
                  refine F.q rfl rfl rfl (wanted_none rfl) (r_move rfl) ?_
                  refine F.q rfl rfl rfl (wanted_none rfl) (r_move rfl) ?_
                  refine F.q rfl rfl rfl (wg rfl rfl rfl g108) (r_fieldAddr tf51_2 rfl) ?_
                  refine F.q rfl rfl rfl (wg rfl rfl rfl g108) (r_load ta3 rfl (fun w hw => cell_1 (box_cells (i := 3) rfl w hw) rfl)) ?_
                  refine F.q rfl rfl rfl (wg rfl rfl rfl g108) (r_eql rfl rfl) ?_
                  refine F.q rfl rfl rfl (wanted_none rfl) (r_pick rfl rfl g108) ?_
                  refine F.q rfl rfl rfl (wanted_none rfl) (r_move rfl) ?_
                  refine F.q rfl rfl rfl (wg rfl rfl rfl g113) (r_fieldAddr tf51_3 rfl) ?_
                  refine F.q rfl rfl rfl (wg rfl rfl rfl g113) (r_load ta3 rfl (fun w hw => cell_1 (box_cells (i := 3) rfl w hw) rfl)) ?_
                  refine F.q rfl rfl rfl (wg rfl rfl rfl g113) (r_eql rfl rfl) ?_
                  refine F.q rfl rfl rfl (wanted_none rfl) (r_pick rfl rfl g113) ?_
                  refine F.q rfl rfl rfl (wanted_none rfl) (r_assign rfl) ?_
                  refine F.nil ?_
                  cases hE_4
                  refine Nrm.only [2, 4, 6] rfl ?_
                  refine Nrm.pick [2, 4, 0, 1, 7] rfl rfl ?_
                  exact hj_4 _ _ ⟨rfl, rfl⟩
                · replace hE_4 := if_ff g113 hE_4
                  refine Tri.reg (l := [0, 1, 2, 3, 4, 5, 6, 7, 8, 9, 10, 11]) rfl ?_
                  refine F.q rfl rfl rfl (wanted_none rfl) (r_move rfl) ?_
                  refine F.q rfl rfl rfl (wanted_none rfl) (r_move rfl) ?_
                  refine F.q rfl rfl rfl (wg rfl rfl rfl g108) (r_fieldAddr tf51_2 rfl) ?_
                  refine F.q rfl rfl rfl (wg rfl rfl rfl g108) (r_load ta3 rfl (fun w hw => cell_1 (box_cells (i := 3) rfl w hw) rfl)) ?_
                  refine F.q rfl rfl rfl (wg rfl rfl rfl g108) (r_eql rfl rfl) ?_
                  refine F.q rfl rfl rfl (wanted_none rfl) (r_pick rfl rfl g108) ?_
                  refine F.q rfl rfl rfl (wanted_none rfl) (r_move rfl) ?_
                  refine F.sk rfl rfl rfl (wf rfl rfl rfl g113) ?_
                  refine F.sk rfl rfl rfl (wf rfl rfl rfl g113) ?_
                  refine F.sk rfl rfl rfl (wf rfl rfl rfl g113) ?_
                  refine F.q rfl rfl rfl (wanted_none rfl) (r_pickf rfl rfl g113) ?_
                  refine F.q rfl rfl rfl (wanted_none rfl) (r_assign rfl) ?_
                  refine F.nil ?_
                  cases hE_4
                  refine Nrm.only [2, 4, 6] rfl ?_
                  refine Nrm.pick [2, 4, 0, 1, 7] rfl rfl ?_
                  exact hj_4 _ _ ⟨rfl, rfl⟩
              · replace hE_4 := if_ff g108 hE_4
                refine Tri.reg (l := [0, 1, 2, 3, 4, 5, 6, 7, 8, 9, 10, 11]) rfl ?_
                refine F.q rfl rfl rfl (wanted_none rfl) (r_move rfl) ?_
                refine F.q rfl rfl rfl (wanted_none rfl) (r_move rfl) ?_
                refine F.sk rfl rfl rfl (wf rfl rfl rfl g108) ?_
                refine F.sk rfl rfl rfl (wf rfl rfl rfl g108) ?_
                refine F.sk rfl rfl rfl (wf rfl rfl rfl g108) ?_
                refine F.q rfl rfl rfl (wanted_none rfl) (r_pickf rfl rfl g108) ?_
                refine F.q rfl rfl rfl (wanted_none rfl) (r_move rfl) ?_
                refine F.sk rfl rfl rfl (wf rfl rfl rfl rfl) ?_
                refine F.sk rfl rfl rfl (wf rfl rfl rfl rfl) ?_
                refine F.sk rfl rfl rfl (wf rfl rfl rfl rfl) ?_
                refine F.q rfl rfl rfl (wanted_none rfl) (r_pickf rfl rfl rfl) ?_
                refine F.q rfl rfl rfl (wanted_none rfl) (r_assign rfl) ?_
                refine F.nil ?_
                cases hE_4
                refine Nrm.only [2, 4, 6] rfl ?_
                refine Nrm.pick [2, 4, 0, 1, 7] rfl rfl ?_
                exact hj_4 _ _ ⟨rfl, rfl⟩
          · replace h := if_ff g_6 h
            refine Tri.seq ?_
            refine Tri.reg (l := [0, 1, 2]) rfl ?_
            refine F.q rfl rfl rfl (wanted_none rfl) (r_loadA ta33 ti33 rfl rfl (fun w hw => (box_cells (i := 2) rfl w hw))) ?_
            refine F.ef0 rfl rfl (wanted_none rfl) (d_storeG0 (i := 0) (cs2 := [.int .i64 a0_0, va0_1, va0_2, va0_3, .int .i64 a0_4]) ti33 rfl rfl rfl rfl rfl (Nat.le_of_ble_eq_true rfl) (lf_cons rfl (lf_cons (sl_leaf hl_va0_1) (lf_cons (sl_leaf hl_va0_2) (lf_cons (sl_leaf hl_va0_3) (lf_cons rfl lf_nil)))))) ?_
            rintro _ _ ⟨rfl, rfl⟩
            refine F.q rfl rfl rfl (wanted_none rfl) (r_assign rfl) ?_
            refine F.nil ?_
            refine Nrm.seq ?_
            refine Tri.ret ?_
            refine Rtn.block ?_
            refine Rtn.then ?_
            cases h
            exact Rtn.body (.cell rfl ta33 ti33 rfl (fun _ hw => box_cells (i := 0) rfl _ hw) (.tmp rfl .nil)) (fun w hw => ⟨_, _, rfl, ⟨va0_1, Sa0_1, va0_2, Sa0_2, va0_3, Sa0_3, rfl, hl_va0_1, hl_va0_2, hl_va0_3, rfl⟩, Sep.pick (is := [3, 4, 5]) rfl rfl hw⟩)

end Go.Proofs

/- loop.example/g01158/spec.l12Do -/
namespace Go.Proofs
open Go Go.Ga
set_option linter.unusedVariables false
set_option maxRecDepth 100000
set_option maxHeartbeats 4000000
def spec_l12Do.f (k : Nat) (a0_0 : Int) (a0_1 : List (Int × Int × Int)) (a0_2 : List Int) (a0_3 : List Int) (a0_4 : Int) (a1_0 : Int) (a1_1 : Int) (a1_2 : Int) (a1_3 : Int) : Option (Int × (List (Int × Int × Int)) × (List Int) × (List Int) × Int × Bool) := ((spec_l12Own.f k a0_0 a0_1 a0_2 a0_3 a0_4).bind fun (t10_1, t10_2, t10_3, t10_4, t10_5) => (spec_l12Make.f k t10_1 t10_2 t10_3 t10_4 t10_5 a1_0 a1_1 a1_2 a1_3).bind fun (t12_1, t12_2, t12_3, t12_4, t12_5, t12_6) => some (t12_6, t12_1, t12_2, t12_3, t12_4, t12_5)).bind fun (y7, yb6_2_0, yb6_2_1, yb6_2_2, yb6_2_3, yb6_2_4) => ((if (!y7) = true then some true else (spec_l12Good.f k yb6_2_0 yb6_2_1 yb6_2_2 yb6_2_3 (w64 (a0_4 + 1))).bind fun t23 => some (!t23))).bind fun y25 => (if y25 = true then some (0, [], [], [], 0, false) else (spec_l12Own.f k yb6_2_0 yb6_2_1 yb6_2_2 yb6_2_3 (w64 (a0_4 + 1))).bind fun (t28_1, t28_2, t28_3, t28_4, t28_5) => some (t28_1, t28_2, t28_3, t28_4, t28_5, true))

theorem spec_l12Do.ok {k : Nat}  {a0_0 : Int} {a0_1 : List (Int × Int × Int)} {a0_2 : List Int} {a0_3 : List Int} {a0_4 : Int} {a1_0 : Int} {a1_1 : Int} {a1_2 : Int} {a1_3 : Int} {r0 : Int} {r1 : List (Int × Int × Int)} {r2 : List Int} {r3 : List Int} {r4 : Int} {r5 : Bool} (h : spec_l12Do.f k a0_0 a0_1 a0_2 a0_3 a0_4 a1_0 a1_1 a1_2 a1_3 = some (r0, r1, r2, r3, r4, r5)) (w : World) {va0_1 : Value} {va0_2 : Value} {va0_3 : Value} (hr_a0_1 : Rd w va0_1 a0_1) (hr_a0_2 : Rd w va0_2 a0_2) (hr_a0_3 : Rd w va0_3 a0_3) :
    Calls Tryz.prog 19 ([.agg ([.int .i64 a0_0, va0_1, va0_2, va0_3, .int .i64 a0_4].toArray), .agg ([.int .i64 a1_0, .int .i64 a1_1, .int .i64 a1_2, .int .i64 a1_3].toArray)] : List Value).toArray w (Post (fun u ns => ∃ (ur1 : Value) (Sr1 : Nat → Prop) (ur2 : Value) (Sr2 : Nat → Prop) (ur3 : Value) (Sr3 : Nat → Prop), u = .tuple #[.agg [.int .i64 r0, ur1, ur2, ur3, .int .i64 r4].toArray, .bool r5] ∧ SlLen ur1 r1.length ∧ SlLen ur2 r2.length ∧ SlLen ur3 r3.length ∧ ns = [R.sl Sr1 ur1 r1, R.sl Sr2 ur2 r2, R.sl Sr3 ur3 r3]) w) := by
  unfold spec_l12Do.f at h
  have hl_va0_1 := hr_a0_1.len
  have hl_va0_2 := hr_a0_2.len
  have hl_va0_3 := hr_a0_3.len
  refine Calls.of_tri (N := 29) Tryz.func19 rfl rfl rfl (Sep.nil (M := noM)) ?_
  refine Tri.seq ?_
  refine Tri.reg (l := [0, 1, 2, 3]) rfl ?_
  refine F.m rfl rfl rfl (wanted_none rfl) (m_boxG rfl rfl) ?_
  rintro _ _ ⟨b2_1, rfl, rfl⟩
  refine F.m rfl rfl rfl (wanted_none rfl) (m_boxG rfl rfl) ?_
  rintro _ _ ⟨b3_1, rfl, rfl⟩
  refine F.m rfl rfl rfl (wanted_none rfl) (m_alloc ti33) ?_
  rintro _ _ ⟨b4_1, rfl, rfl⟩
  refine F.q rfl rfl rfl (wanted_none rfl) (r_assign rfl) ?_
  refine F.nil ?_
  refine Nrm.seq ?_
  refine Tri.seq ?_
  obtain ⟨⟨y7, yb6_2_0, yb6_2_1, yb6_2_2, yb6_2_3, yb6_2_4⟩, hE_1, h⟩ := bind_some h
  refine Tri.cut (fun e' C' => ∃ (vb6_2_1_1 : Value) (Sb6_2_1_1 : Nat → Prop) (vb6_2_2_1 : Value) (Sb6_2_2_1 : Nat → Prop) (vb6_2_3_1 : Value) (Sb6_2_3_1 : Nat → Prop) (b6_2 : Nat), SlLen vb6_2_1_1 (yb6_2_1).length ∧ SlLen vb6_2_2_1 (yb6_2_2).length ∧ SlLen vb6_2_3_1 (yb6_2_3).length ∧ e' = [(2, .pointer (some ⟨b2_1, 0, none⟩)), (4, .pointer (some ⟨b4_1, 0, none⟩)), (6, .pointer (some ⟨b6_2, 0, none⟩)), (7, .bool y7)] ∧ C' = Sep w noM [R.box b4_1 33 [.int .i64 0, .slice none 0 0, .slice none 0 0, .slice none 0 0, .int .i64 0], R.box b2_1 33 [.int .i64 a0_0, va0_1, va0_2, va0_3, .int .i64 a0_4], R.box b6_2 33 [.int .i64 yb6_2_0, vb6_2_1_1, vb6_2_2_1, vb6_2_3_1, .int .i64 yb6_2_4], R.sl Sb6_2_1_1 vb6_2_1_1 (yb6_2_1 : List (Int × Int × Int)), R.sl Sb6_2_2_1 vb6_2_2_1 (yb6_2_2 : List (Int)), R.sl Sb6_2_3_1 vb6_2_3_1 (yb6_2_3 : List (Int))]) ?_ (fun hj_1 => ?_)
  · rintro _ _ ⟨vb6_2_1_1, Sb6_2_1_1, vb6_2_2_1, Sb6_2_2_1, vb6_2_3_1, Sb6_2_3_1, b6_2, hl_vb6_2_1_1, hl_vb6_2_2_1, hl_vb6_2_3_1, rfl, rfl⟩
    refine Nrm.seq ?_
    refine Tri.seq ?_
    refine Tri.reg (l := [0, 1, 2, 3, 4]) rfl ?_
    refine F.q rfl rfl rfl (wanted_none rfl) (r_fieldAddr tf33_2 rfl) ?_
    refine F.q rfl rfl rfl (wanted_none rfl) (r_load ta3 rfl (fun w hw => cell_1 (box_cells (i := 1) rfl w hw) rfl)) ?_
    refine F.q rfl rfl rfl (wanted_none rfl) (r_add rfl rfl) ?_
    refine F.q rfl rfl rfl (wanted_none rfl) (r_fieldAddr tf33_2 rfl) ?_
    refine F.ef0 rfl rfl (wanted_none rfl) (d_storeG1 (i := 2) (cs2 := [.int .i64 (w64 (a0_4 + 1))]) ti3 rfl rfl rfl rfl rfl (Nat.le_of_ble_eq_true rfl) (lf_cons rfl lf_nil)) ?_
    rintro _ _ ⟨rfl, rfl⟩
    refine F.nil ?_
    refine Nrm.seq ?_
    refine Tri.seq ?_
    refine Tri.seq ?_
    obtain ⟨y25, hE_2, h⟩ := bind_some h
    refine Tri.cut (fun e' C' => e' = [(4, .pointer (some ⟨b4_1, 0, none⟩)), (6, .pointer (some ⟨b6_2, 0, none⟩)), (25, .bool y25)] ∧ C' = Sep w noM [R.box b4_1 33 [.int .i64 0, .slice none 0 0, .slice none 0 0, .slice none 0 0, .int .i64 0], R.box b6_2 33 [.int .i64 yb6_2_0, vb6_2_1_1, vb6_2_2_1, vb6_2_3_1, .int .i64 (w64 (a0_4 + 1))], R.sl Sb6_2_1_1 vb6_2_1_1 (yb6_2_1 : List (Int × Int × Int)), R.sl Sb6_2_2_1 vb6_2_2_1 (yb6_2_2 : List (Int)), R.sl Sb6_2_3_1 vb6_2_3_1 (yb6_2_3 : List (Int))]) ?_ (fun hj_2 => ?_)
    · rintro _ _ ⟨rfl, rfl⟩
      refine Nrm.seq ?_
      refine Tri.cond (b := y25) rfl (fun g_1 => ?_) (fun g_1 => ?_)
      · replace h := if_tt g_1 h
        refine Tri.seq ?_
        refine Tri.reg (l := [0, 1, 2]) rfl ?_
        refine F.q rfl rfl rfl (wanted_none rfl) (r_build (pl := [(0, 3), (3, 1), (4, 1)]) (qs := []) (cs := [.int .i64 0, .slice none 0 0, .slice none 0 0, .slice none 0 0, .int .i64 0]) (by kernel_rfl) ti33 rfl .nil rfl rfl) ?_
        refine F.ef0 rfl rfl (wanted_none rfl) (d_storeG0 (i := 0) (cs2 := [.int .i64 0, .slice none 0 0, .slice none 0 0, .slice none 0 0, .int .i64 0]) ti33 rfl rfl rfl rfl rfl (Nat.le_of_ble_eq_true rfl) (lf_cons rfl (lf_cons rfl (lf_cons rfl (lf_cons rfl (lf_cons rfl lf_nil)))))) ?_
        rintro _ _ ⟨rfl, rfl⟩
        refine F.q rfl rfl rfl (wanted_none rfl) (r_assign rfl) ?_
        refine F.nil ?_
        refine Nrm.seq ?_
        refine Tri.ret ?_
        refine Rtn.then ?_
        cases h
        exact Rtn.body (.cell rfl ta33 ti33 rfl (fun _ hw => box_cells (i := 0) rfl _ hw) (.tmp rfl .nil)) (fun w hw => ⟨_, _, rfl, ⟨.slice none 0 0, fun _ => False, .slice none 0 0, fun _ => False, .slice none 0 0, fun _ => False, rfl, len_nil, len_nil, len_nil, rfl⟩, Sep.pick (is := [0, 1, 2]) rfl rfl hw.pushNil.pushNil.pushNil⟩)
      · replace h := if_ff g_1 h
        refine Tri.skip ?_
        refine Nrm.seq ?_
        refine Tri.seq ?_
        obtain ⟨⟨t28_1, t28_2, t28_3, t28_4, t28_5⟩, h28, h⟩ := bind_some h
        refine Tri.reg (l := [0, 1, 2, 3]) rfl ?_
        refine F.q rfl rfl rfl (wanted_none rfl) (r_loadA ta33 ti33 rfl rfl (fun w hw => (box_cells (i := 1) rfl w hw))) ?_
        refine F.m rfl rfl rfl (wanted_none rfl) (m_callF (xs := _) rfl ok18 rfl rfl (fun w hw => spec_l12Own.ok h28 w ((rd_sl (i := 2) rfl) w hw) ((rd_sl (i := 3) rfl) w hw) ((rd_sl (i := 4) rfl) w hw))) ?_
        rintro _ _ ⟨_, ⟨v28_1, S28_1, v28_2, S28_2, v28_3, S28_3, rfl, hl_v28_1, hl_v28_2, hl_v28_3, rfl⟩, rfl⟩
        refine F.ef0 rfl rfl (wanted_none rfl) (d_storeG0 (i := 3) (cs2 := [.int .i64 t28_1, v28_1, v28_2, v28_3, .int .i64 t28_5]) ti33 rfl rfl rfl rfl rfl (Nat.le_of_ble_eq_true rfl) (lf_cons rfl (lf_cons (sl_leaf hl_v28_1) (lf_cons (sl_leaf hl_v28_2) (lf_cons (sl_leaf hl_v28_3) (lf_cons rfl lf_nil)))))) ?_
        rintro _ _ ⟨rfl, rfl⟩
        refine F.q rfl rfl rfl (wanted_none rfl) (r_assign rfl) ?_
        refine F.nil ?_
        refine Nrm.seq ?_
        refine Tri.ret ?_
        cases h
        exact Rtn.body (.cell rfl ta33 ti33 rfl (fun _ hw => box_cells (i := 3) rfl _ hw) (.tmp rfl .nil)) (fun w hw => ⟨_, _, rfl, ⟨v28_1, S28_1, v28_2, S28_2, v28_3, S28_3, rfl, hl_v28_1, hl_v28_2, hl_v28_3, rfl⟩, Sep.pick (is := [0, 1, 2]) rfl rfl hw⟩)
    · rcases Bool.eq_false_or_eq_true (!y7) with g21 | g21
      · replace hE_2 := if_tt g21 hE_2
        refine Tri.reg (l := [0, 1, 2, 3, 4, 5, 6]) rfl ?_
        refine F.q rfl rfl rfl (wanted_none rfl) (r_move rfl) ?_
        refine F.q rfl rfl rfl (wanted_none rfl) (r_not rfl) ?_
        refine F.q rfl rfl rfl (wanted_none rfl) (r_move rfl) ?_
        refine F.sk rfl rfl rfl (wf rfl rfl rfl g21) ?_
        refine F.sk rfl rfl rfl (wf rfl rfl rfl g21) ?_
        refine F.sk rfl rfl rfl (wf rfl rfl rfl g21) ?_
        refine F.q rfl rfl rfl (wanted_none rfl) (r_pick rfl rfl g21) ?_
        refine F.nil ?_
        cases hE_2
        refine Nrm.only [4, 6, 25] rfl ?_
        refine Nrm.pick [0, 2, 3, 4, 5] rfl rfl ?_
        exact hj_2 _ _ ⟨rfl, rfl⟩
      · replace hE_2 := if_ff g21 hE_2
        obtain ⟨t23, h23, hE_2⟩ := bind_some hE_2
        refine Tri.reg (l := [0, 1, 2, 3, 4, 5, 6]) rfl ?_
        refine F.q rfl rfl rfl (wanted_none rfl) (r_move rfl) ?_
        refine F.q rfl rfl rfl (wanted_none rfl) (r_not rfl) ?_
        refine F.q rfl rfl rfl (wanted_none rfl) (r_move rfl) ?_
        refine F.q rfl rfl rfl (wg rfl rfl rfl g21) (r_loadA ta33 ti33 rfl rfl (fun w hw => (box_cells (i := 2) rfl w hw))) ?_
        refine F.qc rfl rfl rfl (wg rfl rfl rfl g21) (q_callF (xs := _) rfl ok17 rfl rfl (fun w hw => spec_l12Good.ok h23 w ((rd_sl (i := 3) rfl) w hw) ((rd_sl (i := 4) rfl) w hw) ((rd_sl (i := 5) rfl) w hw))) ?_
        refine F.q rfl rfl rfl (wg rfl rfl rfl g21) (r_not rfl) ?_
        refine F.q rfl rfl rfl (wanted_none rfl) (r_pickf rfl rfl g21) ?_
        refine F.nil ?_
        cases hE_2
        refine Nrm.only [4, 6, 25] rfl ?_
        refine Nrm.pick [0, 2, 3, 4, 5] rfl rfl ?_
        exact hj_2 _ _ ⟨rfl, rfl⟩
  · obtain ⟨⟨t10_1, t10_2, t10_3, t10_4, t10_5⟩, h10, hE_1⟩ := bind_some hE_1
    obtain ⟨⟨t12_1, t12_2, t12_3, t12_4, t12_5, t12_6⟩, h12, hE_1⟩ := bind_some hE_1
    refine Tri.drawT mixedT Sep.up [0, 2, 1, 3, 4, 5, 6, 7, 8] [9] (.q 0 (.q 2 (.alt 1 (.alt 3 (.alt 4 (.alt 5 (.alt 6 (.alt 7 (.alt 8 .nil .stop) .stop) (.alt 7 (.alt 6 (.alt 8 .nil .stop) (.alt 8 (.alt 6 .nil .stop) .stop)) .stop)) (.alt 6 (.alt 5 (.alt 7 (.alt 8 .nil .stop) .stop) (.alt 7 (.alt 5 (.alt 8 .nil .stop) .stop) .stop)) (.alt 7 (.alt 5 (.alt 6 (.alt 8 .nil .stop) (.alt 8 (.alt 6 .nil .stop) .stop)) (.alt 6 (.alt 5 (.alt 8 .nil .stop) .stop) .stop)) .stop))) (.alt 7 (.alt 4 (.alt 5 (.alt 6 (.alt 8 .nil .stop) (.alt 8 (.alt 6 .nil .stop) .stop)) (.alt 6 (.alt 5 (.alt 8 .nil .stop) .stop) .stop)) .stop) .stop)) (.alt 7 (.alt 3 (.alt 4 (.alt 5 (.alt 6 (.alt 8 .nil .stop) (.alt 8 (.alt 6 .nil .stop) .stop)) (.alt 6 (.alt 5 (.alt 8 .nil .stop) .stop) .stop)) .stop) .stop) .stop)) (.alt 7 (.alt 1 (.alt 3 (.alt 4 (.alt 5 (.alt 6 (.alt 8 .nil .stop) (.alt 8 (.alt 6 .nil .stop) .stop)) (.alt 6 (.alt 5 (.alt 8 .nil .stop) .stop) .stop)) .stop) .stop) .stop) .stop)))) (by kernel_rfl) ?_
    refine T.q rfl rfl rfl (wanted_none rfl) (r_loadA ta33 ti33 rfl rfl (fun w hw => (box_cells (i := 2) rfl w hw))) ?_
    refine T.q rfl rfl rfl (wanted_none rfl) (r_loadA ta51 ti51 rfl rfl (fun w hw => (box_cells (i := 1) rfl w hw))) ?_
    refine T.ef rfl rfl rfl (wanted_none rfl) (Makes.does (m_callF (xs := _) rfl ok18 rfl rfl (fun w hw => spec_l12Own.ok h10 w ((fun _ hw => hr_a0_1.sep hw) w hw) ((fun _ hw => hr_a0_2.sep hw) w hw) ((fun _ hw => hr_a0_3.sep hw) w hw)))) (by rintro _ _ ⟨_, ⟨v10_4, S10_4, v10_5, S10_5, v10_6, S10_6, rfl, hl_v10_4, hl_v10_5, hl_v10_6, rfl⟩, rfl⟩; exact upd rfl [3, 4, 5] rfl rfl) ?_ ?_
    · rintro _ _ ⟨_, ⟨v10_4, S10_4, v10_5, S10_5, v10_6, S10_6, rfl, hl_v10_4, hl_v10_5, hl_v10_6, rfl⟩, rfl⟩
      refine T.ef rfl rfl rfl (wanted_none rfl) (d_callM (xs := _) (cs := [R.sl S10_4 v10_4 (t10_2 : List (Int × Int × Int)), R.sl S10_5 v10_5 (t10_3 : List (Int)), R.sl S10_6 v10_6 (t10_4 : List (Int))]) (rest := [R.box b4_1 33 [.int .i64 0, .slice none 0 0, .slice none 0 0, .slice none 0 0, .int .i64 0], R.box b3_1 51 [.int .i64 a1_0, .int .i64 a1_1, .int .i64 a1_2, .int .i64 a1_3], R.box b2_1 33 [.int .i64 a0_0, va0_1, va0_2, va0_3, .int .i64 a0_4]]) [0, 1, 2] [3, 4, 5] rfl ok39 rfl rfl rfl rfl (fun w hw => spec_l12Make.ok h12 w hl_v10_4 hl_v10_5 hl_v10_6 (Sep.sub hw))) (by rintro _ _ ⟨_, ⟨v12_4, S12_4, v12_5, S12_5, v12_6, S12_6, rfl, hl_v12_4, hl_v12_5, hl_v12_6, rfl⟩, rfl⟩; exact upd rfl [3, 4, 5] rfl rfl) ?_ ?_
      · rintro _ _ ⟨_, ⟨v12_4, S12_4, v12_5, S12_5, v12_6, S12_6, rfl, hl_v12_4, hl_v12_5, hl_v12_6, rfl⟩, rfl⟩
        refine T.ef rfl rfl rfl (wanted_none rfl) (Runs.does (r_move rfl)) (by rintro _ _ ⟨rfl, rfl⟩; exact upd rfl [3, 4, 5] rfl rfl) ?_ ?_
        · rintro _ _ ⟨rfl, rfl⟩
          refine T.ef rfl rfl rfl (wanted_none rfl) (Runs.does (r_extract rfl rfl)) (by rintro _ _ ⟨rfl, rfl⟩; exact upd rfl [3, 4, 5] rfl rfl) ?_ ?_
          · rintro _ _ ⟨rfl, rfl⟩
            refine T.ef rfl rfl rfl (wanted_none rfl) (Runs.does (r_extract rfl rfl)) (by rintro _ _ ⟨rfl, rfl⟩; exact upd rfl [3, 4, 5] rfl rfl) ?_ ?_
            · rintro _ _ ⟨rfl, rfl⟩
              refine T.ef rfl rfl rfl (wanted_none rfl) (Makes.does (m_alloc ti33)) (by rintro _ _ ⟨b6_3, rfl, rfl⟩; exact upd rfl [4, 5, 6] rfl rfl) ?_ ?_
              · rintro _ _ ⟨b6_3, rfl, rfl⟩
                refine T.ef0 rfl rfl (wanted_none rfl) (d_storeG0 (i := 0) (cs2 := [.int .i64 t12_1, v12_4, v12_5, v12_6, .int .i64 t12_5]) ti33 rfl rfl rfl rfl rfl (Nat.le_of_ble_eq_true rfl) (lf_cons rfl (lf_cons (sl_leaf hl_v12_4) (lf_cons (sl_leaf hl_v12_5) (lf_cons (sl_leaf hl_v12_6) (lf_cons rfl lf_nil)))))) (by rintro _ _ ⟨rfl, rfl⟩; exact upd rfl [4, 5, 6] rfl rfl) ?_ ?_
                · rintro _ _ ⟨rfl, rfl⟩
                  refine T.nil ?_
                  refine F.q rfl rfl rfl (wanted_none rfl) (r_assign rfl) ?_
                  refine F.nil ?_
                  cases hE_1
                  refine Nrm.only [2, 4, 6, 7] rfl ?_
                  refine Nrm.pick [4, 6, 0, 1, 2, 3] rfl rfl ?_
                  exact hj_1 _ _ ⟨v12_4, S12_4, v12_5, S12_5, v12_6, S12_6, b6_3, hl_v12_4, hl_v12_5, hl_v12_6, rfl, rfl⟩
                exact T.stop
              exact T.stop
            · refine T.ef rfl rfl rfl (wanted_none rfl) (Makes.does (m_alloc ti33)) (by rintro _ _ ⟨b6_4, rfl, rfl⟩; exact upd rfl [4, 5, 6] rfl rfl) ?_ ?_
              · rintro _ _ ⟨b6_4, rfl, rfl⟩
                refine T.ef rfl rfl rfl (wanted_none rfl) (Runs.does (r_extract rfl rfl)) (by rintro _ _ ⟨rfl, rfl⟩; exact upd rfl [4, 5, 6] rfl rfl) ?_ ?_
                · rintro _ _ ⟨rfl, rfl⟩
                  refine T.ef0 rfl rfl (wanted_none rfl) (d_storeG0 (i := 0) (cs2 := [.int .i64 t12_1, v12_4, v12_5, v12_6, .int .i64 t12_5]) ti33 rfl rfl rfl rfl rfl (Nat.le_of_ble_eq_true rfl) (lf_cons rfl (lf_cons (sl_leaf hl_v12_4) (lf_cons (sl_leaf hl_v12_5) (lf_cons (sl_leaf hl_v12_6) (lf_cons rfl lf_nil)))))) (by rintro _ _ ⟨rfl, rfl⟩; exact upd rfl [4, 5, 6] rfl rfl) ?_ ?_
                  · rintro _ _ ⟨rfl, rfl⟩
                    refine T.nil ?_
                    refine F.q rfl rfl rfl (wanted_none rfl) (r_assign rfl) ?_
                    refine F.nil ?_
                    cases hE_1
                    refine Nrm.only [2, 4, 6, 7] rfl ?_
                    refine Nrm.pick [4, 6, 0, 1, 2, 3] rfl rfl ?_
                    exact hj_1 _ _ ⟨v12_4, S12_4, v12_5, S12_5, v12_6, S12_6, b6_4, hl_v12_4, hl_v12_5, hl_v12_6, rfl, rfl⟩
                  exact T.stop
                · refine T.ef0 rfl rfl (wanted_none rfl) (d_storeG0 (i := 0) (cs2 := [.int .i64 t12_1, v12_4, v12_5, v12_6, .int .i64 t12_5]) ti33 rfl rfl rfl rfl rfl (Nat.le_of_ble_eq_true rfl) (lf_cons rfl (lf_cons (sl_leaf hl_v12_4) (lf_cons (sl_leaf hl_v12_5) (lf_cons (sl_leaf hl_v12_6) (lf_cons rfl lf_nil)))))) (by rintro _ _ ⟨rfl, rfl⟩; exact upd rfl [4, 5, 6] rfl rfl) ?_ ?_
                  · rintro _ _ ⟨rfl, rfl⟩
                    refine T.ef rfl rfl rfl (wanted_none rfl) (Runs.does (r_extract rfl rfl)) (by rintro _ _ ⟨rfl, rfl⟩; exact upd rfl [4, 5, 6] rfl rfl) ?_ ?_
                    · rintro _ _ ⟨rfl, rfl⟩
                      refine T.nil ?_
                      refine F.q rfl rfl rfl (wanted_none rfl) (r_assign rfl) ?_
                      refine F.nil ?_
                      cases hE_1
                      refine Nrm.only [2, 4, 6, 7] rfl ?_
                      refine Nrm.pick [4, 6, 0, 1, 2, 3] rfl rfl ?_
                      exact hj_1 _ _ ⟨v12_4, S12_4, v12_5, S12_5, v12_6, S12_6, b6_4, hl_v12_4, hl_v12_5, hl_v12_6, rfl, rfl⟩
                    exact T.stop
                  exact T.stop
              exact T.stop
          · refine T.ef rfl rfl rfl (wanted_none rfl) (Runs.does (r_extract rfl rfl)) (by rintro _ _ ⟨rfl, rfl⟩; exact upd rfl [3, 4, 5] rfl rfl) ?_ ?_
            · rintro _ _ ⟨rfl, rfl⟩
              refine T.ef rfl rfl rfl (wanted_none rfl) (Runs.does (r_extract rfl rfl)) (by rintro _ _ ⟨rfl, rfl⟩; exact upd rfl [3, 4, 5] rfl rfl) ?_ ?_
              · rintro _ _ ⟨rfl, rfl⟩
                refine T.ef rfl rfl rfl (wanted_none rfl) (Makes.does (m_alloc ti33)) (by rintro _ _ ⟨b6_5, rfl, rfl⟩; exact upd rfl [4, 5, 6] rfl rfl) ?_ ?_
                · rintro _ _ ⟨b6_5, rfl, rfl⟩
                  refine T.ef0 rfl rfl (wanted_none rfl) (d_storeG0 (i := 0) (cs2 := [.int .i64 t12_1, v12_4, v12_5, v12_6, .int .i64 t12_5]) ti33 rfl rfl rfl rfl rfl (Nat.le_of_ble_eq_true rfl) (lf_cons rfl (lf_cons (sl_leaf hl_v12_4) (lf_cons (sl_leaf hl_v12_5) (lf_cons (sl_leaf hl_v12_6) (lf_cons rfl lf_nil)))))) (by rintro _ _ ⟨rfl, rfl⟩; exact upd rfl [4, 5, 6] rfl rfl) ?_ ?_
                  · rintro _ _ ⟨rfl, rfl⟩
                    refine T.nil ?_
                    refine F.q rfl rfl rfl (wanted_none rfl) (r_assign rfl) ?_
                    refine F.nil ?_
                    cases hE_1
                    refine Nrm.only [2, 4, 6, 7] rfl ?_
                    refine Nrm.pick [4, 6, 0, 1, 2, 3] rfl rfl ?_
                    exact hj_1 _ _ ⟨v12_4, S12_4, v12_5, S12_5, v12_6, S12_6, b6_5, hl_v12_4, hl_v12_5, hl_v12_6, rfl, rfl⟩
                  exact T.stop
                exact T.stop
              · refine T.ef rfl rfl rfl (wanted_none rfl) (Makes.does (m_alloc ti33)) (by rintro _ _ ⟨b6_6, rfl, rfl⟩; exact upd rfl [4, 5, 6] rfl rfl) ?_ ?_
                · rintro _ _ ⟨b6_6, rfl, rfl⟩
                  refine T.ef rfl rfl rfl (wanted_none rfl) (Runs.does (r_extract rfl rfl)) (by rintro _ _ ⟨rfl, rfl⟩; exact upd rfl [4, 5, 6] rfl rfl) ?_ ?_
                  · rintro _ _ ⟨rfl, rfl⟩
                    refine T.ef0 rfl rfl (wanted_none rfl) (d_storeG0 (i := 0) (cs2 := [.int .i64 t12_1, v12_4, v12_5, v12_6, .int .i64 t12_5]) ti33 rfl rfl rfl rfl rfl (Nat.le_of_ble_eq_true rfl) (lf_cons rfl (lf_cons (sl_leaf hl_v12_4) (lf_cons (sl_leaf hl_v12_5) (lf_cons (sl_leaf hl_v12_6) (lf_cons rfl lf_nil)))))) (by rintro _ _ ⟨rfl, rfl⟩; exact upd rfl [4, 5, 6] rfl rfl) ?_ ?_
                    · rintro _ _ ⟨rfl, rfl⟩
                      refine T.nil ?_
                      refine F.q rfl rfl rfl (wanted_none rfl) (r_assign rfl) ?_
                      refine F.nil ?_
                      cases hE_1
                      refine Nrm.only [2, 4, 6, 7] rfl ?_
                      refine Nrm.pick [4, 6, 0, 1, 2, 3] rfl rfl ?_
                      exact hj_1 _ _ ⟨v12_4, S12_4, v12_5, S12_5, v12_6, S12_6, b6_6, hl_v12_4, hl_v12_5, hl_v12_6, rfl, rfl⟩
                    exact T.stop
                  exact T.stop
                exact T.stop
            · refine T.ef rfl rfl rfl (wanted_none rfl) (Makes.does (m_alloc ti33)) (by rintro _ _ ⟨b6_7, rfl, rfl⟩; exact upd rfl [4, 5, 6] rfl rfl) ?_ ?_
              · rintro _ _ ⟨b6_7, rfl, rfl⟩
                refine T.ef rfl rfl rfl (wanted_none rfl) (Runs.does (r_extract rfl rfl)) (by rintro _ _ ⟨rfl, rfl⟩; exact upd rfl [4, 5, 6] rfl rfl) ?_ ?_
                · rintro _ _ ⟨rfl, rfl⟩
                  refine T.ef rfl rfl rfl (wanted_none rfl) (Runs.does (r_extract rfl rfl)) (by rintro _ _ ⟨rfl, rfl⟩; exact upd rfl [4, 5, 6] rfl rfl) ?_ ?_
                  · rintro _ _ ⟨rfl, rfl⟩
                    refine T.ef0 rfl rfl (wanted_none rfl) (d_storeG0 (i := 0) (cs2 := [.int .i64 t12_1, v12_4, v12_5, v12_6, .int .i64 t12_5]) ti33 rfl rfl rfl rfl rfl (Nat.le_of_ble_eq_true rfl) (lf_cons rfl (lf_cons (sl_leaf hl_v12_4) (lf_cons (sl_leaf hl_v12_5) (lf_cons (sl_leaf hl_v12_6) (lf_cons rfl lf_nil)))))) (by rintro _ _ ⟨rfl, rfl⟩; exact upd rfl [4, 5, 6] rfl rfl) ?_ ?_
                    · rintro _ _ ⟨rfl, rfl⟩
                      refine T.nil ?_
                      refine F.q rfl rfl rfl (wanted_none rfl) (r_assign rfl) ?_
                      refine F.nil ?_
                      cases hE_1
                      refine Nrm.only [2, 4, 6, 7] rfl ?_
                      refine Nrm.pick [4, 6, 0, 1, 2, 3] rfl rfl ?_
                      exact hj_1 _ _ ⟨v12_4, S12_4, v12_5, S12_5, v12_6, S12_6, b6_7, hl_v12_4, hl_v12_5, hl_v12_6, rfl, rfl⟩
                    exact T.stop
                  · refine T.ef0 rfl rfl (wanted_none rfl) (d_storeG0 (i := 0) (cs2 := [.int .i64 t12_1, v12_4, v12_5, v12_6, .int .i64 t12_5]) ti33 rfl rfl rfl rfl rfl (Nat.le_of_ble_eq_true rfl) (lf_cons rfl (lf_cons (sl_leaf hl_v12_4) (lf_cons (sl_leaf hl_v12_5) (lf_cons (sl_leaf hl_v12_6) (lf_cons rfl lf_nil)))))) (by rintro _ _ ⟨rfl, rfl⟩; exact upd rfl [4, 5, 6] rfl rfl) ?_ ?_
                    · rintro _ _ ⟨rfl, rfl⟩
                      refine T.ef rfl rfl rfl (wanted_none rfl) (Runs.does (r_extract rfl rfl)) (by rintro _ _ ⟨rfl, rfl⟩; exact upd rfl [4, 5, 6] rfl rfl) ?_ ?_
                      · rintro _ _ ⟨rfl, rfl⟩
                        refine T.nil ?_
                        refine F.q rfl rfl rfl (wanted_none rfl) (r_assign rfl) ?_
                        refine F.nil ?_
                        cases hE_1
                        refine Nrm.only [2, 4, 6, 7] rfl ?_
                        refine Nrm.pick [4, 6, 0, 1, 2, 3] rfl rfl ?_
                        exact hj_1 _ _ ⟨v12_4, S12_4, v12_5, S12_5, v12_6, S12_6, b6_7, hl_v12_4, hl_v12_5, hl_v12_6, rfl, rfl⟩
                      exact T.stop
                    exact T.stop
                · refine T.ef rfl rfl rfl (wanted_none rfl) (Runs.does (r_extract rfl rfl)) (by rintro _ _ ⟨rfl, rfl⟩; exact upd rfl [4, 5, 6] rfl rfl) ?_ ?_
                  · rintro _ _ ⟨rfl, rfl⟩
                    refine T.ef rfl rfl rfl (wanted_none rfl) (Runs.does (r_extract rfl rfl)) (by rintro _ _ ⟨rfl, rfl⟩; exact upd rfl [4, 5, 6] rfl rfl) ?_ ?_
                    · rintro _ _ ⟨rfl, rfl⟩
                      refine T.ef0 rfl rfl (wanted_none rfl) (d_storeG0 (i := 0) (cs2 := [.int .i64 t12_1, v12_4, v12_5, v12_6, .int .i64 t12_5]) ti33 rfl rfl rfl rfl rfl (Nat.le_of_ble_eq_true rfl) (lf_cons rfl (lf_cons (sl_leaf hl_v12_4) (lf_cons (sl_leaf hl_v12_5) (lf_cons (sl_leaf hl_v12_6) (lf_cons rfl lf_nil)))))) (by rintro _ _ ⟨rfl, rfl⟩; exact upd rfl [4, 5, 6] rfl rfl) ?_ ?_
                      · rintro _ _ ⟨rfl, rfl⟩
                        refine T.nil ?_
                        refine F.q rfl rfl rfl (wanted_none rfl) (r_assign rfl) ?_
                        refine F.nil ?_
                        cases hE_1
                        refine Nrm.only [2, 4, 6, 7] rfl ?_
                        refine Nrm.pick [4, 6, 0, 1, 2, 3] rfl rfl ?_
                        exact hj_1 _ _ ⟨v12_4, S12_4, v12_5, S12_5, v12_6, S12_6, b6_7, hl_v12_4, hl_v12_5, hl_v12_6, rfl, rfl⟩
                      exact T.stop
                    exact T.stop
                  exact T.stop
              exact T.stop
        · refine T.ef rfl rfl rfl (wanted_none rfl) (Makes.does (m_alloc ti33)) (by rintro _ _ ⟨b6_8, rfl, rfl⟩; exact upd rfl [4, 5, 6] rfl rfl) ?_ ?_
          · rintro _ _ ⟨b6_8, rfl, rfl⟩
            refine T.ef rfl rfl rfl (wanted_none rfl) (Runs.does (r_move rfl)) (by rintro _ _ ⟨rfl, rfl⟩; exact upd rfl [4, 5, 6] rfl rfl) ?_ ?_
            · rintro _ _ ⟨rfl, rfl⟩
              refine T.ef rfl rfl rfl (wanted_none rfl) (Runs.does (r_extract rfl rfl)) (by rintro _ _ ⟨rfl, rfl⟩; exact upd rfl [4, 5, 6] rfl rfl) ?_ ?_
              · rintro _ _ ⟨rfl, rfl⟩
                refine T.ef rfl rfl rfl (wanted_none rfl) (Runs.does (r_extract rfl rfl)) (by rintro _ _ ⟨rfl, rfl⟩; exact upd rfl [4, 5, 6] rfl rfl) ?_ ?_
                · rintro _ _ ⟨rfl, rfl⟩
                  refine T.ef0 rfl rfl (wanted_none rfl) (d_storeG0 (i := 0) (cs2 := [.int .i64 t12_1, v12_4, v12_5, v12_6, .int .i64 t12_5]) ti33 rfl rfl rfl rfl rfl (Nat.le_of_ble_eq_true rfl) (lf_cons rfl (lf_cons (sl_leaf hl_v12_4) (lf_cons (sl_leaf hl_v12_5) (lf_cons (sl_leaf hl_v12_6) (lf_cons rfl lf_nil)))))) (by rintro _ _ ⟨rfl, rfl⟩; exact upd rfl [4, 5, 6] rfl rfl) ?_ ?_
                  · rintro _ _ ⟨rfl, rfl⟩
                    refine T.nil ?_
                    refine F.q rfl rfl rfl (wanted_none rfl) (r_assign rfl) ?_
                    refine F.nil ?_
                    cases hE_1
                    refine Nrm.only [2, 4, 6, 7] rfl ?_
                    refine Nrm.pick [4, 6, 0, 1, 2, 3] rfl rfl ?_
                    exact hj_1 _ _ ⟨v12_4, S12_4, v12_5, S12_5, v12_6, S12_6, b6_8, hl_v12_4, hl_v12_5, hl_v12_6, rfl, rfl⟩
                  exact T.stop
                · refine T.ef0 rfl rfl (wanted_none rfl) (d_storeG0 (i := 0) (cs2 := [.int .i64 t12_1, v12_4, v12_5, v12_6, .int .i64 t12_5]) ti33 rfl rfl rfl rfl rfl (Nat.le_of_ble_eq_true rfl) (lf_cons rfl (lf_cons (sl_leaf hl_v12_4) (lf_cons (sl_leaf hl_v12_5) (lf_cons (sl_leaf hl_v12_6) (lf_cons rfl lf_nil)))))) (by rintro _ _ ⟨rfl, rfl⟩; exact upd rfl [4, 5, 6] rfl rfl) ?_ ?_
                  · rintro _ _ ⟨rfl, rfl⟩
                    refine T.ef rfl rfl rfl (wanted_none rfl) (Runs.does (r_extract rfl rfl)) (by rintro _ _ ⟨rfl, rfl⟩; exact upd rfl [4, 5, 6] rfl rfl) ?_ ?_
                    · rintro _ _ ⟨rfl, rfl⟩
                      refine T.nil ?_
                      refine F.q rfl rfl rfl (wanted_none rfl) (r_assign rfl) ?_
                      refine F.nil ?_
                      cases hE_1
                      refine Nrm.only [2, 4, 6, 7] rfl ?_
                      refine Nrm.pick [4, 6, 0, 1, 2, 3] rfl rfl ?_
                      exact hj_1 _ _ ⟨v12_4, S12_4, v12_5, S12_5, v12_6, S12_6, b6_8, hl_v12_4, hl_v12_5, hl_v12_6, rfl, rfl⟩
                    exact T.stop
                  exact T.stop
              · refine T.ef rfl rfl rfl (wanted_none rfl) (Runs.does (r_extract rfl rfl)) (by rintro _ _ ⟨rfl, rfl⟩; exact upd rfl [4, 5, 6] rfl rfl) ?_ ?_
                · rintro _ _ ⟨rfl, rfl⟩
                  refine T.ef rfl rfl rfl (wanted_none rfl) (Runs.does (r_extract rfl rfl)) (by rintro _ _ ⟨rfl, rfl⟩; exact upd rfl [4, 5, 6] rfl rfl) ?_ ?_
                  · rintro _ _ ⟨rfl, rfl⟩
                    refine T.ef0 rfl rfl (wanted_none rfl) (d_storeG0 (i := 0) (cs2 := [.int .i64 t12_1, v12_4, v12_5, v12_6, .int .i64 t12_5]) ti33 rfl rfl rfl rfl rfl (Nat.le_of_ble_eq_true rfl) (lf_cons rfl (lf_cons (sl_leaf hl_v12_4) (lf_cons (sl_leaf hl_v12_5) (lf_cons (sl_leaf hl_v12_6) (lf_cons rfl lf_nil)))))) (by rintro _ _ ⟨rfl, rfl⟩; exact upd rfl [4, 5, 6] rfl rfl) ?_ ?_
                    · rintro _ _ ⟨rfl, rfl⟩
                      refine T.nil ?_
                      refine F.q rfl rfl rfl (wanted_none rfl) (r_assign rfl) ?_
                      refine F.nil ?_
                      cases hE_1
                      refine Nrm.only [2, 4, 6, 7] rfl ?_
                      refine Nrm.pick [4, 6, 0, 1, 2, 3] rfl rfl ?_
                      exact hj_1 _ _ ⟨v12_4, S12_4, v12_5, S12_5, v12_6, S12_6, b6_8, hl_v12_4, hl_v12_5, hl_v12_6, rfl, rfl⟩
                    exact T.stop
                  exact T.stop
                exact T.stop
            exact T.stop
          exact T.stop
      · refine T.ef rfl rfl rfl (wanted_none rfl) (Makes.does (m_alloc ti33)) (by rintro _ _ ⟨b6_9, rfl, rfl⟩; exact upd rfl [4, 5, 6] rfl rfl) ?_ ?_
        · rintro _ _ ⟨b6_9, rfl, rfl⟩
          refine T.ef rfl rfl rfl (wanted_none rfl) (d_callM (xs := _) (cs := [R.sl S10_4 v10_4 (t10_2 : List (Int × Int × Int)), R.sl S10_5 v10_5 (t10_3 : List (Int)), R.sl S10_6 v10_6 (t10_4 : List (Int))]) (rest := [R.box b6_9 33 [.int .i64 0, .slice none 0 0, .slice none 0 0, .slice none 0 0, .int .i64 0], R.box b4_1 33 [.int .i64 0, .slice none 0 0, .slice none 0 0, .slice none 0 0, .int .i64 0], R.box b3_1 51 [.int .i64 a1_0, .int .i64 a1_1, .int .i64 a1_2, .int .i64 a1_3], R.box b2_1 33 [.int .i64 a0_0, va0_1, va0_2, va0_3, .int .i64 a0_4]]) [1, 2, 3] [0, 4, 5, 6] rfl ok39 rfl rfl rfl rfl (fun w hw => spec_l12Make.ok h12 w hl_v10_4 hl_v10_5 hl_v10_6 (Sep.sub hw))) (by rintro _ _ ⟨_, ⟨v12_7, S12_7, v12_8, S12_8, v12_9, S12_9, rfl, hl_v12_7, hl_v12_8, hl_v12_9, rfl⟩, rfl⟩; exact upd rfl [4, 5, 6] rfl rfl) ?_ ?_
          · rintro _ _ ⟨_, ⟨v12_7, S12_7, v12_8, S12_8, v12_9, S12_9, rfl, hl_v12_7, hl_v12_8, hl_v12_9, rfl⟩, rfl⟩
            refine T.ef rfl rfl rfl (wanted_none rfl) (Runs.does (r_move rfl)) (by rintro _ _ ⟨rfl, rfl⟩; exact upd rfl [4, 5, 6] rfl rfl) ?_ ?_
            · rintro _ _ ⟨rfl, rfl⟩
              refine T.ef rfl rfl rfl (wanted_none rfl) (Runs.does (r_extract rfl rfl)) (by rintro _ _ ⟨rfl, rfl⟩; exact upd rfl [4, 5, 6] rfl rfl) ?_ ?_
              · rintro _ _ ⟨rfl, rfl⟩
                refine T.ef rfl rfl rfl (wanted_none rfl) (Runs.does (r_extract rfl rfl)) (by rintro _ _ ⟨rfl, rfl⟩; exact upd rfl [4, 5, 6] rfl rfl) ?_ ?_
                · rintro _ _ ⟨rfl, rfl⟩
                  refine T.ef0 rfl rfl (wanted_none rfl) (d_storeG0 (i := 3) (cs2 := [.int .i64 t12_1, v12_7, v12_8, v12_9, .int .i64 t12_5]) ti33 rfl rfl rfl rfl rfl (Nat.le_of_ble_eq_true rfl) (lf_cons rfl (lf_cons (sl_leaf hl_v12_7) (lf_cons (sl_leaf hl_v12_8) (lf_cons (sl_leaf hl_v12_9) (lf_cons rfl lf_nil)))))) (by rintro _ _ ⟨rfl, rfl⟩; exact upd rfl [4, 5, 6] rfl rfl) ?_ ?_
                  · rintro _ _ ⟨rfl, rfl⟩
                    refine T.nil ?_
                    refine F.q rfl rfl rfl (wanted_none rfl) (r_assign rfl) ?_
                    refine F.nil ?_
                    cases hE_1
                    refine Nrm.only [2, 4, 6, 7] rfl ?_
                    refine Nrm.pick [4, 6, 3, 0, 1, 2] rfl rfl ?_
                    exact hj_1 _ _ ⟨v12_7, S12_7, v12_8, S12_8, v12_9, S12_9, b6_9, hl_v12_7, hl_v12_8, hl_v12_9, rfl, rfl⟩
                  exact T.stop
                · refine T.ef0 rfl rfl (wanted_none rfl) (d_storeG0 (i := 3) (cs2 := [.int .i64 t12_1, v12_7, v12_8, v12_9, .int .i64 t12_5]) ti33 rfl rfl rfl rfl rfl (Nat.le_of_ble_eq_true rfl) (lf_cons rfl (lf_cons (sl_leaf hl_v12_7) (lf_cons (sl_leaf hl_v12_8) (lf_cons (sl_leaf hl_v12_9) (lf_cons rfl lf_nil)))))) (by rintro _ _ ⟨rfl, rfl⟩; exact upd rfl [4, 5, 6] rfl rfl) ?_ ?_
                  · rintro _ _ ⟨rfl, rfl⟩
                    refine T.ef rfl rfl rfl (wanted_none rfl) (Runs.does (r_extract rfl rfl)) (by rintro _ _ ⟨rfl, rfl⟩; exact upd rfl [4, 5, 6] rfl rfl) ?_ ?_
                    · rintro _ _ ⟨rfl, rfl⟩
                      refine T.nil ?_
                      refine F.q rfl rfl rfl (wanted_none rfl) (r_assign rfl) ?_
                      refine F.nil ?_
                      cases hE_1
                      refine Nrm.only [2, 4, 6, 7] rfl ?_
                      refine Nrm.pick [4, 6, 3, 0, 1, 2] rfl rfl ?_
                      exact hj_1 _ _ ⟨v12_7, S12_7, v12_8, S12_8, v12_9, S12_9, b6_9, hl_v12_7, hl_v12_8, hl_v12_9, rfl, rfl⟩
                    exact T.stop
                  exact T.stop
              · refine T.ef rfl rfl rfl (wanted_none rfl) (Runs.does (r_extract rfl rfl)) (by rintro _ _ ⟨rfl, rfl⟩; exact upd rfl [4, 5, 6] rfl rfl) ?_ ?_
                · rintro _ _ ⟨rfl, rfl⟩
                  refine T.ef rfl rfl rfl (wanted_none rfl) (Runs.does (r_extract rfl rfl)) (by rintro _ _ ⟨rfl, rfl⟩; exact upd rfl [4, 5, 6] rfl rfl) ?_ ?_
                  · rintro _ _ ⟨rfl, rfl⟩
                    refine T.ef0 rfl rfl (wanted_none rfl) (d_storeG0 (i := 3) (cs2 := [.int .i64 t12_1, v12_7, v12_8, v12_9, .int .i64 t12_5]) ti33 rfl rfl rfl rfl rfl (Nat.le_of_ble_eq_true rfl) (lf_cons rfl (lf_cons (sl_leaf hl_v12_7) (lf_cons (sl_leaf hl_v12_8) (lf_cons (sl_leaf hl_v12_9) (lf_cons rfl lf_nil)))))) (by rintro _ _ ⟨rfl, rfl⟩; exact upd rfl [4, 5, 6] rfl rfl) ?_ ?_
                    · rintro _ _ ⟨rfl, rfl⟩
                      refine T.nil ?_
                      refine F.q rfl rfl rfl (wanted_none rfl) (r_assign rfl) ?_
                      refine F.nil ?_
                      cases hE_1
                      refine Nrm.only [2, 4, 6, 7] rfl ?_
                      refine Nrm.pick [4, 6, 3, 0, 1, 2] rfl rfl ?_
                      exact hj_1 _ _ ⟨v12_7, S12_7, v12_8, S12_8, v12_9, S12_9, b6_9, hl_v12_7, hl_v12_8, hl_v12_9, rfl, rfl⟩
                    exact T.stop
                  exact T.stop
                exact T.stop
            exact T.stop
          exact T.stop
        exact T.stop
    · refine T.ef rfl rfl rfl (wanted_none rfl) (Makes.does (m_alloc ti33)) (by rintro _ _ ⟨b6_10, rfl, rfl⟩; exact upd rfl [1, 2, 3] rfl rfl) ?_ ?_
      · rintro _ _ ⟨b6_10, rfl, rfl⟩
        refine T.ef rfl rfl rfl (wanted_none rfl) (Makes.does (m_callF (xs := _) rfl ok18 rfl rfl (fun w hw => spec_l12Own.ok h10 w ((fun _ hw => hr_a0_1.sep hw) w hw) ((fun _ hw => hr_a0_2.sep hw) w hw) ((fun _ hw => hr_a0_3.sep hw) w hw)))) (by rintro _ _ ⟨_, ⟨v10_7, S10_7, v10_8, S10_8, v10_9, S10_9, rfl, hl_v10_7, hl_v10_8, hl_v10_9, rfl⟩, rfl⟩; exact upd rfl [4, 5, 6] rfl rfl) ?_ ?_
        · rintro _ _ ⟨_, ⟨v10_7, S10_7, v10_8, S10_8, v10_9, S10_9, rfl, hl_v10_7, hl_v10_8, hl_v10_9, rfl⟩, rfl⟩
          refine T.ef rfl rfl rfl (wanted_none rfl) (d_callM (xs := _) (cs := [R.sl S10_7 v10_7 (t10_2 : List (Int × Int × Int)), R.sl S10_8 v10_8 (t10_3 : List (Int)), R.sl S10_9 v10_9 (t10_4 : List (Int))]) (rest := [R.box b6_10 33 [.int .i64 0, .slice none 0 0, .slice none 0 0, .slice none 0 0, .int .i64 0], R.box b4_1 33 [.int .i64 0, .slice none 0 0, .slice none 0 0, .slice none 0 0, .int .i64 0], R.box b3_1 51 [.int .i64 a1_0, .int .i64 a1_1, .int .i64 a1_2, .int .i64 a1_3], R.box b2_1 33 [.int .i64 a0_0, va0_1, va0_2, va0_3, .int .i64 a0_4]]) [0, 1, 2] [3, 4, 5, 6] rfl ok39 rfl rfl rfl rfl (fun w hw => spec_l12Make.ok h12 w hl_v10_7 hl_v10_8 hl_v10_9 (Sep.sub hw))) (by rintro _ _ ⟨_, ⟨v12_10, S12_10, v12_11, S12_11, v12_12, S12_12, rfl, hl_v12_10, hl_v12_11, hl_v12_12, rfl⟩, rfl⟩; exact upd rfl [4, 5, 6] rfl rfl) ?_ ?_
          · rintro _ _ ⟨_, ⟨v12_10, S12_10, v12_11, S12_11, v12_12, S12_12, rfl, hl_v12_10, hl_v12_11, hl_v12_12, rfl⟩, rfl⟩
            refine T.ef rfl rfl rfl (wanted_none rfl) (Runs.does (r_move rfl)) (by rintro _ _ ⟨rfl, rfl⟩; exact upd rfl [4, 5, 6] rfl rfl) ?_ ?_
            · rintro _ _ ⟨rfl, rfl⟩
              refine T.ef rfl rfl rfl (wanted_none rfl) (Runs.does (r_extract rfl rfl)) (by rintro _ _ ⟨rfl, rfl⟩; exact upd rfl [4, 5, 6] rfl rfl) ?_ ?_
              · rintro _ _ ⟨rfl, rfl⟩
                refine T.ef rfl rfl rfl (wanted_none rfl) (Runs.does (r_extract rfl rfl)) (by rintro _ _ ⟨rfl, rfl⟩; exact upd rfl [4, 5, 6] rfl rfl) ?_ ?_
                · rintro _ _ ⟨rfl, rfl⟩
                  refine T.ef0 rfl rfl (wanted_none rfl) (d_storeG0 (i := 3) (cs2 := [.int .i64 t12_1, v12_10, v12_11, v12_12, .int .i64 t12_5]) ti33 rfl rfl rfl rfl rfl (Nat.le_of_ble_eq_true rfl) (lf_cons rfl (lf_cons (sl_leaf hl_v12_10) (lf_cons (sl_leaf hl_v12_11) (lf_cons (sl_leaf hl_v12_12) (lf_cons rfl lf_nil)))))) (by rintro _ _ ⟨rfl, rfl⟩; exact upd rfl [4, 5, 6] rfl rfl) ?_ ?_
                  · rintro _ _ ⟨rfl, rfl⟩
                    refine T.nil ?_
                    refine F.q rfl rfl rfl (wanted_none rfl) (r_assign rfl) ?_
                    refine F.nil ?_
                    cases hE_1
                    refine Nrm.only [2, 4, 6, 7] rfl ?_
                    refine Nrm.pick [4, 6, 3, 0, 1, 2] rfl rfl ?_
                    exact hj_1 _ _ ⟨v12_10, S12_10, v12_11, S12_11, v12_12, S12_12, b6_10, hl_v12_10, hl_v12_11, hl_v12_12, rfl, rfl⟩
                  exact T.stop
                · refine T.ef0 rfl rfl (wanted_none rfl) (d_storeG0 (i := 3) (cs2 := [.int .i64 t12_1, v12_10, v12_11, v12_12, .int .i64 t12_5]) ti33 rfl rfl rfl rfl rfl (Nat.le_of_ble_eq_true rfl) (lf_cons rfl (lf_cons (sl_leaf hl_v12_10) (lf_cons (sl_leaf hl_v12_11) (lf_cons (sl_leaf hl_v12_12) (lf_cons rfl lf_nil)))))) (by rintro _ _ ⟨rfl, rfl⟩; exact upd rfl [4, 5, 6] rfl rfl) ?_ ?_
                  · rintro _ _ ⟨rfl, rfl⟩
                    refine T.ef rfl rfl rfl (wanted_none rfl) (Runs.does (r_extract rfl rfl)) (by rintro _ _ ⟨rfl, rfl⟩; exact upd rfl [4, 5, 6] rfl rfl) ?_ ?_
                    · rintro _ _ ⟨rfl, rfl⟩
                      refine T.nil ?_
                      refine F.q rfl rfl rfl (wanted_none rfl) (r_assign rfl) ?_
                      refine F.nil ?_
                      cases hE_1
                      refine Nrm.only [2, 4, 6, 7] rfl ?_
                      refine Nrm.pick [4, 6, 3, 0, 1, 2] rfl rfl ?_
                      exact hj_1 _ _ ⟨v12_10, S12_10, v12_11, S12_11, v12_12, S12_12, b6_10, hl_v12_10, hl_v12_11, hl_v12_12, rfl, rfl⟩
                    exact T.stop
                  exact T.stop
              · refine T.ef rfl rfl rfl (wanted_none rfl) (Runs.does (r_extract rfl rfl)) (by rintro _ _ ⟨rfl, rfl⟩; exact upd rfl [4, 5, 6] rfl rfl) ?_ ?_
                · rintro _ _ ⟨rfl, rfl⟩
                  refine T.ef rfl rfl rfl (wanted_none rfl) (Runs.does (r_extract rfl rfl)) (by rintro _ _ ⟨rfl, rfl⟩; exact upd rfl [4, 5, 6] rfl rfl) ?_ ?_
                  · rintro _ _ ⟨rfl, rfl⟩
                    refine T.ef0 rfl rfl (wanted_none rfl) (d_storeG0 (i := 3) (cs2 := [.int .i64 t12_1, v12_10, v12_11, v12_12, .int .i64 t12_5]) ti33 rfl rfl rfl rfl rfl (Nat.le_of_ble_eq_true rfl) (lf_cons rfl (lf_cons (sl_leaf hl_v12_10) (lf_cons (sl_leaf hl_v12_11) (lf_cons (sl_leaf hl_v12_12) (lf_cons rfl lf_nil)))))) (by rintro _ _ ⟨rfl, rfl⟩; exact upd rfl [4, 5, 6] rfl rfl) ?_ ?_
                    · rintro _ _ ⟨rfl, rfl⟩
                      refine T.nil ?_
                      refine F.q rfl rfl rfl (wanted_none rfl) (r_assign rfl) ?_
                      refine F.nil ?_
                      cases hE_1
                      refine Nrm.only [2, 4, 6, 7] rfl ?_
                      refine Nrm.pick [4, 6, 3, 0, 1, 2] rfl rfl ?_
                      exact hj_1 _ _ ⟨v12_10, S12_10, v12_11, S12_11, v12_12, S12_12, b6_10, hl_v12_10, hl_v12_11, hl_v12_12, rfl, rfl⟩
                    exact T.stop
                  exact T.stop
                exact T.stop
            exact T.stop
          exact T.stop
        exact T.stop
      exact T.stop

end Go.Proofs

/- loop.example/g01158/spec.DoDeeds -/
namespace Go.Proofs
open Go Go.Ga
set_option linter.unusedVariables false
set_option maxRecDepth 100000
set_option maxHeartbeats 4000000
def spec_DoDeeds.l0 (k : Nat) (a1 : List (Int × Int × Int × Int)) : Nat → Int → Int → (List (Int × Int × Int)) → (List (Int)) → (List (Int)) → Int → Option ((Int × (List (Int × Int × Int)) × (List (Int)) × (List (Int)) × Int) ⊕ (Int × (List (Int × Int × Int)) × (List Int) × (List Int) × Int × Int × Bool))
  | 0, _, _, _, _, _, _ => none
  | n + 1, x8, xb7_1_0, xq7_1_1, xq7_1_2, xq7_1_3, xb7_1_4 => (if (decide (x8 < (a1.length : Int))) = true then ((rdl a1 x8).bind fun t27 => (spec_l12Do.f k xb7_1_0 xq7_1_1 xq7_1_2 xq7_1_3 xb7_1_4 t27.1 t27.2.1 t27.2.2.1 t27.2.2.2).bind fun (t29_1, t29_2, t29_3, t29_4, t29_5, t29_6) => some (t29_6, t29_1, t29_2, t29_3, t29_4, t29_5)).bind fun (y10, yb9_2_0, yb9_2_1, yb9_2_2, yb9_2_3, yb9_2_4) => (if (!y10) = true then some (Sum.inr (xb7_1_0, xq7_1_1, xq7_1_2, xq7_1_3, xb7_1_4, x8, true)) else spec_DoDeeds.l0 k a1 n (w64 (x8 + 1)) yb9_2_0 yb9_2_1 yb9_2_2 yb9_2_3 yb9_2_4) else some (Sum.inl (xb7_1_0, xq7_1_1, xq7_1_2, xq7_1_3, xb7_1_4)))

def spec_DoDeeds.f (k : Nat) (a0_0 : Int) (a0_1 : List (Int × Int × Int)) (a0_2 : List Int) (a0_3 : List Int) (a0_4 : Int) (a1 : List (Int × Int × Int × Int)) : Option (Int × (List (Int × Int × Int)) × (List Int) × (List Int) × Int × Int × Bool) := (spec_l12Good.f k a0_0 a0_1 a0_2 a0_3 a0_4).bind fun t12 => (if (!t12) = true then some (0, [], [], [], 0, 0, false) else (spec_l12Own.f k a0_0 a0_1 a0_2 a0_3 a0_4).bind fun (t16_1, t16_2, t16_3, t16_4, t16_5) => (spec_DoDeeds.l0 k a1 k 0 t16_1 t16_2 t16_3 t16_4 t16_5).bind fun s => Lr s some fun (xb7_1_0, xq7_1_1, xq7_1_2, xq7_1_3, xb7_1_4) => some (xb7_1_0, xq7_1_1, xq7_1_2, xq7_1_3, xb7_1_4, (a1.length : Int), true))

theorem spec_DoDeeds.ok {k : Nat}  {a0_0 : Int} {a0_1 : List (Int × Int × Int)} {a0_2 : List Int} {a0_3 : List Int} {a0_4 : Int} {a1 : List (Int × Int × Int × Int)} {r0 : Int} {r1 : List (Int × Int × Int)} {r2 : List Int} {r3 : List Int} {r4 : Int} {r5 : Int} {r6 : Bool} (h : spec_DoDeeds.f k a0_0 a0_1 a0_2 a0_3 a0_4 a1 = some (r0, r1, r2, r3, r4, r5, r6)) (w : World) {va0_1 : Value} {va0_2 : Value} {va0_3 : Value} {va1 : Value} (hr_a0_1 : Rd w va0_1 a0_1) (hr_a0_2 : Rd w va0_2 a0_2) (hr_a0_3 : Rd w va0_3 a0_3) (hr_a1 : Rd w va1 a1) :
    Calls Tryz.prog 6 ([.agg ([.int .i64 a0_0, va0_1, va0_2, va0_3, .int .i64 a0_4].toArray), va1] : List Value).toArray w (Post (fun u ns => ∃ (ur1 : Value) (Sr1 : Nat → Prop) (ur2 : Value) (Sr2 : Nat → Prop) (ur3 : Value) (Sr3 : Nat → Prop), u = .tuple #[.agg [.int .i64 r0, ur1, ur2, ur3, .int .i64 r4].toArray, .int .i64 r5, .bool r6] ∧ SlLen ur1 r1.length ∧ SlLen ur2 r2.length ∧ SlLen ur3 r3.length ∧ ns = [R.sl Sr1 ur1 r1, R.sl Sr2 ur2 r2, R.sl Sr3 ur3 r3]) w) := by
  unfold spec_DoDeeds.f at h
  have hl_va0_1 := hr_a0_1.len
  have hl_va0_2 := hr_a0_2.len
  have hl_va0_3 := hr_a0_3.len
  have hl_va1 := hr_a1.len
  refine Calls.of_tri (N := 40) Tryz.func6 rfl rfl rfl (Sep.nil (M := noM)) ?_
  refine Tri.seq ?_
  refine Tri.reg (l := [0, 1, 2, 3]) rfl ?_
  refine F.m rfl rfl rfl (wanted_none rfl) (m_boxG rfl rfl) ?_
  rintro _ _ ⟨b2_1, rfl, rfl⟩
  refine F.m rfl rfl rfl (wanted_none rfl) (m_alloc ti33) ?_
  rintro _ _ ⟨b4_1, rfl, rfl⟩
  refine F.q rfl rfl rfl (wanted_none rfl) (r_assign rfl) ?_
  refine F.q rfl rfl rfl (wanted_none rfl) (r_assign rfl) ?_
  refine F.nil ?_
  refine Nrm.seq ?_
  refine Tri.seq ?_
  refine Tri.seq ?_
  obtain ⟨t12, h12, h⟩ := bind_some h
  refine Tri.reg (l := [0, 1, 2]) rfl ?_
  refine F.q rfl rfl rfl (wanted_none rfl) (r_loadA ta33 ti33 rfl rfl (fun w hw => (box_cells (i := 1) rfl w hw))) ?_
  refine F.qc rfl rfl rfl (wanted_none rfl) (q_callF (xs := _) rfl ok17 rfl rfl (fun w hw => spec_l12Good.ok h12 w ((fun _ hw => hr_a0_1.sep hw) w hw) ((fun _ hw => hr_a0_2.sep hw) w hw) ((fun _ hw => hr_a0_3.sep hw) w hw))) ?_
  refine F.q rfl rfl rfl (wanted_none rfl) (r_not rfl) ?_
  refine F.nil ?_
  refine Nrm.seq ?_
  refine Tri.cond (b := !t12) rfl (fun g_1 => ?_) (fun g_1 => ?_)
  · replace h := if_tt g_1 h
    refine Tri.seq ?_
    refine Tri.reg (l := [0, 1, 2, 3]) rfl ?_
    refine F.q rfl rfl rfl (wanted_none rfl) (r_build (pl := [(0, 3), (3, 1), (4, 1)]) (qs := []) (cs := [.int .i64 0, .slice none 0 0, .slice none 0 0, .slice none 0 0, .int .i64 0]) (by kernel_rfl) ti33 rfl .nil rfl rfl) ?_
    refine F.ef0 rfl rfl (wanted_none rfl) (d_storeG0 (i := 0) (cs2 := [.int .i64 0, .slice none 0 0, .slice none 0 0, .slice none 0 0, .int .i64 0]) ti33 rfl rfl rfl rfl rfl (Nat.le_of_ble_eq_true rfl) (lf_cons rfl (lf_cons rfl (lf_cons rfl (lf_cons rfl (lf_cons rfl lf_nil)))))) ?_
    rintro _ _ ⟨rfl, rfl⟩
    refine F.q rfl rfl rfl (wanted_none rfl) (r_assign rfl) ?_
    refine F.q rfl rfl rfl (wanted_none rfl) (r_assign rfl) ?_
    refine F.nil ?_
    refine Nrm.seq ?_
    refine Tri.ret ?_
    refine Rtn.then ?_
    cases h
    exact Rtn.body (.cell rfl ta33 ti33 rfl (fun _ hw => box_cells (i := 0) rfl _ hw) (.tmp rfl (.tmp rfl .nil))) (fun w hw => ⟨_, _, rfl, ⟨.slice none 0 0, fun _ => False, .slice none 0 0, fun _ => False, .slice none 0 0, fun _ => False, rfl, len_nil, len_nil, len_nil, rfl⟩, Sep.pick (is := [0, 1, 2]) rfl rfl hw.pushNil.pushNil.pushNil⟩)
  · replace h := if_ff g_1 h
    refine Tri.skip ?_
    refine Nrm.seq ?_
    refine Tri.seq ?_
    obtain ⟨⟨t16_1, t16_2, t16_3, t16_4, t16_5⟩, h16, h⟩ := bind_some h
    refine Tri.reg (l := [0, 1, 2, 3]) rfl ?_
    refine F.q rfl rfl rfl (wanted_none rfl) (r_loadA ta33 ti33 rfl rfl (fun w hw => (box_cells (i := 1) rfl w hw))) ?_
    refine F.m rfl rfl rfl (wanted_none rfl) (m_callF (xs := _) rfl ok18 rfl rfl (fun w hw => spec_l12Own.ok h16 w ((fun _ hw => hr_a0_1.sep hw) w hw) ((fun _ hw => hr_a0_2.sep hw) w hw) ((fun _ hw => hr_a0_3.sep hw) w hw))) ?_
    rintro _ _ ⟨_, ⟨v16_1, S16_1, v16_2, S16_2, v16_3, S16_3, rfl, hl_v16_1, hl_v16_2, hl_v16_3, rfl⟩, rfl⟩
    refine F.m rfl rfl rfl (wanted_none rfl) (m_alloc ti33) ?_
    rintro _ _ ⟨b7_1, rfl, rfl⟩
    refine F.ef0 rfl rfl (wanted_none rfl) (d_storeG0 (i := 0) (cs2 := [.int .i64 t16_1, v16_1, v16_2, v16_3, .int .i64 t16_5]) ti33 rfl rfl rfl rfl rfl (Nat.le_of_ble_eq_true rfl) (lf_cons rfl (lf_cons (sl_leaf hl_v16_1) (lf_cons (sl_leaf hl_v16_2) (lf_cons (sl_leaf hl_v16_3) (lf_cons rfl lf_nil)))))) ?_
    rintro _ _ ⟨rfl, rfl⟩
    refine F.nil ?_
    refine Nrm.seq ?_
    refine Tri.seq ?_
    refine Tri.seq ?_
    refine Tri.reg (l := [0]) rfl ?_
    refine F.q rfl rfl rfl (wanted_none rfl) (r_assign rfl) ?_
    refine F.nil ?_
    refine Nrm.seq ?_
    obtain ⟨s0, hE_1, h⟩ := bind_some h
    refine Tri.block ?_
    refine Tri.only [1, 4, 7, 8] rfl ?_
    refine Tri.pick [0, 4, 1, 2, 3] rfl rfl ?_
    refine Tri.rounds (fun n e' C' => ∃ (x8' : Int) (xb7_1_0' : Int) (xq7_1_1' : List (Int × Int × Int)) (xq7_1_2' : List (Int)) (xq7_1_3' : List (Int)) (xb7_1_4' : Int) (wq7_1_1 : Value) (Tq7_1_1 : Nat → Prop) (wq7_1_2 : Value) (Tq7_1_2 : Nat → Prop) (wq7_1_3 : Value) (Tq7_1_3 : Nat → Prop), spec_DoDeeds.l0 k a1 n x8' xb7_1_0' xq7_1_1' xq7_1_2' xq7_1_3' xb7_1_4' = some s0 ∧ SlLen wq7_1_1 (xq7_1_1').length ∧ SlLen wq7_1_2 (xq7_1_2').length ∧ SlLen wq7_1_3 (xq7_1_3').length ∧ e' = [(1, va1), (4, .pointer (some ⟨b4_1, 0, none⟩)), (7, .pointer (some ⟨b7_1, 0, none⟩)), (8, .int .i64 x8')] ∧ C' = Sep w noM [R.box b7_1 33 [.int .i64 xb7_1_0', wq7_1_1, wq7_1_2, wq7_1_3, .int .i64 xb7_1_4'], R.box b4_1 33 [.int .i64 0, .slice none 0 0, .slice none 0 0, .slice none 0 0, .int .i64 0], R.sl Tq7_1_1 wq7_1_1 (xq7_1_1' : List (Int × Int × Int)), R.sl Tq7_1_2 wq7_1_2 (xq7_1_2' : List (Int)), R.sl Tq7_1_3 wq7_1_3 (xq7_1_3' : List (Int))]) k ?_ ?_ ?_
    · exact ⟨0, t16_1, t16_2, t16_3, t16_4, t16_5, v16_1, S16_1, v16_2, S16_2, v16_3, S16_3, hE_1, hl_v16_1, hl_v16_2, hl_v16_3, rfl, rfl⟩
    · rintro _ _ ⟨_, _, _, _, _, _, _, _, _, _, _, _, hE_1, _⟩
      rw [spec_DoDeeds.l0.eq_1] at hE_1; cases hE_1
    · rintro n_1 _ _ ⟨x8, xb7_1_0, xq7_1_1, xq7_1_2, xq7_1_3, xb7_1_4, wq7_1_1, Tq7_1_1, wq7_1_2, Tq7_1_2, wq7_1_3, Tq7_1_3, hE_1, hl_wq7_1_1, hl_wq7_1_2, hl_wq7_1_3, rfl, rfl⟩ ih_1
      rw [spec_DoDeeds.l0.eq_2] at hE_1
      refine Tri.seq ?_
      refine Tri.seq ?_
      refine Tri.reg (l := [0, 1, 2, 3]) rfl ?_
      refine F.q rfl rfl rfl (wanted_none rfl) (r_move rfl) ?_
      refine F.q rfl rfl rfl (wanted_none rfl) (r_move rfl) ?_
      refine F.q rfl rfl rfl (wanted_none rfl) (r_len Tryz.underlying37 rfl hl_va1) ?_
      refine F.q rfl rfl rfl (wanted_none rfl) (r_lss rfl rfl) ?_
      refine F.nil ?_
      refine Nrm.seq ?_
      refine Tri.cond (b := decide (x8 < (a1.length : Int))) rfl (fun g_2 => ?_) (fun g_2 => ?_)
      · replace hE_1 := if_tt g_2 hE_1
        refine Tri.skip ?_
        refine Nrm.seq ?_
        refine Tri.seq ?_
        refine Tri.block ?_
        refine Tri.seq ?_
        obtain ⟨⟨y10, yb9_2_0, yb9_2_1, yb9_2_2, yb9_2_3, yb9_2_4⟩, hE_2, hE_1⟩ := bind_some hE_1
        refine Tri.cut (fun e' C' => ∃ (vb9_2_1_1 : Value) (Sb9_2_1_1 : Nat → Prop) (vb9_2_2_1 : Value) (Sb9_2_2_1 : Nat → Prop) (vb9_2_3_1 : Value) (Sb9_2_3_1 : Nat → Prop) (b9_2 : Nat), SlLen vb9_2_1_1 (yb9_2_1).length ∧ SlLen vb9_2_2_1 (yb9_2_2).length ∧ SlLen vb9_2_3_1 (yb9_2_3).length ∧ e' = [(1, va1), (4, .pointer (some ⟨b4_1, 0, none⟩)), (7, .pointer (some ⟨b7_1, 0, none⟩)), (8, .int .i64 x8), (9, .pointer (some ⟨b9_2, 0, none⟩)), (10, .bool y10)] ∧ C' = Sep w noM [R.box b7_1 33 [.int .i64 xb7_1_0, wq7_1_1, wq7_1_2, wq7_1_3, .int .i64 xb7_1_4], R.box b4_1 33 [.int .i64 0, .slice none 0 0, .slice none 0 0, .slice none 0 0, .int .i64 0], R.box b9_2 33 [.int .i64 yb9_2_0, vb9_2_1_1, vb9_2_2_1, vb9_2_3_1, .int .i64 yb9_2_4], R.sl Sb9_2_1_1 vb9_2_1_1 (yb9_2_1 : List (Int × Int × Int)), R.sl Sb9_2_2_1 vb9_2_2_1 (yb9_2_2 : List (Int)), R.sl Sb9_2_3_1 vb9_2_3_1 (yb9_2_3 : List (Int)), R.sl Tq7_1_1 wq7_1_1 (xq7_1_1 : List (Int × Int × Int)), R.sl Tq7_1_2 wq7_1_2 (xq7_1_2 : List (Int)), R.sl Tq7_1_3 wq7_1_3 (xq7_1_3 : List (Int))]) ?_ (fun hj_1 => ?_)
        · rintro _ _ ⟨vb9_2_1_1, Sb9_2_1_1, vb9_2_2_1, Sb9_2_2_1, vb9_2_3_1, Sb9_2_3_1, b9_2, hl_vb9_2_1_1, hl_vb9_2_2_1, hl_vb9_2_3_1, rfl, rfl⟩
          refine Nrm.seq ?_
          refine Tri.seq ?_
          refine Tri.seq ?_
          refine Tri.reg (l := [0, 1]) rfl ?_
          refine F.q rfl rfl rfl (wanted_none rfl) (r_move rfl) ?_
          refine F.q rfl rfl rfl (wanted_none rfl) (r_not rfl) ?_
          refine F.nil ?_
          refine Nrm.seq ?_
          refine Tri.cond (b := !y10) rfl (fun g_3 => ?_) (fun g_3 => ?_)
          · replace hE_1 := if_tt g_3 hE_1
            refine Tri.seq ?_
            refine Tri.reg (l := [0, 1, 2, 3, 4]) rfl ?_
            refine F.q rfl rfl rfl (wanted_none rfl) (r_loadA ta33 ti33 rfl rfl (fun w hw => (box_cells (i := 0) rfl w hw))) ?_
            refine F.q rfl rfl rfl (wanted_none rfl) (r_move rfl) ?_
            refine F.ef0 rfl rfl (wanted_none rfl) (d_storeG0 (i := 1) (cs2 := [.int .i64 xb7_1_0, wq7_1_1, wq7_1_2, wq7_1_3, .int .i64 xb7_1_4]) ti33 rfl rfl rfl rfl rfl (Nat.le_of_ble_eq_true rfl) (lf_cons rfl (lf_cons (sl_leaf hl_wq7_1_1) (lf_cons (sl_leaf hl_wq7_1_2) (lf_cons (sl_leaf hl_wq7_1_3) (lf_cons rfl lf_nil)))))) ?_
            rintro _ _ ⟨rfl, rfl⟩
            refine F.q rfl rfl rfl (wanted_none rfl) (r_assign rfl) ?_
            refine F.q rfl rfl rfl (wanted_none rfl) (r_assign rfl) ?_
            refine F.nil ?_
            refine Nrm.seq ?_
            refine Tri.ret ?_
            refine Rtn.then ?_
            refine Rtn.block ?_
            refine Rtn.then ?_
            refine Rtn.then ?_
            refine Rtn.block ?_
            refine Rtn.then ?_
            cases hE_1
            replace h := Lr_inr h
            cases h
            exact Rtn.body (.cell rfl ta33 ti33 rfl (fun _ hw => box_cells (i := 1) rfl _ hw) (.tmp rfl (.tmp rfl .nil))) (fun w hw => ⟨_, _, rfl, ⟨wq7_1_1, Tq7_1_1, wq7_1_2, Tq7_1_2, wq7_1_3, Tq7_1_3, rfl, hl_wq7_1_1, hl_wq7_1_2, hl_wq7_1_3, rfl⟩, Sep.pick (is := [6, 7, 8]) rfl rfl hw⟩)
          · replace hE_1 := if_ff g_3 hE_1
            refine Tri.skip ?_
            refine Nrm.seq ?_
            refine Tri.reg (l := [0, 1]) rfl ?_
            refine F.q rfl rfl rfl (wanted_none rfl) (r_loadA ta33 ti33 rfl rfl (fun w hw => (box_cells (i := 2) rfl w hw))) ?_
            refine F.ef0 rfl rfl (wanted_none rfl) (d_storeG0 (i := 0) (cs2 := [.int .i64 yb9_2_0, vb9_2_1_1, vb9_2_2_1, vb9_2_3_1, .int .i64 yb9_2_4]) ti33 rfl rfl rfl rfl rfl (Nat.le_of_ble_eq_true rfl) (lf_cons rfl (lf_cons (sl_leaf hl_vb9_2_1_1) (lf_cons (sl_leaf hl_vb9_2_2_1) (lf_cons (sl_leaf hl_vb9_2_3_1) (lf_cons rfl lf_nil)))))) ?_
            rintro _ _ ⟨rfl, rfl⟩
            refine F.nil ?_
            refine Nrm.block ?_
            refine Nrm.seq ?_
            refine Tri.reg (l := [0, 1, 2]) rfl ?_
            refine F.q rfl rfl rfl (wanted_none rfl) (r_move rfl) ?_
            refine F.q rfl rfl rfl (wanted_none rfl) (r_add rfl rfl) ?_
            refine F.q rfl rfl rfl (wanted_none rfl) (r_assign rfl) ?_
            refine F.nil ?_
            refine Nrm.round ?_
            refine Rnd.only [1, 4, 7, 8] rfl ?_
            refine Rnd.pick [0, 1, 3, 4, 5] rfl rfl ?_
            exact ih_1 _ _ ⟨w64 (x8 + 1), yb9_2_0, yb9_2_1, yb9_2_2, yb9_2_3, yb9_2_4, vb9_2_1_1, Sb9_2_1_1, vb9_2_2_1, Sb9_2_2_1, vb9_2_3_1, Sb9_2_3_1, hE_1, hl_vb9_2_1_1, hl_vb9_2_2_1, hl_vb9_2_3_1, rfl, rfl⟩
        · obtain ⟨t27, h27, hE_2⟩ := bind_some hE_2
          obtain ⟨⟨t29_1, t29_2, t29_3, t29_4, t29_5, t29_6⟩, h29, hE_2⟩ := bind_some hE_2
          refine Tri.drawT mixedT Sep.up [0, 1, 2, 3, 4, 5, 6, 7, 8, 9, 10] [11] (.q 0 (.q 1 (.q 2 (.q 3 (.q 4 (.alt 5 (.alt 6 (.alt 7 (.alt 8 (.alt 9 (.alt 10 .nil .stop) .stop) (.alt 9 (.alt 8 (.alt 10 .nil .stop) (.alt 10 (.alt 8 .nil .stop) .stop)) .stop)) (.alt 8 (.alt 7 (.alt 9 (.alt 10 .nil .stop) .stop) (.alt 9 (.alt 7 (.alt 10 .nil .stop) .stop) .stop)) (.alt 9 (.alt 7 (.alt 8 (.alt 10 .nil .stop) (.alt 10 (.alt 8 .nil .stop) .stop)) (.alt 8 (.alt 7 (.alt 10 .nil .stop) .stop) .stop)) .stop))) (.alt 9 (.alt 6 (.alt 7 (.alt 8 (.alt 10 .nil .stop) (.alt 10 (.alt 8 .nil .stop) .stop)) (.alt 8 (.alt 7 (.alt 10 .nil .stop) .stop) .stop)) .stop) .stop)) (.alt 9 (.alt 5 (.alt 6 (.alt 7 (.alt 8 (.alt 10 .nil .stop) (.alt 10 (.alt 8 .nil .stop) .stop)) (.alt 8 (.alt 7 (.alt 10 .nil .stop) .stop) .stop)) .stop) .stop) .stop))))))) (by kernel_rfl) ?_
          refine T.q rfl rfl rfl (wanted_none rfl) (r_loadA ta33 ti33 rfl rfl (fun w hw => (box_cells (i := 0) rfl w hw))) ?_
          refine T.q rfl rfl rfl (wanted_none rfl) (r_move rfl) ?_
          refine T.q rfl rfl rfl (wanted_none rfl) (r_move rfl) ?_
          refine T.q rfl rfl rfl (wanted_none rfl) (r_indexAddrS Tryz.underlying37 ti51 rfl hl_va1 rfl (rdl_some h27).1 (rdl_some h27).2.1) ?_
          refine T.q rfl rfl rfl (wanted_none rfl) (r_loadA ta51 ti51 rfl rfl (fun w hw => (Rd.flat ((fun _ hw => hr_a1.sep hw) w hw) (rdl_some h27).2.2))) ?_
          refine T.ef rfl rfl rfl (wanted_none rfl) (Makes.does (m_callF (xs := _) rfl ok19 rfl rfl (fun w hw => spec_l12Do.ok h29 w ((rd_sl (i := 2) rfl) w hw) ((rd_sl (i := 3) rfl) w hw) ((rd_sl (i := 4) rfl) w hw)))) (by rintro _ _ ⟨_, ⟨v29_4, S29_4, v29_5, S29_5, v29_6, S29_6, rfl, hl_v29_4, hl_v29_5, hl_v29_6, rfl⟩, rfl⟩; exact upd rfl [3, 4, 5, 6, 7] rfl rfl) ?_ ?_
          · rintro _ _ ⟨_, ⟨v29_4, S29_4, v29_5, S29_5, v29_6, S29_6, rfl, hl_v29_4, hl_v29_5, hl_v29_6, rfl⟩, rfl⟩
            refine T.ef rfl rfl rfl (wanted_none rfl) (Runs.does (r_move rfl)) (by rintro _ _ ⟨rfl, rfl⟩; exact upd rfl [3, 4, 5, 6, 7] rfl rfl) ?_ ?_
            · rintro _ _ ⟨rfl, rfl⟩
              refine T.ef rfl rfl rfl (wanted_none rfl) (Runs.does (r_extract rfl rfl)) (by rintro _ _ ⟨rfl, rfl⟩; exact upd rfl [3, 4, 5, 6, 7] rfl rfl) ?_ ?_
              · rintro _ _ ⟨rfl, rfl⟩
                refine T.ef rfl rfl rfl (wanted_none rfl) (Runs.does (r_extract rfl rfl)) (by rintro _ _ ⟨rfl, rfl⟩; exact upd rfl [3, 4, 5, 6, 7] rfl rfl) ?_ ?_
                · rintro _ _ ⟨rfl, rfl⟩
                  refine T.ef rfl rfl rfl (wanted_none rfl) (Makes.does (m_alloc ti33)) (by rintro _ _ ⟨b9_3, rfl, rfl⟩; exact upd rfl [4, 5, 6, 7, 8] rfl rfl) ?_ ?_
                  · rintro _ _ ⟨b9_3, rfl, rfl⟩
                    refine T.ef0 rfl rfl (wanted_none rfl) (d_storeG0 (i := 0) (cs2 := [.int .i64 t29_1, v29_4, v29_5, v29_6, .int .i64 t29_5]) ti33 rfl rfl rfl rfl rfl (Nat.le_of_ble_eq_true rfl) (lf_cons rfl (lf_cons (sl_leaf hl_v29_4) (lf_cons (sl_leaf hl_v29_5) (lf_cons (sl_leaf hl_v29_6) (lf_cons rfl lf_nil)))))) (by rintro _ _ ⟨rfl, rfl⟩; exact upd rfl [4, 5, 6, 7, 8] rfl rfl) ?_ ?_
                    · rintro _ _ ⟨rfl, rfl⟩
                      refine T.nil ?_
                      refine F.q rfl rfl rfl (wanted_none rfl) (r_assign rfl) ?_
                      refine F.nil ?_
                      cases hE_2
                      refine Nrm.only [1, 4, 7, 8, 9, 10] rfl ?_
                      refine Nrm.pick [4, 5, 0, 1, 2, 3, 6, 7, 8] rfl rfl ?_
                      exact hj_1 _ _ ⟨v29_4, S29_4, v29_5, S29_5, v29_6, S29_6, b9_3, hl_v29_4, hl_v29_5, hl_v29_6, rfl, rfl⟩
                    exact T.stop
                  exact T.stop
                · refine T.ef rfl rfl rfl (wanted_none rfl) (Makes.does (m_alloc ti33)) (by rintro _ _ ⟨b9_4, rfl, rfl⟩; exact upd rfl [4, 5, 6, 7, 8] rfl rfl) ?_ ?_
                  · rintro _ _ ⟨b9_4, rfl, rfl⟩
                    refine T.ef rfl rfl rfl (wanted_none rfl) (Runs.does (r_extract rfl rfl)) (by rintro _ _ ⟨rfl, rfl⟩; exact upd rfl [4, 5, 6, 7, 8] rfl rfl) ?_ ?_
                    · rintro _ _ ⟨rfl, rfl⟩
                      refine T.ef0 rfl rfl (wanted_none rfl) (d_storeG0 (i := 0) (cs2 := [.int .i64 t29_1, v29_4, v29_5, v29_6, .int .i64 t29_5]) ti33 rfl rfl rfl rfl rfl (Nat.le_of_ble_eq_true rfl) (lf_cons rfl (lf_cons (sl_leaf hl_v29_4) (lf_cons (sl_leaf hl_v29_5) (lf_cons (sl_leaf hl_v29_6) (lf_cons rfl lf_nil)))))) (by rintro _ _ ⟨rfl, rfl⟩; exact upd rfl [4, 5, 6, 7, 8] rfl rfl) ?_ ?_
                      · rintro _ _ ⟨rfl, rfl⟩
                        refine T.nil ?_
                        refine F.q rfl rfl rfl (wanted_none rfl) (r_assign rfl) ?_
                        refine F.nil ?_
                        cases hE_2
                        refine Nrm.only [1, 4, 7, 8, 9, 10] rfl ?_
                        refine Nrm.pick [4, 5, 0, 1, 2, 3, 6, 7, 8] rfl rfl ?_
                        exact hj_1 _ _ ⟨v29_4, S29_4, v29_5, S29_5, v29_6, S29_6, b9_4, hl_v29_4, hl_v29_5, hl_v29_6, rfl, rfl⟩
                      exact T.stop
                    · refine T.ef0 rfl rfl (wanted_none rfl) (d_storeG0 (i := 0) (cs2 := [.int .i64 t29_1, v29_4, v29_5, v29_6, .int .i64 t29_5]) ti33 rfl rfl rfl rfl rfl (Nat.le_of_ble_eq_true rfl) (lf_cons rfl (lf_cons (sl_leaf hl_v29_4) (lf_cons (sl_leaf hl_v29_5) (lf_cons (sl_leaf hl_v29_6) (lf_cons rfl lf_nil)))))) (by rintro _ _ ⟨rfl, rfl⟩; exact upd rfl [4, 5, 6, 7, 8] rfl rfl) ?_ ?_
                      · rintro _ _ ⟨rfl, rfl⟩
                        refine T.ef rfl rfl rfl (wanted_none rfl) (Runs.does (r_extract rfl rfl)) (by rintro _ _ ⟨rfl, rfl⟩; exact upd rfl [4, 5, 6, 7, 8] rfl rfl) ?_ ?_
                        · rintro _ _ ⟨rfl, rfl⟩
                          refine T.nil ?_
                          refine F.q rfl rfl rfl (wanted_none rfl) (r_assign rfl) ?_
                          refine F.nil ?_
                          cases hE_2
                          refine Nrm.only [1, 4, 7, 8, 9, 10] rfl ?_
                          refine Nrm.pick [4, 5, 0, 1, 2, 3, 6, 7, 8] rfl rfl ?_
                          exact hj_1 _ _ ⟨v29_4, S29_4, v29_5, S29_5, v29_6, S29_6, b9_4, hl_v29_4, hl_v29_5, hl_v29_6, rfl, rfl⟩
                        exact T.stop
                      exact T.stop
                  exact T.stop
              · refine T.ef rfl rfl rfl (wanted_none rfl) (Runs.does (r_extract rfl rfl)) (by rintro _ _ ⟨rfl, rfl⟩; exact upd rfl [3, 4, 5, 6, 7] rfl rfl) ?_ ?_
                · rintro _ _ ⟨rfl, rfl⟩
                  refine T.ef rfl rfl rfl (wanted_none rfl) (Runs.does (r_extract rfl rfl)) (by rintro _ _ ⟨rfl, rfl⟩; exact upd rfl [3, 4, 5, 6, 7] rfl rfl) ?_ ?_
                  · rintro _ _ ⟨rfl, rfl⟩
                    refine T.ef rfl rfl rfl (wanted_none rfl) (Makes.does (m_alloc ti33)) (by rintro _ _ ⟨b9_5, rfl, rfl⟩; exact upd rfl [4, 5, 6, 7, 8] rfl rfl) ?_ ?_
                    · rintro _ _ ⟨b9_5, rfl, rfl⟩
                      refine T.ef0 rfl rfl (wanted_none rfl) (d_storeG0 (i := 0) (cs2 := [.int .i64 t29_1, v29_4, v29_5, v29_6, .int .i64 t29_5]) ti33 rfl rfl rfl rfl rfl (Nat.le_of_ble_eq_true rfl) (lf_cons rfl (lf_cons (sl_leaf hl_v29_4) (lf_cons (sl_leaf hl_v29_5) (lf_cons (sl_leaf hl_v29_6) (lf_cons rfl lf_nil)))))) (by rintro _ _ ⟨rfl, rfl⟩; exact upd rfl [4, 5, 6, 7, 8] rfl rfl) ?_ ?_
                      · rintro _ _ ⟨rfl, rfl⟩
                        refine T.nil ?_
                        refine F.q rfl rfl rfl (wanted_none rfl) (r_assign rfl) ?_
                        refine F.nil ?_
                        cases hE_2
                        refine Nrm.only [1, 4, 7, 8, 9, 10] rfl ?_
                        refine Nrm.pick [4, 5, 0, 1, 2, 3, 6, 7, 8] rfl rfl ?_
                        exact hj_1 _ _ ⟨v29_4, S29_4, v29_5, S29_5, v29_6, S29_6, b9_5, hl_v29_4, hl_v29_5, hl_v29_6, rfl, rfl⟩
                      exact T.stop
                    exact T.stop
                  · refine T.ef rfl rfl rfl (wanted_none rfl) (Makes.does (m_alloc ti33)) (by rintro _ _ ⟨b9_6, rfl, rfl⟩; exact upd rfl [4, 5, 6, 7, 8] rfl rfl) ?_ ?_
                    · rintro _ _ ⟨b9_6, rfl, rfl⟩
                      refine T.ef rfl rfl rfl (wanted_none rfl) (Runs.does (r_extract rfl rfl)) (by rintro _ _ ⟨rfl, rfl⟩; exact upd rfl [4, 5, 6, 7, 8] rfl rfl) ?_ ?_
                      · rintro _ _ ⟨rfl, rfl⟩
                        refine T.ef0 rfl rfl (wanted_none rfl) (d_storeG0 (i := 0) (cs2 := [.int .i64 t29_1, v29_4, v29_5, v29_6, .int .i64 t29_5]) ti33 rfl rfl rfl rfl rfl (Nat.le_of_ble_eq_true rfl) (lf_cons rfl (lf_cons (sl_leaf hl_v29_4) (lf_cons (sl_leaf hl_v29_5) (lf_cons (sl_leaf hl_v29_6) (lf_cons rfl lf_nil)))))) (by rintro _ _ ⟨rfl, rfl⟩; exact upd rfl [4, 5, 6, 7, 8] rfl rfl) ?_ ?_
                        · rintro _ _ ⟨rfl, rfl⟩
                          refine T.nil ?_
                          refine F.q rfl rfl rfl (wanted_none rfl) (r_assign rfl) ?_
                          refine F.nil ?_
                          cases hE_2
                          refine Nrm.only [1, 4, 7, 8, 9, 10] rfl ?_
                          refine Nrm.pick [4, 5, 0, 1, 2, 3, 6, 7, 8] rfl rfl ?_
                          exact hj_1 _ _ ⟨v29_4, S29_4, v29_5, S29_5, v29_6, S29_6, b9_6, hl_v29_4, hl_v29_5, hl_v29_6, rfl, rfl⟩
                        exact T.stop
                      exact T.stop
                    exact T.stop
                · refine T.ef rfl rfl rfl (wanted_none rfl) (Makes.does (m_alloc ti33)) (by rintro _ _ ⟨b9_7, rfl, rfl⟩; exact upd rfl [4, 5, 6, 7, 8] rfl rfl) ?_ ?_
                  · rintro _ _ ⟨b9_7, rfl, rfl⟩
                    refine T.ef rfl rfl rfl (wanted_none rfl) (Runs.does (r_extract rfl rfl)) (by rintro _ _ ⟨rfl, rfl⟩; exact upd rfl [4, 5, 6, 7, 8] rfl rfl) ?_ ?_
                    · rintro _ _ ⟨rfl, rfl⟩
                      refine T.ef rfl rfl rfl (wanted_none rfl) (Runs.does (r_extract rfl rfl)) (by rintro _ _ ⟨rfl, rfl⟩; exact upd rfl [4, 5, 6, 7, 8] rfl rfl) ?_ ?_
                      · rintro _ _ ⟨rfl, rfl⟩
                        refine T.ef0 rfl rfl (wanted_none rfl) (d_storeG0 (i := 0) (cs2 := [.int .i64 t29_1, v29_4, v29_5, v29_6, .int .i64 t29_5]) ti33 rfl rfl rfl rfl rfl (Nat.le_of_ble_eq_true rfl) (lf_cons rfl (lf_cons (sl_leaf hl_v29_4) (lf_cons (sl_leaf hl_v29_5) (lf_cons (sl_leaf hl_v29_6) (lf_cons rfl lf_nil)))))) (by rintro _ _ ⟨rfl, rfl⟩; exact upd rfl [4, 5, 6, 7, 8] rfl rfl) ?_ ?_
                        · rintro _ _ ⟨rfl, rfl⟩
                          refine T.nil ?_
                          refine F.q rfl rfl rfl (wanted_none rfl) (r_assign rfl) ?_
                          refine F.nil ?_
                          cases hE_2
                          refine Nrm.only [1, 4, 7, 8, 9, 10] rfl ?_
                          refine Nrm.pick [4, 5, 0, 1, 2, 3, 6, 7, 8] rfl rfl ?_
                          exact hj_1 _ _ ⟨v29_4, S29_4, v29_5, S29_5, v29_6, S29_6, b9_7, hl_v29_4, hl_v29_5, hl_v29_6, rfl, rfl⟩
                        exact T.stop
                      · refine T.ef0 rfl rfl (wanted_none rfl) (d_storeG0 (i := 0) (cs2 := [.int .i64 t29_1, v29_4, v29_5, v29_6, .int .i64 t29_5]) ti33 rfl rfl rfl rfl rfl (Nat.le_of_ble_eq_true rfl) (lf_cons rfl (lf_cons (sl_leaf hl_v29_4) (lf_cons (sl_leaf hl_v29_5) (lf_cons (sl_leaf hl_v29_6) (lf_cons rfl lf_nil)))))) (by rintro _ _ ⟨rfl, rfl⟩; exact upd rfl [4, 5, 6, 7, 8] rfl rfl) ?_ ?_
                        · rintro _ _ ⟨rfl, rfl⟩
                          refine T.ef rfl rfl rfl (wanted_none rfl) (Runs.does (r_extract rfl rfl)) (by rintro _ _ ⟨rfl, rfl⟩; exact upd rfl [4, 5, 6, 7, 8] rfl rfl) ?_ ?_
                          · rintro _ _ ⟨rfl, rfl⟩
                            refine T.nil ?_
                            refine F.q rfl rfl rfl (wanted_none rfl) (r_assign rfl) ?_
                            refine F.nil ?_
                            cases hE_2
                            refine Nrm.only [1, 4, 7, 8, 9, 10] rfl ?_
                            refine Nrm.pick [4, 5, 0, 1, 2, 3, 6, 7, 8] rfl rfl ?_
                            exact hj_1 _ _ ⟨v29_4, S29_4, v29_5, S29_5, v29_6, S29_6, b9_7, hl_v29_4, hl_v29_5, hl_v29_6, rfl, rfl⟩
                          exact T.stop
                        exact T.stop
                    · refine T.ef rfl rfl rfl (wanted_none rfl) (Runs.does (r_extract rfl rfl)) (by rintro _ _ ⟨rfl, rfl⟩; exact upd rfl [4, 5, 6, 7, 8] rfl rfl) ?_ ?_
                      · rintro _ _ ⟨rfl, rfl⟩
                        refine T.ef rfl rfl rfl (wanted_none rfl) (Runs.does (r_extract rfl rfl)) (by rintro _ _ ⟨rfl, rfl⟩; exact upd rfl [4, 5, 6, 7, 8] rfl rfl) ?_ ?_
                        · rintro _ _ ⟨rfl, rfl⟩
                          refine T.ef0 rfl rfl (wanted_none rfl) (d_storeG0 (i := 0) (cs2 := [.int .i64 t29_1, v29_4, v29_5, v29_6, .int .i64 t29_5]) ti33 rfl rfl rfl rfl rfl (Nat.le_of_ble_eq_true rfl) (lf_cons rfl (lf_cons (sl_leaf hl_v29_4) (lf_cons (sl_leaf hl_v29_5) (lf_cons (sl_leaf hl_v29_6) (lf_cons rfl lf_nil)))))) (by rintro _ _ ⟨rfl, rfl⟩; exact upd rfl [4, 5, 6, 7, 8] rfl rfl) ?_ ?_
                          · rintro _ _ ⟨rfl, rfl⟩
                            refine T.nil ?_
                            refine F.q rfl rfl rfl (wanted_none rfl) (r_assign rfl) ?_
                            refine F.nil ?_
                            cases hE_2
                            refine Nrm.only [1, 4, 7, 8, 9, 10] rfl ?_
                            refine Nrm.pick [4, 5, 0, 1, 2, 3, 6, 7, 8] rfl rfl ?_
                            exact hj_1 _ _ ⟨v29_4, S29_4, v29_5, S29_5, v29_6, S29_6, b9_7, hl_v29_4, hl_v29_5, hl_v29_6, rfl, rfl⟩
                          exact T.stop
                        exact T.stop
                      exact T.stop
                  exact T.stop
            · refine T.ef rfl rfl rfl (wanted_none rfl) (Makes.does (m_alloc ti33)) (by rintro _ _ ⟨b9_8, rfl, rfl⟩; exact upd rfl [4, 5, 6, 7, 8] rfl rfl) ?_ ?_
              · rintro _ _ ⟨b9_8, rfl, rfl⟩
                refine T.ef rfl rfl rfl (wanted_none rfl) (Runs.does (r_move rfl)) (by rintro _ _ ⟨rfl, rfl⟩; exact upd rfl [4, 5, 6, 7, 8] rfl rfl) ?_ ?_
                · rintro _ _ ⟨rfl, rfl⟩
                  refine T.ef rfl rfl rfl (wanted_none rfl) (Runs.does (r_extract rfl rfl)) (by rintro _ _ ⟨rfl, rfl⟩; exact upd rfl [4, 5, 6, 7, 8] rfl rfl) ?_ ?_
                  · rintro _ _ ⟨rfl, rfl⟩
                    refine T.ef rfl rfl rfl (wanted_none rfl) (Runs.does (r_extract rfl rfl)) (by rintro _ _ ⟨rfl, rfl⟩; exact upd rfl [4, 5, 6, 7, 8] rfl rfl) ?_ ?_
                    · rintro _ _ ⟨rfl, rfl⟩
                      refine T.ef0 rfl rfl (wanted_none rfl) (d_storeG0 (i := 0) (cs2 := [.int .i64 t29_1, v29_4, v29_5, v29_6, .int .i64 t29_5]) ti33 rfl rfl rfl rfl rfl (Nat.le_of_ble_eq_true rfl) (lf_cons rfl (lf_cons (sl_leaf hl_v29_4) (lf_cons (sl_leaf hl_v29_5) (lf_cons (sl_leaf hl_v29_6) (lf_cons rfl lf_nil)))))) (by rintro _ _ ⟨rfl, rfl⟩; exact upd rfl [4, 5, 6, 7, 8] rfl rfl) ?_ ?_
                      · rintro _ _ ⟨rfl, rfl⟩
                        refine T.nil ?_
                        refine F.q rfl rfl rfl (wanted_none rfl) (r_assign rfl) ?_
                        refine F.nil ?_
                        cases hE_2
                        refine Nrm.only [1, 4, 7, 8, 9, 10] rfl ?_
                        refine Nrm.pick [4, 5, 0, 1, 2, 3, 6, 7, 8] rfl rfl ?_
                        exact hj_1 _ _ ⟨v29_4, S29_4, v29_5, S29_5, v29_6, S29_6, b9_8, hl_v29_4, hl_v29_5, hl_v29_6, rfl, rfl⟩
                      exact T.stop
                    · refine T.ef0 rfl rfl (wanted_none rfl) (d_storeG0 (i := 0) (cs2 := [.int .i64 t29_1, v29_4, v29_5, v29_6, .int .i64 t29_5]) ti33 rfl rfl rfl rfl rfl (Nat.le_of_ble_eq_true rfl) (lf_cons rfl (lf_cons (sl_leaf hl_v29_4) (lf_cons (sl_leaf hl_v29_5) (lf_cons (sl_leaf hl_v29_6) (lf_cons rfl lf_nil)))))) (by rintro _ _ ⟨rfl, rfl⟩; exact upd rfl [4, 5, 6, 7, 8] rfl rfl) ?_ ?_
                      · rintro _ _ ⟨rfl, rfl⟩
                        refine T.ef rfl rfl rfl (wanted_none rfl) (Runs.does (r_extract rfl rfl)) (by rintro _ _ ⟨rfl, rfl⟩; exact upd rfl [4, 5, 6, 7, 8] rfl rfl) ?_ ?_
                        · rintro _ _ ⟨rfl, rfl⟩
                          refine T.nil ?_
                          refine F.q rfl rfl rfl (wanted_none rfl) (r_assign rfl) ?_
                          refine F.nil ?_
                          cases hE_2
                          refine Nrm.only [1, 4, 7, 8, 9, 10] rfl ?_
                          refine Nrm.pick [4, 5, 0, 1, 2, 3, 6, 7, 8] rfl rfl ?_
                          exact hj_1 _ _ ⟨v29_4, S29_4, v29_5, S29_5, v29_6, S29_6, b9_8, hl_v29_4, hl_v29_5, hl_v29_6, rfl, rfl⟩
                        exact T.stop
                      exact T.stop
                  · refine T.ef rfl rfl rfl (wanted_none rfl) (Runs.does (r_extract rfl rfl)) (by rintro _ _ ⟨rfl, rfl⟩; exact upd rfl [4, 5, 6, 7, 8] rfl rfl) ?_ ?_
                    · rintro _ _ ⟨rfl, rfl⟩
                      refine T.ef rfl rfl rfl (wanted_none rfl) (Runs.does (r_extract rfl rfl)) (by rintro _ _ ⟨rfl, rfl⟩; exact upd rfl [4, 5, 6, 7, 8] rfl rfl) ?_ ?_
                      · rintro _ _ ⟨rfl, rfl⟩
                        refine T.ef0 rfl rfl (wanted_none rfl) (d_storeG0 (i := 0) (cs2 := [.int .i64 t29_1, v29_4, v29_5, v29_6, .int .i64 t29_5]) ti33 rfl rfl rfl rfl rfl (Nat.le_of_ble_eq_true rfl) (lf_cons rfl (lf_cons (sl_leaf hl_v29_4) (lf_cons (sl_leaf hl_v29_5) (lf_cons (sl_leaf hl_v29_6) (lf_cons rfl lf_nil)))))) (by rintro _ _ ⟨rfl, rfl⟩; exact upd rfl [4, 5, 6, 7, 8] rfl rfl) ?_ ?_
                        · rintro _ _ ⟨rfl, rfl⟩
                          refine T.nil ?_
                          refine F.q rfl rfl rfl (wanted_none rfl) (r_assign rfl) ?_
                          refine F.nil ?_
                          cases hE_2
                          refine Nrm.only [1, 4, 7, 8, 9, 10] rfl ?_
                          refine Nrm.pick [4, 5, 0, 1, 2, 3, 6, 7, 8] rfl rfl ?_
                          exact hj_1 _ _ ⟨v29_4, S29_4, v29_5, S29_5, v29_6, S29_6, b9_8, hl_v29_4, hl_v29_5, hl_v29_6, rfl, rfl⟩
                        exact T.stop
                      exact T.stop
                    exact T.stop
                exact T.stop
              exact T.stop
          · refine T.ef rfl rfl rfl (wanted_none rfl) (Makes.does (m_alloc ti33)) (by rintro _ _ ⟨b9_9, rfl, rfl⟩; exact upd rfl [1, 2, 3, 4, 5] rfl rfl) ?_ ?_
            · rintro _ _ ⟨b9_9, rfl, rfl⟩
              refine T.ef rfl rfl rfl (wanted_none rfl) (Makes.does (m_callF (xs := _) rfl ok19 rfl rfl (fun w hw => spec_l12Do.ok h29 w ((rd_sl (i := 3) rfl) w hw) ((rd_sl (i := 4) rfl) w hw) ((rd_sl (i := 5) rfl) w hw)))) (by rintro _ _ ⟨_, ⟨v29_7, S29_7, v29_8, S29_8, v29_9, S29_9, rfl, hl_v29_7, hl_v29_8, hl_v29_9, rfl⟩, rfl⟩; exact upd rfl [4, 5, 6, 7, 8] rfl rfl) ?_ ?_
              · rintro _ _ ⟨_, ⟨v29_7, S29_7, v29_8, S29_8, v29_9, S29_9, rfl, hl_v29_7, hl_v29_8, hl_v29_9, rfl⟩, rfl⟩
                refine T.ef rfl rfl rfl (wanted_none rfl) (Runs.does (r_move rfl)) (by rintro _ _ ⟨rfl, rfl⟩; exact upd rfl [4, 5, 6, 7, 8] rfl rfl) ?_ ?_
                · rintro _ _ ⟨rfl, rfl⟩
                  refine T.ef rfl rfl rfl (wanted_none rfl) (Runs.does (r_extract rfl rfl)) (by rintro _ _ ⟨rfl, rfl⟩; exact upd rfl [4, 5, 6, 7, 8] rfl rfl) ?_ ?_
                  · rintro _ _ ⟨rfl, rfl⟩
                    refine T.ef rfl rfl rfl (wanted_none rfl) (Runs.does (r_extract rfl rfl)) (by rintro _ _ ⟨rfl, rfl⟩; exact upd rfl [4, 5, 6, 7, 8] rfl rfl) ?_ ?_
                    · rintro _ _ ⟨rfl, rfl⟩
                      refine T.ef0 rfl rfl (wanted_none rfl) (d_storeG0 (i := 3) (cs2 := [.int .i64 t29_1, v29_7, v29_8, v29_9, .int .i64 t29_5]) ti33 rfl rfl rfl rfl rfl (Nat.le_of_ble_eq_true rfl) (lf_cons rfl (lf_cons (sl_leaf hl_v29_7) (lf_cons (sl_leaf hl_v29_8) (lf_cons (sl_leaf hl_v29_9) (lf_cons rfl lf_nil)))))) (by rintro _ _ ⟨rfl, rfl⟩; exact upd rfl [4, 5, 6, 7, 8] rfl rfl) ?_ ?_
                      · rintro _ _ ⟨rfl, rfl⟩
                        refine T.nil ?_
                        refine F.q rfl rfl rfl (wanted_none rfl) (r_assign rfl) ?_
                        refine F.nil ?_
                        cases hE_2
                        refine Nrm.only [1, 4, 7, 8, 9, 10] rfl ?_
                        refine Nrm.pick [4, 5, 3, 0, 1, 2, 6, 7, 8] rfl rfl ?_
                        exact hj_1 _ _ ⟨v29_7, S29_7, v29_8, S29_8, v29_9, S29_9, b9_9, hl_v29_7, hl_v29_8, hl_v29_9, rfl, rfl⟩
                      exact T.stop
                    · refine T.ef0 rfl rfl (wanted_none rfl) (d_storeG0 (i := 3) (cs2 := [.int .i64 t29_1, v29_7, v29_8, v29_9, .int .i64 t29_5]) ti33 rfl rfl rfl rfl rfl (Nat.le_of_ble_eq_true rfl) (lf_cons rfl (lf_cons (sl_leaf hl_v29_7) (lf_cons (sl_leaf hl_v29_8) (lf_cons (sl_leaf hl_v29_9) (lf_cons rfl lf_nil)))))) (by rintro _ _ ⟨rfl, rfl⟩; exact upd rfl [4, 5, 6, 7, 8] rfl rfl) ?_ ?_
                      · rintro _ _ ⟨rfl, rfl⟩
                        refine T.ef rfl rfl rfl (wanted_none rfl) (Runs.does (r_extract rfl rfl)) (by rintro _ _ ⟨rfl, rfl⟩; exact upd rfl [4, 5, 6, 7, 8] rfl rfl) ?_ ?_
                        · rintro _ _ ⟨rfl, rfl⟩
                          refine T.nil ?_
                          refine F.q rfl rfl rfl (wanted_none rfl) (r_assign rfl) ?_
                          refine F.nil ?_
                          cases hE_2
                          refine Nrm.only [1, 4, 7, 8, 9, 10] rfl ?_
                          refine Nrm.pick [4, 5, 3, 0, 1, 2, 6, 7, 8] rfl rfl ?_
                          exact hj_1 _ _ ⟨v29_7, S29_7, v29_8, S29_8, v29_9, S29_9, b9_9, hl_v29_7, hl_v29_8, hl_v29_9, rfl, rfl⟩
                        exact T.stop
                      exact T.stop
                  · refine T.ef rfl rfl rfl (wanted_none rfl) (Runs.does (r_extract rfl rfl)) (by rintro _ _ ⟨rfl, rfl⟩; exact upd rfl [4, 5, 6, 7, 8] rfl rfl) ?_ ?_
                    · rintro _ _ ⟨rfl, rfl⟩
                      refine T.ef rfl rfl rfl (wanted_none rfl) (Runs.does (r_extract rfl rfl)) (by rintro _ _ ⟨rfl, rfl⟩; exact upd rfl [4, 5, 6, 7, 8] rfl rfl) ?_ ?_
                      · rintro _ _ ⟨rfl, rfl⟩
                        refine T.ef0 rfl rfl (wanted_none rfl) (d_storeG0 (i := 3) (cs2 := [.int .i64 t29_1, v29_7, v29_8, v29_9, .int .i64 t29_5]) ti33 rfl rfl rfl rfl rfl (Nat.le_of_ble_eq_true rfl) (lf_cons rfl (lf_cons (sl_leaf hl_v29_7) (lf_cons (sl_leaf hl_v29_8) (lf_cons (sl_leaf hl_v29_9) (lf_cons rfl lf_nil)))))) (by rintro _ _ ⟨rfl, rfl⟩; exact upd rfl [4, 5, 6, 7, 8] rfl rfl) ?_ ?_
                        · rintro _ _ ⟨rfl, rfl⟩
                          refine T.nil ?_
                          refine F.q rfl rfl rfl (wanted_none rfl) (r_assign rfl) ?_
                          refine F.nil ?_
                          cases hE_2
                          refine Nrm.only [1, 4, 7, 8, 9, 10] rfl ?_
                          refine Nrm.pick [4, 5, 3, 0, 1, 2, 6, 7, 8] rfl rfl ?_
                          exact hj_1 _ _ ⟨v29_7, S29_7, v29_8, S29_8, v29_9, S29_9, b9_9, hl_v29_7, hl_v29_8, hl_v29_9, rfl, rfl⟩
                        exact T.stop
                      exact T.stop
                    exact T.stop
                exact T.stop
              exact T.stop
            exact T.stop
      · replace hE_1 := if_ff g_2 hE_1
        refine Tri.exit ?_
        refine Exi.then ?_
        refine Exi.then ?_
        refine Exi.same ?_
        cases hE_1
        replace h := Lr_inl h
        refine Nrm.seq ?_
        refine Tri.seq ?_
        refine Tri.reg (l := [0, 1, 2, 3, 4, 5]) rfl ?_
        refine F.q rfl rfl rfl (wanted_none rfl) (r_loadA ta33 ti33 rfl rfl (fun w hw => (box_cells (i := 0) rfl w hw))) ?_
        refine F.q rfl rfl rfl (wanted_none rfl) (r_move rfl) ?_
        refine F.q rfl rfl rfl (wanted_none rfl) (r_len Tryz.underlying37 rfl hl_va1) ?_
        refine F.ef0 rfl rfl (wanted_none rfl) (d_storeG0 (i := 1) (cs2 := [.int .i64 xb7_1_0, wq7_1_1, wq7_1_2, wq7_1_3, .int .i64 xb7_1_4]) ti33 rfl rfl rfl rfl rfl (Nat.le_of_ble_eq_true rfl) (lf_cons rfl (lf_cons (sl_leaf hl_wq7_1_1) (lf_cons (sl_leaf hl_wq7_1_2) (lf_cons (sl_leaf hl_wq7_1_3) (lf_cons rfl lf_nil)))))) ?_
        rintro _ _ ⟨rfl, rfl⟩
        refine F.q rfl rfl rfl (wanted_none rfl) (r_assign rfl) ?_
        refine F.q rfl rfl rfl (wanted_none rfl) (r_assign rfl) ?_
        refine F.nil ?_
        refine Nrm.seq ?_
        refine Tri.ret ?_
        cases h
        exact Rtn.body (.cell rfl ta33 ti33 rfl (fun _ hw => box_cells (i := 1) rfl _ hw) (.tmp rfl (.tmp rfl .nil))) (fun w hw => ⟨_, _, rfl, ⟨wq7_1_1, Tq7_1_1, wq7_1_2, Tq7_1_2, wq7_1_3, Tq7_1_3, rfl, hl_wq7_1_1, hl_wq7_1_2, hl_wq7_1_3, rfl⟩, Sep.pick (is := [2, 3, 4]) rfl rfl hw⟩)

end Go.Proofs

/- loop.example/g01158/laws.toIntS -/

namespace Go.Proofs
open Go Go.Ga
set_option linter.unusedVariables false
set_option maxRecDepth 100000
set_option maxHeartbeats 4000000
def laws_toIntS.l0 (k : Nat) (a0 : List Int) : Nat → (List (Int)) → Int → Option ((List (Int)))
  | 0, _, _ => none
  | n + 1, x3, x4 => (if (decide (x4 < (a0.length : Int))) = true then (rdl a0 x4).bind fun t18 => (rdl x3 x4).bind fun t20 => laws_toIntS.l0 k a0 n (x3.set x4.toNat t18) (w64 (x4 + 1)) else some x3)

def laws_toIntS.f (k : Nat) (a0 : List Int) : Option ((List Int)) := if 0 ≤ (a0.length : Int) ∧ (a0.length : Int) < 1099511627776 then (laws_toIntS.l0 k a0 k (List.replicate ((a0.length : Int)).toNat (0 : Int)) 0).bind fun x3 => some x3 else none

theorem laws_toIntS.ok {k : Nat}  {a0 : List Int} {r0 : List Int} (h : laws_toIntS.f k a0 = some r0) (w : World) {va0 : Value} (hr_a0 : Rd w va0 a0) :
    Calls Tryz.prog 21 ([va0] : List Value).toArray w (Post (fun u ns => ∃ (Sr0 : Nat → Prop), SlLen u r0.length ∧ ns = [R.sl Sr0 u r0]) w) := by
  unfold laws_toIntS.f at h
  have hl_va0 := hr_a0.len
  refine Calls.of_tri (N := 22) Tryz.func21 rfl rfl rfl (Sep.nil (M := noM)) ?_
  refine Tri.seq ?_
  refine Tri.reg (l := [0]) rfl ?_
  refine F.q rfl rfl rfl (wanted_none rfl) (r_assign rfl) ?_
  refine F.nil ?_
  refine Nrm.seq ?_
  refine Tri.seq ?_
  obtain ⟨hm7, h⟩ := ck h
  refine Tri.reg (l := [0, 1, 2, 3]) rfl ?_
  refine F.q rfl rfl rfl (wanted_none rfl) (r_move rfl) ?_
  refine F.q rfl rfl rfl (wanted_none rfl) (r_len Tryz.underlying23 rfl hl_va0) ?_
  refine F.m rfl rfl rfl (wanted_none rfl) (m_make (x0 := (0 : Int)) Tryz.underlying23 ti3 rfl rfl rfl hm7.1 hm7.2 (by decide)) ?_
  rintro v7_1 _ ⟨S7_1, hl_v7_1, rfl⟩
  refine F.q rfl rfl rfl (wanted_none rfl) (r_assign rfl) ?_
  refine F.nil ?_
  refine Nrm.seq ?_
  refine Tri.seq ?_
  refine Tri.seq ?_
  refine Tri.reg (l := [0]) rfl ?_
  refine F.q rfl rfl rfl (wanted_none rfl) (r_assign rfl) ?_
  refine F.nil ?_
  refine Nrm.seq ?_
  obtain ⟨x3, hE_1, h⟩ := bind_some h
  refine Tri.block ?_
  refine Tri.only [0, 3, 4] rfl ?_
  refine Tri.pick [0] rfl rfl ?_
  refine Tri.rounds (fun n e' C' => ∃ (x3' : List (Int)) (x4' : Int), laws_toIntS.l0 k a0 n x3' x4' = some x3 ∧ SlLen v7_1 (x3').length ∧ e' = [(0, va0), (3, v7_1), (4, .int .i64 x4')] ∧ C' = Sep w noM [R.sl S7_1 v7_1 (x3' : List (Int))]) k ?_ ?_ ?_
  · exact ⟨List.replicate ((a0.length : Int)).toNat (0 : Int), 0, hE_1, hl_v7_1, rfl, rfl⟩
  · rintro _ _ ⟨_, _, hE_1, _⟩
    rw [laws_toIntS.l0.eq_1] at hE_1; cases hE_1
  · rintro n_1 _ _ ⟨x3, x4, hE_1, hl_x3, rfl, rfl⟩ ih_1
    rw [laws_toIntS.l0.eq_2] at hE_1
    refine Tri.seq ?_
    refine Tri.seq ?_
    refine Tri.reg (l := [0, 1, 2, 3]) rfl ?_
    refine F.q rfl rfl rfl (wanted_none rfl) (r_move rfl) ?_
    refine F.q rfl rfl rfl (wanted_none rfl) (r_move rfl) ?_
    refine F.q rfl rfl rfl (wanted_none rfl) (r_len Tryz.underlying23 rfl hl_va0) ?_
    refine F.q rfl rfl rfl (wanted_none rfl) (r_lss rfl rfl) ?_
    refine F.nil ?_
    refine Nrm.seq ?_
    refine Tri.cond (b := decide (x4 < (a0.length : Int))) rfl (fun g_1 => ?_) (fun g_1 => ?_)
    · replace hE_1 := if_tt g_1 hE_1
      refine Tri.skip ?_
      refine Nrm.seq ?_
      refine Tri.seq ?_
      refine Tri.block ?_
      obtain ⟨t18, h18, hE_1⟩ := bind_some hE_1
      obtain ⟨t20, h20, hE_1⟩ := bind_some hE_1
      refine Tri.reg (l := [0, 1, 2, 3, 4, 5, 6, 7]) rfl ?_
      refine F.q rfl rfl rfl (wanted_none rfl) (r_move rfl) ?_
      refine F.q rfl rfl rfl (wanted_none rfl) (r_move rfl) ?_
      refine F.q rfl rfl rfl (wanted_none rfl) (r_move rfl) ?_
      refine F.q rfl rfl rfl (wanted_none rfl) (r_move rfl) ?_
      refine F.q rfl rfl rfl (wanted_none rfl) (r_indexAddrS Tryz.underlying23 ti3 rfl hl_va0 rfl (rdl_some h18).1 (rdl_some h18).2.1) ?_
      refine F.q rfl rfl rfl (wanted_none rfl) (r_load ta3 rfl (fun w hw => cell_0 (Rd.flat ((fun _ hw => hr_a0.sep hw) w hw) (rdl_some h18).2.2) rfl)) ?_
      refine F.q rfl rfl rfl (wanted_none rfl) (r_indexAddrS Tryz.underlying23 ti3 rfl hl_x3 rfl (rdl_some h20).1 (rdl_some h20).2.1) ?_
      refine F.ef0 rfl rfl (wanted_none rfl) (d_storeE (i := 0) (x1 := t18) ti3 rfl rfl rfl (rdl_some h20) rfl) ?_
      rintro _ _ ⟨rfl, rfl⟩
      refine F.nil ?_
      refine Nrm.block ?_
      refine Nrm.seq ?_
      refine Tri.reg (l := [0, 1, 2]) rfl ?_
      refine F.q rfl rfl rfl (wanted_none rfl) (r_move rfl) ?_
      refine F.q rfl rfl rfl (wanted_none rfl) (r_add rfl rfl) ?_
      refine F.q rfl rfl rfl (wanted_none rfl) (r_assign rfl) ?_
      refine F.nil ?_
      refine Nrm.round ?_
      refine Rnd.only [0, 3, 4] rfl ?_
      refine Rnd.pick [0] rfl rfl ?_
      exact ih_1 _ _ ⟨x3.set x4.toNat t18, w64 (x4 + 1), hE_1, (len_set hl_x3), rfl, rfl⟩
    · replace hE_1 := if_ff g_1 hE_1
      refine Tri.exit ?_
      refine Exi.then ?_
      refine Exi.then ?_
      refine Exi.same ?_
      cases hE_1
      refine Nrm.seq ?_
      refine Tri.seq ?_
      refine Tri.reg (l := [0, 1]) rfl ?_
      refine F.q rfl rfl rfl (wanted_none rfl) (r_move rfl) ?_
      refine F.q rfl rfl rfl (wanted_none rfl) (r_assign rfl) ?_
      refine F.nil ?_
      refine Nrm.seq ?_
      refine Tri.ret ?_
      cases h
      exact Rtn.body (.tmp rfl .nil) (fun w hw => ⟨_, _, rfl, ⟨S7_1, hl_x3, rfl⟩, Sep.pick (is := [0]) rfl rfl hw⟩)

end Go.Proofs

/- loop.example/g01158/laws.toIntA3 -/

namespace Go.Proofs
open Go Go.Ga
set_option linter.unusedVariables false
set_option maxRecDepth 100000
set_option maxHeartbeats 4000000
def laws_toIntA3.l0 (k : Nat) (a0_0 : Int) (a0_1 : Int) (a0_2 : Int) : Nat → Int → Int → Int → Int → Option (Int × Int × Int)
  | 0, _, _, _, _ => none
  | n + 1, x4, xb3_1_0, xb3_1_1, xb3_1_2 => (if (decide (x4 < 3)) = true then (rdl [a0_0, a0_1, a0_2] x4).bind fun t11 => (rdl [xb3_1_0, xb3_1_1, xb3_1_2] x4).bind fun t13 => laws_toIntA3.l0 k a0_0 a0_1 a0_2 n (w64 (x4 + 1)) (if x4 = 0 then t11 else xb3_1_0) (if x4 = 1 then t11 else xb3_1_1) (if x4 = 2 then t11 else xb3_1_2) else some (xb3_1_0, xb3_1_1, xb3_1_2))

def laws_toIntA3.f (k : Nat) (a0_0 : Int) (a0_1 : Int) (a0_2 : Int) : Option (Int × Int × Int) := (laws_toIntA3.l0 k a0_0 a0_1 a0_2 k 0 0 0 0).bind fun (xb3_1_0, xb3_1_1, xb3_1_2) => some (xb3_1_0, xb3_1_1, xb3_1_2)

theorem laws_toIntA3.ok {k : Nat}  {a0_0 : Int} {a0_1 : Int} {a0_2 : Int} {r0 : Int} {r1 : Int} {r2 : Int} (h : laws_toIntA3.f k a0_0 a0_1 a0_2 = some (r0, r1, r2)) (w : World) :
    Calls Tryz.prog 58 ([.agg ([.int .i64 a0_0, .int .i64 a0_1, .int .i64 a0_2].toArray)] : List Value).toArray w (fun e w' => e = .returned (.agg [.int .i64 r0, .int .i64 r1, .int .i64 r2].toArray) ∧ Ext w w') := by
  unfold laws_toIntA3.f at h
  refine Calls.of_tri (N := 15) Tryz.func58 rfl rfl rfl (Sep.nil (M := noM)) ?_
  refine Tri.seq ?_
  refine Tri.reg (l := [0, 1]) rfl ?_
  refine F.m rfl rfl rfl (wanted_none rfl) (m_boxG rfl rfl) ?_
  rintro _ _ ⟨b1_1, rfl, rfl⟩
  refine F.m rfl rfl rfl (wanted_none rfl) (m_alloc ti72) ?_
  rintro _ _ ⟨b2_1, rfl, rfl⟩
  refine F.nil ?_
  refine Nrm.seq ?_
  refine Tri.seq ?_
  refine Tri.reg (l := [0]) rfl ?_
  refine F.m rfl rfl rfl (wanted_none rfl) (m_alloc ti72) ?_
  rintro _ _ ⟨b3_1, rfl, rfl⟩
  refine F.nil ?_
  refine Nrm.seq ?_
  refine Tri.seq ?_
  refine Tri.seq ?_
  refine Tri.reg (l := [0]) rfl ?_
  refine F.q rfl rfl rfl (wanted_none rfl) (r_assign rfl) ?_
  refine F.nil ?_
  refine Nrm.seq ?_
  obtain ⟨⟨xb3_1_0, xb3_1_1, xb3_1_2⟩, hE_1, h⟩ := bind_some h
  refine Tri.block ?_
  refine Tri.only [1, 2, 3, 4] rfl ?_
  refine Tri.pick [0, 1, 2] rfl rfl ?_
  refine Tri.rounds (fun n e' C' => ∃ (x4' : Int) (xb3_1_0' : Int) (xb3_1_1' : Int) (xb3_1_2' : Int), laws_toIntA3.l0 k a0_0 a0_1 a0_2 n x4' xb3_1_0' xb3_1_1' xb3_1_2' = some (xb3_1_0, xb3_1_1, xb3_1_2) ∧ e' = [(1, .pointer (some ⟨b1_1, 0, none⟩)), (2, .pointer (some ⟨b2_1, 0, none⟩)), (3, .pointer (some ⟨b3_1, 0, none⟩)), (4, .int .i64 x4')] ∧ C' = Sep w noM [R.box b3_1 72 [.int .i64 xb3_1_0', .int .i64 xb3_1_1', .int .i64 xb3_1_2'], R.box b2_1 72 [.int .i64 0, .int .i64 0, .int .i64 0], R.box b1_1 72 [.int .i64 a0_0, .int .i64 a0_1, .int .i64 a0_2]]) k ?_ ?_ ?_
  · exact ⟨0, 0, 0, 0, hE_1, rfl, rfl⟩
  · rintro _ _ ⟨_, _, _, _, hE_1, _⟩
    rw [laws_toIntA3.l0.eq_1] at hE_1; cases hE_1
  · rintro n_1 _ _ ⟨x4, xb3_1_0, xb3_1_1, xb3_1_2, hE_1, rfl, rfl⟩ ih_1
    rw [laws_toIntA3.l0.eq_2] at hE_1
    refine Tri.seq ?_
    refine Tri.seq ?_
    refine Tri.reg (l := [0, 1]) rfl ?_
    refine F.q rfl rfl rfl (wanted_none rfl) (r_move rfl) ?_
    refine F.q rfl rfl rfl (wanted_none rfl) (r_lss rfl rfl) ?_
    refine F.nil ?_
    refine Nrm.seq ?_
    refine Tri.cond (b := decide (x4 < 3)) rfl (fun g_1 => ?_) (fun g_1 => ?_)
    · replace hE_1 := if_tt g_1 hE_1
      refine Tri.skip ?_
      refine Nrm.seq ?_
      refine Tri.seq ?_
      refine Tri.block ?_
      obtain ⟨t11, h11, hE_1⟩ := bind_some hE_1
      obtain ⟨t13, h13, hE_1⟩ := bind_some hE_1
      refine Tri.reg (l := [0, 1, 2, 3, 4, 5]) rfl ?_
      refine F.q rfl rfl rfl (wanted_none rfl) (r_move rfl) ?_
      refine F.q rfl rfl rfl (wanted_none rfl) (r_move rfl) ?_
      refine F.q rfl rfl rfl (wanted_none rfl) (r_indexAddrA Tryz.underlying72 ti3 rfl rfl (rdl_some h11).1 (rdl_some h11).2.1) ?_
      refine F.q rfl rfl rfl (wanted_none rfl) (r_load ta3 rfl (fun w hw => cell_dynB (box_cells (i := 2) rfl w hw) rfl h11)) ?_
      refine F.q rfl rfl rfl (wanted_none rfl) (r_indexAddrA Tryz.underlying72 ti3 rfl rfl (rdl_some h13).1 (rdl_some h13).2.1) ?_
      refine F.ef0 rfl rfl (wanted_none rfl) (d_storeDyn (i := 0) (l := [xb3_1_0, xb3_1_1, xb3_1_2]) ti3 rfl rfl rfl h13 (set3 (rdl_some h13).1 (rdl_some h13).2.1)) ?_
      rintro _ _ ⟨rfl, rfl⟩
      refine F.nil ?_
      refine Nrm.block ?_
      refine Nrm.seq ?_
      refine Tri.reg (l := [0, 1, 2]) rfl ?_
      refine F.q rfl rfl rfl (wanted_none rfl) (r_move rfl) ?_
      refine F.q rfl rfl rfl (wanted_none rfl) (r_add rfl rfl) ?_
      refine F.q rfl rfl rfl (wanted_none rfl) (r_assign rfl) ?_
      refine F.nil ?_
      refine Nrm.round ?_
      refine Rnd.only [1, 2, 3, 4] rfl ?_
      refine Rnd.pick [0, 1, 2] rfl rfl ?_
      exact ih_1 _ _ ⟨w64 (x4 + 1), if x4 = 0 then t11 else xb3_1_0, if x4 = 1 then t11 else xb3_1_1, if x4 = 2 then t11 else xb3_1_2, hE_1, rfl, rfl⟩
    · replace hE_1 := if_ff g_1 hE_1
      refine Tri.exit ?_
      refine Exi.then ?_
      refine Exi.then ?_
      refine Exi.same ?_
      cases hE_1
      refine Nrm.seq ?_
      refine Tri.seq ?_
      refine Tri.reg (l := [0, 1]) rfl ?_
      refine F.q rfl rfl rfl (wanted_none rfl) (r_loadA ta72 ti72 rfl rfl (fun w hw => (box_cells (i := 0) rfl w hw))) ?_
      refine F.ef0 rfl rfl (wanted_none rfl) (d_storeG0 (i := 1) (cs2 := [.int .i64 xb3_1_0, .int .i64 xb3_1_1, .int .i64 xb3_1_2]) ti72 rfl rfl rfl rfl rfl (Nat.le_of_ble_eq_true rfl) (lf_cons rfl (lf_cons rfl (lf_cons rfl lf_nil)))) ?_
      rintro _ _ ⟨rfl, rfl⟩
      refine F.nil ?_
      refine Nrm.seq ?_
      refine Tri.ret ?_
      cases h
      exact Rtn.body (.cell rfl ta72 ti72 rfl (fun _ hw => box_cells (i := 1) rfl _ hw) .nil) (fun w hw => ⟨rfl, hw.ext⟩)

end Go.Proofs

/- loop.example/g01158/laws.toIntA3S -/
namespace Go.Proofs
open Go Go.Ga
set_option linter.unusedVariables false
set_option maxRecDepth 100000
set_option maxHeartbeats 4000000
def laws_toIntA3S.l0 (k : Nat) (a0 : List (Int × Int × Int)) : Nat → (List (Int × Int × Int)) → Int → Option ((List (Int × Int × Int)))
  | 0, _, _ => none
  | n + 1, x3, x4 => (if (decide (x4 < (a0.length : Int))) = true then (rdl a0 x4).bind fun t18 => (laws_toIntA3.f k t18.1 t18.2.1 t18.2.2).bind fun (t20_1, t20_2, t20_3) => (rdl x3 x4).bind fun t21 => laws_toIntA3S.l0 k a0 n (x3.set x4.toNat (t20_1, t20_2, t20_3)) (w64 (x4 + 1)) else some x3)

def laws_toIntA3S.f (k : Nat) (a0 : List (Int × Int × Int)) : Option ((List (Int × Int × Int))) := if 0 ≤ (a0.length : Int) ∧ (a0.length : Int) < 1099511627776 then (laws_toIntA3S.l0 k a0 k (List.replicate ((a0.length : Int)).toNat ((0, 0, 0) : Int × Int × Int)) 0).bind fun x3 => some x3 else none

theorem laws_toIntA3S.ok {k : Nat}  {a0 : List (Int × Int × Int)} {r0 : List (Int × Int × Int)} (h : laws_toIntA3S.f k a0 = some r0) (w : World) {va0 : Value} (hr_a0 : Rd w va0 a0) :
    Calls Tryz.prog 40 ([va0] : List Value).toArray w (Post (fun u ns => ∃ (Sr0 : Nat → Prop), SlLen u r0.length ∧ ns = [R.sl Sr0 u r0]) w) := by
  unfold laws_toIntA3S.f at h
  have hl_va0 := hr_a0.len
  refine Calls.of_tri (N := 23) Tryz.func40 rfl rfl rfl (Sep.nil (M := noM)) ?_
  refine Tri.seq ?_
  refine Tri.reg (l := [0]) rfl ?_
  refine F.q rfl rfl rfl (wanted_none rfl) (r_assign rfl) ?_
  refine F.nil ?_
  refine Nrm.seq ?_
  refine Tri.seq ?_
  obtain ⟨hm7, h⟩ := ck h
  refine Tri.reg (l := [0, 1, 2, 3]) rfl ?_
  refine F.q rfl rfl rfl (wanted_none rfl) (r_move rfl) ?_
  refine F.q rfl rfl rfl (wanted_none rfl) (r_len Tryz.underlying22 rfl hl_va0) ?_
  refine F.m rfl rfl rfl (wanted_none rfl) (m_make (x0 := ((0, 0, 0) : Int × Int × Int)) Tryz.underlying22 ti72 rfl rfl rfl hm7.1 hm7.2 (by decide)) ?_
  rintro v7_1 _ ⟨S7_1, hl_v7_1, rfl⟩
  refine F.q rfl rfl rfl (wanted_none rfl) (r_assign rfl) ?_
  refine F.nil ?_
  refine Nrm.seq ?_
  refine Tri.seq ?_
  refine Tri.seq ?_
  refine Tri.reg (l := [0]) rfl ?_
  refine F.q rfl rfl rfl (wanted_none rfl) (r_assign rfl) ?_
  refine F.nil ?_
  refine Nrm.seq ?_
  obtain ⟨x3, hE_1, h⟩ := bind_some h
  refine Tri.block ?_
  refine Tri.only [0, 3, 4] rfl ?_
  refine Tri.pick [0] rfl rfl ?_
  refine Tri.rounds (fun n e' C' => ∃ (x3' : List (Int × Int × Int)) (x4' : Int), laws_toIntA3S.l0 k a0 n x3' x4' = some x3 ∧ SlLen v7_1 (x3').length ∧ e' = [(0, va0), (3, v7_1), (4, .int .i64 x4')] ∧ C' = Sep w noM [R.sl S7_1 v7_1 (x3' : List (Int × Int × Int))]) k ?_ ?_ ?_
  · exact ⟨List.replicate ((a0.length : Int)).toNat ((0, 0, 0) : Int × Int × Int), 0, hE_1, hl_v7_1, rfl, rfl⟩
  · rintro _ _ ⟨_, _, hE_1, _⟩
    rw [laws_toIntA3S.l0.eq_1] at hE_1; cases hE_1
  · rintro n_1 _ _ ⟨x3, x4, hE_1, hl_x3, rfl, rfl⟩ ih_1
    rw [laws_toIntA3S.l0.eq_2] at hE_1
    refine Tri.seq ?_
    refine Tri.seq ?_
    refine Tri.reg (l := [0, 1, 2, 3]) rfl ?_
    refine F.q rfl rfl rfl (wanted_none rfl) (r_move rfl) ?_
    refine F.q rfl rfl rfl (wanted_none rfl) (r_move rfl) ?_
    refine F.q rfl rfl rfl (wanted_none rfl) (r_len Tryz.underlying22 rfl hl_va0) ?_
    refine F.q rfl rfl rfl (wanted_none rfl) (r_lss rfl rfl) ?_
    refine F.nil ?_
    refine Nrm.seq ?_
    refine Tri.cond (b := decide (x4 < (a0.length : Int))) rfl (fun g_1 => ?_) (fun g_1 => ?_)
    · replace hE_1 := if_tt g_1 hE_1
      refine Tri.skip ?_
      refine Nrm.seq ?_
      refine Tri.seq ?_
      refine Tri.block ?_
      obtain ⟨t18, h18, hE_1⟩ := bind_some hE_1
      obtain ⟨⟨t20_1, t20_2, t20_3⟩, h20, hE_1⟩ := bind_some hE_1
      obtain ⟨t21, h21, hE_1⟩ := bind_some hE_1
      refine Tri.reg (l := [0, 1, 2, 3, 4, 5, 6, 7, 8]) rfl ?_
      refine F.q rfl rfl rfl (wanted_none rfl) (r_move rfl) ?_
      refine F.q rfl rfl rfl (wanted_none rfl) (r_move rfl) ?_
      refine F.q rfl rfl rfl (wanted_none rfl) (r_move rfl) ?_
      refine F.q rfl rfl rfl (wanted_none rfl) (r_move rfl) ?_
      refine F.q rfl rfl rfl (wanted_none rfl) (r_indexAddrS Tryz.underlying22 ti72 rfl hl_va0 rfl (rdl_some h18).1 (rdl_some h18).2.1) ?_
      refine F.q rfl rfl rfl (wanted_none rfl) (r_loadA ta72 ti72 rfl rfl (fun w hw => (Rd.flat ((fun _ hw => hr_a0.sep hw) w hw) (rdl_some h18).2.2))) ?_
      refine F.qc rfl rfl rfl (wanted_none rfl) (q_callF (xs := _) rfl ok58 rfl rfl (fun w hw => laws_toIntA3.ok h20 w )) ?_
      refine F.q rfl rfl rfl (wanted_none rfl) (r_indexAddrS Tryz.underlying22 ti72 rfl hl_x3 rfl (rdl_some h21).1 (rdl_some h21).2.1) ?_
      refine F.ef0 rfl rfl (wanted_none rfl) (d_storeE (i := 0) (x1 := (t20_1, t20_2, t20_3)) ti72 rfl rfl rfl (rdl_some h21) rfl) ?_
      rintro _ _ ⟨rfl, rfl⟩
      refine F.nil ?_
      refine Nrm.block ?_
      refine Nrm.seq ?_
      refine Tri.reg (l := [0, 1, 2]) rfl ?_
      refine F.q rfl rfl rfl (wanted_none rfl) (r_move rfl) ?_
      refine F.q rfl rfl rfl (wanted_none rfl) (r_add rfl rfl) ?_
      refine F.q rfl rfl rfl (wanted_none rfl) (r_assign rfl) ?_
      refine F.nil ?_
      refine Nrm.round ?_
      refine Rnd.only [0, 3, 4] rfl ?_
      refine Rnd.pick [0] rfl rfl ?_
      exact ih_1 _ _ ⟨x3.set x4.toNat (t20_1, t20_2, t20_3), w64 (x4 + 1), hE_1, (len_set hl_x3), rfl, rfl⟩
    · replace hE_1 := if_ff g_1 hE_1
      refine Tri.exit ?_
      refine Exi.then ?_
      refine Exi.then ?_
      refine Exi.same ?_
      cases hE_1
      refine Nrm.seq ?_
      refine Tri.seq ?_
      refine Tri.reg (l := [0, 1]) rfl ?_
      refine F.q rfl rfl rfl (wanted_none rfl) (r_move rfl) ?_
      refine F.q rfl rfl rfl (wanted_none rfl) (r_assign rfl) ?_
      refine F.nil ?_
      refine Nrm.seq ?_
      refine Tri.ret ?_
      cases h
      exact Rtn.body (.tmp rfl .nil) (fun w hw => ⟨_, _, rfl, ⟨S7_1, hl_x3, rfl⟩, Sep.pick (is := [0]) rfl rfl hw⟩)

end Go.Proofs

/- loop.example/g01158/laws.toMaze -/
namespace Go.Proofs
open Go Go.Ga
set_option linter.unusedVariables false
set_option maxRecDepth 100000
set_option maxHeartbeats 4000000
def laws_toMaze.f (k : Nat) (a0_0 : Int) (a0_1 : List (Int × Int × Int)) (a0_2 : List Int) : Option (Int × (List (Int × Int × Int)) × (List Int)) := (laws_toIntA3S.f k a0_1).bind fun t9 => (laws_toIntS.f k a0_2).bind fun t13 => some (a0_0, t9, t13)

theorem laws_toMaze.ok {k : Nat}  {a0_0 : Int} {a0_1 : List (Int × Int × Int)} {a0_2 : List Int} {r0 : Int} {r1 : List (Int × Int × Int)} {r2 : List Int} (h : laws_toMaze.f k a0_0 a0_1 a0_2 = some (r0, r1, r2)) (w : World) {va0_1 : Value} {va0_2 : Value} (hr_a0_1 : Rd w va0_1 a0_1) (hr_a0_2 : Rd w va0_2 a0_2) :
    Calls Tryz.prog 20 ([.agg ([.int .i64 a0_0, va0_1, va0_2].toArray)] : List Value).toArray w (Post (fun u ns => ∃ (ur1 : Value) (Sr1 : Nat → Prop) (ur2 : Value) (Sr2 : Nat → Prop), u = .agg [.int .i64 r0, ur1, ur2].toArray ∧ SlLen ur1 r1.length ∧ SlLen ur2 r2.length ∧ ns = [R.sl Sr1 ur1 r1, R.sl Sr2 ur2 r2]) w) := by
  unfold laws_toMaze.f at h
  have hl_va0_1 := hr_a0_1.len
  have hl_va0_2 := hr_a0_2.len
  refine Calls.of_tri (N := 16) Tryz.func20 rfl rfl rfl (Sep.nil (M := noM)) ?_
  refine Tri.seq ?_
  refine Tri.reg (l := [0, 1]) rfl ?_
  refine F.m rfl rfl rfl (wanted_none rfl) (m_boxG rfl rfl) ?_
  rintro _ _ ⟨b1_1, rfl, rfl⟩
  refine F.m rfl rfl rfl (wanted_none rfl) (m_alloc ti31) ?_
  rintro _ _ ⟨b2_1, rfl, rfl⟩
  refine F.nil ?_
  refine Nrm.seq ?_
  refine Tri.seq ?_
  refine Tri.reg (l := [0]) rfl ?_
  refine F.m rfl rfl rfl (wanted_none rfl) (m_alloc ti31) ?_
  rintro _ _ ⟨b3_1, rfl, rfl⟩
  refine F.nil ?_
  refine Nrm.seq ?_
  refine Tri.seq ?_
  refine Tri.reg (l := [0, 1, 2, 3]) rfl ?_
  refine F.q rfl rfl rfl (wanted_none rfl) (r_fieldAddr tf25_0 rfl) ?_
  refine F.q rfl rfl rfl (wanted_none rfl) (r_load ta3 rfl (fun w hw => cell_1 (box_cells (i := 2) rfl w hw) rfl)) ?_
  refine F.q rfl rfl rfl (wanted_none rfl) (r_fieldAddr tf31_0 rfl) ?_
  refine F.ef0 rfl rfl (wanted_none rfl) (d_storeG1 (i := 0) (cs2 := [.int .i64 a0_0]) ti3 rfl rfl rfl rfl rfl (Nat.le_of_ble_eq_true rfl) (lf_cons rfl lf_nil)) ?_
  rintro _ _ ⟨rfl, rfl⟩
  refine F.nil ?_
  refine Nrm.seq ?_
  refine Tri.seq ?_
  obtain ⟨t9, h9, h⟩ := bind_some h
  refine Tri.reg (l := [0, 1, 2, 3, 4]) rfl ?_
  refine F.q rfl rfl rfl (wanted_none rfl) (r_fieldAddr tf25_1 rfl) ?_
  refine F.q rfl rfl rfl (wanted_none rfl) (r_load ta22 rfl (fun w hw => cell_1 (box_cells (i := 2) rfl w hw) rfl)) ?_
  refine F.m rfl rfl rfl (wanted_none rfl) (m_callF (xs := _) rfl ok40 rfl rfl (fun w hw => laws_toIntA3S.ok h9 w ((fun _ hw => hr_a0_1.sep hw) w hw))) ?_
  rintro v9_1 _ ⟨_, ⟨S9_1, hl_v9_1, rfl⟩, rfl⟩
  refine F.q rfl rfl rfl (wanted_none rfl) (r_fieldAddr tf31_1 rfl) ?_
  refine F.ef0 rfl rfl (wanted_none rfl) (d_storeG1 (i := 1) (cs2 := [v9_1]) ti22 rfl rfl rfl (sl_cells hl_v9_1) rfl (Nat.le_of_ble_eq_true rfl) (lf_cons (sl_leaf hl_v9_1) lf_nil)) ?_
  rintro _ _ ⟨rfl, rfl⟩
  refine F.nil ?_
  refine Nrm.seq ?_
  refine Tri.seq ?_
  obtain ⟨t13, h13, h⟩ := bind_some h
  refine Tri.reg (l := [0, 1, 2, 3, 4]) rfl ?_
  refine F.q rfl rfl rfl (wanted_none rfl) (r_fieldAddr tf25_2 rfl) ?_
  refine F.q rfl rfl rfl (wanted_none rfl) (r_load ta23 rfl (fun w hw => cell_1 (box_cells (i := 3) rfl w hw) rfl)) ?_
  refine F.m rfl rfl rfl (wanted_none rfl) (m_callF (xs := _) rfl ok21 rfl rfl (fun w hw => laws_toIntS.ok h13 w ((fun _ hw => hr_a0_2.sep hw) w hw))) ?_
  rintro v13_1 _ ⟨_, ⟨S13_1, hl_v13_1, rfl⟩, rfl⟩
  refine F.q rfl rfl rfl (wanted_none rfl) (r_fieldAddr tf31_2 rfl) ?_
  refine F.ef0 rfl rfl (wanted_none rfl) (d_storeG1 (i := 2) (cs2 := [v13_1]) ti23 rfl rfl rfl (sl_cells hl_v13_1) rfl (Nat.le_of_ble_eq_true rfl) (lf_cons (sl_leaf hl_v13_1) lf_nil)) ?_
  rintro _ _ ⟨rfl, rfl⟩
  refine F.nil ?_
  refine Nrm.seq ?_
  refine Tri.seq ?_
  refine Tri.reg (l := [0, 1]) rfl ?_
  refine F.q rfl rfl rfl (wanted_none rfl) (r_loadA ta31 ti31 rfl rfl (fun w hw => (box_cells (i := 2) rfl w hw))) ?_
  refine F.ef0 rfl rfl (wanted_none rfl) (d_storeG0 (i := 3) (cs2 := [.int .i64 a0_0, v9_1, v13_1]) ti31 rfl rfl rfl rfl rfl (Nat.le_of_ble_eq_true rfl) (lf_cons rfl (lf_cons (sl_leaf hl_v9_1) (lf_cons (sl_leaf hl_v13_1) lf_nil)))) ?_
  rintro _ _ ⟨rfl, rfl⟩
  refine F.nil ?_
  refine Nrm.seq ?_
  refine Tri.ret ?_
  cases h
  exact Rtn.body (.cell rfl ta31 ti31 rfl (fun _ hw => box_cells (i := 3) rfl _ hw) .nil) (fun w hw => ⟨_, _, rfl, ⟨v9_1, S9_1, v13_1, S13_1, rfl, hl_v9_1, hl_v13_1, rfl⟩, Sep.pick (is := [1, 0]) rfl rfl hw⟩)

end Go.Proofs

/- loop.example/g01158/laws.toVisit -/
namespace Go.Proofs
open Go Go.Ga
set_option linter.unusedVariables false
set_option maxRecDepth 100000
set_option maxHeartbeats 4000000
def laws_toVisit.f (k : Nat) (a0_0 : Int) (a0_1 : List (Int × Int × Int)) (a0_2 : List Int) (a0_3 : List Int) (a0_4 : Int) : Option (Int × (List (Int × Int × Int)) × (List Int) × (List Int) × Int) := (laws_toMaze.f k a0_0 a0_1 a0_2).bind fun (t6_1, t6_2, t6_3) => (laws_toIntS.f k a0_3).bind fun t10 => some (t6_1, t6_2, t6_3, t10, a0_4)

theorem laws_toVisit.ok {k : Nat}  {a0_0 : Int} {a0_1 : List (Int × Int × Int)} {a0_2 : List Int} {a0_3 : List Int} {a0_4 : Int} {r0 : Int} {r1 : List (Int × Int × Int)} {r2 : List Int} {r3 : List Int} {r4 : Int} (h : laws_toVisit.f k a0_0 a0_1 a0_2 a0_3 a0_4 = some (r0, r1, r2, r3, r4)) (w : World) {va0_1 : Value} {va0_2 : Value} {va0_3 : Value} (hr_a0_1 : Rd w va0_1 a0_1) (hr_a0_2 : Rd w va0_2 a0_2) (hr_a0_3 : Rd w va0_3 a0_3) :
    Calls Tryz.prog 7 ([.agg ([.int .i64 a0_0, va0_1, va0_2, va0_3, .int .i64 a0_4].toArray)] : List Value).toArray w (Post (fun u ns => ∃ (ur1 : Value) (Sr1 : Nat → Prop) (ur2 : Value) (Sr2 : Nat → Prop) (ur3 : Value) (Sr3 : Nat → Prop), u = .agg [.int .i64 r0, ur1, ur2, ur3, .int .i64 r4].toArray ∧ SlLen ur1 r1.length ∧ SlLen ur2 r2.length ∧ SlLen ur3 r3.length ∧ ns = [R.sl Sr1 ur1 r1, R.sl Sr2 ur2 r2, R.sl Sr3 ur3 r3]) w) := by
  unfold laws_toVisit.f at h
  have hl_va0_1 := hr_a0_1.len
  have hl_va0_2 := hr_a0_2.len
  have hl_va0_3 := hr_a0_3.len
  refine Calls.of_tri (N := 16) Tryz.func7 rfl rfl rfl (Sep.nil (M := noM)) ?_
  refine Tri.seq ?_
  refine Tri.reg (l := [0, 1]) rfl ?_
  refine F.m rfl rfl rfl (wanted_none rfl) (m_boxG rfl rfl) ?_
  rintro _ _ ⟨b1_1, rfl, rfl⟩
  refine F.m rfl rfl rfl (wanted_none rfl) (m_alloc ti33) ?_
  rintro _ _ ⟨b2_1, rfl, rfl⟩
  refine F.nil ?_
  refine Nrm.seq ?_
  refine Tri.seq ?_
  refine Tri.reg (l := [0]) rfl ?_
  refine F.m rfl rfl rfl (wanted_none rfl) (m_alloc ti33) ?_
  rintro _ _ ⟨b3_1, rfl, rfl⟩
  refine F.nil ?_
  refine Nrm.seq ?_
  refine Tri.seq ?_
  obtain ⟨⟨t6_1, t6_2, t6_3⟩, h6, h⟩ := bind_some h
  refine Tri.reg (l := [0, 1, 2, 3, 4]) rfl ?_
  refine F.q rfl rfl rfl (wanted_none rfl) (r_fieldAddr tf27_0 rfl) ?_
  refine F.q rfl rfl rfl (wanted_none rfl) (r_loadA ta25 ti25 rfl rfl (fun w hw => cells_1 (cs' := [.int .i64 a0_0, va0_1, va0_2]) (box_cells (i := 2) rfl w hw) rfl)) ?_
  refine F.m rfl rfl rfl (wanted_none rfl) (m_callF (xs := _) rfl ok20 rfl rfl (fun w hw => laws_toMaze.ok h6 w ((fun _ hw => hr_a0_1.sep hw) w hw) ((fun _ hw => hr_a0_2.sep hw) w hw))) ?_
  rintro _ _ ⟨_, ⟨v6_1, S6_1, v6_2, S6_2, rfl, hl_v6_1, hl_v6_2, rfl⟩, rfl⟩
  refine F.q rfl rfl rfl (wanted_none rfl) (r_fieldAddr tf33_0 rfl) ?_
  refine F.ef0 rfl rfl (wanted_none rfl) (d_storeG1 (i := 2) (cs2 := [.int .i64 t6_1, v6_1, v6_2]) ti31 rfl rfl rfl rfl rfl (Nat.le_of_ble_eq_true rfl) (lf_cons rfl (lf_cons (sl_leaf hl_v6_1) (lf_cons (sl_leaf hl_v6_2) lf_nil)))) ?_
  rintro _ _ ⟨rfl, rfl⟩
  refine F.nil ?_
  refine Nrm.seq ?_
  refine Tri.seq ?_
  obtain ⟨t10, h10, h⟩ := bind_some h
  refine Tri.reg (l := [0, 1, 2, 3, 4]) rfl ?_
  refine F.q rfl rfl rfl (wanted_none rfl) (r_fieldAddr tf27_1 rfl) ?_
  refine F.q rfl rfl rfl (wanted_none rfl) (r_load ta23 rfl (fun w hw => cell_1 (box_cells (i := 4) rfl w hw) rfl)) ?_
  refine F.m rfl rfl rfl (wanted_none rfl) (m_callF (xs := _) rfl ok21 rfl rfl (fun w hw => laws_toIntS.ok h10 w ((fun _ hw => hr_a0_3.sep hw) w hw))) ?_
  rintro v10_1 _ ⟨_, ⟨S10_1, hl_v10_1, rfl⟩, rfl⟩
  refine F.q rfl rfl rfl (wanted_none rfl) (r_fieldAddr tf33_1 rfl) ?_
  refine F.ef0 rfl rfl (wanted_none rfl) (d_storeG1 (i := 3) (cs2 := [v10_1]) ti23 rfl rfl rfl (sl_cells hl_v10_1) rfl (Nat.le_of_ble_eq_true rfl) (lf_cons (sl_leaf hl_v10_1) lf_nil)) ?_
  rintro _ _ ⟨rfl, rfl⟩
  refine F.nil ?_
  refine Nrm.seq ?_
  refine Tri.seq ?_
  refine Tri.reg (l := [0, 1, 2, 3]) rfl ?_
  refine F.q rfl rfl rfl (wanted_none rfl) (r_fieldAddr tf27_2 rfl) ?_
  refine F.q rfl rfl rfl (wanted_none rfl) (r_load ta3 rfl (fun w hw => cell_1 (box_cells (i := 5) rfl w hw) rfl)) ?_
  refine F.q rfl rfl rfl (wanted_none rfl) (r_fieldAddr tf33_2 rfl) ?_
  refine F.ef0 rfl rfl (wanted_none rfl) (d_storeG1 (i := 3) (cs2 := [.int .i64 a0_4]) ti3 rfl rfl rfl rfl rfl (Nat.le_of_ble_eq_true rfl) (lf_cons rfl lf_nil)) ?_
  rintro _ _ ⟨rfl, rfl⟩
  refine F.nil ?_
  refine Nrm.seq ?_
  refine Tri.seq ?_
  refine Tri.reg (l := [0, 1]) rfl ?_
  refine F.q rfl rfl rfl (wanted_none rfl) (r_loadA ta33 ti33 rfl rfl (fun w hw => (box_cells (i := 3) rfl w hw))) ?_
  refine F.ef0 rfl rfl (wanted_none rfl) (d_storeG0 (i := 4) (cs2 := [.int .i64 t6_1, v6_1, v6_2, v10_1, .int .i64 a0_4]) ti33 rfl rfl rfl rfl rfl (Nat.le_of_ble_eq_true rfl) (lf_cons rfl (lf_cons (sl_leaf hl_v6_1) (lf_cons (sl_leaf hl_v6_2) (lf_cons (sl_leaf hl_v10_1) (lf_cons rfl lf_nil)))))) ?_
  rintro _ _ ⟨rfl, rfl⟩
  refine F.nil ?_
  refine Nrm.seq ?_
  refine Tri.ret ?_
  cases h
  exact Rtn.body (.cell rfl ta33 ti33 rfl (fun _ hw => box_cells (i := 4) rfl _ hw) .nil) (fun w hw => ⟨_, _, rfl, ⟨v6_1, S6_1, v6_2, S6_2, v10_1, S10_1, rfl, hl_v6_1, hl_v6_2, hl_v10_1, rfl⟩, Sep.pick (is := [1, 2, 0]) rfl rfl hw⟩)

end Go.Proofs

/- loop.example/g01158/laws.toDeed -/

namespace Go.Proofs
open Go Go.Ga
set_option linter.unusedVariables false
set_option maxRecDepth 100000
set_option maxHeartbeats 4000000
def laws_toDeed.f (k : Nat) (a0_0 : Int) (a0_1 : Int) (a0_2 : Int) (a0_3 : Int) : Option (Int × Int × Int × Int) := some (a0_0, a0_1, a0_2, a0_3)

theorem laws_toDeed.ok {k : Nat}  {a0_0 : Int} {a0_1 : Int} {a0_2 : Int} {a0_3 : Int} {r0 : Int} {r1 : Int} {r2 : Int} {r3 : Int} (h : laws_toDeed.f k a0_0 a0_1 a0_2 a0_3 = some (r0, r1, r2, r3)) (w : World) :
    Calls Tryz.prog 22 ([.agg ([.int .i64 a0_0, .int .i64 a0_1, .int .i64 a0_2, .int .i64 a0_3].toArray)] : List Value).toArray w (fun e w' => e = .returned (.agg [.int .i64 r0, .int .i64 r1, .int .i64 r2, .int .i64 r3].toArray) ∧ Ext w w') := by
  unfold laws_toDeed.f at h
  refine Calls.of_tri (N := 17) Tryz.func22 rfl rfl rfl (Sep.nil (M := noM)) ?_
  refine Tri.seq ?_
  refine Tri.reg (l := [0, 1]) rfl ?_
  refine F.m rfl rfl rfl (wanted_none rfl) (m_boxG rfl rfl) ?_
  rintro _ _ ⟨b1_1, rfl, rfl⟩
  refine F.m rfl rfl rfl (wanted_none rfl) (m_alloc ti51) ?_
  rintro _ _ ⟨b2_1, rfl, rfl⟩
  refine F.nil ?_
  refine Nrm.seq ?_
  refine Tri.seq ?_
  refine Tri.reg (l := [0]) rfl ?_
  refine F.m rfl rfl rfl (wanted_none rfl) (m_alloc ti51) ?_
  rintro _ _ ⟨b3_1, rfl, rfl⟩
  refine F.nil ?_
  refine Nrm.seq ?_
  refine Tri.seq ?_
  refine Tri.reg (l := [0, 1, 2, 3]) rfl ?_
  refine F.q rfl rfl rfl (wanted_none rfl) (r_fieldAddr tf55_0 rfl) ?_
  refine F.q rfl rfl rfl (wanted_none rfl) (r_load ta3 rfl (fun w hw => cell_1 (box_cells (i := 2) rfl w hw) rfl)) ?_
  refine F.q rfl rfl rfl (wanted_none rfl) (r_fieldAddr tf51_0 rfl) ?_
  refine F.ef0 rfl rfl (wanted_none rfl) (d_storeG1 (i := 0) (cs2 := [.int .i64 a0_0]) ti3 rfl rfl rfl rfl rfl (Nat.le_of_ble_eq_true rfl) (lf_cons rfl lf_nil)) ?_
  rintro _ _ ⟨rfl, rfl⟩
  refine F.nil ?_
  refine Nrm.seq ?_
  refine Tri.seq ?_
  refine Tri.reg (l := [0, 1, 2, 3]) rfl ?_
  refine F.q rfl rfl rfl (wanted_none rfl) (r_fieldAddr tf55_1 rfl) ?_
  refine F.q rfl rfl rfl (wanted_none rfl) (r_load ta3 rfl (fun w hw => cell_1 (box_cells (i := 2) rfl w hw) rfl)) ?_
  refine F.q rfl rfl rfl (wanted_none rfl) (r_fieldAddr tf51_1 rfl) ?_
  refine F.ef0 rfl rfl (wanted_none rfl) (d_storeG1 (i := 0) (cs2 := [.int .i64 a0_1]) ti3 rfl rfl rfl rfl rfl (Nat.le_of_ble_eq_true rfl) (lf_cons rfl lf_nil)) ?_
  rintro _ _ ⟨rfl, rfl⟩
  refine F.nil ?_
  refine Nrm.seq ?_
  refine Tri.seq ?_
  refine Tri.reg (l := [0, 1, 2, 3]) rfl ?_
  refine F.q rfl rfl rfl (wanted_none rfl) (r_fieldAddr tf55_2 rfl) ?_
  refine F.q rfl rfl rfl (wanted_none rfl) (r_load ta3 rfl (fun w hw => cell_1 (box_cells (i := 2) rfl w hw) rfl)) ?_
  refine F.q rfl rfl rfl (wanted_none rfl) (r_fieldAddr tf51_2 rfl) ?_
  refine F.ef0 rfl rfl (wanted_none rfl) (d_storeG1 (i := 0) (cs2 := [.int .i64 a0_2]) ti3 rfl rfl rfl rfl rfl (Nat.le_of_ble_eq_true rfl) (lf_cons rfl lf_nil)) ?_
  rintro _ _ ⟨rfl, rfl⟩
  refine F.nil ?_
  refine Nrm.seq ?_
  refine Tri.seq ?_
  refine Tri.reg (l := [0, 1, 2, 3]) rfl ?_
  refine F.q rfl rfl rfl (wanted_none rfl) (r_fieldAddr tf55_3 rfl) ?_
  refine F.q rfl rfl rfl (wanted_none rfl) (r_load ta3 rfl (fun w hw => cell_1 (box_cells (i := 2) rfl w hw) rfl)) ?_
  refine F.q rfl rfl rfl (wanted_none rfl) (r_fieldAddr tf51_3 rfl) ?_
  refine F.ef0 rfl rfl (wanted_none rfl) (d_storeG1 (i := 0) (cs2 := [.int .i64 a0_3]) ti3 rfl rfl rfl rfl rfl (Nat.le_of_ble_eq_true rfl) (lf_cons rfl lf_nil)) ?_
  rintro _ _ ⟨rfl, rfl⟩
  refine F.nil ?_
  refine Nrm.seq ?_
  refine Tri.seq ?_
  refine Tri.reg (l := [0, 1]) rfl ?_
  refine F.q rfl rfl rfl (wanted_none rfl) (r_loadA ta51 ti51 rfl rfl (fun w hw => (box_cells (i := 0) rfl w hw))) ?_
  refine F.ef0 rfl rfl (wanted_none rfl) (d_storeG0 (i := 1) (cs2 := [.int .i64 a0_0, .int .i64 a0_1, .int .i64 a0_2, .int .i64 a0_3]) ti51 rfl rfl rfl rfl rfl (Nat.le_of_ble_eq_true rfl) (lf_cons rfl (lf_cons rfl (lf_cons rfl (lf_cons rfl lf_nil))))) ?_
  rintro _ _ ⟨rfl, rfl⟩
  refine F.nil ?_
  refine Nrm.seq ?_
  refine Tri.ret ?_
  cases h
  exact Rtn.body (.cell rfl ta51 ti51 rfl (fun _ hw => box_cells (i := 1) rfl _ hw) .nil) (fun w hw => ⟨rfl, hw.ext⟩)

end Go.Proofs

/- loop.example/g01158/laws.toDeedS -/
namespace Go.Proofs
open Go Go.Ga
set_option linter.unusedVariables false
set_option maxRecDepth 100000
set_option maxHeartbeats 4000000
def laws_toDeedS.l0 (k : Nat) (a0 : List (Int × Int × Int × Int)) : Nat → (List (Int × Int × Int × Int)) → Int → Option ((List (Int × Int × Int × Int)))
  | 0, _, _ => none
  | n + 1, x3, x4 => (if (decide (x4 < (a0.length : Int))) = true then (rdl a0 x4).bind fun t18 => (laws_toDeed.f k t18.1 t18.2.1 t18.2.2.1 t18.2.2.2).bind fun (t20_1, t20_2, t20_3, t20_4) => (rdl x3 x4).bind fun t21 => laws_toDeedS.l0 k a0 n (x3.set x4.toNat (t20_1, t20_2, t20_3, t20_4)) (w64 (x4 + 1)) else some x3)

def laws_toDeedS.f (k : Nat) (a0 : List (Int × Int × Int × Int)) : Option ((List (Int × Int × Int × Int))) := if 0 ≤ (a0.length : Int) ∧ (a0.length : Int) < 1099511627776 then (laws_toDeedS.l0 k a0 k (List.replicate ((a0.length : Int)).toNat ((0, 0, 0, 0) : Int × Int × Int × Int)) 0).bind fun x3 => some x3 else none

theorem laws_toDeedS.ok {k : Nat}  {a0 : List (Int × Int × Int × Int)} {r0 : List (Int × Int × Int × Int)} (h : laws_toDeedS.f k a0 = some r0) (w : World) {va0 : Value} (hr_a0 : Rd w va0 a0) :
    Calls Tryz.prog 8 ([va0] : List Value).toArray w (Post (fun u ns => ∃ (Sr0 : Nat → Prop), SlLen u r0.length ∧ ns = [R.sl Sr0 u r0]) w) := by
  unfold laws_toDeedS.f at h
  have hl_va0 := hr_a0.len
  refine Calls.of_tri (N := 23) Tryz.func8 rfl rfl rfl (Sep.nil (M := noM)) ?_
  refine Tri.seq ?_
  refine Tri.reg (l := [0]) rfl ?_
  refine F.q rfl rfl rfl (wanted_none rfl) (r_assign rfl) ?_
  refine F.nil ?_
  refine Nrm.seq ?_
  refine Tri.seq ?_
  obtain ⟨hm7, h⟩ := ck h
  refine Tri.reg (l := [0, 1, 2, 3]) rfl ?_
  refine F.q rfl rfl rfl (wanted_none rfl) (r_move rfl) ?_
  refine F.q rfl rfl rfl (wanted_none rfl) (r_len Tryz.underlying28 rfl hl_va0) ?_
  refine F.m rfl rfl rfl (wanted_none rfl) (m_make (x0 := ((0, 0, 0, 0) : Int × Int × Int × Int)) Tryz.underlying37 ti51 rfl rfl rfl hm7.1 hm7.2 (by decide)) ?_
  rintro v7_1 _ ⟨S7_1, hl_v7_1, rfl⟩
  refine F.q rfl rfl rfl (wanted_none rfl) (r_assign rfl) ?_
  refine F.nil ?_
  refine Nrm.seq ?_
  refine Tri.seq ?_
  refine Tri.seq ?_
  refine Tri.reg (l := [0]) rfl ?_
  refine F.q rfl rfl rfl (wanted_none rfl) (r_assign rfl) ?_
  refine F.nil ?_
  refine Nrm.seq ?_
  obtain ⟨x3, hE_1, h⟩ := bind_some h
  refine Tri.block ?_
  refine Tri.only [0, 3, 4] rfl ?_
  refine Tri.pick [0] rfl rfl ?_
  refine Tri.rounds (fun n e' C' => ∃ (x3' : List (Int × Int × Int × Int)) (x4' : Int), laws_toDeedS.l0 k a0 n x3' x4' = some x3 ∧ SlLen v7_1 (x3').length ∧ e' = [(0, va0), (3, v7_1), (4, .int .i64 x4')] ∧ C' = Sep w noM [R.sl S7_1 v7_1 (x3' : List (Int × Int × Int × Int))]) k ?_ ?_ ?_
  · exact ⟨List.replicate ((a0.length : Int)).toNat ((0, 0, 0, 0) : Int × Int × Int × Int), 0, hE_1, hl_v7_1, rfl, rfl⟩
  · rintro _ _ ⟨_, _, hE_1, _⟩
    rw [laws_toDeedS.l0.eq_1] at hE_1; cases hE_1
  · rintro n_1 _ _ ⟨x3, x4, hE_1, hl_x3, rfl, rfl⟩ ih_1
    rw [laws_toDeedS.l0.eq_2] at hE_1
    refine Tri.seq ?_
    refine Tri.seq ?_
    refine Tri.reg (l := [0, 1, 2, 3]) rfl ?_
    refine F.q rfl rfl rfl (wanted_none rfl) (r_move rfl) ?_
    refine F.q rfl rfl rfl (wanted_none rfl) (r_move rfl) ?_
    refine F.q rfl rfl rfl (wanted_none rfl) (r_len Tryz.underlying28 rfl hl_va0) ?_
    refine F.q rfl rfl rfl (wanted_none rfl) (r_lss rfl rfl) ?_
    refine F.nil ?_
    refine Nrm.seq ?_
    refine Tri.cond (b := decide (x4 < (a0.length : Int))) rfl (fun g_1 => ?_) (fun g_1 => ?_)
    · replace hE_1 := if_tt g_1 hE_1
      refine Tri.skip ?_
      refine Nrm.seq ?_
      refine Tri.seq ?_
      refine Tri.block ?_
      obtain ⟨t18, h18, hE_1⟩ := bind_some hE_1
      obtain ⟨⟨t20_1, t20_2, t20_3, t20_4⟩, h20, hE_1⟩ := bind_some hE_1
      obtain ⟨t21, h21, hE_1⟩ := bind_some hE_1
      refine Tri.reg (l := [0, 1, 2, 3, 4, 5, 6, 7, 8]) rfl ?_
      refine F.q rfl rfl rfl (wanted_none rfl) (r_move rfl) ?_
      refine F.q rfl rfl rfl (wanted_none rfl) (r_move rfl) ?_
      refine F.q rfl rfl rfl (wanted_none rfl) (r_move rfl) ?_
      refine F.q rfl rfl rfl (wanted_none rfl) (r_move rfl) ?_
      refine F.q rfl rfl rfl (wanted_none rfl) (r_indexAddrS Tryz.underlying28 ti55 rfl hl_va0 rfl (rdl_some h18).1 (rdl_some h18).2.1) ?_
      refine F.q rfl rfl rfl (wanted_none rfl) (r_loadA ta55 ti55 rfl rfl (fun w hw => (Rd.flat ((fun _ hw => hr_a0.sep hw) w hw) (rdl_some h18).2.2))) ?_
      refine F.qc rfl rfl rfl (wanted_none rfl) (q_callF (xs := _) rfl ok22 rfl rfl (fun w hw => laws_toDeed.ok h20 w )) ?_
      refine F.q rfl rfl rfl (wanted_none rfl) (r_indexAddrS Tryz.underlying37 ti51 rfl hl_x3 rfl (rdl_some h21).1 (rdl_some h21).2.1) ?_
      refine F.ef0 rfl rfl (wanted_none rfl) (d_storeE (i := 0) (x1 := (t20_1, t20_2, t20_3, t20_4)) ti51 rfl rfl rfl (rdl_some h21) rfl) ?_
      rintro _ _ ⟨rfl, rfl⟩
      refine F.nil ?_
      refine Nrm.block ?_
      refine Nrm.seq ?_
      refine Tri.reg (l := [0, 1, 2]) rfl ?_
      refine F.q rfl rfl rfl (wanted_none rfl) (r_move rfl) ?_
      refine F.q rfl rfl rfl (wanted_none rfl) (r_add rfl rfl) ?_
      refine F.q rfl rfl rfl (wanted_none rfl) (r_assign rfl) ?_
      refine F.nil ?_
      refine Nrm.round ?_
      refine Rnd.only [0, 3, 4] rfl ?_
      refine Rnd.pick [0] rfl rfl ?_
      exact ih_1 _ _ ⟨x3.set x4.toNat (t20_1, t20_2, t20_3, t20_4), w64 (x4 + 1), hE_1, (len_set hl_x3), rfl, rfl⟩
    · replace hE_1 := if_ff g_1 hE_1
      refine Tri.exit ?_
      refine Exi.then ?_
      refine Exi.then ?_
      refine Exi.same ?_
      cases hE_1
      refine Nrm.seq ?_
      refine Tri.seq ?_
      refine Tri.reg (l := [0, 1]) rfl ?_
      refine F.q rfl rfl rfl (wanted_none rfl) (r_move rfl) ?_
      refine F.q rfl rfl rfl (wanted_none rfl) (r_assign rfl) ?_
      refine F.nil ?_
      refine Nrm.seq ?_
      refine Tri.ret ?_
      cases h
      exact Rtn.body (.tmp rfl .nil) (fun w hw => ⟨_, _, rfl, ⟨S7_1, hl_x3, rfl⟩, Sep.pick (is := [0]) rfl rfl hw⟩)

end Go.Proofs

/- loop.example/g01158/impl.within -/

namespace Go.Proofs
open Go Go.Ga
set_option linter.unusedVariables false
set_option maxRecDepth 100000
set_option maxHeartbeats 4000000
def impl_within.f (k : Nat) (a0 : Int) (a1 : Int) (a2 : Int) : Option (Bool) := ((if (decide (a1 ≤ a0)) = true then some (decide (a0 ≤ a2)) else some false)).bind fun y6 => some y6

theorem impl_within.ok {k : Nat}  {a0 : Int} {a1 : Int} {a2 : Int} {r0 : Bool} (h : impl_within.f k a0 a1 a2 = some r0) (w : World) :
    Calls Tryz.prog 42 ([.int .i64 a0, .int .i64 a1, .int .i64 a2] : List Value).toArray w (fun e w' => e = .returned (.bool r0) ∧ Ext w w') := by
  unfold impl_within.f at h
  refine Calls.of_tri (N := 15) Tryz.func42 rfl rfl rfl (Sep.nil (M := noM)) ?_
  refine Tri.seq ?_
  refine Tri.reg (l := [0]) rfl ?_
  refine F.q rfl rfl rfl (wanted_none rfl) (r_assign rfl) ?_
  refine F.nil ?_
  refine Nrm.seq ?_
  refine Tri.seq ?_
  obtain ⟨y6, hE_1, h⟩ := bind_some h
  refine Tri.cut (fun e' C' => e' = [(6, .bool y6)] ∧ C' = Sep w noM []) ?_ (fun hj_1 => ?_)
  · rintro _ _ ⟨rfl, rfl⟩
    refine Nrm.seq ?_
    refine Tri.ret ?_
    cases h
    exact Rtn.body (.tmp rfl .nil) (fun w hw => ⟨rfl, hw.ext⟩)
  · rcases Bool.eq_false_or_eq_true (decide (a1 ≤ a0)) with g10 | g10
    · replace hE_1 := if_tt g10 hE_1
      refine Tri.reg (l := [0, 1, 2, 3, 4, 5, 6, 7, 8]) rfl ?_
      refine F.q rfl rfl rfl (wanted_none rfl) (r_move rfl) ?_
      refine F.q rfl rfl rfl (wanted_none rfl) (r_move rfl) ?_
      refine F.q rfl rfl rfl (wanted_none rfl) (r_leq rfl rfl) ?_
      refine F.q rfl rfl rfl (wanted_none rfl) (r_move rfl) ?_
      refine F.q rfl rfl rfl (wg rfl rfl rfl g10) (r_move rfl) ?_
      refine F.q rfl rfl rfl (wg rfl rfl rfl g10) (r_move rfl) ?_
      refine F.q rfl rfl rfl (wg rfl rfl rfl g10) (r_leq rfl rfl) ?_
      refine F.q rfl rfl rfl (wanted_none rfl) (r_pick rfl rfl g10) ?_
      refine F.q rfl rfl rfl (wanted_none rfl) (r_assign rfl) ?_
      refine F.nil ?_
      cases hE_1
      refine Nrm.only [6] rfl ?_
      refine Nrm.pick [] rfl rfl ?_
      exact hj_1 _ _ ⟨rfl, rfl⟩
    · replace hE_1 := if_ff g10 hE_1
      refine Tri.reg (l := [0, 1, 2, 3, 4, 5, 6, 7, 8]) rfl ?_
      refine F.q rfl rfl rfl (wanted_none rfl) (r_move rfl) ?_
      refine F.q rfl rfl rfl (wanted_none rfl) (r_move rfl) ?_
      refine F.q rfl rfl rfl (wanted_none rfl) (r_leq rfl rfl) ?_
      refine F.q rfl rfl rfl (wanted_none rfl) (r_move rfl) ?_
      refine F.sk rfl rfl rfl (wf rfl rfl rfl g10) ?_
      refine F.sk rfl rfl rfl (wf rfl rfl rfl g10) ?_
      refine F.sk rfl rfl rfl (wf rfl rfl rfl g10) ?_
      refine F.q rfl rfl rfl (wanted_none rfl) (r_pickf rfl rfl g10) ?_
      refine F.q rfl rfl rfl (wanted_none rfl) (r_assign rfl) ?_
      refine F.nil ?_
      cases hE_1
      refine Nrm.only [6] rfl ?_
      refine Nrm.pick [] rfl rfl ?_
      exact hj_1 _ _ ⟨rfl, rfl⟩

end Go.Proofs

/- loop.example/g01158/impl.isSet -/
namespace Go.Proofs
open Go Go.Ga
set_option linter.unusedVariables false
set_option maxRecDepth 100000
set_option maxHeartbeats 4000000
def impl_isSet.f (k : Nat) (a0 : Int) : Option (Bool) := (impl_within.f k a0 0 63).bind fun t4 => some t4

theorem impl_isSet.ok {k : Nat}  {a0 : Int} {r0 : Bool} (h : impl_isSet.f k a0 = some r0) (w : World) :
    Calls Tryz.prog 59 ([.int .i64 a0] : List Value).toArray w (fun e w' => e = .returned (.bool r0) ∧ Ext w w') := by
  unfold impl_isSet.f at h
  refine Calls.of_tri (N := 5) Tryz.func59 rfl rfl rfl (Sep.nil (M := noM)) ?_
  refine Tri.seq ?_
  refine Tri.reg (l := [0]) rfl ?_
  refine F.q rfl rfl rfl (wanted_none rfl) (r_assign rfl) ?_
  refine F.nil ?_
  refine Nrm.seq ?_
  refine Tri.seq ?_
  obtain ⟨t4, h4, h⟩ := bind_some h
  refine Tri.reg (l := [0, 1, 2]) rfl ?_
  refine F.q rfl rfl rfl (wanted_none rfl) (r_move rfl) ?_
  refine F.qc rfl rfl rfl (wanted_none rfl) (q_callF (xs := _) rfl ok42 rfl rfl (fun w hw => impl_within.ok h4 w )) ?_
  refine F.q rfl rfl rfl (wanted_none rfl) (r_assign rfl) ?_
  refine F.nil ?_
  refine Nrm.seq ?_
  refine Tri.ret ?_
  cases h
  exact Rtn.body (.tmp rfl .nil) (fun w hw => ⟨rfl, hw.ext⟩)

end Go.Proofs

/- cmp.Or[int] -/

namespace Go.Proofs
open Go Go.Ga
set_option linter.unusedVariables false
set_option maxRecDepth 100000
set_option maxHeartbeats 4000000
def cmp_Or_int.l0 (k : Nat) (a0 : List Int) : Nat → Int → Option ((Unit) ⊕ (Int))
  | 0, _ => none
  | n + 1, x8 => (if (decide (x8 < (a0.length : Int))) = true then (rdl a0 x8).bind fun t10 => (if (t10 != 0) = true then some (Sum.inr t10) else cmp_Or_int.l0 k a0 n (w64 (x8 + 1))) else some (Sum.inl ()))

def cmp_Or_int.f (k : Nat) (a0 : List Int) : Option (Int) := (cmp_Or_int.l0 k a0 k 0).bind fun s => Lr s some fun _ => some 0

theorem cmp_Or_int.ok {k : Nat}  {a0 : List Int} {r0 : Int} (h : cmp_Or_int.f k a0 = some r0) (w : World) {va0 : Value} (hr_a0 : Rd w va0 a0) :
    Calls Tryz.prog 76 ([va0] : List Value).toArray w (fun e w' => e = .returned (.int .i64 r0) ∧ Ext w w') := by
  unfold cmp_Or_int.f at h
  have hl_va0 := hr_a0.len
  refine Calls.of_tri (N := 18) Tryz.func76 rfl rfl rfl (Sep.nil (M := noM)) ?_
  refine Tri.seq ?_
  refine Tri.reg (l := [0]) rfl ?_
  refine F.q rfl rfl rfl (wanted_none rfl) (r_assign rfl) ?_
  refine F.nil ?_
  refine Nrm.seq ?_
  refine Tri.seq ?_
  refine Tri.reg (l := [0]) rfl ?_
  refine F.q rfl rfl rfl (wanted_none rfl) (r_assign rfl) ?_
  refine F.nil ?_
  refine Nrm.seq ?_
  refine Tri.seq ?_
  refine Tri.seq ?_
  refine Tri.reg (l := [0, 1, 2]) rfl ?_
  refine F.q rfl rfl rfl (wanted_none rfl) (r_move rfl) ?_
  refine F.q rfl rfl rfl (wanted_none rfl) (r_len Tryz.underlying23 rfl hl_va0) ?_
  refine F.q rfl rfl rfl (wanted_none rfl) (r_move rfl) ?_
  refine F.nil ?_
  refine Nrm.seq ?_
  obtain ⟨s0, hE_1, h⟩ := bind_some h
  refine Tri.block ?_
  refine Tri.only [3, 6, 7, 8] rfl ?_
  refine Tri.pick [] rfl rfl ?_
  refine Tri.rounds (fun n e' C' => ∃ (x8' : Int), cmp_Or_int.l0 k a0 n x8' = some s0 ∧ e' = [(3, .int .i64 0), (6, va0), (7, .int .i64 (a0.length : Int)), (8, .int .i64 x8')] ∧ C' = Sep w noM []) k ?_ ?_ ?_
  · exact ⟨0, hE_1, rfl, rfl⟩
  · rintro _ _ ⟨_, hE_1, _⟩
    rw [cmp_Or_int.l0.eq_1] at hE_1; cases hE_1
  · rintro n_1 _ _ ⟨x8, hE_1, rfl, rfl⟩ ih_1
    rw [cmp_Or_int.l0.eq_2] at hE_1
    refine Tri.seq ?_
    refine Tri.reg (l := [0]) rfl ?_
    refine F.q rfl rfl rfl (wanted_none rfl) (r_lss rfl rfl) ?_
    refine F.nil ?_
    refine Nrm.seq ?_
    refine Tri.seq ?_
    refine Tri.cond (b := decide (x8 < (a0.length : Int))) rfl (fun g_1 => ?_) (fun g_1 => ?_)
    · replace hE_1 := if_tt g_1 hE_1
      refine Tri.skip ?_
      refine Nrm.seq ?_
      refine Tri.seq ?_
      refine Tri.block ?_
      refine Tri.seq ?_
      obtain ⟨t10, h10, hE_1⟩ := bind_some hE_1
      refine Tri.reg (l := [0, 1, 2]) rfl ?_
      refine F.q rfl rfl rfl (wanted_none rfl) (r_indexAddrS Tryz.underlying23 ti3 rfl hl_va0 rfl (rdl_some h10).1 (rdl_some h10).2.1) ?_
      refine F.q rfl rfl rfl (wanted_none rfl) (r_load ta3 rfl (fun w hw => cell_0 (Rd.flat ((fun _ hw => hr_a0.sep hw) w hw) (rdl_some h10).2.2) rfl)) ?_
      refine F.q rfl rfl rfl (wanted_none rfl) (r_assign rfl) ?_
      refine F.nil ?_
      refine Nrm.seq ?_
      refine Tri.seq ?_
      refine Tri.reg (l := [0, 1, 2]) rfl ?_
      refine F.q rfl rfl rfl (wanted_none rfl) (r_move rfl) ?_
      refine F.q rfl rfl rfl (wanted_none rfl) (r_move rfl) ?_
      refine F.q rfl rfl rfl (wanted_none rfl) (r_neq rfl rfl) ?_
      refine F.nil ?_
      refine Nrm.seq ?_
      refine Tri.cond (b := t10 != 0) rfl (fun g_2 => ?_) (fun g_2 => ?_)
      · replace hE_1 := if_tt g_2 hE_1
        refine Tri.seq ?_
        refine Tri.reg (l := [0, 1]) rfl ?_
        refine F.q rfl rfl rfl (wanted_none rfl) (r_move rfl) ?_
        refine F.q rfl rfl rfl (wanted_none rfl) (r_assign rfl) ?_
        refine F.nil ?_
        refine Nrm.seq ?_
        refine Tri.ret ?_
        refine Rtn.block ?_
        refine Rtn.then ?_
        refine Rtn.then ?_
        refine Rtn.block ?_
        refine Rtn.then ?_
        cases hE_1
        replace h := Lr_inr h
        cases h
        exact Rtn.body (.tmp rfl .nil) (fun w hw => ⟨rfl, hw.ext⟩)
      · replace hE_1 := if_ff g_2 hE_1
        refine Tri.skip ?_
        refine Nrm.block ?_
        refine Nrm.seq ?_
        refine Tri.reg (l := [0, 1]) rfl ?_
        refine F.q rfl rfl rfl (wanted_none rfl) (r_add rfl rfl) ?_
        refine F.q rfl rfl rfl (wanted_none rfl) (r_move rfl) ?_
        refine F.nil ?_
        refine Nrm.round ?_
        refine Rnd.only [3, 6, 7, 8] rfl ?_
        refine Rnd.pick [] rfl rfl ?_
        exact ih_1 _ _ ⟨w64 (x8 + 1), hE_1, rfl, rfl⟩
    · replace hE_1 := if_ff g_1 hE_1
      refine Tri.exit ?_
      refine Exi.then ?_
      refine Exi.then ?_
      refine Exi.same ?_
      cases hE_1
      replace h := Lr_inl h
      refine Nrm.seq ?_
      refine Tri.seq ?_
      refine Tri.reg (l := [0, 1]) rfl ?_
      refine F.q rfl rfl rfl (wanted_none rfl) (r_move rfl) ?_
      refine F.q rfl rfl rfl (wanted_none rfl) (r_assign rfl) ?_
      refine F.nil ?_
      refine Nrm.seq ?_
      refine Tri.ret ?_
      cases h
      exact Rtn.body (.tmp rfl .nil) (fun w hw => ⟨rfl, hw.ext⟩)

end Go.Proofs

/- cmp.isNaN[int] -/

namespace Go.Proofs
open Go Go.Ga
set_option linter.unusedVariables false
set_option maxRecDepth 100000
set_option maxHeartbeats 4000000
def cmp_isNaN_int.f (k : Nat) (a0 : Int) : Option (Bool) := some (a0 != a0)

theorem cmp_isNaN_int.ok {k : Nat}  {a0 : Int} {r0 : Bool} (h : cmp_isNaN_int.f k a0 = some r0) (w : World) :
    Calls Tryz.prog 86 ([.int .i64 a0] : List Value).toArray w (fun e w' => e = .returned (.bool r0) ∧ Ext w w') := by
  unfold cmp_isNaN_int.f at h
  refine Calls.of_tri (N := 6) Tryz.func86 rfl rfl rfl (Sep.nil (M := noM)) ?_
  refine Tri.seq ?_
  refine Tri.reg (l := [0]) rfl ?_
  refine F.q rfl rfl rfl (wanted_none rfl) (r_assign rfl) ?_
  refine F.nil ?_
  refine Nrm.seq ?_
  refine Tri.seq ?_
  refine Tri.reg (l := [0, 1, 2, 3]) rfl ?_
  refine F.q rfl rfl rfl (wanted_none rfl) (r_move rfl) ?_
  refine F.q rfl rfl rfl (wanted_none rfl) (r_move rfl) ?_
  refine F.q rfl rfl rfl (wanted_none rfl) (r_neq rfl rfl) ?_
  refine F.q rfl rfl rfl (wanted_none rfl) (r_assign rfl) ?_
  refine F.nil ?_
  refine Nrm.seq ?_
  refine Tri.ret ?_
  cases h
  exact Rtn.body (.tmp rfl .nil) (fun w hw => ⟨rfl, hw.ext⟩)

end Go.Proofs
