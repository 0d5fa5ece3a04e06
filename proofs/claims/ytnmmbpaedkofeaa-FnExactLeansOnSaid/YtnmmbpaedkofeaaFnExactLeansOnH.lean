/- A part of the proof of FnExactLeansOn: what the functions of the program compute, walked on the model. No condition. -/
import Derived.Test.YtnmmbpaedkofeaaFnExactLeansOnC
import Derived.Test.YtnmmbpaedkofeaaFnExactLeansOnF
import Derived.Test.YtnmmbpaedkofeaaFnExactLeansOnG
set_option linter.unusedSimpArgs false
/- loop.example/g01158/impl.LeansOn -/
namespace Go.Proofs
open Go Go.Ga
set_option linter.unusedVariables false
set_option maxRecDepth 100000
set_option maxHeartbeats 4000000
def impl_LeansOn.l0 (k : Nat) (a0_0 : List (Int × List (Int × Int × Int) × List Int)) (a0_1 : List (List Int)) (a1 : Int) : Nat → (List (Int)) → Int → Option ((List (Int)))
  | 0, _, _ => none
  | n + 1, x6, x25 => (if (decide (x25 < (a0_0.length : Int))) = true then (rdl a0_0 x25).bind fun t28 => ((if (x25 != a1) = true then (impl_laid.f k t28.1 t28.2.1 t28.2.2 [] []).bind fun (t37_1, t37_2, t37_3) => if 0 ≤ x25 ∧ x25 < (a0_0.length : Int) ∧ a0_0.length < 1099511627776 then (impl_play.f k (a0_0.set (x25).toNat (t37_1, t37_2, t37_3)) a0_1 false).bind fun (t39_1, t39_2) => (impl_played_won.f k t39_1 t39_2).bind fun t40 => (rdl t40 a1).bind fun t42 => some (decide (t42 < 0)) else none else some false)).bind fun y45 => ((if y45 = true then if (x6 ++ ([x25] : List (Int))).length < 1099511627776 then some (x6 ++ ([x25] : List (Int))) else none else some x6)).bind fun y6 => impl_LeansOn.l0 k a0_0 a0_1 a1 n y6 (w64 (x25 + 1)) else some x6)

def impl_LeansOn.f (k : Nat) (a0_0 : List (Int × List (Int × Int × Int) × List Int)) (a0_1 : List (List Int)) (a1 : Int) : Option ((List Int) × Bool) := (impl_isWorld.f k a0_0 a0_1 a1).bind fun t11 => (if (!t11) = true then some ([], false) else (impl_play.f k a0_0 a0_1 false).bind fun (t15_1, t15_2) => (impl_played_won.f k t15_1 t15_2).bind fun t16 => (rdl t16 a1).bind fun t18 => (if (decide (t18 < 0)) = true then some (([] : List (Int)), true) else (impl_LeansOn.l0 k a0_0 a0_1 a1 k ([] : List (Int)) 0).bind fun x6 => some (x6, true)))

theorem impl_LeansOn.ok {k : Nat}  {a0_0 : List (Int × List (Int × Int × Int) × List Int)} {a0_1 : List (List Int)} {a1 : Int} {r0 : List Int} {r1 : Bool} (h : impl_LeansOn.f k a0_0 a0_1 a1 = some (r0, r1)) (w : World) {va0_0 : Value} {va0_1 : Value} (hr_a0_0 : Rd w va0_0 a0_0) (hr_a0_1 : Rd w va0_1 a0_1) :
    Calls Try.prog 30 ([.agg ([va0_0, va0_1].toArray), .int .i64 a1] : List Value).toArray w (Post (fun u ns => ∃ (ur0 : Value) (Sr0 : Nat → Prop), u = .tuple #[ur0, .bool r1] ∧ SlLen ur0 r0.length ∧ ns = [R.sl Sr0 ur0 r0]) w) := by
  unfold impl_LeansOn.f at h
  have hl_va0_0 := hr_a0_0.len
  have hl_va0_1 := hr_a0_1.len
  obtain ⟨ls_va0_0, hab_va0_0, hfl_va0_0, hrd_va0_0⟩ := shM_open hr_a0_0
  refine Calls.of_tri (N := 52) Try.func30 rfl rfl rfl (Sep.nil (M := noM)) ?_
  refine Tri.seq ?_
  refine Tri.reg (l := [0, 1, 2]) rfl ?_
  refine F.m rfl rfl rfl (wanted_none rfl) (m_boxG rfl rfl) ?_
  rintro _ _ ⟨b2_1, rfl, rfl⟩
  refine F.q rfl rfl rfl (wanted_none rfl) (r_assign rfl) ?_
  refine F.q rfl rfl rfl (wanted_none rfl) (r_assign rfl) ?_
  refine F.nil ?_
  refine Nrm.seq ?_
  refine Tri.seq ?_
  refine Tri.seq ?_
  obtain ⟨t11, h11, h⟩ := bind_some h
  refine Tri.reg (l := [0, 1, 2, 3]) rfl ?_
  refine F.q rfl rfl rfl (wanted_none rfl) (r_loadA ta31 ti31 rfl rfl (fun w hw => (box_cells (i := 0) rfl w hw))) ?_
  refine F.q rfl rfl rfl (wanted_none rfl) (r_move rfl) ?_
  refine F.qc rfl rfl rfl (wanted_none rfl) (q_callF (xs := _) rfl ok72 rfl rfl (fun w hw => impl_isWorld.ok h11 w ((fun _ hw => hr_a0_0.sep hw) w hw) ((fun _ hw => hr_a0_1.sep hw) w hw))) ?_
  refine F.q rfl rfl rfl (wanted_none rfl) (r_not rfl) ?_
  refine F.nil ?_
  refine Nrm.seq ?_
  refine Tri.cond (b := !t11) rfl (fun g_1 => ?_) (fun g_1 => ?_)
  · replace h := if_tt g_1 h
    refine Tri.seq ?_
    refine Tri.reg (l := [0, 1]) rfl ?_
    refine F.q rfl rfl rfl (wanted_none rfl) (r_assign rfl) ?_
    refine F.q rfl rfl rfl (wanted_none rfl) (r_assign rfl) ?_
    refine F.nil ?_
    refine Nrm.seq ?_
    refine Tri.ret ?_
    refine Rtn.then ?_
    cases h
    exact Rtn.body (.tmp rfl (.tmp rfl .nil)) (fun w hw => ⟨_, _, rfl, ⟨.slice none 0 0, fun _ => False, rfl, len_nil, rfl⟩, Sep.pick (is := [0]) rfl rfl hw.pushNil⟩)
  · replace h := if_ff g_1 h
    refine Tri.skip ?_
    refine Nrm.seq ?_
    refine Tri.seq ?_
    refine Tri.reg (l := [0, 1]) rfl ?_
    refine F.m rfl rfl rfl (wanted_none rfl) (m_build0 (α := Int) Try.underlying38 ti3) ?_
    rintro v13_1 _ ⟨S13_1, hl_v13_1, rfl⟩
    refine F.q rfl rfl rfl (wanted_none rfl) (r_assign rfl) ?_
    refine F.nil ?_
    refine Nrm.seq ?_
    refine Tri.seq ?_
    refine Tri.seq ?_
    obtain ⟨⟨t15_1, t15_2⟩, h15, h⟩ := bind_some h
    obtain ⟨t16, h16, h⟩ := bind_some h
    obtain ⟨t18, h18, h⟩ := bind_some h
    refine Tri.reg (l := [0, 1, 2, 3, 4, 5, 6]) rfl ?_
    refine F.q rfl rfl rfl (wanted_none rfl) (r_loadA ta31 ti31 rfl rfl (fun w hw => (box_cells (i := 1) rfl w hw))) ?_
    refine F.m rfl rfl rfl (wanted_none rfl) (m_callF (xs := _) rfl ok66 rfl rfl (fun w hw => impl_play.ok h15 w ((fun _ hw => hr_a0_0.sep hw) w hw) ((fun _ hw => hr_a0_1.sep hw) w hw))) ?_
    rintro _ _ ⟨_, ⟨v15_1, S15_1, v15_2, S15_2, rfl, hl_v15_1, hl_v15_2, rfl⟩, rfl⟩
    refine F.m rfl rfl rfl (wanted_none rfl) (m_callF (xs := _) rfl ok69 rfl rfl (fun w hw => impl_played_won.ok h16 w ((rd_sl (i := 0) rfl) w hw) ((rd_sl (i := 1) rfl) w hw))) ?_
    rintro v16_1 _ ⟨_, ⟨S16_1, hl_v16_1, rfl⟩, rfl⟩
    refine F.q rfl rfl rfl (wanted_none rfl) (r_move rfl) ?_
    refine F.q rfl rfl rfl (wanted_none rfl) (r_indexAddrS Try.underlying38 ti3 rfl hl_v16_1 rfl (rdl_some h18).1 (rdl_some h18).2.1) ?_
    refine F.q rfl rfl rfl (wanted_none rfl) (r_load ta3 rfl (fun w hw => cell_0 (Rd.flat ((rd_sl (i := 0) rfl) w hw) (rdl_some h18).2.2) rfl)) ?_
    refine F.q rfl rfl rfl (wanted_none rfl) (r_lss rfl rfl) ?_
    refine F.nil ?_
    refine Nrm.seq ?_
    refine Tri.cond (b := decide (t18 < 0)) rfl (fun g_2 => ?_) (fun g_2 => ?_)
    · replace h := if_tt g_2 h
      refine Tri.seq ?_
      refine Tri.reg (l := [0, 1, 2]) rfl ?_
      refine F.q rfl rfl rfl (wanted_none rfl) (r_move rfl) ?_
      refine F.q rfl rfl rfl (wanted_none rfl) (r_assign rfl) ?_
      refine F.q rfl rfl rfl (wanted_none rfl) (r_assign rfl) ?_
      refine F.nil ?_
      refine Nrm.seq ?_
      refine Tri.ret ?_
      refine Rtn.then ?_
      cases h
      exact Rtn.body (.tmp rfl (.tmp rfl .nil)) (fun w hw => ⟨_, _, rfl, ⟨v13_1, S13_1, rfl, hl_v13_1, rfl⟩, Sep.pick (is := [3]) rfl rfl hw⟩)
    · replace h := if_ff g_2 h
      refine Tri.skip ?_
      refine Nrm.seq ?_
      refine Tri.seq ?_
      refine Tri.seq ?_
      refine Tri.reg (l := [0, 1, 2, 3]) rfl ?_
      refine F.q rfl rfl rfl (wanted_none rfl) (r_fieldAddr tf31_0 rfl) ?_
      refine F.q rfl rfl rfl (wanted_none rfl) (r_load ta29 rfl (fun w hw => cell_1 (box_cells (i := 4) rfl w hw) rfl)) ?_
      refine F.q rfl rfl rfl (wanted_none rfl) (r_len Try.underlying29 rfl hl_va0_0) ?_
      refine F.q rfl rfl rfl (wanted_none rfl) (r_move rfl) ?_
      refine F.nil ?_
      refine Nrm.seq ?_
      obtain ⟨x6, hE_1, h⟩ := bind_some h
      refine Tri.block ?_
      refine Tri.only [1, 2, 6, 23, 24, 25] rfl ?_
      refine Tri.pick [4, 3] rfl rfl ?_
      refine Tri.rounds (fun n e' C' => ∃ (x6' : List (Int)) (x25' : Int) (w6 : Value) (T6 : Nat → Prop), impl_LeansOn.l0 k a0_0 a0_1 a1 n x6' x25' = some x6 ∧ SlLen w6 (x6').length ∧ e' = [(1, .int .i64 a1), (2, .pointer (some ⟨b2_1, 0, none⟩)), (6, w6), (23, va0_0), (24, .int .i64 (a0_0.length : Int)), (25, .int .i64 x25')] ∧ C' = Sep w noM [R.box b2_1 31 [va0_0, va0_1], R.sl T6 w6 (x6' : List (Int))]) k ?_ ?_ ?_
      · exact ⟨([] : List (Int)), 0, v13_1, S13_1, hE_1, hl_v13_1, rfl, rfl⟩
      · rintro _ _ ⟨_, _, _, _, hE_1, _⟩
        rw [impl_LeansOn.l0.eq_1] at hE_1; cases hE_1
      · rintro n_1 _ _ ⟨x6, x25, w6, T6, hE_1, hl_w6, rfl, rfl⟩ ih_1
        rw [impl_LeansOn.l0.eq_2] at hE_1
        refine Tri.seq ?_
        refine Tri.reg (l := [0]) rfl ?_
        refine F.q rfl rfl rfl (wanted_none rfl) (r_lss rfl rfl) ?_
        refine F.nil ?_
        refine Nrm.seq ?_
        refine Tri.seq ?_
        refine Tri.cond (b := decide (x25 < (a0_0.length : Int))) rfl (fun g_3 => ?_) (fun g_3 => ?_)
        · replace hE_1 := if_tt g_3 hE_1
          refine Tri.skip ?_
          refine Nrm.seq ?_
          refine Tri.seq ?_
          refine Tri.block ?_
          refine Tri.seq ?_
          obtain ⟨t28, h28, hE_1⟩ := bind_some hE_1
          obtain ⟨_, hc28, hp28⟩ := Rd.elem hr_a0_0 (rdl_some h28).2.2
          obtain ⟨v28_1, v28_2, rfl, hr_v28_1, hr_v28_2⟩ := op55 hp28
          have hl_v28_1 := hr_v28_1.len
          have hl_v28_2 := hr_v28_2.len
          refine Tri.reg (l := [0, 1, 2, 3, 4, 5]) rfl ?_
          refine F.q rfl rfl rfl (wanted_none rfl) (r_move rfl) ?_
          refine F.q rfl rfl rfl (wanted_none rfl) (r_indexAddrS Try.underlying29 ti55 rfl hl_va0_0 rfl (rdl_some h28).1 (rdl_some h28).2.1) ?_
          refine F.q rfl rfl rfl (wanted_none rfl) (r_loadA ta55 ti55 rfl rfl (fun w hw => (hc28.sep hw))) ?_
          refine F.m rfl rfl rfl (wanted_none rfl) (m_alloc ti55) ?_
          rintro _ _ ⟨b8_1, rfl, rfl⟩
          refine F.q rfl rfl rfl (wanted_none rfl) (r_assign rfl) ?_
          refine F.ef0 rfl rfl (wanted_none rfl) (d_storeG0 (i := 0) (cs2 := [.int .i64 t28.1, v28_1, v28_2]) ti55 rfl rfl rfl rfl rfl (Nat.le_of_ble_eq_true rfl) (lf_cons rfl (lf_cons (sl_leaf hl_v28_1) (lf_cons (sl_leaf hl_v28_2) lf_nil)))) ?_
          rintro _ _ ⟨rfl, rfl⟩
          refine F.nil ?_
          refine Nrm.seq ?_
          refine Tri.seq ?_
          obtain ⟨y45, hE_2, hE_1⟩ := bind_some hE_1
          refine Tri.cut (fun e' C' => e' = [(1, .int .i64 a1), (2, .pointer (some ⟨b2_1, 0, none⟩)), (6, w6), (7, .int .i64 x25), (23, va0_0), (24, .int .i64 (a0_0.length : Int)), (25, .int .i64 x25), (45, .bool y45)] ∧ C' = Sep w noM [R.box b2_1 31 [va0_0, va0_1], R.sl T6 w6 (x6 : List (Int))]) ?_ (fun hj_1 => ?_)
          · rintro _ _ ⟨rfl, rfl⟩
            refine Nrm.seq ?_
            obtain ⟨y6, hE_3, hE_1⟩ := bind_some hE_1
            refine Tri.cut (fun e' C' => ∃ (v6_1 : Value) (S6_1 : Nat → Prop), SlLen v6_1 (y6).length ∧ e' = [(1, .int .i64 a1), (2, .pointer (some ⟨b2_1, 0, none⟩)), (6, v6_1), (23, va0_0), (24, .int .i64 (a0_0.length : Int)), (25, .int .i64 x25)] ∧ C' = Sep w noM [R.box b2_1 31 [va0_0, va0_1], R.sl S6_1 v6_1 (y6 : List (Int))]) ?_ (fun hj_2 => ?_)
            · rintro _ _ ⟨v6_1, S6_1, hl_v6_1, rfl, rfl⟩
              refine Nrm.block ?_
              refine Nrm.seq ?_
              refine Tri.reg (l := [0, 1]) rfl ?_
              refine F.q rfl rfl rfl (wanted_none rfl) (r_add rfl rfl) ?_
              refine F.q rfl rfl rfl (wanted_none rfl) (r_move rfl) ?_
              refine F.nil ?_
              refine Nrm.round ?_
              refine Rnd.only [1, 2, 6, 23, 24, 25] rfl ?_
              refine Rnd.pick [0, 1] rfl rfl ?_
              exact ih_1 _ _ ⟨y6, w64 (x25 + 1), v6_1, S6_1, hE_1, hl_v6_1, rfl, rfl⟩
            · refine Tri.cond (b := y45) rfl (fun g_4 => ?_) (fun g_4 => ?_)
              · replace hE_3 := if_tt g_4 hE_3
                obtain ⟨hs49, hE_3⟩ := ck hE_3
                refine Tri.reg (l := [0, 1, 2, 3, 4]) rfl ?_
                refine F.q rfl rfl rfl (wanted_none rfl) (r_move rfl) ?_
                refine F.q rfl rfl rfl (wanted_none rfl) (r_move rfl) ?_
                refine F.m rfl rfl rfl (wanted_none rfl) (m_buildF (l := ([x25] : List (Int))) Try.underlying38 ti3 rfl rfl rfl rfl rfl) ?_
                rintro v48_1 _ ⟨S48_1, hl_v48_1, rfl⟩
                refine F.ef rfl rfl rfl (wanted_none rfl) (d_append (i := 2) Try.underlying38 Try.underlying38 ti3 rfl (by decide) rfl rfl rfl (rd_sl (i := 0) rfl) hs49) ?_
                rintro v49_1 _ ⟨S49_1, rfl, hl_v49_1⟩
                refine F.q rfl rfl rfl (wanted_none rfl) (r_assign rfl) ?_
                refine F.nil ?_
                cases hE_3
                refine Nrm.only [1, 2, 6, 23, 24, 25] rfl ?_
                refine Nrm.pick [1, 2] rfl rfl ?_
                exact hj_2 _ _ ⟨v49_1, S49_1, hl_v49_1, rfl, rfl⟩
              · replace hE_3 := if_ff g_4 hE_3
                refine Tri.skip ?_
                cases hE_3
                refine Nrm.only [1, 2, 6, 23, 24, 25] rfl ?_
                refine Nrm.pick [0, 1] rfl rfl ?_
                exact hj_2 _ _ ⟨w6, T6, hl_w6, rfl, rfl⟩
          · rcases Bool.eq_false_or_eq_true (x25 != a1) with g33 | g33
            · replace hE_2 := if_tt g33 hE_2
              obtain ⟨⟨t37_1, t37_2, t37_3⟩, h37, hE_2⟩ := bind_some hE_2
              obtain ⟨hx38, hE_2⟩ := ck hE_2
              obtain ⟨⟨t39_1, t39_2⟩, h39, hE_2⟩ := bind_some hE_2
              obtain ⟨t40, h40, hE_2⟩ := bind_some hE_2
              obtain ⟨t42, h42, hE_2⟩ := bind_some hE_2
              refine Tri.drawA mixedT Sep.up [(0, true), (1, true), (2, true), (3, true), (4, true), (5, true), (6, true), (11, true), (7, false), (8, false), (9, false), (10, false), (12, true), (13, true), (14, true), (15, true)] [] (by kernel_rfl) ?_
              refine S.q rfl rfl rfl (wanted_none rfl) (r_move rfl) ?_
              refine S.q rfl rfl rfl (wanted_none rfl) (r_move rfl) ?_
              refine S.q rfl rfl rfl (wanted_none rfl) (r_neq rfl rfl) ?_
              refine S.q rfl rfl rfl (wanted_none rfl) (r_move rfl) ?_
              refine S.q rfl rfl rfl (wg rfl rfl rfl g33) (r_loadA ta31 ti31 rfl rfl (fun w hw => (box_cells (i := 1) rfl w hw))) ?_
              refine S.q rfl rfl rfl (wg rfl rfl rfl g33) (r_move rfl) ?_
              refine S.q rfl rfl rfl (wg rfl rfl rfl g33) (r_loadA ta55 ti55 rfl rfl (fun w hw => (box_cells (i := 0) rfl w hw))) ?_
              refine S.q rfl rfl rfl (wg rfl rfl rfl g33) (r_move rfl) ?_
              refine S.m rfl rfl rfl (wg rfl rfl rfl g33) (m_callF (xs := _) rfl ok74 rfl rfl (fun w hw => impl_laid.ok h37 w ((fun _ hw => hr_v28_1.sep hw) w hw) ((fun _ hw => hr_v28_2.sep hw) w hw) ((fun _ _ => rd_nil) w hw) ((fun _ _ => rd_nil) w hw))) ?_
              rintro _ _ ⟨_, ⟨v37_5, S37_5, v37_6, S37_6, rfl, hl_v37_5, hl_v37_6, rfl⟩, rfl⟩
              refine S.m rfl rfl rfl (wg rfl rfl rfl g33) (m_callF (xs := _) rfl ok73 rfl rfl (fun w hw => impl_withMaze.okx (d := t37_2) (ks := t37_3) ⟨hx38.1, hx38.2.1⟩ hx38.2.2 w hab_va0_0 (Rd.sep hfl_va0_0 hw) ((fun _ hw => hr_a0_1.sep hw) w hw) (SlLen.leaf hl_v37_5) (SlLen.leaf hl_v37_6))) ?_
              rintro _ _ ⟨_, ⟨v38_3, S38_3, rfl, hl_v38_3, rfl⟩, rfl⟩
              refine S.m rfl rfl rfl (wg rfl rfl rfl g33) (m_callF (xs := _) rfl ok66 rfl rfl (fun w hw => impl_play.ok h39 w ((rd_withM (i := 0) rfl hab_va0_0 hrd_va0_0 (rd_sl (i := 1) rfl) (rd_sl (i := 2) rfl)) w hw) ((fun _ hw => hr_a0_1.sep hw) w hw))) ?_
              rintro _ _ ⟨_, ⟨v39_5, S39_5, v39_6, S39_6, rfl, hl_v39_5, hl_v39_6, rfl⟩, rfl⟩
              refine S.m rfl rfl rfl (wg rfl rfl rfl g33) (m_callF (xs := _) rfl ok69 rfl rfl (fun w hw => impl_played_won.ok h40 w ((rd_sl (i := 0) rfl) w hw) ((rd_sl (i := 1) rfl) w hw))) ?_
              rintro v40_3 _ ⟨_, ⟨S40_3, hl_v40_3, rfl⟩, rfl⟩
              refine S.q rfl rfl rfl (wg rfl rfl rfl g33) (r_indexAddrS Try.underlying38 ti3 rfl hl_v40_3 rfl (rdl_some h42).1 (rdl_some h42).2.1) ?_
              refine S.q rfl rfl rfl (wg rfl rfl rfl g33) (r_load ta3 rfl (fun w hw => cell_0 (Rd.flat ((rd_sl (i := 0) rfl) w hw) (rdl_some h42).2.2) rfl)) ?_
              refine S.q rfl rfl rfl (wg rfl rfl rfl g33) (r_lss rfl rfl) ?_
              refine S.q rfl rfl rfl (wanted_none rfl) (r_pick rfl rfl g33) ?_
              refine S.nil ?_
              refine F.nil ?_
              cases hE_2
              refine Nrm.only [1, 2, 6, 7, 23, 24, 25, 45] rfl ?_
              refine Nrm.pick [7, 8] rfl rfl ?_
              exact hj_1 _ _ ⟨rfl, rfl⟩
            · replace hE_2 := if_ff g33 hE_2
              refine Tri.drawA mixedT Sep.up [(0, true), (1, true), (2, true), (3, true), (4, true), (5, true), (6, true), (7, true), (8, true), (9, true), (10, true), (11, true), (12, true), (13, true), (14, true), (15, true)] [] (by kernel_rfl) ?_
              refine S.q rfl rfl rfl (wanted_none rfl) (r_move rfl) ?_
              refine S.q rfl rfl rfl (wanted_none rfl) (r_move rfl) ?_
              refine S.q rfl rfl rfl (wanted_none rfl) (r_neq rfl rfl) ?_
              refine S.q rfl rfl rfl (wanted_none rfl) (r_move rfl) ?_
              refine S.sk rfl rfl rfl (wf rfl rfl rfl g33) ?_
              refine S.sk rfl rfl rfl (wf rfl rfl rfl g33) ?_
              refine S.sk rfl rfl rfl (wf rfl rfl rfl g33) ?_
              refine S.sk rfl rfl rfl (wf rfl rfl rfl g33) ?_
              refine S.sk rfl rfl rfl (wf rfl rfl rfl g33) ?_
              refine S.sk rfl rfl rfl (wf rfl rfl rfl g33) ?_
              refine S.sk rfl rfl rfl (wf rfl rfl rfl g33) ?_
              refine S.sk rfl rfl rfl (wf rfl rfl rfl g33) ?_
              refine S.sk rfl rfl rfl (wf rfl rfl rfl g33) ?_
              refine S.sk rfl rfl rfl (wf rfl rfl rfl g33) ?_
              refine S.sk rfl rfl rfl (wf rfl rfl rfl g33) ?_
              refine S.q rfl rfl rfl (wanted_none rfl) (r_pickf rfl rfl g33) ?_
              refine S.nil ?_
              refine F.nil ?_
              cases hE_2
              refine Nrm.only [1, 2, 6, 7, 23, 24, 25, 45] rfl ?_
              refine Nrm.pick [1, 2] rfl rfl ?_
              exact hj_1 _ _ ⟨rfl, rfl⟩
        · replace hE_1 := if_ff g_3 hE_1
          refine Tri.exit ?_
          refine Exi.then ?_
          refine Exi.then ?_
          refine Exi.same ?_
          cases hE_1
          refine Nrm.seq ?_
          refine Tri.seq ?_
          refine Tri.reg (l := [0, 1, 2]) rfl ?_
          refine F.q rfl rfl rfl (wanted_none rfl) (r_move rfl) ?_
          refine F.q rfl rfl rfl (wanted_none rfl) (r_assign rfl) ?_
          refine F.q rfl rfl rfl (wanted_none rfl) (r_assign rfl) ?_
          refine F.nil ?_
          refine Nrm.seq ?_
          refine Tri.ret ?_
          cases h
          exact Rtn.body (.tmp rfl (.tmp rfl .nil)) (fun w hw => ⟨_, _, rfl, ⟨w6, T6, rfl, hl_w6, rfl⟩, Sep.pick (is := [1]) rfl rfl hw⟩)

end Go.Proofs

/- loop.example/g01158/laws.FnExactLeansOn -/
namespace Go.Proofs
open Go Go.Ga
set_option linter.unusedVariables false
set_option maxRecDepth 100000
set_option maxHeartbeats 4000000
def laws_FnExactLeansOn.f (k : Nat) (a0_0 : List (Int × List (Int × Int × Int) × List Int)) (a0_1 : List (List Int)) (a1 : Int) : Option (Bool) := (laws_szWorlds.f k a0_0 a0_1 1048576).bind fun t18 => (if (decide (t18 < 0)) = true then some true else (laws_toWorlds.f k a0_0 a0_1).bind fun (t23_1, t23_2) => (spec_LeansOn.f k t23_1 t23_2 a1).bind fun (t25_1, t25_2) => (laws_toWorlds.f k a0_0 a0_1).bind fun (t29_1, t29_2) => (impl_LeansOn.f k t29_1 t29_2 a1).bind fun (t33_1, t33_2) => ((laws_eqIntS.f k t33_1 t25_1).bind fun t38 => (if (!t38) = true then some true else some (t33_2 != t25_2))).bind fun y44 => (if y44 = true then some false else (laws_toWorlds.f k a0_0 a0_1).bind fun (t47_1, t47_2) => (laws_eqWorlds.f k t29_1 t29_2 t47_1 t47_2).bind fun t48 => (if (!t48) = true then some false else (laws_markWorlds.f k t29_1 t29_2 1).bind fun (t52_1, t52_2, t52_3) => ((if (decide (t52_1 < 0)) = true then some true else (laws_eqIntS.f k t33_1 t25_1).bind fun t58 => (if (!t58) = true then some true else some (t33_2 != t25_2)))).bind fun y65 => (if y65 = true then some false else (laws_markIntS.f k t33_1 1).bind fun (t68_1, t68_2) => (laws_heldIntS.f k t68_2 1).bind fun t71 => (if (decide (t71 < 0)) = true then some false else (if (t71 != t68_1) = true then some false else (laws_toWorlds.f k a0_0 a0_1).bind fun (t79_1, t79_2) => (impl_LeansOn.f k t79_1 t79_2 a1).bind fun (t81_1, t81_2) => ((laws_eqIntS.f k t81_1 t25_1).bind fun t86 => (if (!t86) = true then some true else some (t81_2 != t25_2))).bind fun y92 => (if y92 = true then some false else (laws_heldIntS.f k t68_2 1).bind fun t95 => (if (decide (t95 < 0)) = true then some false else (if (t95 != t68_1) = true then some false else some true)))))))))

theorem laws_FnExactLeansOn.ok {k : Nat}  {a0_0 : List (Int × List (Int × Int × Int) × List Int)} {a0_1 : List (List Int)} {a1 : Int} {r0 : Bool} (h : laws_FnExactLeansOn.f k a0_0 a0_1 a1 = some r0) (w : World) {va0_0 : Value} {va0_1 : Value} (hr_a0_0 : Rd w va0_0 a0_0) (hr_a0_1 : Rd w va0_1 a0_1) :
    Calls Try.prog 5 ([.agg ([va0_0, va0_1].toArray), .int .i64 a1] : List Value).toArray w (fun e w' => e = .returned (.bool r0) ∧ Ext w w') := by
  unfold laws_FnExactLeansOn.f at h
  have hl_va0_0 := hr_a0_0.len
  have hl_va0_1 := hr_a0_1.len
  refine Calls.of_tri (N := 101) Try.func5 rfl rfl rfl (Sep.nil (M := noM)) ?_
  refine Tri.seq ?_
  refine Tri.reg (l := [0, 1]) rfl ?_
  refine F.m rfl rfl rfl (wanted_none rfl) (m_boxG rfl rfl) ?_
  rintro _ _ ⟨b2_1, rfl, rfl⟩
  refine F.q rfl rfl rfl (wanted_none rfl) (r_assign rfl) ?_
  refine F.nil ?_
  refine Nrm.seq ?_
  refine Tri.seq ?_
  refine Tri.reg (l := [0]) rfl ?_
  refine F.q rfl rfl rfl (wanted_none rfl) (r_assign rfl) ?_
  refine F.nil ?_
  refine Nrm.seq ?_
  refine Tri.seq ?_
  obtain ⟨t18, h18, h⟩ := bind_some h
  refine Tri.reg (l := [0, 1, 2, 3]) rfl ?_
  refine F.q rfl rfl rfl (wanted_none rfl) (r_loadA ta25 ti25 rfl rfl (fun w hw => (box_cells (i := 0) rfl w hw))) ?_
  refine F.q rfl rfl rfl (wanted_none rfl) (r_move rfl) ?_
  refine F.qc rfl rfl rfl (wanted_none rfl) (q_callF (xs := _) rfl ok15 rfl rfl (fun w hw => laws_szWorlds.ok h18 w ((fun _ hw => hr_a0_0.sep hw) w hw) ((fun _ hw => hr_a0_1.sep hw) w hw))) ?_
  refine F.q rfl rfl rfl (wanted_none rfl) (r_assign rfl) ?_
  refine F.nil ?_
  refine Nrm.seq ?_
  refine Tri.seq ?_
  refine Tri.seq ?_
  refine Tri.reg (l := [0, 1]) rfl ?_
  refine F.q rfl rfl rfl (wanted_none rfl) (r_move rfl) ?_
  refine F.q rfl rfl rfl (wanted_none rfl) (r_lss rfl rfl) ?_
  refine F.nil ?_
  refine Nrm.seq ?_
  refine Tri.cond (b := decide (t18 < 0)) rfl (fun g_1 => ?_) (fun g_1 => ?_)
  · replace h := if_tt g_1 h
    refine Tri.seq ?_
    refine Tri.reg (l := [0]) rfl ?_
    refine F.q rfl rfl rfl (wanted_none rfl) (r_assign rfl) ?_
    refine F.nil ?_
    refine Nrm.seq ?_
    refine Tri.ret ?_
    refine Rtn.then ?_
    cases h
    exact Rtn.body (.tmp rfl .nil) (fun w hw => ⟨rfl, hw.ext⟩)
  · replace h := if_ff g_1 h
    refine Tri.skip ?_
    refine Nrm.seq ?_
    refine Tri.seq ?_
    obtain ⟨⟨t23_1, t23_2⟩, h23, h⟩ := bind_some h
    obtain ⟨⟨t25_1, t25_2⟩, h25, h⟩ := bind_some h
    refine Tri.reg (l := [0, 1, 2, 3, 4, 5, 6, 7, 8]) rfl ?_
    refine F.q rfl rfl rfl (wanted_none rfl) (r_loadA ta25 ti25 rfl rfl (fun w hw => (box_cells (i := 0) rfl w hw))) ?_
    refine F.m rfl rfl rfl (wanted_none rfl) (m_callF (xs := _) rfl ok17 rfl rfl (fun w hw => laws_toWorlds.ok h23 w ((fun _ hw => hr_a0_0.sep hw) w hw) ((fun _ hw => hr_a0_1.sep hw) w hw))) ?_
    rintro _ _ ⟨_, ⟨v23_1, S23_1, v23_2, S23_2, rfl, hl_v23_1, hl_v23_2, rfl⟩, rfl⟩
    refine F.q rfl rfl rfl (wanted_none rfl) (r_move rfl) ?_
    refine F.m rfl rfl rfl (wanted_none rfl) (m_callF (xs := _) rfl ok29 rfl rfl (fun w hw => spec_LeansOn.ok h25 w ((rd_sl (i := 0) rfl) w hw) ((rd_sl (i := 1) rfl) w hw))) ?_
    rintro _ _ ⟨_, ⟨v25_1, S25_1, rfl, hl_v25_1, rfl⟩, rfl⟩
    refine F.q rfl rfl rfl (wanted_none rfl) (r_move rfl) ?_
    refine F.q rfl rfl rfl (wanted_none rfl) (r_extract rfl rfl) ?_
    refine F.q rfl rfl rfl (wanted_none rfl) (r_extract rfl rfl) ?_
    refine F.q rfl rfl rfl (wanted_none rfl) (r_assign rfl) ?_
    refine F.q rfl rfl rfl (wanted_none rfl) (r_assign rfl) ?_
    refine F.nil ?_
    refine Nrm.seq ?_
    refine Tri.seq ?_
    obtain ⟨⟨t29_1, t29_2⟩, h29, h⟩ := bind_some h
    refine Tri.reg (l := [0, 1, 2, 3]) rfl ?_
    refine F.q rfl rfl rfl (wanted_none rfl) (r_loadA ta25 ti25 rfl rfl (fun w hw => (box_cells (i := 3) rfl w hw))) ?_
    refine F.m rfl rfl rfl (wanted_none rfl) (m_callF (xs := _) rfl ok17 rfl rfl (fun w hw => laws_toWorlds.ok h29 w ((fun _ hw => hr_a0_0.sep hw) w hw) ((fun _ hw => hr_a0_1.sep hw) w hw))) ?_
    rintro _ _ ⟨_, ⟨v29_1, S29_1, v29_2, S29_2, rfl, hl_v29_1, hl_v29_2, rfl⟩, rfl⟩
    refine F.m rfl rfl rfl (wanted_none rfl) (m_alloc ti31) ?_
    rintro _ _ ⟨b8_1, rfl, rfl⟩
    refine F.ef0 rfl rfl (wanted_none rfl) (d_storeG0 (i := 0) (cs2 := [v29_1, v29_2]) ti31 rfl rfl rfl rfl rfl (Nat.le_of_ble_eq_true rfl) (lf_cons (sl_leaf hl_v29_1) (lf_cons (sl_leaf hl_v29_2) lf_nil))) ?_
    rintro _ _ ⟨rfl, rfl⟩
    refine F.nil ?_
    refine Nrm.seq ?_
    refine Tri.seq ?_
    obtain ⟨⟨t33_1, t33_2⟩, h33, h⟩ := bind_some h
    refine Tri.reg (l := [0, 1, 2, 3, 4, 5, 6, 7]) rfl ?_
    refine F.q rfl rfl rfl (wanted_none rfl) (r_loadA ta31 ti31 rfl rfl (fun w hw => (box_cells (i := 0) rfl w hw))) ?_
    refine F.q rfl rfl rfl (wanted_none rfl) (r_move rfl) ?_
    refine F.m rfl rfl rfl (wanted_none rfl) (m_callF (xs := _) rfl ok30 rfl rfl (fun w hw => impl_LeansOn.ok h33 w ((rd_sl (i := 1) rfl) w hw) ((rd_sl (i := 2) rfl) w hw))) ?_
    rintro _ _ ⟨_, ⟨v33_1, S33_1, rfl, hl_v33_1, rfl⟩, rfl⟩
    refine F.q rfl rfl rfl (wanted_none rfl) (r_move rfl) ?_
    refine F.q rfl rfl rfl (wanted_none rfl) (r_extract rfl rfl) ?_
    refine F.q rfl rfl rfl (wanted_none rfl) (r_extract rfl rfl) ?_
    refine F.q rfl rfl rfl (wanted_none rfl) (r_assign rfl) ?_
    refine F.q rfl rfl rfl (wanted_none rfl) (r_assign rfl) ?_
    refine F.nil ?_
    refine Nrm.seq ?_
    refine Tri.seq ?_
    refine Tri.seq ?_
    obtain ⟨y44, hE_1, h⟩ := bind_some h
    refine Tri.cut (fun e' C' => e' = [(1, .int .i64 a1), (2, .pointer (some ⟨b2_1, 0, none⟩)), (6, v25_1), (7, .bool t25_2), (8, .pointer (some ⟨b8_1, 0, none⟩)), (9, v33_1), (10, .bool t33_2), (44, .bool y44)] ∧ C' = Sep w noM [R.box b8_1 31 [v29_1, v29_2], R.box b2_1 25 [va0_0, va0_1], R.sl S25_1 v25_1 (t25_1 : List (Int)), R.sl S29_1 v29_1 (t29_1 : List (Int × List (Int × Int × Int) × List Int)), R.sl S29_2 v29_2 (t29_2 : List (List Int)), R.sl S33_1 v33_1 (t33_1 : List (Int))]) ?_ (fun hj_1 => ?_)
    · rintro _ _ ⟨rfl, rfl⟩
      refine Nrm.seq ?_
      refine Tri.cond (b := y44) rfl (fun g_2 => ?_) (fun g_2 => ?_)
      · replace h := if_tt g_2 h
        refine Tri.seq ?_
        refine Tri.reg (l := [0]) rfl ?_
        refine F.q rfl rfl rfl (wanted_none rfl) (r_assign rfl) ?_
        refine F.nil ?_
        refine Nrm.seq ?_
        refine Tri.ret ?_
        refine Rtn.then ?_
        cases h
        exact Rtn.body (.tmp rfl .nil) (fun w hw => ⟨rfl, hw.ext⟩)
      · replace h := if_ff g_2 h
        refine Tri.skip ?_
        refine Nrm.seq ?_
        refine Tri.seq ?_
        refine Tri.seq ?_
        obtain ⟨⟨t47_1, t47_2⟩, h47, h⟩ := bind_some h
        obtain ⟨t48, h48, h⟩ := bind_some h
        refine Tri.drawA mixedT Sep.up [(0, true), (1, true), (2, false), (3, true), (4, true)] [] (by kernel_rfl) ?_
        refine S.q rfl rfl rfl (wanted_none rfl) (r_loadA ta31 ti31 rfl rfl (fun w hw => (box_cells (i := 0) rfl w hw))) ?_
        refine S.q rfl rfl rfl (wanted_none rfl) (r_loadA ta25 ti25 rfl rfl (fun w hw => (box_cells (i := 1) rfl w hw))) ?_
        refine S.m rfl rfl rfl (wanted_none rfl) (m_callF (xs := _) rfl ok17 rfl rfl (fun w hw => laws_toWorlds.ok h47 w ((fun _ hw => hr_a0_0.sep hw) w hw) ((fun _ hw => hr_a0_1.sep hw) w hw))) ?_
        rintro _ _ ⟨_, ⟨v47_3, S47_3, v47_4, S47_4, rfl, hl_v47_3, hl_v47_4, rfl⟩, rfl⟩
        refine S.qc rfl rfl rfl (wanted_none rfl) (q_callF (xs := _) rfl ok20 rfl rfl (fun w hw => laws_eqWorlds.ok h48 w ((rd_sl (i := 5) rfl) w hw) ((rd_sl (i := 6) rfl) w hw) ((rd_sl (i := 0) rfl) w hw) ((rd_sl (i := 1) rfl) w hw))) ?_
        refine S.q rfl rfl rfl (wanted_none rfl) (r_not rfl) ?_
        refine S.nil ?_
        refine F.nil ?_
        refine Nrm.seq ?_
        refine Tri.cond (b := !t48) rfl (fun g_3 => ?_) (fun g_3 => ?_)
        · replace h := if_tt g_3 h
          refine Tri.seq ?_
          refine Tri.reg (l := [0]) rfl ?_
          refine F.q rfl rfl rfl (wanted_none rfl) (r_assign rfl) ?_
          refine F.nil ?_
          refine Nrm.seq ?_
          refine Tri.ret ?_
          refine Rtn.then ?_
          cases h
          exact Rtn.body (.tmp rfl .nil) (fun w hw => ⟨rfl, hw.ext⟩)
        · replace h := if_ff g_3 h
          refine Tri.skip ?_
          refine Nrm.seq ?_
          refine Tri.seq ?_
          refine Tri.reg (l := [0]) rfl ?_
          refine F.q rfl rfl rfl (wanted_none rfl) (r_assign rfl) ?_
          refine F.nil ?_
          refine Nrm.seq ?_
          refine Tri.seq ?_
          obtain ⟨⟨t52_1, t52_2, t52_3⟩, h52, h⟩ := bind_some h
          refine Tri.reg (l := [0, 1, 2, 3]) rfl ?_
          refine F.q rfl rfl rfl (wanted_none rfl) (r_loadA ta31 ti31 rfl rfl (fun w hw => (box_cells (i := 2) rfl w hw))) ?_
          refine F.q rfl rfl rfl (wanted_none rfl) (r_move rfl) ?_
          refine F.ef rfl rfl rfl (wanted_none rfl) (d_callM (xs := _) (cs := [R.sl S29_1 v29_1 (t29_1 : List (Int × List (Int × Int × Int) × List Int)), R.sl S29_2 v29_2 (t29_2 : List (List Int))]) (rest := [R.sl S47_3 v47_3 (t47_1 : List (Int × List (Int × Int × Int) × List Int)), R.sl S47_4 v47_4 (t47_2 : List (List Int)), R.box b8_1 31 [v29_1, v29_2], R.box b2_1 25 [va0_0, va0_1], R.sl S25_1 v25_1 (t25_1 : List (Int)), R.sl S33_1 v33_1 (t33_1 : List (Int))]) [5, 6] [0, 1, 2, 3, 4, 7] rfl ok21 rfl rfl rfl rfl (fun w hw => laws_markWorlds.ok h52 w hl_v29_1 hl_v29_2 (Sep.sub hw))) ?_
          rintro _ _ ⟨_, ⟨rfl, hl_t52_2, hl_t52_3, rfl⟩, rfl⟩
          refine F.q rfl rfl rfl (wanted_none rfl) (r_assign rfl) ?_
          refine F.nil ?_
          refine Nrm.seq ?_
          refine Tri.seq ?_
          refine Tri.seq ?_
          obtain ⟨y65, hE_2, h⟩ := bind_some h
          refine Tri.cut (fun e' C' => e' = [(1, .int .i64 a1), (2, .pointer (some ⟨b2_1, 0, none⟩)), (6, v25_1), (7, .bool t25_2), (9, v33_1), (65, .bool y65)] ∧ C' = Sep w noM [R.box b2_1 25 [va0_0, va0_1], R.sl S25_1 v25_1 (t25_1 : List (Int)), R.sl S33_1 v33_1 (t33_1 : List (Int))]) ?_ (fun hj_2 => ?_)
          · rintro _ _ ⟨rfl, rfl⟩
            refine Nrm.seq ?_
            refine Tri.cond (b := y65) rfl (fun g_4 => ?_) (fun g_4 => ?_)
            · replace h := if_tt g_4 h
              refine Tri.seq ?_
              refine Tri.reg (l := [0]) rfl ?_
              refine F.q rfl rfl rfl (wanted_none rfl) (r_assign rfl) ?_
              refine F.nil ?_
              refine Nrm.seq ?_
              refine Tri.ret ?_
              refine Rtn.then ?_
              cases h
              exact Rtn.body (.tmp rfl .nil) (fun w hw => ⟨rfl, hw.ext⟩)
            · replace h := if_ff g_4 h
              refine Tri.skip ?_
              refine Nrm.seq ?_
              refine Tri.seq ?_
              refine Tri.reg (l := [0]) rfl ?_
              refine F.q rfl rfl rfl (wanted_none rfl) (r_assign rfl) ?_
              refine F.nil ?_
              refine Nrm.seq ?_
              refine Tri.seq ?_
              obtain ⟨⟨t68_1, t68_2⟩, h68, h⟩ := bind_some h
              refine Tri.reg (l := [0, 1, 2, 3]) rfl ?_
              refine F.q rfl rfl rfl (wanted_none rfl) (r_move rfl) ?_
              refine F.q rfl rfl rfl (wanted_none rfl) (r_move rfl) ?_
              refine F.ef rfl rfl rfl (wanted_none rfl) (d_callM (xs := _) (cs := [R.sl S33_1 v33_1 (t33_1 : List (Int))]) (rest := [R.box b2_1 25 [va0_0, va0_1], R.sl S25_1 v25_1 (t25_1 : List (Int))]) [2] [0, 1] rfl ok27 rfl rfl rfl rfl (fun w hw => laws_markIntS.ok h68 w hl_v33_1 (Sep.sub hw))) ?_
              rintro _ _ ⟨_, ⟨rfl, hl_t68_2, rfl⟩, rfl⟩
              refine F.q rfl rfl rfl (wanted_none rfl) (r_assign rfl) ?_
              refine F.nil ?_
              refine Nrm.seq ?_
              refine Tri.seq ?_
              refine Tri.reg (l := [0]) rfl ?_
              refine F.q rfl rfl rfl (wanted_none rfl) (r_assign rfl) ?_
              refine F.nil ?_
              refine Nrm.seq ?_
              refine Tri.seq ?_
              obtain ⟨t71, h71, h⟩ := bind_some h
              refine Tri.reg (l := [0, 1, 2, 3]) rfl ?_
              refine F.q rfl rfl rfl (wanted_none rfl) (r_move rfl) ?_
              refine F.q rfl rfl rfl (wanted_none rfl) (r_move rfl) ?_
              refine F.qc rfl rfl rfl (wanted_none rfl) (q_callF (xs := _) rfl ok28 rfl rfl (fun w hw => laws_heldIntS.ok h71 w ((rd_sl (i := 0) rfl) w hw))) ?_
              refine F.q rfl rfl rfl (wanted_none rfl) (r_assign rfl) ?_
              refine F.nil ?_
              refine Nrm.seq ?_
              refine Tri.seq ?_
              refine Tri.seq ?_
              refine Tri.reg (l := [0, 1]) rfl ?_
              refine F.q rfl rfl rfl (wanted_none rfl) (r_move rfl) ?_
              refine F.q rfl rfl rfl (wanted_none rfl) (r_lss rfl rfl) ?_
              refine F.nil ?_
              refine Nrm.seq ?_
              refine Tri.cond (b := decide (t71 < 0)) rfl (fun g_5 => ?_) (fun g_5 => ?_)
              · replace h := if_tt g_5 h
                refine Tri.seq ?_
                refine Tri.reg (l := [0]) rfl ?_
                refine F.q rfl rfl rfl (wanted_none rfl) (r_assign rfl) ?_
                refine F.nil ?_
                refine Nrm.seq ?_
                refine Tri.ret ?_
                refine Rtn.then ?_
                cases h
                exact Rtn.body (.tmp rfl .nil) (fun w hw => ⟨rfl, hw.ext⟩)
              · replace h := if_ff g_5 h
                refine Tri.skip ?_
                refine Nrm.seq ?_
                refine Tri.seq ?_
                refine Tri.seq ?_
                refine Tri.reg (l := [0, 1, 2]) rfl ?_
                refine F.q rfl rfl rfl (wanted_none rfl) (r_move rfl) ?_
                refine F.q rfl rfl rfl (wanted_none rfl) (r_move rfl) ?_
                refine F.q rfl rfl rfl (wanted_none rfl) (r_neq rfl rfl) ?_
                refine F.nil ?_
                refine Nrm.seq ?_
                refine Tri.cond (b := t71 != t68_1) rfl (fun g_6 => ?_) (fun g_6 => ?_)
                · replace h := if_tt g_6 h
                  refine Tri.seq ?_
                  refine Tri.reg (l := [0]) rfl ?_
                  refine F.q rfl rfl rfl (wanted_none rfl) (r_assign rfl) ?_
                  refine F.nil ?_
                  refine Nrm.seq ?_
                  refine Tri.ret ?_
                  refine Rtn.then ?_
                  cases h
                  exact Rtn.body (.tmp rfl .nil) (fun w hw => ⟨rfl, hw.ext⟩)
                · replace h := if_ff g_6 h
                  refine Tri.skip ?_
                  refine Nrm.seq ?_
                  refine Tri.seq ?_
                  obtain ⟨⟨t79_1, t79_2⟩, h79, h⟩ := bind_some h
                  obtain ⟨⟨t81_1, t81_2⟩, h81, h⟩ := bind_some h
                  refine Tri.reg (l := [0, 1, 2, 3, 4, 5, 6, 7, 8]) rfl ?_
                  refine F.q rfl rfl rfl (wanted_none rfl) (r_loadA ta25 ti25 rfl rfl (fun w hw => (box_cells (i := 1) rfl w hw))) ?_
                  refine F.m rfl rfl rfl (wanted_none rfl) (m_callF (xs := _) rfl ok17 rfl rfl (fun w hw => laws_toWorlds.ok h79 w ((fun _ hw => hr_a0_0.sep hw) w hw) ((fun _ hw => hr_a0_1.sep hw) w hw))) ?_
                  rintro _ _ ⟨_, ⟨v79_1, S79_1, v79_2, S79_2, rfl, hl_v79_1, hl_v79_2, rfl⟩, rfl⟩
                  refine F.q rfl rfl rfl (wanted_none rfl) (r_move rfl) ?_
                  refine F.m rfl rfl rfl (wanted_none rfl) (m_callF (xs := _) rfl ok30 rfl rfl (fun w hw => impl_LeansOn.ok h81 w ((rd_sl (i := 0) rfl) w hw) ((rd_sl (i := 1) rfl) w hw))) ?_
                  rintro _ _ ⟨_, ⟨v81_1, S81_1, rfl, hl_v81_1, rfl⟩, rfl⟩
                  refine F.q rfl rfl rfl (wanted_none rfl) (r_move rfl) ?_
                  refine F.q rfl rfl rfl (wanted_none rfl) (r_extract rfl rfl) ?_
                  refine F.q rfl rfl rfl (wanted_none rfl) (r_extract rfl rfl) ?_
                  refine F.q rfl rfl rfl (wanted_none rfl) (r_assign rfl) ?_
                  refine F.q rfl rfl rfl (wanted_none rfl) (r_assign rfl) ?_
                  refine F.nil ?_
                  refine Nrm.seq ?_
                  refine Tri.seq ?_
                  refine Tri.seq ?_
                  obtain ⟨y92, hE_3, h⟩ := bind_some h
                  refine Tri.cut (fun e' C' => e' = [(9, v33_1), (12, .int .i64 t68_1), (92, .bool y92)] ∧ C' = Sep w noM [R.sl S33_1 v33_1 (t68_2 : List (Int))]) ?_ (fun hj_3 => ?_)
                  · rintro _ _ ⟨rfl, rfl⟩
                    refine Nrm.seq ?_
                    refine Tri.cond (b := y92) rfl (fun g_7 => ?_) (fun g_7 => ?_)
                    · replace h := if_tt g_7 h
                      refine Tri.seq ?_
                      refine Tri.reg (l := [0]) rfl ?_
                      refine F.q rfl rfl rfl (wanted_none rfl) (r_assign rfl) ?_
                      refine F.nil ?_
                      refine Nrm.seq ?_
                      refine Tri.ret ?_
                      refine Rtn.then ?_
                      cases h
                      exact Rtn.body (.tmp rfl .nil) (fun w hw => ⟨rfl, hw.ext⟩)
                    · replace h := if_ff g_7 h
                      refine Tri.skip ?_
                      refine Nrm.seq ?_
                      refine Tri.seq ?_
                      refine Tri.reg (l := [0]) rfl ?_
                      refine F.q rfl rfl rfl (wanted_none rfl) (r_assign rfl) ?_
                      refine F.nil ?_
                      refine Nrm.seq ?_
                      refine Tri.seq ?_
                      obtain ⟨t95, h95, h⟩ := bind_some h
                      refine Tri.reg (l := [0, 1, 2, 3]) rfl ?_
                      refine F.q rfl rfl rfl (wanted_none rfl) (r_move rfl) ?_
                      refine F.q rfl rfl rfl (wanted_none rfl) (r_move rfl) ?_
                      refine F.qc rfl rfl rfl (wanted_none rfl) (q_callF (xs := _) rfl ok28 rfl rfl (fun w hw => laws_heldIntS.ok h95 w ((rd_sl (i := 0) rfl) w hw))) ?_
                      refine F.q rfl rfl rfl (wanted_none rfl) (r_assign rfl) ?_
                      refine F.nil ?_
                      refine Nrm.seq ?_
                      refine Tri.seq ?_
                      refine Tri.seq ?_
                      refine Tri.reg (l := [0, 1]) rfl ?_
                      refine F.q rfl rfl rfl (wanted_none rfl) (r_move rfl) ?_
                      refine F.q rfl rfl rfl (wanted_none rfl) (r_lss rfl rfl) ?_
                      refine F.nil ?_
                      refine Nrm.seq ?_
                      refine Tri.cond (b := decide (t95 < 0)) rfl (fun g_8 => ?_) (fun g_8 => ?_)
                      · replace h := if_tt g_8 h
                        refine Tri.seq ?_
                        refine Tri.reg (l := [0]) rfl ?_
                        refine F.q rfl rfl rfl (wanted_none rfl) (r_assign rfl) ?_
                        refine F.nil ?_
                        refine Nrm.seq ?_
                        refine Tri.ret ?_
                        refine Rtn.then ?_
                        cases h
                        exact Rtn.body (.tmp rfl .nil) (fun w hw => ⟨rfl, hw.ext⟩)
                      · replace h := if_ff g_8 h
                        refine Tri.skip ?_
                        refine Nrm.seq ?_
                        refine Tri.seq ?_
                        refine Tri.seq ?_
                        refine Tri.reg (l := [0, 1, 2]) rfl ?_
                        refine F.q rfl rfl rfl (wanted_none rfl) (r_move rfl) ?_
                        refine F.q rfl rfl rfl (wanted_none rfl) (r_move rfl) ?_
                        refine F.q rfl rfl rfl (wanted_none rfl) (r_neq rfl rfl) ?_
                        refine F.nil ?_
                        refine Nrm.seq ?_
                        refine Tri.cond (b := t95 != t68_1) rfl (fun g_9 => ?_) (fun g_9 => ?_)
                        · replace h := if_tt g_9 h
                          refine Tri.seq ?_
                          refine Tri.reg (l := [0]) rfl ?_
                          refine F.q rfl rfl rfl (wanted_none rfl) (r_assign rfl) ?_
                          refine F.nil ?_
                          refine Nrm.seq ?_
                          refine Tri.ret ?_
                          refine Rtn.then ?_
                          cases h
                          exact Rtn.body (.tmp rfl .nil) (fun w hw => ⟨rfl, hw.ext⟩)
                        · replace h := if_ff g_9 h
                          refine Tri.skip ?_
                          refine Nrm.seq ?_
                          refine Tri.seq ?_
                          refine Tri.reg (l := [0]) rfl ?_
                          refine F.q rfl rfl rfl (wanted_none rfl) (r_assign rfl) ?_
                          refine F.nil ?_
                          refine Nrm.seq ?_
                          refine Tri.ret ?_
                          cases h
                          exact Rtn.body (.tmp rfl .nil) (fun w hw => ⟨rfl, hw.ext⟩)
                  · obtain ⟨t86, h86, hE_3⟩ := bind_some hE_3
                    rcases Bool.eq_false_or_eq_true (!t86) with g88 | g88
                    · replace hE_3 := if_tt g88 hE_3
                      refine Tri.reg (l := [0, 1, 2, 3, 4, 5, 6, 7, 8]) rfl ?_
                      refine F.q rfl rfl rfl (wanted_none rfl) (r_move rfl) ?_
                      refine F.q rfl rfl rfl (wanted_none rfl) (r_move rfl) ?_
                      refine F.qc rfl rfl rfl (wanted_none rfl) (q_callF (xs := _) rfl ok26 rfl rfl (fun w hw => laws_eqIntS.ok h86 w ((rd_sl (i := 0) rfl) w hw) ((rd_sl (i := 5) rfl) w hw))) ?_
                      refine F.q rfl rfl rfl (wanted_none rfl) (r_not rfl) ?_
                      refine F.q rfl rfl rfl (wanted_none rfl) (r_move rfl) ?_
                      refine F.sk rfl rfl rfl (wf rfl rfl rfl g88) ?_
                      refine F.sk rfl rfl rfl (wf rfl rfl rfl g88) ?_
                      refine F.sk rfl rfl rfl (wf rfl rfl rfl g88) ?_
                      refine F.q rfl rfl rfl (wanted_none rfl) (r_pick rfl rfl g88) ?_
                      refine F.nil ?_
                      cases hE_3
                      refine Nrm.only [9, 12, 92] rfl ?_
                      refine Nrm.pick [3] rfl rfl ?_
                      exact hj_3 _ _ ⟨rfl, rfl⟩
                    · replace hE_3 := if_ff g88 hE_3
                      refine Tri.reg (l := [0, 1, 2, 3, 4, 5, 6, 7, 8]) rfl ?_
                      refine F.q rfl rfl rfl (wanted_none rfl) (r_move rfl) ?_
                      refine F.q rfl rfl rfl (wanted_none rfl) (r_move rfl) ?_
                      refine F.qc rfl rfl rfl (wanted_none rfl) (q_callF (xs := _) rfl ok26 rfl rfl (fun w hw => laws_eqIntS.ok h86 w ((rd_sl (i := 0) rfl) w hw) ((rd_sl (i := 5) rfl) w hw))) ?_
                      refine F.q rfl rfl rfl (wanted_none rfl) (r_not rfl) ?_
                      refine F.q rfl rfl rfl (wanted_none rfl) (r_move rfl) ?_
                      refine F.q rfl rfl rfl (wg rfl rfl rfl g88) (r_move rfl) ?_
                      refine F.q rfl rfl rfl (wg rfl rfl rfl g88) (r_move rfl) ?_
                      refine F.q rfl rfl rfl (wg rfl rfl rfl g88) (r_neqB Try.underlying4 rfl rfl) ?_
                      refine F.q rfl rfl rfl (wanted_none rfl) (r_pickf rfl rfl g88) ?_
                      refine F.nil ?_
                      cases hE_3
                      refine Nrm.only [9, 12, 92] rfl ?_
                      refine Nrm.pick [3] rfl rfl ?_
                      exact hj_3 _ _ ⟨rfl, rfl⟩
          · rcases Bool.eq_false_or_eq_true (decide (t52_1 < 0)) with g55 | g55
            · replace hE_2 := if_tt g55 hE_2
              refine Tri.reg (l := [0, 1, 2, 3, 4, 5, 6, 7, 8, 9, 10, 11, 12]) rfl ?_
              refine F.q rfl rfl rfl (wanted_none rfl) (r_move rfl) ?_
              refine F.q rfl rfl rfl (wanted_none rfl) (r_lss rfl rfl) ?_
              refine F.q rfl rfl rfl (wanted_none rfl) (r_move rfl) ?_
              refine F.sk rfl rfl rfl (wf rfl rfl rfl g55) ?_
              refine F.sk rfl rfl rfl (wf rfl rfl rfl g55) ?_
              refine F.sk rfl rfl rfl (wf rfl rfl rfl g55) ?_
              refine F.sk rfl rfl rfl (wf rfl rfl rfl g55) ?_
              refine F.q rfl rfl rfl (wanted_none rfl) (r_pick rfl rfl g55) ?_
              refine F.q rfl rfl rfl (wanted_none rfl) (r_move rfl) ?_
              refine F.sk rfl rfl rfl (wf rfl rfl rfl rfl) ?_
              refine F.sk rfl rfl rfl (wf rfl rfl rfl rfl) ?_
              refine F.sk rfl rfl rfl (wf rfl rfl rfl rfl) ?_
              refine F.q rfl rfl rfl (wanted_none rfl) (r_pick rfl rfl rfl) ?_
              refine F.nil ?_
              cases hE_2
              refine Nrm.only [1, 2, 6, 7, 9, 65] rfl ?_
              refine Nrm.pick [5, 6, 7] rfl rfl ?_
              exact hj_2 _ _ ⟨rfl, rfl⟩
            · replace hE_2 := if_ff g55 hE_2
              obtain ⟨t58, h58, hE_2⟩ := bind_some hE_2
              rcases Bool.eq_false_or_eq_true (!t58) with g61 | g61
              · replace hE_2 := if_tt g61 hE_2
                refine Tri.reg (l := [0, 1, 2, 3, 4, 5, 6, 7, 8, 9, 10, 11, 12]) rfl ?_
                refine F.q rfl rfl rfl (wanted_none rfl) (r_move rfl) ?_
                refine F.q rfl rfl rfl (wanted_none rfl) (r_lss rfl rfl) ?_
                refine F.q rfl rfl rfl (wanted_none rfl) (r_move rfl) ?_
                refine F.q rfl rfl rfl (wg rfl rfl rfl g55) (r_move rfl) ?_
                refine F.q rfl rfl rfl (wg rfl rfl rfl g55) (r_move rfl) ?_
                refine F.qc rfl rfl rfl (wg rfl rfl rfl g55) (q_callF (xs := _) rfl ok26 rfl rfl (fun w hw => laws_eqIntS.ok h58 w ((rd_sl (i := 7) rfl) w hw) ((rd_sl (i := 6) rfl) w hw))) ?_
                refine F.q rfl rfl rfl (wg rfl rfl rfl g55) (r_not rfl) ?_
                refine F.q rfl rfl rfl (wanted_none rfl) (r_pickf rfl rfl g55) ?_
                refine F.q rfl rfl rfl (wanted_none rfl) (r_move rfl) ?_
                refine F.sk rfl rfl rfl (wf rfl rfl rfl g61) ?_
                refine F.sk rfl rfl rfl (wf rfl rfl rfl g61) ?_
                refine F.sk rfl rfl rfl (wf rfl rfl rfl g61) ?_
                refine F.q rfl rfl rfl (wanted_none rfl) (r_pick rfl rfl g61) ?_
                refine F.nil ?_
                cases hE_2
                refine Nrm.only [1, 2, 6, 7, 9, 65] rfl ?_
                refine Nrm.pick [5, 6, 7] rfl rfl ?_
                exact hj_2 _ _ ⟨rfl, rfl⟩
              · replace hE_2 := if_ff g61 hE_2
                refine Tri.reg (l := [0, 1, 2, 3, 4, 5, 6, 7, 8, 9, 10, 11, 12]) rfl ?_
                refine F.q rfl rfl rfl (wanted_none rfl) (r_move rfl) ?_
                refine F.q rfl rfl rfl (wanted_none rfl) (r_lss rfl rfl) ?_
                refine F.q rfl rfl rfl (wanted_none rfl) (r_move rfl) ?_
                refine F.q rfl rfl rfl (wg rfl rfl rfl g55) (r_move rfl) ?_
                refine F.q rfl rfl rfl (wg rfl rfl rfl g55) (r_move rfl) ?_
                refine F.qc rfl rfl rfl (wg rfl rfl rfl g55) (q_callF (xs := _) rfl ok26 rfl rfl (fun w hw => laws_eqIntS.ok h58 w ((rd_sl (i := 7) rfl) w hw) ((rd_sl (i := 6) rfl) w hw))) ?_
                refine F.q rfl rfl rfl (wg rfl rfl rfl g55) (r_not rfl) ?_
                refine F.q rfl rfl rfl (wanted_none rfl) (r_pickf rfl rfl g55) ?_
                refine F.q rfl rfl rfl (wanted_none rfl) (r_move rfl) ?_
                refine F.q rfl rfl rfl (wg rfl rfl rfl g61) (r_move rfl) ?_
                refine F.q rfl rfl rfl (wg rfl rfl rfl g61) (r_move rfl) ?_
                refine F.q rfl rfl rfl (wg rfl rfl rfl g61) (r_neqB Try.underlying4 rfl rfl) ?_
                refine F.q rfl rfl rfl (wanted_none rfl) (r_pickf rfl rfl g61) ?_
                refine F.nil ?_
                cases hE_2
                refine Nrm.only [1, 2, 6, 7, 9, 65] rfl ?_
                refine Nrm.pick [5, 6, 7] rfl rfl ?_
                exact hj_2 _ _ ⟨rfl, rfl⟩
    · obtain ⟨t38, h38, hE_1⟩ := bind_some hE_1
      rcases Bool.eq_false_or_eq_true (!t38) with g40 | g40
      · replace hE_1 := if_tt g40 hE_1
        refine Tri.reg (l := [0, 1, 2, 3, 4, 5, 6, 7, 8]) rfl ?_
        refine F.q rfl rfl rfl (wanted_none rfl) (r_move rfl) ?_
        refine F.q rfl rfl rfl (wanted_none rfl) (r_move rfl) ?_
        refine F.qc rfl rfl rfl (wanted_none rfl) (q_callF (xs := _) rfl ok26 rfl rfl (fun w hw => laws_eqIntS.ok h38 w ((rd_sl (i := 0) rfl) w hw) ((rd_sl (i := 4) rfl) w hw))) ?_
        refine F.q rfl rfl rfl (wanted_none rfl) (r_not rfl) ?_
        refine F.q rfl rfl rfl (wanted_none rfl) (r_move rfl) ?_
        refine F.sk rfl rfl rfl (wf rfl rfl rfl g40) ?_
        refine F.sk rfl rfl rfl (wf rfl rfl rfl g40) ?_
        refine F.sk rfl rfl rfl (wf rfl rfl rfl g40) ?_
        refine F.q rfl rfl rfl (wanted_none rfl) (r_pick rfl rfl g40) ?_
        refine F.nil ?_
        cases hE_1
        refine Nrm.only [1, 2, 6, 7, 8, 9, 10, 44] rfl ?_
        refine Nrm.pick [1, 7, 4, 2, 3, 0] rfl rfl ?_
        exact hj_1 _ _ ⟨rfl, rfl⟩
      · replace hE_1 := if_ff g40 hE_1
        refine Tri.reg (l := [0, 1, 2, 3, 4, 5, 6, 7, 8]) rfl ?_
        refine F.q rfl rfl rfl (wanted_none rfl) (r_move rfl) ?_
        refine F.q rfl rfl rfl (wanted_none rfl) (r_move rfl) ?_
        refine F.qc rfl rfl rfl (wanted_none rfl) (q_callF (xs := _) rfl ok26 rfl rfl (fun w hw => laws_eqIntS.ok h38 w ((rd_sl (i := 0) rfl) w hw) ((rd_sl (i := 4) rfl) w hw))) ?_
        refine F.q rfl rfl rfl (wanted_none rfl) (r_not rfl) ?_
        refine F.q rfl rfl rfl (wanted_none rfl) (r_move rfl) ?_
        refine F.q rfl rfl rfl (wg rfl rfl rfl g40) (r_move rfl) ?_
        refine F.q rfl rfl rfl (wg rfl rfl rfl g40) (r_move rfl) ?_
        refine F.q rfl rfl rfl (wg rfl rfl rfl g40) (r_neqB Try.underlying4 rfl rfl) ?_
        refine F.q rfl rfl rfl (wanted_none rfl) (r_pickf rfl rfl g40) ?_
        refine F.nil ?_
        cases hE_1
        refine Nrm.only [1, 2, 6, 7, 8, 9, 10, 44] rfl ?_
        refine Nrm.pick [1, 7, 4, 2, 3, 0] rfl rfl ?_
        exact hj_1 _ _ ⟨rfl, rfl⟩

end Go.Proofs
