/- A part of the proof of FnExactGoodSwaps: what the functions of the program compute, walked on the model. No condition. -/
import Derived.Test.YtijhomjbcpaknaaFnExactGoodSwapsC
import Derived.Test.YtijhomjbcpaknaaFnExactGoodSwapsD
set_option linter.unusedSimpArgs false
/- loop.example/g01158/impl.nodeRounds -/
namespace Go.Proofs
open Go Go.Ga
set_option linter.unusedVariables false
set_option maxRecDepth 100000
set_option maxHeartbeats 4000000
def impl_nodeRounds.l1 (k : Nat) (x17 : Int) (t24 : List Int) : Nat → (List (Int)) → Int → Option ((List (Int)))
  | 0, _, _ => none
  | n + 1, x5r, x26 => (if (decide (x26 < (t24.length : Int))) = true then (rdl t24 x26).bind fun t28 => (rdl x5r t28).bind fun t32 => ((if (t32 == 0) = true then (rdl x5r t28).bind fun t39 => some (x5r.set t28.toNat (w64 (x17 + 1))) else some x5r)).bind fun y5 => impl_nodeRounds.l1 k x17 t24 n y5 (w64 (x26 + 1)) else some x5r)

def impl_nodeRounds.l0 (k : Nat) (t15 : List (Int × Int)) : Nat → (List (Int)) → Int → Option ((List (Int)))
  | 0, _, _ => none
  | n + 1, x5, x17 => (if (decide (x17 < (t15.length : Int))) = true then (rdl t15 x17).bind fun t20 => (impl_members.f k t20.2).bind fun t24 => (impl_nodeRounds.l1 k x17 t24 k x5 0).bind fun x5r => impl_nodeRounds.l0 k t15 n x5r (w64 (x17 + 1)) else some x5)

def impl_nodeRounds.f (k : Nat) (a0_0 : Int) (a0_1 : List (Int × Int × Int)) (a0_2 : List Int) (a1 : Int) : Option ((List Int)) := if 0 ≤ a0_0 ∧ a0_0 < 1099511627776 then (impl_rounds.f k a0_0 a0_1 a0_2 a1).bind fun t15 => (impl_nodeRounds.l0 k t15 k (List.replicate (a0_0).toNat (0 : Int)) 0).bind fun x5 => some x5 else none

theorem impl_nodeRounds.ok {k : Nat}  {a0_0 : Int} {a0_1 : List (Int × Int × Int)} {a0_2 : List Int} {a1 : Int} {r0 : List Int} (h : impl_nodeRounds.f k a0_0 a0_1 a0_2 a1 = some r0) (w : World) {va0_1 : Value} {va0_2 : Value} (hr_a0_1 : Rd w va0_1 a0_1) (hr_a0_2 : Rd w va0_2 a0_2) :
    Calls Try.prog 103 ([.agg ([.int .i64 a0_0, va0_1, va0_2].toArray), .int .i64 a1] : List Value).toArray w (Post (fun u ns => ∃ (Sr0 : Nat → Prop), SlLen u r0.length ∧ ns = [R.sl Sr0 u r0]) w) := by
  unfold impl_nodeRounds.f at h
  have hl_va0_1 := hr_a0_1.len
  have hl_va0_2 := hr_a0_2.len
  refine Calls.of_tri (N := 43) Try.func103 rfl rfl rfl (Sep.nil (M := noM)) ?_
  refine Tri.seq ?_
  refine Tri.reg (l := [0, 1]) rfl ?_
  refine F.m rfl rfl rfl (wanted_none rfl) (m_boxG rfl rfl) ?_
  rintro _ _ ⟨b2_1, rfl, rfl⟩
  refine F.q rfl rfl rfl (wanted_none rfl) (r_assign rfl) ?_
  refine F.nil ?_
  refine Nrm.seq ?_
  refine Tri.seq ?_
  obtain ⟨hm12, h⟩ := ck h
  refine Tri.reg (l := [0, 1, 2, 3]) rfl ?_
  refine F.q rfl rfl rfl (wanted_none rfl) (r_fieldAddr tf31_0 rfl) ?_
  refine F.q rfl rfl rfl (wanted_none rfl) (r_load ta3 rfl (fun w hw => cell_1 (box_cells (i := 0) rfl w hw) rfl)) ?_
  refine F.m rfl rfl rfl (wanted_none rfl) (m_make (x0 := (0 : Int)) Try.underlying23 ti3 rfl rfl rfl hm12.1 hm12.2 (by decide)) ?_
  rintro v12_1 _ ⟨S12_1, hl_v12_1, rfl⟩
  refine F.q rfl rfl rfl (wanted_none rfl) (r_assign rfl) ?_
  refine F.nil ?_
  refine Nrm.seq ?_
  refine Tri.seq ?_
  refine Tri.seq ?_
  obtain ⟨t15, h15, h⟩ := bind_some h
  refine Tri.reg (l := [0, 1, 2, 3, 4]) rfl ?_
  refine F.q rfl rfl rfl (wanted_none rfl) (r_loadA ta31 ti31 rfl rfl (fun w hw => (box_cells (i := 1) rfl w hw))) ?_
  refine F.q rfl rfl rfl (wanted_none rfl) (r_move rfl) ?_
  refine F.m rfl rfl rfl (wanted_none rfl) (m_callF (xs := _) rfl ok144 rfl rfl (fun w hw => impl_rounds.ok h15 w ((fun _ hw => hr_a0_1.sep hw) w hw) ((fun _ hw => hr_a0_2.sep hw) w hw))) ?_
  rintro v15_1 _ ⟨_, ⟨S15_1, hl_v15_1, rfl⟩, rfl⟩
  refine F.q rfl rfl rfl (wanted_none rfl) (r_len Try.underlying146 rfl hl_v15_1) ?_
  refine F.q rfl rfl rfl (wanted_none rfl) (r_move rfl) ?_
  refine F.nil ?_
  refine Nrm.seq ?_
  obtain ⟨x5, hE_1, h⟩ := bind_some h
  refine Tri.block ?_
  refine Tri.only [5, 15, 16, 17] rfl ?_
  refine Tri.pick [0, 1] rfl rfl ?_
  refine Tri.rounds (fun n e' C' => ∃ (x5' : List (Int)) (x17' : Int) (w5 : Value) (T5 : Nat → Prop), impl_nodeRounds.l0 k t15 n x5' x17' = some x5 ∧ SlLen w5 (x5').length ∧ e' = [(5, w5), (15, v15_1), (16, .int .i64 (t15.length : Int)), (17, .int .i64 x17')] ∧ C' = Sep w noM [R.sl S15_1 v15_1 (t15 : List (Int × Int)), R.sl T5 w5 (x5' : List (Int))]) k ?_ ?_ ?_
  · exact ⟨List.replicate (a0_0).toNat (0 : Int), 0, v12_1, S12_1, hE_1, hl_v12_1, rfl, rfl⟩
  · rintro _ _ ⟨_, _, _, _, hE_1, _⟩
    rw [impl_nodeRounds.l0.eq_1] at hE_1; cases hE_1
  · rintro n_1 _ _ ⟨x5, x17, w5, T5, hE_1, hl_w5, rfl, rfl⟩ ih_1
    rw [impl_nodeRounds.l0.eq_2] at hE_1
    refine Tri.seq ?_
    refine Tri.reg (l := [0]) rfl ?_
    refine F.q rfl rfl rfl (wanted_none rfl) (r_lss rfl rfl) ?_
    refine F.nil ?_
    refine Nrm.seq ?_
    refine Tri.seq ?_
    refine Tri.cond (b := decide (x17 < (t15.length : Int))) rfl (fun g_1 => ?_) (fun g_1 => ?_)
    · replace hE_1 := if_tt g_1 hE_1
      refine Tri.skip ?_
      refine Nrm.seq ?_
      refine Tri.seq ?_
      refine Tri.block ?_
      refine Tri.seq ?_
      obtain ⟨t20, h20, hE_1⟩ := bind_some hE_1
      refine Tri.reg (l := [0, 1, 2, 3, 4, 5]) rfl ?_
      refine F.q rfl rfl rfl (wanted_none rfl) (r_move rfl) ?_
      refine F.q rfl rfl rfl (wanted_none rfl) (r_indexAddrS Try.underlying146 ti130 rfl hl_v15_1 rfl (rdl_some h20).1 (rdl_some h20).2.1) ?_
      refine F.q rfl rfl rfl (wanted_none rfl) (r_loadA ta130 ti130 rfl rfl (fun w hw => (Rd.flat ((rd_sl (i := 0) rfl) w hw) (rdl_some h20).2.2))) ?_
      refine F.m rfl rfl rfl (wanted_none rfl) (m_alloc ti130) ?_
      rintro _ _ ⟨b7_1, rfl, rfl⟩
      refine F.q rfl rfl rfl (wanted_none rfl) (r_assign rfl) ?_
      refine F.ef0 rfl rfl (wanted_none rfl) (d_storeG0 (i := 0) (cs2 := [.int .i64 t20.1, .int .i64 t20.2]) ti130 rfl rfl rfl rfl rfl (Nat.le_of_ble_eq_true rfl) (lf_cons rfl (lf_cons rfl lf_nil))) ?_
      rintro _ _ ⟨rfl, rfl⟩
      refine F.nil ?_
      refine Nrm.seq ?_
      refine Tri.seq ?_
      obtain ⟨t24, h24, hE_1⟩ := bind_some hE_1
      refine Tri.reg (l := [0, 1, 2, 3, 4]) rfl ?_
      refine F.q rfl rfl rfl (wanted_none rfl) (r_fieldAddr tf130_1 rfl) ?_
      refine F.q rfl rfl rfl (wanted_none rfl) (r_load ta3 rfl (fun w hw => cell_1 (box_cells (i := 0) rfl w hw) rfl)) ?_
      refine F.m rfl rfl rfl (wanted_none rfl) (m_callF (xs := _) rfl ok68 rfl rfl (fun w hw => impl_members.ok h24 w )) ?_
      rintro v24_1 _ ⟨_, ⟨S24_1, hl_v24_1, rfl⟩, rfl⟩
      refine F.q rfl rfl rfl (wanted_none rfl) (r_len Try.underlying23 rfl hl_v24_1) ?_
      refine F.q rfl rfl rfl (wanted_none rfl) (r_move rfl) ?_
      refine F.nil ?_
      refine Nrm.seq ?_
      obtain ⟨x5r, hE_2, hE_1⟩ := bind_some hE_1
      refine Tri.block ?_
      refine Tri.only [5, 6, 15, 16, 17, 24, 25, 26] rfl ?_
      refine Tri.pick [0, 2, 3] rfl rfl ?_
      refine Tri.rounds (fun n e' C' => ∃ (x5r' : List (Int)) (x26' : Int) (w5r : Value) (T5r : Nat → Prop), impl_nodeRounds.l1 k x17 t24 n x5r' x26' = some x5r ∧ SlLen w5r (x5r').length ∧ e' = [(5, w5r), (6, .int .i64 x17), (15, v15_1), (16, .int .i64 (t15.length : Int)), (17, .int .i64 x17), (24, v24_1), (25, .int .i64 (t24.length : Int)), (26, .int .i64 x26')] ∧ C' = Sep w noM [R.sl S24_1 v24_1 (t24 : List (Int)), R.sl S15_1 v15_1 (t15 : List (Int × Int)), R.sl T5r w5r (x5r' : List (Int))]) k ?_ ?_ ?_
      · exact ⟨x5, 0, w5, T5, hE_2, hl_w5, rfl, rfl⟩
      · rintro _ _ ⟨_, _, _, _, hE_2, _⟩
        rw [impl_nodeRounds.l1.eq_1] at hE_2; cases hE_2
      · rintro n_2 _ _ ⟨x5r, x26, w5r, T5r, hE_2, hl_w5r, rfl, rfl⟩ ih_2
        rw [impl_nodeRounds.l1.eq_2] at hE_2
        refine Tri.seq ?_
        refine Tri.reg (l := [0]) rfl ?_
        refine F.q rfl rfl rfl (wanted_none rfl) (r_lss rfl rfl) ?_
        refine F.nil ?_
        refine Nrm.seq ?_
        refine Tri.seq ?_
        refine Tri.cond (b := decide (x26 < (t24.length : Int))) rfl (fun g_2 => ?_) (fun g_2 => ?_)
        · replace hE_2 := if_tt g_2 hE_2
          refine Tri.skip ?_
          refine Nrm.seq ?_
          refine Tri.seq ?_
          refine Tri.block ?_
          refine Tri.seq ?_
          obtain ⟨t28, h28, hE_2⟩ := bind_some hE_2
          refine Tri.reg (l := [0, 1, 2]) rfl ?_
          refine F.q rfl rfl rfl (wanted_none rfl) (r_indexAddrS Try.underlying23 ti3 rfl hl_v24_1 rfl (rdl_some h28).1 (rdl_some h28).2.1) ?_
          refine F.q rfl rfl rfl (wanted_none rfl) (r_load ta3 rfl (fun w hw => cell_0 (Rd.flat ((rd_sl (i := 0) rfl) w hw) (rdl_some h28).2.2) rfl)) ?_
          refine F.q rfl rfl rfl (wanted_none rfl) (r_assign rfl) ?_
          refine F.nil ?_
          refine Nrm.seq ?_
          refine Tri.seq ?_
          obtain ⟨t32, h32, hE_2⟩ := bind_some hE_2
          refine Tri.reg (l := [0, 1, 2, 3, 4]) rfl ?_
          refine F.q rfl rfl rfl (wanted_none rfl) (r_move rfl) ?_
          refine F.q rfl rfl rfl (wanted_none rfl) (r_move rfl) ?_
          refine F.q rfl rfl rfl (wanted_none rfl) (r_indexAddrS Try.underlying23 ti3 rfl hl_w5r rfl (rdl_some h32).1 (rdl_some h32).2.1) ?_
          refine F.q rfl rfl rfl (wanted_none rfl) (r_load ta3 rfl (fun w hw => cell_0 (Rd.flat ((rd_sl (i := 2) rfl) w hw) (rdl_some h32).2.2) rfl)) ?_
          refine F.q rfl rfl rfl (wanted_none rfl) (r_eql rfl rfl) ?_
          refine F.nil ?_
          refine Nrm.seq ?_
          obtain ⟨y5, hE_3, hE_2⟩ := bind_some hE_2
          refine Tri.cut (fun e' C' => ∃ (v5_1 : Value) (S5_1 : Nat → Prop), SlLen v5_1 (y5).length ∧ e' = [(5, v5_1), (6, .int .i64 x17), (15, v15_1), (16, .int .i64 (t15.length : Int)), (17, .int .i64 x17), (24, v24_1), (25, .int .i64 (t24.length : Int)), (26, .int .i64 x26)] ∧ C' = Sep w noM [R.sl S5_1 v5_1 (y5 : List (Int)), R.sl S15_1 v15_1 (t15 : List (Int × Int)), R.sl S24_1 v24_1 (t24 : List (Int))]) ?_ (fun hj_1 => ?_)
          · rintro _ _ ⟨v5_1, S5_1, hl_v5_1, rfl, rfl⟩
            refine Nrm.block ?_
            refine Nrm.seq ?_
            refine Tri.reg (l := [0, 1]) rfl ?_
            refine F.q rfl rfl rfl (wanted_none rfl) (r_add rfl rfl) ?_
            refine F.q rfl rfl rfl (wanted_none rfl) (r_move rfl) ?_
            refine F.nil ?_
            refine Nrm.round ?_
            refine Rnd.only [5, 6, 15, 16, 17, 24, 25, 26] rfl ?_
            refine Rnd.pick [2, 1, 0] rfl rfl ?_
            exact ih_2 _ _ ⟨y5, w64 (x26 + 1), v5_1, S5_1, hE_2, hl_v5_1, rfl, rfl⟩
          · refine Tri.cond (b := t32 == 0) rfl (fun g_3 => ?_) (fun g_3 => ?_)
            · replace hE_3 := if_tt g_3 hE_3
              obtain ⟨t39, h39, hE_3⟩ := bind_some hE_3
              refine Tri.reg (l := [0, 1, 2, 3, 4, 5]) rfl ?_
              refine F.q rfl rfl rfl (wanted_none rfl) (r_move rfl) ?_
              refine F.q rfl rfl rfl (wanted_none rfl) (r_move rfl) ?_
              refine F.q rfl rfl rfl (wanted_none rfl) (r_move rfl) ?_
              refine F.q rfl rfl rfl (wanted_none rfl) (r_add rfl rfl) ?_
              refine F.q rfl rfl rfl (wanted_none rfl) (r_indexAddrS Try.underlying23 ti3 rfl hl_w5r rfl (rdl_some h39).1 (rdl_some h39).2.1) ?_
              refine F.ef0 rfl rfl (wanted_none rfl) (d_storeE (i := 2) (x1 := w64 (x17 + 1)) ti3 rfl rfl rfl (rdl_some h39) rfl) ?_
              rintro _ _ ⟨rfl, rfl⟩
              refine F.nil ?_
              cases hE_3
              refine Nrm.only [5, 6, 15, 16, 17, 24, 25, 26] rfl ?_
              refine Nrm.pick [2, 1, 0] rfl rfl ?_
              exact hj_1 _ _ ⟨w5r, T5r, (len_set hl_w5r), rfl, rfl⟩
            · replace hE_3 := if_ff g_3 hE_3
              refine Tri.skip ?_
              cases hE_3
              refine Nrm.only [5, 6, 15, 16, 17, 24, 25, 26] rfl ?_
              refine Nrm.pick [2, 1, 0] rfl rfl ?_
              exact hj_1 _ _ ⟨w5r, T5r, hl_w5r, rfl, rfl⟩
        · replace hE_2 := if_ff g_2 hE_2
          refine Tri.exit ?_
          refine Exi.then ?_
          refine Exi.then ?_
          refine Exi.same ?_
          cases hE_2
          refine Nrm.block ?_
          refine Nrm.seq ?_
          refine Tri.reg (l := [0, 1]) rfl ?_
          refine F.q rfl rfl rfl (wanted_none rfl) (r_add rfl rfl) ?_
          refine F.q rfl rfl rfl (wanted_none rfl) (r_move rfl) ?_
          refine F.nil ?_
          refine Nrm.round ?_
          refine Rnd.only [5, 15, 16, 17] rfl ?_
          refine Rnd.pick [1, 2] rfl rfl ?_
          exact ih_1 _ _ ⟨x5r, w64 (x17 + 1), w5r, T5r, hE_1, hl_w5r, rfl, rfl⟩
    · replace hE_1 := if_ff g_1 hE_1
      refine Tri.exit ?_
      refine Exi.then ?_
      refine Exi.then ?_
      refine Exi.same ?_
      cases hE_1
      refine Nrm.seq ?_
      refine Tri.seq ?_
      refine Tri.reg (l := [0, 1]) rfl ?_
      refine F.q rfl rfl rfl (wanted_none rfl) (r_move rfl) ?_
      refine F.q rfl rfl rfl (wanted_none rfl) (r_assign rfl) ?_
      refine F.nil ?_
      refine Nrm.seq ?_
      refine Tri.ret ?_
      cases h
      exact Rtn.body (.tmp rfl .nil) (fun w hw => ⟨_, _, rfl, ⟨T5, hl_w5, rfl⟩, Sep.pick (is := [1]) rfl rfl hw⟩)

end Go.Proofs

/- slices.Clone[[]int,int] -/

namespace Go.Proofs
open Go Go.Ga
set_option linter.unusedVariables false
set_option maxRecDepth 100000
set_option maxHeartbeats 4000000
def slices_Clone_int_int.f (k : Nat) (a0 : List Int) : Option ((List Int)) := if (([] : List (Int)) ++ a0).length < 1099511627776 then some (([] : List (Int)) ++ a0) else none

theorem slices_Clone_int_int.ok {k : Nat}  {a0 : List Int} {r0 : List Int} (h : slices_Clone_int_int.f k a0 = some r0) (w : World) {va0 : Value} (hr_a0 : Rd w va0 a0) :
    Calls Try.prog 105 ([va0] : List Value).toArray w (Post (fun u ns => ∃ (Sr0 : Nat → Prop), SlLen u r0.length ∧ ns = [R.sl Sr0 u r0]) w) := by
  unfold slices_Clone_int_int.f at h
  have hl_va0 := hr_a0.len
  rcases Rd.cases hr_a0 with ⟨rfl, rfl⟩ | ⟨pa0, ca0, rfl⟩
  · replace h : some [] = some r0 := by simpa using h
    refine Calls.of_tri (N := 8) Try.func105 rfl rfl rfl (Sep.nil (M := noM)) ?_
    refine Tri.seq ?_
    refine Tri.reg (l := [0]) rfl ?_
    refine F.q rfl rfl rfl (wanted_none rfl) (r_assign rfl) ?_
    refine F.nil ?_
    refine Nrm.seq ?_
    refine Tri.seq ?_
    refine Tri.seq ?_
    refine Tri.reg (l := [0, 1]) rfl ?_
    refine F.q rfl rfl rfl (wanted_none rfl) (r_move rfl) ?_
    refine F.q rfl rfl rfl (wanted_none rfl) (r_eqlNN Try.underlying23 rfl rfl) ?_
    refine F.nil ?_
    refine Nrm.seq ?_
    refine Tri.condT rfl rfl ?_
    refine Tri.seq ?_
    refine Tri.reg (l := [0]) rfl ?_
    refine F.q rfl rfl rfl (wanted_none rfl) (r_assign rfl) ?_
    refine F.nil ?_
    refine Nrm.seq ?_
    refine Tri.ret ?_
    refine Rtn.then ?_
    cases h
    exact Rtn.body (.tmp rfl .nil) (fun w hw => ⟨_, _, rfl, ⟨fun _ => False, len_nil, rfl⟩, Sep.pick (is := [0]) rfl rfl hw.pushNil⟩)
  · refine Calls.of_tri (N := 8) Try.func105 rfl rfl rfl (Sep.nil (M := noM)) ?_
    refine Tri.seq ?_
    refine Tri.reg (l := [0]) rfl ?_
    refine F.q rfl rfl rfl (wanted_none rfl) (r_assign rfl) ?_
    refine F.nil ?_
    refine Nrm.seq ?_
    refine Tri.seq ?_
    refine Tri.seq ?_
    refine Tri.reg (l := [0, 1]) rfl ?_
    refine F.q rfl rfl rfl (wanted_none rfl) (r_move rfl) ?_
    refine F.q rfl rfl rfl (wanted_none rfl) (r_eqlN Try.underlying23 rfl rfl ⟨_, _, rfl⟩) ?_
    refine F.nil ?_
    refine Nrm.seq ?_
    refine Tri.condF rfl rfl ?_
    refine Tri.skip ?_
    refine Nrm.seq ?_
    refine Tri.seq ?_
    obtain ⟨hs7, h⟩ := ck h
    refine Tri.reg (l := [0, 1, 2, 3]) rfl ?_
    refine F.m rfl rfl rfl (wanted_none rfl) (m_build0 (α := Int) Try.underlying23 ti3) ?_
    rintro v5_1 _ ⟨S5_1, hl_v5_1, rfl⟩
    refine F.q rfl rfl rfl (wanted_none rfl) (r_move rfl) ?_
    refine F.ef rfl rfl rfl (wanted_none rfl) (d_append (i := 0) Try.underlying23 Try.underlying23 ti3 rfl (by decide) rfl rfl rfl (fun _ hw => hr_a0.sep hw) hs7) ?_
    rintro v7_1 _ ⟨S7_1, rfl, hl_v7_1⟩
    refine F.q rfl rfl rfl (wanted_none rfl) (r_assign rfl) ?_
    refine F.nil ?_
    refine Nrm.seq ?_
    refine Tri.ret ?_
    cases h
    exact Rtn.body (.tmp rfl .nil) (fun w hw => ⟨_, _, rfl, ⟨S7_1, hl_v7_1, rfl⟩, Sep.pick (is := [0]) rfl rfl hw⟩)

end Go.Proofs

/- slices.Clone[[][3]int,[3]int] -/

namespace Go.Proofs
open Go Go.Ga
set_option linter.unusedVariables false
set_option maxRecDepth 100000
set_option maxHeartbeats 4000000
def slices_Clone__3int__3int.f (k : Nat) (a0 : List (Int × Int × Int)) : Option ((List (Int × Int × Int))) := if (([] : List (Int × Int × Int)) ++ a0).length < 1099511627776 then some (([] : List (Int × Int × Int)) ++ a0) else none

theorem slices_Clone__3int__3int.ok {k : Nat}  {a0 : List (Int × Int × Int)} {r0 : List (Int × Int × Int)} (h : slices_Clone__3int__3int.f k a0 = some r0) (w : World) {va0 : Value} (hr_a0 : Rd w va0 a0) :
    Calls Try.prog 167 ([va0] : List Value).toArray w (Post (fun u ns => ∃ (Sr0 : Nat → Prop), SlLen u r0.length ∧ ns = [R.sl Sr0 u r0]) w) := by
  unfold slices_Clone__3int__3int.f at h
  have hl_va0 := hr_a0.len
  rcases Rd.cases hr_a0 with ⟨rfl, rfl⟩ | ⟨pa0, ca0, rfl⟩
  · replace h : some [] = some r0 := by simpa using h
    refine Calls.of_tri (N := 8) Try.func167 rfl rfl rfl (Sep.nil (M := noM)) ?_
    refine Tri.seq ?_
    refine Tri.reg (l := [0]) rfl ?_
    refine F.q rfl rfl rfl (wanted_none rfl) (r_assign rfl) ?_
    refine F.nil ?_
    refine Nrm.seq ?_
    refine Tri.seq ?_
    refine Tri.seq ?_
    refine Tri.reg (l := [0, 1]) rfl ?_
    refine F.q rfl rfl rfl (wanted_none rfl) (r_move rfl) ?_
    refine F.q rfl rfl rfl (wanted_none rfl) (r_eqlNN Try.underlying22 rfl rfl) ?_
    refine F.nil ?_
    refine Nrm.seq ?_
    refine Tri.condT rfl rfl ?_
    refine Tri.seq ?_
    refine Tri.reg (l := [0]) rfl ?_
    refine F.q rfl rfl rfl (wanted_none rfl) (r_assign rfl) ?_
    refine F.nil ?_
    refine Nrm.seq ?_
    refine Tri.ret ?_
    refine Rtn.then ?_
    cases h
    exact Rtn.body (.tmp rfl .nil) (fun w hw => ⟨_, _, rfl, ⟨fun _ => False, len_nil, rfl⟩, Sep.pick (is := [0]) rfl rfl hw.pushNil⟩)
  · refine Calls.of_tri (N := 8) Try.func167 rfl rfl rfl (Sep.nil (M := noM)) ?_
    refine Tri.seq ?_
    refine Tri.reg (l := [0]) rfl ?_
    refine F.q rfl rfl rfl (wanted_none rfl) (r_assign rfl) ?_
    refine F.nil ?_
    refine Nrm.seq ?_
    refine Tri.seq ?_
    refine Tri.seq ?_
    refine Tri.reg (l := [0, 1]) rfl ?_
    refine F.q rfl rfl rfl (wanted_none rfl) (r_move rfl) ?_
    refine F.q rfl rfl rfl (wanted_none rfl) (r_eqlN Try.underlying22 rfl rfl ⟨_, _, rfl⟩) ?_
    refine F.nil ?_
    refine Nrm.seq ?_
    refine Tri.condF rfl rfl ?_
    refine Tri.skip ?_
    refine Nrm.seq ?_
    refine Tri.seq ?_
    obtain ⟨hs7, h⟩ := ck h
    refine Tri.reg (l := [0, 1, 2, 3]) rfl ?_
    refine F.m rfl rfl rfl (wanted_none rfl) (m_build0 (α := Int × Int × Int) Try.underlying22 ti116) ?_
    rintro v5_1 _ ⟨S5_1, hl_v5_1, rfl⟩
    refine F.q rfl rfl rfl (wanted_none rfl) (r_move rfl) ?_
    refine F.ef rfl rfl rfl (wanted_none rfl) (d_append (i := 0) Try.underlying22 Try.underlying22 ti116 rfl (by decide) rfl rfl rfl (fun _ hw => hr_a0.sep hw) hs7) ?_
    rintro v7_1 _ ⟨S7_1, rfl, hl_v7_1⟩
    refine F.q rfl rfl rfl (wanted_none rfl) (r_assign rfl) ?_
    refine F.nil ?_
    refine Nrm.seq ?_
    refine Tri.ret ?_
    cases h
    exact Rtn.body (.tmp rfl .nil) (fun w hw => ⟨_, _, rfl, ⟨S7_1, hl_v7_1, rfl⟩, Sep.pick (is := [0]) rfl rfl hw⟩)

end Go.Proofs

/- loop.example/g01158/impl.own -/
namespace Go.Proofs
open Go Go.Ga
set_option linter.unusedVariables false
set_option maxRecDepth 100000
set_option maxHeartbeats 4000000
def impl_own.f (k : Nat) (a0_0 : Int) (a0_1 : List (Int × Int × Int)) (a0_2 : List Int) : Option (Int × (List (Int × Int × Int)) × (List Int)) := (slices_Clone__3int__3int.f k a0_1).bind fun t7 => (slices_Clone_int_int.f k a0_2).bind fun t10 => some (a0_0, t7, t10)

theorem impl_own.ok {k : Nat}  {a0_0 : Int} {a0_1 : List (Int × Int × Int)} {a0_2 : List Int} {r0 : Int} {r1 : List (Int × Int × Int)} {r2 : List Int} (h : impl_own.f k a0_0 a0_1 a0_2 = some (r0, r1, r2)) (w : World) {va0_1 : Value} {va0_2 : Value} (hr_a0_1 : Rd w va0_1 a0_1) (hr_a0_2 : Rd w va0_2 a0_2) :
    Calls Try.prog 145 ([.agg ([.int .i64 a0_0, va0_1, va0_2].toArray)] : List Value).toArray w (Post (fun u ns => ∃ (ur1 : Value) (Sr1 : Nat → Prop) (ur2 : Value) (Sr2 : Nat → Prop), u = .agg [.int .i64 r0, ur1, ur2].toArray ∧ SlLen ur1 r1.length ∧ SlLen ur2 r2.length ∧ ns = [R.sl Sr1 ur1 r1, R.sl Sr2 ur2 r2]) w) := by
  unfold impl_own.f at h
  have hl_va0_1 := hr_a0_1.len
  have hl_va0_2 := hr_a0_2.len
  refine Calls.of_tri (N := 12) Try.func145 rfl rfl rfl (Sep.nil (M := noM)) ?_
  refine Tri.seq ?_
  refine Tri.reg (l := [0, 1]) rfl ?_
  refine F.m rfl rfl rfl (wanted_none rfl) (m_boxG rfl rfl) ?_
  rintro _ _ ⟨b1_1, rfl, rfl⟩
  refine F.m rfl rfl rfl (wanted_none rfl) (m_alloc ti31) ?_
  rintro _ _ ⟨b2_1, rfl, rfl⟩
  refine F.nil ?_
  refine Nrm.seq ?_
  refine Tri.seq ?_
  obtain ⟨t7, h7, h⟩ := bind_some h
  obtain ⟨t10, h10, h⟩ := bind_some h
  refine Tri.drawA mixedT Sep.up [(0, true), (1, true), (2, true), (3, true), (5, true), (6, true), (4, false), (7, false), (8, true)] [9] (by kernel_rfl) ?_
  refine S.q rfl rfl rfl (wanted_none rfl) (r_fieldAddr tf31_0 rfl) ?_
  refine S.q rfl rfl rfl (wanted_none rfl) (r_load ta3 rfl (fun w hw => cell_1 (box_cells (i := 1) rfl w hw) rfl)) ?_
  refine S.q rfl rfl rfl (wanted_none rfl) (r_fieldAddr tf31_1 rfl) ?_
  refine S.q rfl rfl rfl (wanted_none rfl) (r_load ta22 rfl (fun w hw => cell_1 (box_cells (i := 1) rfl w hw) rfl)) ?_
  refine S.q rfl rfl rfl (wanted_none rfl) (r_fieldAddr tf31_2 rfl) ?_
  refine S.q rfl rfl rfl (wanted_none rfl) (r_load ta23 rfl (fun w hw => cell_1 (box_cells (i := 1) rfl w hw) rfl)) ?_
  refine S.m rfl rfl rfl (wanted_none rfl) (m_callF (xs := _) rfl ok167 rfl rfl (fun w hw => slices_Clone__3int__3int.ok h7 w ((fun _ hw => hr_a0_1.sep hw) w hw))) ?_
  rintro v7_2 _ ⟨_, ⟨S7_2, hl_v7_2, rfl⟩, rfl⟩
  refine S.m rfl rfl rfl (wanted_none rfl) (m_callF (xs := _) rfl ok105 rfl rfl (fun w hw => slices_Clone_int_int.ok h10 w ((fun _ hw => hr_a0_2.sep hw) w hw))) ?_
  rintro v10_2 _ ⟨_, ⟨S10_2, hl_v10_2, rfl⟩, rfl⟩
  refine S.q rfl rfl rfl (wanted_none rfl) (r_build (pl := [(0, 1), (1, 1), (2, 1)]) (qs := [(0, [.int .i64 a0_0]), (1, [v7_2]), (2, [v10_2])]) (cs := [.int .i64 a0_0, v7_2, v10_2]) (by kernel_rfl) ti31 rfl (.cons rfl rfl (Nat.le_of_ble_eq_true rfl) (.cons (sl_cells hl_v7_2) rfl (Nat.le_of_ble_eq_true rfl) (.cons (sl_cells hl_v10_2) rfl (Nat.le_of_ble_eq_true rfl) .nil))) rfl rfl) ?_
  refine S.nil ?_
  refine F.ef0 rfl rfl (wanted_none rfl) (d_storeG0 (i := 2) (cs2 := [.int .i64 a0_0, v7_2, v10_2]) ti31 rfl rfl rfl rfl rfl (Nat.le_of_ble_eq_true rfl) (lf_cons rfl (lf_cons (sl_leaf hl_v7_2) (lf_cons (sl_leaf hl_v10_2) lf_nil)))) ?_
  rintro _ _ ⟨rfl, rfl⟩
  refine F.nil ?_
  refine Nrm.seq ?_
  refine Tri.ret ?_
  cases h
  exact Rtn.body (.cell rfl ta31 ti31 rfl (fun _ hw => box_cells (i := 2) rfl _ hw) .nil) (fun w hw => ⟨_, _, rfl, ⟨v7_2, S7_2, v10_2, S10_2, rfl, hl_v7_2, hl_v10_2, rfl⟩, Sep.pick (is := [1, 0]) rfl rfl hw⟩)

end Go.Proofs

/- loop.example/g01158/impl.laid -/
namespace Go.Proofs
open Go Go.Ga
set_option linter.unusedVariables false
set_option maxRecDepth 100000
set_option maxHeartbeats 4000000
def impl_laid.l0 (k : Nat) (a1 : List Int) (a2 : List Int) : Nat → Int → (List (Int)) → Option ((List (Int)))
  | 0, _, _ => none
  | n + 1, x16, xq7_1_2 => (if (decide (x16 < (a2.length : Int))) = true then (rdl a2 x16).bind fun t19 => (rdl xq7_1_2 t19).bind fun t24 => (rdl a1 x16).bind fun t28 => if ¬ t28 < 0 then (rdl xq7_1_2 t19).bind fun t32 => impl_laid.l0 k a1 a2 n (w64 (x16 + 1)) (xq7_1_2.set t19.toNat (bor t24 (shl 1 t28))) else none else some xq7_1_2)

def impl_laid.f (k : Nat) (a0_0 : Int) (a0_1 : List (Int × Int × Int)) (a0_2 : List Int) (a1 : List Int) (a2 : List Int) : Option (Int × (List (Int × Int × Int)) × (List Int)) := (impl_own.f k a0_0 a0_1 a0_2).bind fun (t11_1, t11_2, t11_3) => (impl_laid.l0 k a1 a2 k 0 (List.replicate t11_3.length (0 : Int))).bind fun xq7_1_2 => some (t11_1, t11_2, xq7_1_2)

theorem impl_laid.ok {k : Nat}  {a0_0 : Int} {a0_1 : List (Int × Int × Int)} {a0_2 : List Int} {a1 : List Int} {a2 : List Int} {r0 : Int} {r1 : List (Int × Int × Int)} {r2 : List Int} (h : impl_laid.f k a0_0 a0_1 a0_2 a1 a2 = some (r0, r1, r2)) (w : World) {va0_1 : Value} {va0_2 : Value} {va1 : Value} {va2 : Value} (hr_a0_1 : Rd w va0_1 a0_1) (hr_a0_2 : Rd w va0_2 a0_2) (hr_a1 : Rd w va1 a1) (hr_a2 : Rd w va2 a2) :
    Calls Try.prog 104 ([.agg ([.int .i64 a0_0, va0_1, va0_2].toArray), va1, va2] : List Value).toArray w (Post (fun u ns => ∃ (ur1 : Value) (Sr1 : Nat → Prop) (ur2 : Value) (Sr2 : Nat → Prop), u = .agg [.int .i64 r0, ur1, ur2].toArray ∧ SlLen ur1 r1.length ∧ SlLen ur2 r2.length ∧ ns = [R.sl Sr1 ur1 r1, R.sl Sr2 ur2 r2]) w) := by
  unfold impl_laid.f at h
  have hl_va0_1 := hr_a0_1.len
  have hl_va0_2 := hr_a0_2.len
  have hl_va1 := hr_a1.len
  have hl_va2 := hr_a2.len
  refine Calls.of_tri (N := 35) Try.func104 rfl rfl rfl (Sep.nil (M := noM)) ?_
  refine Tri.seq ?_
  refine Tri.reg (l := [0, 1]) rfl ?_
  refine F.m rfl rfl rfl (wanted_none rfl) (m_boxG rfl rfl) ?_
  rintro _ _ ⟨b3_1, rfl, rfl⟩
  refine F.m rfl rfl rfl (wanted_none rfl) (m_alloc ti31) ?_
  rintro _ _ ⟨b6_1, rfl, rfl⟩
  refine F.nil ?_
  refine Nrm.seq ?_
  refine Tri.seq ?_
  obtain ⟨⟨t11_1, t11_2, t11_3⟩, h11, h⟩ := bind_some h
  refine Tri.reg (l := [0, 1, 2, 3]) rfl ?_
  refine F.q rfl rfl rfl (wanted_none rfl) (r_loadA ta31 ti31 rfl rfl (fun w hw => (box_cells (i := 1) rfl w hw))) ?_
  refine F.m rfl rfl rfl (wanted_none rfl) (m_callF (xs := _) rfl ok145 rfl rfl (fun w hw => impl_own.ok h11 w ((fun _ hw => hr_a0_1.sep hw) w hw) ((fun _ hw => hr_a0_2.sep hw) w hw))) ?_
  rintro _ _ ⟨_, ⟨v11_1, S11_1, v11_2, S11_2, rfl, hl_v11_1, hl_v11_2, rfl⟩, rfl⟩
  refine F.m rfl rfl rfl (wanted_none rfl) (m_alloc ti31) ?_
  rintro _ _ ⟨b7_1, rfl, rfl⟩
  refine F.ef0 rfl rfl (wanted_none rfl) (d_storeG0 (i := 0) (cs2 := [.int .i64 t11_1, v11_1, v11_2]) ti31 rfl rfl rfl rfl rfl (Nat.le_of_ble_eq_true rfl) (lf_cons rfl (lf_cons (sl_leaf hl_v11_1) (lf_cons (sl_leaf hl_v11_2) lf_nil)))) ?_
  rintro _ _ ⟨rfl, rfl⟩
  refine F.nil ?_
  refine Nrm.seq ?_
  refine Tri.seq ?_
  refine Tri.reg (l := [0, 1, 2]) rfl ?_
  refine F.q rfl rfl rfl (wanted_none rfl) (r_fieldAddr tf31_2 rfl) ?_
  refine F.q rfl rfl rfl (wanted_none rfl) (r_load ta23 rfl (fun w hw => cell_1 (box_cells (i := 0) rfl w hw) rfl)) ?_
  refine F.ef0 rfl rfl (wanted_none rfl) (d_clear0 (i := 2) (x0 := (0 : Int)) Try.underlying23 ti3 rfl rfl rfl) ?_
  rintro _ _ rfl
  refine F.nil ?_
  refine Nrm.seq ?_
  refine Tri.seq ?_
  refine Tri.seq ?_
  refine Tri.reg (l := [0, 1, 2]) rfl ?_
  refine F.q rfl rfl rfl (wanted_none rfl) (r_move rfl) ?_
  refine F.q rfl rfl rfl (wanted_none rfl) (r_len Try.underlying23 rfl hl_va2) ?_
  refine F.q rfl rfl rfl (wanted_none rfl) (r_move rfl) ?_
  refine F.nil ?_
  refine Nrm.seq ?_
  obtain ⟨xq7_1_2, hE_1, h⟩ := bind_some h
  refine Tri.block ?_
  refine Tri.only [1, 6, 7, 14, 15, 16] rfl ?_
  refine Tri.pick [0, 3, 1, 2] rfl rfl ?_
  refine Tri.rounds (fun n e' C' => ∃ (x16' : Int) (xq7_1_2' : List (Int)), impl_laid.l0 k a1 a2 n x16' xq7_1_2' = some xq7_1_2 ∧ SlLen v11_2 (xq7_1_2').length ∧ e' = [(1, va1), (6, .pointer (some ⟨b6_1, 0, none⟩)), (7, .pointer (some ⟨b7_1, 0, none⟩)), (14, va2), (15, .int .i64 (a2.length : Int)), (16, .int .i64 x16')] ∧ C' = Sep w noM [R.box b7_1 31 [.int .i64 t11_1, v11_1, v11_2], R.box b6_1 31 [.int .i64 0, .slice none 0 0, .slice none 0 0], R.sl S11_1 v11_1 (t11_2 : List (Int × Int × Int)), R.sl S11_2 v11_2 (xq7_1_2' : List (Int))]) k ?_ ?_ ?_
  · exact ⟨0, List.replicate t11_3.length (0 : Int), hE_1, (clr0_len hl_v11_2), rfl, rfl⟩
  · rintro _ _ ⟨_, _, hE_1, _⟩
    rw [impl_laid.l0.eq_1] at hE_1; cases hE_1
  · rintro n_1 _ _ ⟨x16, xq7_1_2, hE_1, hl_xq7_1_2, rfl, rfl⟩ ih_1
    rw [impl_laid.l0.eq_2] at hE_1
    refine Tri.seq ?_
    refine Tri.reg (l := [0]) rfl ?_
    refine F.q rfl rfl rfl (wanted_none rfl) (r_lss rfl rfl) ?_
    refine F.nil ?_
    refine Nrm.seq ?_
    refine Tri.seq ?_
    refine Tri.cond (b := decide (x16 < (a2.length : Int))) rfl (fun g_1 => ?_) (fun g_1 => ?_)
    · replace hE_1 := if_tt g_1 hE_1
      refine Tri.skip ?_
      refine Nrm.seq ?_
      refine Tri.seq ?_
      refine Tri.block ?_
      refine Tri.seq ?_
      obtain ⟨t19, h19, hE_1⟩ := bind_some hE_1
      refine Tri.reg (l := [0, 1, 2, 3, 4]) rfl ?_
      refine F.q rfl rfl rfl (wanted_none rfl) (r_move rfl) ?_
      refine F.q rfl rfl rfl (wanted_none rfl) (r_indexAddrS Try.underlying23 ti3 rfl hl_va2 rfl (rdl_some h19).1 (rdl_some h19).2.1) ?_
      refine F.q rfl rfl rfl (wanted_none rfl) (r_load ta3 rfl (fun w hw => cell_0 (Rd.flat ((fun _ hw => hr_a2.sep hw) w hw) (rdl_some h19).2.2) rfl)) ?_
      refine F.q rfl rfl rfl (wanted_none rfl) (r_assign rfl) ?_
      refine F.q rfl rfl rfl (wanted_none rfl) (r_assign rfl) ?_
      refine F.nil ?_
      refine Nrm.seq ?_
      obtain ⟨t24, h24, hE_1⟩ := bind_some hE_1
      obtain ⟨t28, h28, hE_1⟩ := bind_some hE_1
      obtain ⟨hs30, hE_1⟩ := ck hE_1
      obtain ⟨t32, h32, hE_1⟩ := bind_some hE_1
      refine Tri.drawA mixedT Sep.up [(0, true), (1, true), (2, true), (3, true), (4, true), (5, true), (6, true), (7, true), (8, true), (9, true), (10, true), (11, true)] [12] (by kernel_rfl) ?_
      refine S.q rfl rfl rfl (wanted_none rfl) (r_fieldAddr tf31_2 rfl) ?_
      refine S.q rfl rfl rfl (wanted_none rfl) (r_load ta23 rfl (fun w hw => cell_1 (box_cells (i := 0) rfl w hw) rfl)) ?_
      refine S.q rfl rfl rfl (wanted_none rfl) (r_move rfl) ?_
      refine S.q rfl rfl rfl (wanted_none rfl) (r_indexAddrS Try.underlying23 ti3 rfl hl_xq7_1_2 rfl (rdl_some h24).1 (rdl_some h24).2.1) ?_
      refine S.q rfl rfl rfl (wanted_none rfl) (r_load ta3 rfl (fun w hw => cell_0 (Rd.flat ((rd_sl (i := 3) rfl) w hw) (rdl_some h24).2.2) rfl)) ?_
      refine S.q rfl rfl rfl (wanted_none rfl) (r_move rfl) ?_
      refine S.q rfl rfl rfl (wanted_none rfl) (r_move rfl) ?_
      refine S.q rfl rfl rfl (wanted_none rfl) (r_indexAddrS Try.underlying23 ti3 rfl hl_va1 rfl (rdl_some h28).1 (rdl_some h28).2.1) ?_
      refine S.q rfl rfl rfl (wanted_none rfl) (r_load ta3 rfl (fun w hw => cell_0 (Rd.flat ((fun _ hw => hr_a1.sep hw) w hw) (rdl_some h28).2.2) rfl)) ?_
      refine S.q rfl rfl rfl (wanted_none rfl) (r_shl rfl rfl hs30) ?_
      refine S.q rfl rfl rfl (wanted_none rfl) (r_or rfl rfl) ?_
      refine S.q rfl rfl rfl (wanted_none rfl) (r_indexAddrS Try.underlying23 ti3 rfl hl_xq7_1_2 rfl (rdl_some h32).1 (rdl_some h32).2.1) ?_
      refine S.nil ?_
      refine F.ef0 rfl rfl (wanted_none rfl) (d_storeE (i := 3) (x1 := bor t24 (shl 1 t28)) ti3 rfl rfl rfl (rdl_some h32) rfl) ?_
      rintro _ _ ⟨rfl, rfl⟩
      refine F.nil ?_
      refine Nrm.block ?_
      refine Nrm.seq ?_
      refine Tri.reg (l := [0, 1]) rfl ?_
      refine F.q rfl rfl rfl (wanted_none rfl) (r_add rfl rfl) ?_
      refine F.q rfl rfl rfl (wanted_none rfl) (r_move rfl) ?_
      refine F.nil ?_
      refine Nrm.round ?_
      refine Rnd.only [1, 6, 7, 14, 15, 16] rfl ?_
      refine Rnd.pick [0, 1, 2, 3] rfl rfl ?_
      exact ih_1 _ _ ⟨w64 (x16 + 1), xq7_1_2.set t19.toNat (bor t24 (shl 1 t28)), hE_1, (len_set hl_xq7_1_2), rfl, rfl⟩
    · replace hE_1 := if_ff g_1 hE_1
      refine Tri.exit ?_
      refine Exi.then ?_
      refine Exi.then ?_
      refine Exi.same ?_
      cases hE_1
      refine Nrm.seq ?_
      refine Tri.seq ?_
      refine Tri.reg (l := [0, 1]) rfl ?_
      refine F.q rfl rfl rfl (wanted_none rfl) (r_loadA ta31 ti31 rfl rfl (fun w hw => (box_cells (i := 0) rfl w hw))) ?_
      refine F.ef0 rfl rfl (wanted_none rfl) (d_storeG0 (i := 1) (cs2 := [.int .i64 t11_1, v11_1, v11_2]) ti31 rfl rfl rfl rfl rfl (Nat.le_of_ble_eq_true rfl) (lf_cons rfl (lf_cons (sl_leaf hl_v11_1) (lf_cons (sl_leaf hl_xq7_1_2) lf_nil)))) ?_
      rintro _ _ ⟨rfl, rfl⟩
      refine F.nil ?_
      refine Nrm.seq ?_
      refine Tri.ret ?_
      cases h
      exact Rtn.body (.cell rfl ta31 ti31 rfl (fun _ hw => box_cells (i := 1) rfl _ hw) .nil) (fun w hw => ⟨_, _, rfl, ⟨v11_1, S11_1, v11_2, S11_2, rfl, hl_v11_1, hl_xq7_1_2, rfl⟩, Sep.pick (is := [2, 3]) rfl rfl hw⟩)

end Go.Proofs

/- loop.example/g01158/impl.depth -/
namespace Go.Proofs
open Go Go.Ga
set_option linter.unusedVariables false
set_option maxRecDepth 100000
set_option maxHeartbeats 4000000
def impl_depth.f (k : Nat) (a0_0 : Int) (a0_1 : List (Int × Int × Int)) (a0_2 : List Int) (a1 : Int) (a2 : List Int) : Option (Int) := (impl_members.f k a1).bind fun t9 => (impl_laid.f k a0_0 a0_1 a0_2 t9 a2).bind fun (t11_1, t11_2, t11_3) => (impl_nodeRounds.f k t11_1 t11_2 t11_3 0).bind fun t12 => (rdl t12 (w64 (a0_0 - 1))).bind fun t16 => some t16

theorem impl_depth.ok {k : Nat}  {a0_0 : Int} {a0_1 : List (Int × Int × Int)} {a0_2 : List Int} {a1 : Int} {a2 : List Int} {r0 : Int} (h : impl_depth.f k a0_0 a0_1 a0_2 a1 a2 = some r0) (w : World) {va0_1 : Value} {va0_2 : Value} {va2 : Value} (hr_a0_1 : Rd w va0_1 a0_1) (hr_a0_2 : Rd w va0_2 a0_2) (hr_a2 : Rd w va2 a2) :
    Calls Try.prog 67 ([.agg ([.int .i64 a0_0, va0_1, va0_2].toArray), .int .i64 a1, va2] : List Value).toArray w (fun e w' => e = .returned (.int .i64 r0) ∧ Ext w w') := by
  unfold impl_depth.f at h
  have hl_va0_1 := hr_a0_1.len
  have hl_va0_2 := hr_a0_2.len
  have hl_va2 := hr_a2.len
  refine Calls.of_tri (N := 18) Try.func67 rfl rfl rfl (Sep.nil (M := noM)) ?_
  refine Tri.seq ?_
  refine Tri.reg (l := [0, 1]) rfl ?_
  refine F.m rfl rfl rfl (wanted_none rfl) (m_boxG rfl rfl) ?_
  rintro _ _ ⟨b3_1, rfl, rfl⟩
  refine F.q rfl rfl rfl (wanted_none rfl) (r_assign rfl) ?_
  refine F.nil ?_
  refine Nrm.seq ?_
  refine Tri.seq ?_
  obtain ⟨t9, h9, h⟩ := bind_some h
  obtain ⟨⟨t11_1, t11_2, t11_3⟩, h11, h⟩ := bind_some h
  obtain ⟨t12, h12, h⟩ := bind_some h
  obtain ⟨t16, h16, h⟩ := bind_some h
  refine Tri.drawA mixedT Sep.up [(0, true), (1, true), (3, true), (6, true), (7, true), (8, true), (2, false), (4, false), (5, false), (9, true), (10, true), (11, true)] [] (by kernel_rfl) ?_
  refine S.q rfl rfl rfl (wanted_none rfl) (r_loadA ta31 ti31 rfl rfl (fun w hw => (box_cells (i := 0) rfl w hw))) ?_
  refine S.q rfl rfl rfl (wanted_none rfl) (r_move rfl) ?_
  refine S.q rfl rfl rfl (wanted_none rfl) (r_move rfl) ?_
  refine S.q rfl rfl rfl (wanted_none rfl) (r_fieldAddr tf31_0 rfl) ?_
  refine S.q rfl rfl rfl (wanted_none rfl) (r_load ta3 rfl (fun w hw => cell_1 (box_cells (i := 0) rfl w hw) rfl)) ?_
  refine S.q rfl rfl rfl (wanted_none rfl) (r_sub rfl rfl) ?_
  refine S.m rfl rfl rfl (wanted_none rfl) (m_callF (xs := _) rfl ok68 rfl rfl (fun w hw => impl_members.ok h9 w )) ?_
  rintro v9_2 _ ⟨_, ⟨S9_2, hl_v9_2, rfl⟩, rfl⟩
  refine S.m rfl rfl rfl (wanted_none rfl) (m_callF (xs := _) rfl ok104 rfl rfl (fun w hw => impl_laid.ok h11 w ((fun _ hw => hr_a0_1.sep hw) w hw) ((fun _ hw => hr_a0_2.sep hw) w hw) ((rd_sl (i := 0) rfl) w hw) ((fun _ hw => hr_a2.sep hw) w hw))) ?_
  rintro _ _ ⟨_, ⟨v11_3, S11_3, v11_4, S11_4, rfl, hl_v11_3, hl_v11_4, rfl⟩, rfl⟩
  refine S.m rfl rfl rfl (wanted_none rfl) (m_callF (xs := _) rfl ok103 rfl rfl (fun w hw => impl_nodeRounds.ok h12 w ((rd_sl (i := 0) rfl) w hw) ((rd_sl (i := 1) rfl) w hw))) ?_
  rintro v12_2 _ ⟨_, ⟨S12_2, hl_v12_2, rfl⟩, rfl⟩
  refine S.q rfl rfl rfl (wanted_none rfl) (r_indexAddrS Try.underlying23 ti3 rfl hl_v12_2 rfl (rdl_some h16).1 (rdl_some h16).2.1) ?_
  refine S.q rfl rfl rfl (wanted_none rfl) (r_load ta3 rfl (fun w hw => cell_0 (Rd.flat ((rd_sl (i := 0) rfl) w hw) (rdl_some h16).2.2) rfl)) ?_
  refine S.q rfl rfl rfl (wanted_none rfl) (r_assign rfl) ?_
  refine S.nil ?_
  refine F.nil ?_
  refine Nrm.seq ?_
  refine Tri.ret ?_
  cases h
  exact Rtn.body (.tmp rfl .nil) (fun w hw => ⟨rfl, hw.ext⟩)

end Go.Proofs

/- loop.example/g01158/impl.swapped -/
namespace Go.Proofs
open Go Go.Ga
set_option linter.unusedVariables false
set_option maxRecDepth 100000
set_option maxHeartbeats 4000000
def impl_swapped.f (k : Nat) (a0 : List Int) (a1 : Int) (a2 : Int) : Option ((List Int)) := (slices_Clone_int_int.f k a0).bind fun t9 => ((rdl t9 a2).bind fun t16 => (rdl t9 a1).bind fun t20 => (rdl t9 a1).bind fun t22 => (rdl (t9.set a1.toNat t16) a2).bind fun t23 => some ((t9.set a1.toNat t16).set a2.toNat t20)).bind fun y7 => some y7

theorem impl_swapped.ok {k : Nat}  {a0 : List Int} {a1 : Int} {a2 : Int} {r0 : List Int} (h : impl_swapped.f k a0 a1 a2 = some r0) (w : World) {va0 : Value} (hr_a0 : Rd w va0 a0) :
    Calls Try.prog 69 ([va0, .int .i64 a1, .int .i64 a2] : List Value).toArray w (Post (fun u ns => ∃ (Sr0 : Nat → Prop), SlLen u r0.length ∧ ns = [R.sl Sr0 u r0]) w) := by
  unfold impl_swapped.f at h
  have hl_va0 := hr_a0.len
  refine Calls.of_tri (N := 25) Try.func69 rfl rfl rfl (Sep.nil (M := noM)) ?_
  refine Tri.seq ?_
  refine Tri.reg (l := [0]) rfl ?_
  refine F.q rfl rfl rfl (wanted_none rfl) (r_assign rfl) ?_
  refine F.nil ?_
  refine Nrm.seq ?_
  refine Tri.seq ?_
  obtain ⟨t9, h9, h⟩ := bind_some h
  refine Tri.reg (l := [0, 1, 2]) rfl ?_
  refine F.q rfl rfl rfl (wanted_none rfl) (r_move rfl) ?_
  refine F.m rfl rfl rfl (wanted_none rfl) (m_callF (xs := _) rfl ok105 rfl rfl (fun w hw => slices_Clone_int_int.ok h9 w ((fun _ hw => hr_a0.sep hw) w hw))) ?_
  rintro v9_1 _ ⟨_, ⟨S9_1, hl_v9_1, rfl⟩, rfl⟩
  refine F.q rfl rfl rfl (wanted_none rfl) (r_assign rfl) ?_
  refine F.nil ?_
  refine Nrm.seq ?_
  refine Tri.seq ?_
  obtain ⟨y7, hE_1, h⟩ := bind_some h
  refine Tri.cut (fun e' C' => ∃ (v7_1 : Value) (S7_1 : Nat → Prop), SlLen v7_1 (y7).length ∧ e' = [(7, v7_1)] ∧ C' = Sep w noM [R.sl S7_1 v7_1 (y7 : List (Int))]) ?_ (fun hj_1 => ?_)
  · rintro _ _ ⟨v7_1, S7_1, hl_v7_1, rfl, rfl⟩
    refine Nrm.seq ?_
    refine Tri.seq ?_
    refine Tri.reg (l := [0, 1]) rfl ?_
    refine F.q rfl rfl rfl (wanted_none rfl) (r_move rfl) ?_
    refine F.q rfl rfl rfl (wanted_none rfl) (r_assign rfl) ?_
    refine F.nil ?_
    refine Nrm.seq ?_
    refine Tri.ret ?_
    cases h
    exact Rtn.body (.tmp rfl .nil) (fun w hw => ⟨_, _, rfl, ⟨S7_1, hl_v7_1, rfl⟩, Sep.pick (is := [0]) rfl rfl hw⟩)
  · obtain ⟨t16, h16, hE_1⟩ := bind_some hE_1
    obtain ⟨t20, h20, hE_1⟩ := bind_some hE_1
    obtain ⟨t22, h22, hE_1⟩ := bind_some hE_1
    obtain ⟨t23, h23, hE_1⟩ := bind_some hE_1
    refine Tri.drawTZ mixedT Sep.up [0, 1, 2, 3, 4, 5, 6, 8, 9, 10, 7, 11, 12, 13] [14, 15] (.q 0 (.q 1 (.q 2 (.q 3 (.q 4 (.q 5 (.q 6 (.q 8 (.q 9 (.q 10 (.alt 7 (.alt 11 (.alt 12 (.alt 13 .nil .stop) .stop) .stop) (.alt 11 (.alt 7 (.alt 12 (.alt 13 .nil .stop) .stop) .stop) .stop)))))))))))) (by kernel_rfl) ?_
    refine TZ.q rfl rfl rfl (wanted_none rfl) (r_move rfl) ?_
    refine TZ.q rfl rfl rfl (wanted_none rfl) (r_move rfl) ?_
    refine TZ.q rfl rfl rfl (wanted_none rfl) (r_move rfl) ?_
    refine TZ.q rfl rfl rfl (wanted_none rfl) (r_move rfl) ?_
    refine TZ.q rfl rfl rfl (wanted_none rfl) (r_move rfl) ?_
    refine TZ.q rfl rfl rfl (wanted_none rfl) (r_move rfl) ?_
    refine TZ.q rfl rfl rfl (wanted_none rfl) (r_indexAddrS Try.underlying23 ti3 rfl hl_v9_1 rfl (rdl_some h16).1 (rdl_some h16).2.1) ?_
    refine TZ.q rfl rfl rfl (wanted_none rfl) (r_move rfl) ?_
    refine TZ.q rfl rfl rfl (wanted_none rfl) (r_move rfl) ?_
    refine TZ.q rfl rfl rfl (wanted_none rfl) (r_indexAddrS Try.underlying23 ti3 rfl hl_v9_1 rfl (rdl_some h20).1 (rdl_some h20).2.1) ?_
    refine T.ef rfl rfl rfl (wanted_none rfl) (Runs.does (r_load ta3 rfl (fun w hw => cell_0 (Rd.flat ((rd_sl (i := 0) rfl) w hw) (rdl_some h16).2.2) rfl))) (by rintro _ _ ⟨rfl, rfl⟩; exact ⟨Sep.up, fun _ _ => trivial⟩) ?_ ?_
    · rintro _ _ ⟨rfl, rfl⟩
      refine T.ef rfl rfl rfl (wanted_none rfl) (Runs.does (r_load ta3 rfl (fun w hw => cell_0 (Rd.flat ((rd_sl (i := 0) rfl) w hw) (rdl_some h20).2.2) rfl))) (by rintro _ _ ⟨rfl, rfl⟩; exact ⟨Sep.up, fun _ _ => trivial⟩) ?_ ?_
      · rintro _ _ ⟨rfl, rfl⟩
        refine T.ef rfl rfl rfl (wanted_none rfl) (Runs.does (r_indexAddrS Try.underlying23 ti3 rfl hl_v9_1 rfl (rdl_some h22).1 (rdl_some h22).2.1)) (by rintro _ _ ⟨rfl, rfl⟩; exact ⟨Sep.up, fun _ _ => trivial⟩) ?_ ?_
        · rintro _ _ ⟨rfl, rfl⟩
          refine T.ef0 rfl rfl (wanted_none rfl) (d_storeE (i := 0) (x1 := t16) ti3 rfl rfl rfl (rdl_some h22) rfl) (by rintro _ _ ⟨rfl, rfl⟩; exact ⟨Sep.up, fun _ _ => trivial⟩) ?_ ?_
          · rintro _ _ ⟨rfl, rfl⟩
            refine T.nil ?_
            refine F.q rfl rfl rfl (wanted_none rfl) (r_indexAddrS Try.underlying23 ti3 rfl (len_set hl_v9_1) rfl (rdl_some h23).1 (rdl_some h23).2.1) ?_
            refine F.ef0 rfl rfl (wanted_none rfl) (d_storeE (i := 0) (x1 := t20) ti3 rfl rfl rfl (rdl_some h23) rfl) ?_
            rintro _ _ ⟨rfl, rfl⟩
            refine F.nil ?_
            cases hE_1
            refine Nrm.only [7] rfl ?_
            refine Nrm.pick [0] rfl rfl ?_
            exact hj_1 _ _ ⟨v9_1, S9_1, (len_set (len_set hl_v9_1)), rfl, rfl⟩
          exact T.stop
        exact T.stop
      exact T.stop
    · refine T.ef rfl rfl rfl (wanted_none rfl) (Runs.does (r_load ta3 rfl (fun w hw => cell_0 (Rd.flat ((rd_sl (i := 0) rfl) w hw) (rdl_some h20).2.2) rfl))) (by rintro _ _ ⟨rfl, rfl⟩; exact ⟨Sep.up, fun _ _ => trivial⟩) ?_ ?_
      · rintro _ _ ⟨rfl, rfl⟩
        refine T.ef rfl rfl rfl (wanted_none rfl) (Runs.does (r_load ta3 rfl (fun w hw => cell_0 (Rd.flat ((rd_sl (i := 0) rfl) w hw) (rdl_some h16).2.2) rfl))) (by rintro _ _ ⟨rfl, rfl⟩; exact ⟨Sep.up, fun _ _ => trivial⟩) ?_ ?_
        · rintro _ _ ⟨rfl, rfl⟩
          refine T.ef rfl rfl rfl (wanted_none rfl) (Runs.does (r_indexAddrS Try.underlying23 ti3 rfl hl_v9_1 rfl (rdl_some h22).1 (rdl_some h22).2.1)) (by rintro _ _ ⟨rfl, rfl⟩; exact ⟨Sep.up, fun _ _ => trivial⟩) ?_ ?_
          · rintro _ _ ⟨rfl, rfl⟩
            refine T.ef0 rfl rfl (wanted_none rfl) (d_storeE (i := 0) (x1 := t16) ti3 rfl rfl rfl (rdl_some h22) rfl) (by rintro _ _ ⟨rfl, rfl⟩; exact ⟨Sep.up, fun _ _ => trivial⟩) ?_ ?_
            · rintro _ _ ⟨rfl, rfl⟩
              refine T.nil ?_
              refine F.q rfl rfl rfl (wanted_none rfl) (r_indexAddrS Try.underlying23 ti3 rfl (len_set hl_v9_1) rfl (rdl_some h23).1 (rdl_some h23).2.1) ?_
              refine F.ef0 rfl rfl (wanted_none rfl) (d_storeE (i := 0) (x1 := t20) ti3 rfl rfl rfl (rdl_some h23) rfl) ?_
              rintro _ _ ⟨rfl, rfl⟩
              refine F.nil ?_
              cases hE_1
              refine Nrm.only [7] rfl ?_
              refine Nrm.pick [0] rfl rfl ?_
              exact hj_1 _ _ ⟨v9_1, S9_1, (len_set (len_set hl_v9_1)), rfl, rfl⟩
            exact T.stop
          exact T.stop
        exact T.stop
      exact T.stop

end Go.Proofs

/- loop.example/g01158/impl.GoodSwaps -/
namespace Go.Proofs
open Go Go.Ga
set_option linter.unusedVariables false
set_option maxRecDepth 100000
set_option maxHeartbeats 4000000
def impl_GoodSwaps.l1 (k : Nat) (a0_0 : Int) (a0_1 : List (Int × Int × Int)) (a0_2 : List Int) (a1 : Int) (a2 : List Int) (t32 : List Int) (x36 : Int) (t39 : Int) : Nat → (List (Int × Int)) → Int → Option ((List (Int × Int)))
  | 0, _, _ => none
  | n + 1, x9r, x12 => (if (decide (x12 < (t32.length : Int))) = true then (impl_swapped.f k a2 x36 x12).bind fun t54 => (impl_depth.f k a0_0 a0_1 a0_2 a1 t54).bind fun t55 => ((if (decide (t55 > 0)) = true then (rdl t32 x12).bind fun t61 => if (x9r ++ ([(t39, t61)] : List (Int × Int))).length < 1099511627776 then some (x9r ++ ([(t39, t61)] : List (Int × Int))) else none else some x9r)).bind fun y9 => impl_GoodSwaps.l1 k a0_0 a0_1 a0_2 a1 a2 t32 x36 t39 n y9 (w64 (x12 + 1)) else some x9r)

def impl_GoodSwaps.l0 (k : Nat) (a0_0 : Int) (a0_1 : List (Int × Int × Int)) (a0_2 : List Int) (a1 : Int) (a2 : List Int) (t32 : List Int) : Nat → (List (Int × Int)) → Int → Option ((List (Int × Int)))
  | 0, _, _ => none
  | n + 1, x9, x36 => (if (decide (x36 < (t32.length : Int))) = true then (rdl t32 x36).bind fun t39 => (impl_GoodSwaps.l1 k a0_0 a0_1 a0_2 a1 a2 t32 x36 t39 k x9 (w64 (x36 + 1))).bind fun x9r => impl_GoodSwaps.l0 k a0_0 a0_1 a0_2 a1 a2 t32 n x9r (w64 (x36 + 1)) else some x9)

def impl_GoodSwaps.f (k : Nat) (a0_0 : Int) (a0_1 : List (Int × Int × Int)) (a0_2 : List Int) (a1 : Int) (a2 : List Int) : Option ((List (Int × Int)) × Bool) := ((impl_asked.f k a0_0 a0_1 a0_2 a1).bind fun t15 => (if (!t15) = true then some true else (impl_isFilling.f k a0_0 a0_1 a0_2 a1 a2).bind fun t21 => (if (!t21) = true then some true else (impl_depth.f k a0_0 a0_1 a0_2 a1 a2).bind fun t28 => some (t28 == 0)))).bind fun y30 => (if y30 = true then some ([], false) else (impl_members.f k a1).bind fun t32 => (impl_GoodSwaps.l0 k a0_0 a0_1 a0_2 a1 a2 t32 k ([] : List (Int × Int)) 0).bind fun x9 => some (x9, true))

theorem impl_GoodSwaps.ok {k : Nat}  {a0_0 : Int} {a0_1 : List (Int × Int × Int)} {a0_2 : List Int} {a1 : Int} {a2 : List Int} {r0 : List (Int × Int)} {r1 : Bool} (h : impl_GoodSwaps.f k a0_0 a0_1 a0_2 a1 a2 = some (r0, r1)) (w : World) {va0_1 : Value} {va0_2 : Value} {va2 : Value} (hr_a0_1 : Rd w va0_1 a0_1) (hr_a0_2 : Rd w va0_2 a0_2) (hr_a2 : Rd w va2 a2) :
    Calls Try.prog 25 ([.agg ([.int .i64 a0_0, va0_1, va0_2].toArray), .int .i64 a1, va2] : List Value).toArray w (Post (fun u ns => ∃ (ur0 : Value) (Sr0 : Nat → Prop), u = .tuple #[ur0, .bool r1] ∧ SlLen ur0 r0.length ∧ ns = [R.sl Sr0 ur0 r0]) w) := by
  unfold impl_GoodSwaps.f at h
  have hl_va0_1 := hr_a0_1.len
  have hl_va0_2 := hr_a0_2.len
  have hl_va2 := hr_a2.len
  refine Calls.of_tri (N := 68) Try.func25 rfl rfl rfl (Sep.nil (M := noM)) ?_
  refine Tri.seq ?_
  refine Tri.reg (l := [0, 1, 2]) rfl ?_
  refine F.m rfl rfl rfl (wanted_none rfl) (m_boxG rfl rfl) ?_
  rintro _ _ ⟨b3_1, rfl, rfl⟩
  refine F.q rfl rfl rfl (wanted_none rfl) (r_assign rfl) ?_
  refine F.q rfl rfl rfl (wanted_none rfl) (r_assign rfl) ?_
  refine F.nil ?_
  refine Nrm.seq ?_
  refine Tri.seq ?_
  refine Tri.seq ?_
  obtain ⟨y30, hE_1, h⟩ := bind_some h
  refine Tri.cut (fun e' C' => e' = [(1, .int .i64 a1), (2, va2), (3, .pointer (some ⟨b3_1, 0, none⟩)), (30, .bool y30)] ∧ C' = Sep w noM [R.box b3_1 31 [.int .i64 a0_0, va0_1, va0_2]]) ?_ (fun hj_1 => ?_)
  · rintro _ _ ⟨rfl, rfl⟩
    refine Nrm.seq ?_
    refine Tri.cond (b := y30) rfl (fun g_1 => ?_) (fun g_1 => ?_)
    · replace h := if_tt g_1 h
      refine Tri.seq ?_
      refine Tri.reg (l := [0, 1]) rfl ?_
      refine F.q rfl rfl rfl (wanted_none rfl) (r_assign rfl) ?_
      refine F.q rfl rfl rfl (wanted_none rfl) (r_assign rfl) ?_
      refine F.nil ?_
      refine Nrm.seq ?_
      refine Tri.ret ?_
      refine Rtn.then ?_
      cases h
      exact Rtn.body (.tmp rfl (.tmp rfl .nil)) (fun w hw => ⟨_, _, rfl, ⟨.slice none 0 0, fun _ => False, rfl, len_nil, rfl⟩, Sep.pick (is := [0]) rfl rfl hw.pushNil⟩)
    · replace h := if_ff g_1 h
      refine Tri.skip ?_
      refine Nrm.seq ?_
      refine Tri.seq ?_
      obtain ⟨t32, h32, h⟩ := bind_some h
      refine Tri.reg (l := [0, 1, 2, 3, 4]) rfl ?_
      refine F.q rfl rfl rfl (wanted_none rfl) (r_move rfl) ?_
      refine F.m rfl rfl rfl (wanted_none rfl) (m_callF (xs := _) rfl ok68 rfl rfl (fun w hw => impl_members.ok h32 w )) ?_
      rintro v32_1 _ ⟨_, ⟨S32_1, hl_v32_1, rfl⟩, rfl⟩
      refine F.m rfl rfl rfl (wanted_none rfl) (m_build0 (α := Int × Int) Try.underlying41 ti89) ?_
      rintro v33_1 _ ⟨S33_1, hl_v33_1, rfl⟩
      refine F.q rfl rfl rfl (wanted_none rfl) (r_assign rfl) ?_
      refine F.q rfl rfl rfl (wanted_none rfl) (r_assign rfl) ?_
      refine F.nil ?_
      refine Nrm.seq ?_
      refine Tri.seq ?_
      refine Tri.seq ?_
      refine Tri.reg (l := [0, 1, 2]) rfl ?_
      refine F.q rfl rfl rfl (wanted_none rfl) (r_move rfl) ?_
      refine F.q rfl rfl rfl (wanted_none rfl) (r_len Try.underlying23 rfl hl_v32_1) ?_
      refine F.q rfl rfl rfl (wanted_none rfl) (r_move rfl) ?_
      refine F.nil ?_
      refine Nrm.seq ?_
      obtain ⟨x9, hE_2, h⟩ := bind_some h
      refine Tri.block ?_
      refine Tri.only [1, 2, 3, 8, 9, 34, 35, 36] rfl ?_
      refine Tri.pick [2, 0, 1] rfl rfl ?_
      refine Tri.rounds (fun n e' C' => ∃ (x9' : List (Int × Int)) (x36' : Int) (w9 : Value) (T9 : Nat → Prop), impl_GoodSwaps.l0 k a0_0 a0_1 a0_2 a1 a2 t32 n x9' x36' = some x9 ∧ SlLen w9 (x9').length ∧ e' = [(1, .int .i64 a1), (2, va2), (3, .pointer (some ⟨b3_1, 0, none⟩)), (8, v32_1), (9, w9), (34, v32_1), (35, .int .i64 (t32.length : Int)), (36, .int .i64 x36')] ∧ C' = Sep w noM [R.box b3_1 31 [.int .i64 a0_0, va0_1, va0_2], R.sl T9 w9 (x9' : List (Int × Int)), R.sl S32_1 v32_1 (t32 : List (Int))]) k ?_ ?_ ?_
      · exact ⟨([] : List (Int × Int)), 0, v33_1, S33_1, hE_2, hl_v33_1, rfl, rfl⟩
      · rintro _ _ ⟨_, _, _, _, hE_2, _⟩
        rw [impl_GoodSwaps.l0.eq_1] at hE_2; cases hE_2
      · rintro n_1 _ _ ⟨x9, x36, w9, T9, hE_2, hl_w9, rfl, rfl⟩ ih_1
        rw [impl_GoodSwaps.l0.eq_2] at hE_2
        refine Tri.seq ?_
        refine Tri.reg (l := [0]) rfl ?_
        refine F.q rfl rfl rfl (wanted_none rfl) (r_lss rfl rfl) ?_
        refine F.nil ?_
        refine Nrm.seq ?_
        refine Tri.seq ?_
        refine Tri.cond (b := decide (x36 < (t32.length : Int))) rfl (fun g_2 => ?_) (fun g_2 => ?_)
        · replace hE_2 := if_tt g_2 hE_2
          refine Tri.skip ?_
          refine Nrm.seq ?_
          refine Tri.seq ?_
          refine Tri.block ?_
          refine Tri.seq ?_
          obtain ⟨t39, h39, hE_2⟩ := bind_some hE_2
          refine Tri.reg (l := [0, 1, 2, 3, 4]) rfl ?_
          refine F.q rfl rfl rfl (wanted_none rfl) (r_move rfl) ?_
          refine F.q rfl rfl rfl (wanted_none rfl) (r_indexAddrS Try.underlying23 ti3 rfl hl_v32_1 rfl (rdl_some h39).1 (rdl_some h39).2.1) ?_
          refine F.q rfl rfl rfl (wanted_none rfl) (r_load ta3 rfl (fun w hw => cell_0 (Rd.flat ((rd_sl (i := 2) rfl) w hw) (rdl_some h39).2.2) rfl)) ?_
          refine F.q rfl rfl rfl (wanted_none rfl) (r_assign rfl) ?_
          refine F.q rfl rfl rfl (wanted_none rfl) (r_assign rfl) ?_
          refine F.nil ?_
          refine Nrm.seq ?_
          refine Tri.seq ?_
          refine Tri.reg (l := [0, 1, 2]) rfl ?_
          refine F.q rfl rfl rfl (wanted_none rfl) (r_move rfl) ?_
          refine F.q rfl rfl rfl (wanted_none rfl) (r_add rfl rfl) ?_
          refine F.q rfl rfl rfl (wanted_none rfl) (r_assign rfl) ?_
          refine F.nil ?_
          refine Nrm.seq ?_
          obtain ⟨x9r, hE_3, hE_2⟩ := bind_some hE_2
          refine Tri.block ?_
          refine Tri.only [1, 2, 3, 8, 9, 10, 11, 12, 34, 35, 36] rfl ?_
          refine Tri.pick [0, 1, 2] rfl rfl ?_
          refine Tri.rounds (fun n e' C' => ∃ (x9r' : List (Int × Int)) (x12' : Int) (w9r : Value) (T9r : Nat → Prop), impl_GoodSwaps.l1 k a0_0 a0_1 a0_2 a1 a2 t32 x36 t39 n x9r' x12' = some x9r ∧ SlLen w9r (x9r').length ∧ e' = [(1, .int .i64 a1), (2, va2), (3, .pointer (some ⟨b3_1, 0, none⟩)), (8, v32_1), (9, w9r), (10, .int .i64 x36), (11, .int .i64 t39), (12, .int .i64 x12'), (34, v32_1), (35, .int .i64 (t32.length : Int)), (36, .int .i64 x36)] ∧ C' = Sep w noM [R.box b3_1 31 [.int .i64 a0_0, va0_1, va0_2], R.sl T9r w9r (x9r' : List (Int × Int)), R.sl S32_1 v32_1 (t32 : List (Int))]) k ?_ ?_ ?_
          · exact ⟨x9, w64 (x36 + 1), w9, T9, hE_3, hl_w9, rfl, rfl⟩
          · rintro _ _ ⟨_, _, _, _, hE_3, _⟩
            rw [impl_GoodSwaps.l1.eq_1] at hE_3; cases hE_3
          · rintro n_2 _ _ ⟨x9r, x12, w9r, T9r, hE_3, hl_w9r, rfl, rfl⟩ ih_2
            rw [impl_GoodSwaps.l1.eq_2] at hE_3
            refine Tri.seq ?_
            refine Tri.seq ?_
            refine Tri.reg (l := [0, 1, 2, 3]) rfl ?_
            refine F.q rfl rfl rfl (wanted_none rfl) (r_move rfl) ?_
            refine F.q rfl rfl rfl (wanted_none rfl) (r_move rfl) ?_
            refine F.q rfl rfl rfl (wanted_none rfl) (r_len Try.underlying23 rfl hl_v32_1) ?_
            refine F.q rfl rfl rfl (wanted_none rfl) (r_lss rfl rfl) ?_
            refine F.nil ?_
            refine Nrm.seq ?_
            refine Tri.cond (b := decide (x12 < (t32.length : Int))) rfl (fun g_3 => ?_) (fun g_3 => ?_)
            · replace hE_3 := if_tt g_3 hE_3
              refine Tri.skip ?_
              refine Nrm.seq ?_
              refine Tri.seq ?_
              refine Tri.block ?_
              refine Tri.seq ?_
              obtain ⟨t54, h54, hE_3⟩ := bind_some hE_3
              obtain ⟨t55, h55, hE_3⟩ := bind_some hE_3
              refine Tri.drawA mixedT Sep.up [(0, true), (1, true), (2, true), (3, true), (4, true), (5, false), (6, true), (7, true)] [] (by kernel_rfl) ?_
              refine S.q rfl rfl rfl (wanted_none rfl) (r_loadA ta31 ti31 rfl rfl (fun w hw => (box_cells (i := 0) rfl w hw))) ?_
              refine S.q rfl rfl rfl (wanted_none rfl) (r_move rfl) ?_
              refine S.q rfl rfl rfl (wanted_none rfl) (r_move rfl) ?_
              refine S.q rfl rfl rfl (wanted_none rfl) (r_move rfl) ?_
              refine S.q rfl rfl rfl (wanted_none rfl) (r_move rfl) ?_
              refine S.m rfl rfl rfl (wanted_none rfl) (m_callF (xs := _) rfl ok69 rfl rfl (fun w hw => impl_swapped.ok h54 w ((fun _ hw => hr_a2.sep hw) w hw))) ?_
              rintro v54_2 _ ⟨_, ⟨S54_2, hl_v54_2, rfl⟩, rfl⟩
              refine S.qc rfl rfl rfl (wanted_none rfl) (q_callF (xs := _) rfl ok67 rfl rfl (fun w hw => impl_depth.ok h55 w ((fun _ hw => hr_a0_1.sep hw) w hw) ((fun _ hw => hr_a0_2.sep hw) w hw) ((rd_sl (i := 0) rfl) w hw))) ?_
              refine S.q rfl rfl rfl (wanted_none rfl) (r_gtr rfl rfl) ?_
              refine S.nil ?_
              refine F.nil ?_
              refine Nrm.seq ?_
              obtain ⟨y9, hE_4, hE_3⟩ := bind_some hE_3
              refine Tri.cut (fun e' C' => ∃ (v9_1 : Value) (S9_1 : Nat → Prop), SlLen v9_1 (y9).length ∧ e' = [(1, .int .i64 a1), (2, va2), (3, .pointer (some ⟨b3_1, 0, none⟩)), (8, v32_1), (9, v9_1), (10, .int .i64 x36), (11, .int .i64 t39), (12, .int .i64 x12), (34, v32_1), (35, .int .i64 (t32.length : Int)), (36, .int .i64 x36)] ∧ C' = Sep w noM [R.box b3_1 31 [.int .i64 a0_0, va0_1, va0_2], R.sl S9_1 v9_1 (y9 : List (Int × Int)), R.sl S32_1 v32_1 (t32 : List (Int))]) ?_ (fun hj_2 => ?_)
              · rintro _ _ ⟨v9_1, S9_1, hl_v9_1, rfl, rfl⟩
                refine Nrm.block ?_
                refine Nrm.seq ?_
                refine Tri.reg (l := [0, 1, 2]) rfl ?_
                refine F.q rfl rfl rfl (wanted_none rfl) (r_move rfl) ?_
                refine F.q rfl rfl rfl (wanted_none rfl) (r_add rfl rfl) ?_
                refine F.q rfl rfl rfl (wanted_none rfl) (r_assign rfl) ?_
                refine F.nil ?_
                refine Nrm.round ?_
                refine Rnd.only [1, 2, 3, 8, 9, 10, 11, 12, 34, 35, 36] rfl ?_
                refine Rnd.pick [0, 1, 2] rfl rfl ?_
                exact ih_2 _ _ ⟨y9, w64 (x12 + 1), v9_1, S9_1, hE_3, hl_v9_1, rfl, rfl⟩
              · refine Tri.cond (b := decide (t55 > 0)) rfl (fun g_4 => ?_) (fun g_4 => ?_)
                · replace hE_4 := if_tt g_4 hE_4
                  obtain ⟨t61, h61, hE_4⟩ := bind_some hE_4
                  obtain ⟨hs65, hE_4⟩ := ck hE_4
                  refine Tri.reg (l := [0, 1, 2, 3, 4, 5, 6, 7, 8, 9]) rfl ?_
                  refine F.q rfl rfl rfl (wanted_none rfl) (r_move rfl) ?_
                  refine F.q rfl rfl rfl (wanted_none rfl) (r_move rfl) ?_
                  refine F.q rfl rfl rfl (wanted_none rfl) (r_move rfl) ?_
                  refine F.q rfl rfl rfl (wanted_none rfl) (r_move rfl) ?_
                  refine F.q rfl rfl rfl (wanted_none rfl) (r_indexAddrS Try.underlying23 ti3 rfl hl_v32_1 rfl (rdl_some h61).1 (rdl_some h61).2.1) ?_
                  refine F.q rfl rfl rfl (wanted_none rfl) (r_load ta3 rfl (fun w hw => cell_0 (Rd.flat ((rd_sl (i := 3) rfl) w hw) (rdl_some h61).2.2) rfl)) ?_
                  refine F.q rfl rfl rfl (wanted_none rfl) (r_buildA (qs := [(0, [.int .i64 t39]), (1, [.int .i64 t61])]) (cs := [.int .i64 t39, .int .i64 t61]) Try.underlying89 ti3 ti89 rfl (.cons rfl rfl (Nat.le_of_ble_eq_true rfl) (.cons rfl rfl (Nat.le_of_ble_eq_true rfl) .nil)) rfl rfl) ?_
                  refine F.m rfl rfl rfl (wanted_none rfl) (m_buildF (l := ([(t39, t61)] : List (Int × Int))) Try.underlying41 ti89 rfl rfl rfl rfl rfl) ?_
                  rintro v64_1 _ ⟨S64_1, hl_v64_1, rfl⟩
                  refine F.ef rfl rfl rfl (wanted_none rfl) (d_append (i := 3) Try.underlying41 Try.underlying41 ti89 rfl (by decide) rfl rfl rfl (rd_sl (i := 0) rfl) hs65) ?_
                  rintro v65_1 _ ⟨S65_1, rfl, hl_v65_1⟩
                  refine F.q rfl rfl rfl (wanted_none rfl) (r_assign rfl) ?_
                  refine F.nil ?_
                  cases hE_4
                  refine Nrm.only [1, 2, 3, 8, 9, 10, 11, 12, 34, 35, 36] rfl ?_
                  refine Nrm.pick [2, 3, 4] rfl rfl ?_
                  exact hj_2 _ _ ⟨v65_1, S65_1, hl_v65_1, rfl, rfl⟩
                · replace hE_4 := if_ff g_4 hE_4
                  refine Tri.skip ?_
                  cases hE_4
                  refine Nrm.only [1, 2, 3, 8, 9, 10, 11, 12, 34, 35, 36] rfl ?_
                  refine Nrm.pick [1, 2, 3] rfl rfl ?_
                  exact hj_2 _ _ ⟨w9r, T9r, hl_w9r, rfl, rfl⟩
            · replace hE_3 := if_ff g_3 hE_3
              refine Tri.exit ?_
              refine Exi.then ?_
              refine Exi.then ?_
              refine Exi.same ?_
              cases hE_3
              refine Nrm.block ?_
              refine Nrm.seq ?_
              refine Tri.reg (l := [0, 1]) rfl ?_
              refine F.q rfl rfl rfl (wanted_none rfl) (r_add rfl rfl) ?_
              refine F.q rfl rfl rfl (wanted_none rfl) (r_move rfl) ?_
              refine F.nil ?_
              refine Nrm.round ?_
              refine Rnd.only [1, 2, 3, 8, 9, 34, 35, 36] rfl ?_
              refine Rnd.pick [0, 1, 2] rfl rfl ?_
              exact ih_1 _ _ ⟨x9r, w64 (x36 + 1), w9r, T9r, hE_2, hl_w9r, rfl, rfl⟩
        · replace hE_2 := if_ff g_2 hE_2
          refine Tri.exit ?_
          refine Exi.then ?_
          refine Exi.then ?_
          refine Exi.same ?_
          cases hE_2
          refine Nrm.seq ?_
          refine Tri.seq ?_
          refine Tri.reg (l := [0, 1, 2]) rfl ?_
          refine F.q rfl rfl rfl (wanted_none rfl) (r_move rfl) ?_
          refine F.q rfl rfl rfl (wanted_none rfl) (r_assign rfl) ?_
          refine F.q rfl rfl rfl (wanted_none rfl) (r_assign rfl) ?_
          refine F.nil ?_
          refine Nrm.seq ?_
          refine Tri.ret ?_
          cases h
          exact Rtn.body (.tmp rfl (.tmp rfl .nil)) (fun w hw => ⟨_, _, rfl, ⟨w9, T9, rfl, hl_w9, rfl⟩, Sep.pick (is := [1]) rfl rfl hw⟩)
  · obtain ⟨t15, h15, hE_1⟩ := bind_some hE_1
    rcases Bool.eq_false_or_eq_true (!t15) with g17 | g17
    · replace hE_1 := if_tt g17 hE_1
      refine Tri.reg (l := [0, 1, 2, 3, 4, 5, 6, 7, 8, 9, 10, 11, 12, 13, 14, 15, 16, 17]) rfl ?_
      refine F.q rfl rfl rfl (wanted_none rfl) (r_loadA ta31 ti31 rfl rfl (fun w hw => (box_cells (i := 0) rfl w hw))) ?_
      refine F.q rfl rfl rfl (wanted_none rfl) (r_move rfl) ?_
      refine F.qc rfl rfl rfl (wanted_none rfl) (q_callF (xs := _) rfl ok65 rfl rfl (fun w hw => impl_asked.ok h15 w ((fun _ hw => hr_a0_1.sep hw) w hw) ((fun _ hw => hr_a0_2.sep hw) w hw))) ?_
      refine F.q rfl rfl rfl (wanted_none rfl) (r_not rfl) ?_
      refine F.q rfl rfl rfl (wanted_none rfl) (r_move rfl) ?_
      refine F.sk rfl rfl rfl (wf rfl rfl rfl g17) ?_
      refine F.sk rfl rfl rfl (wf rfl rfl rfl g17) ?_
      refine F.sk rfl rfl rfl (wf rfl rfl rfl g17) ?_
      refine F.sk rfl rfl rfl (wf rfl rfl rfl g17) ?_
      refine F.sk rfl rfl rfl (wf rfl rfl rfl g17) ?_
      refine F.q rfl rfl rfl (wanted_none rfl) (r_pick rfl rfl g17) ?_
      refine F.q rfl rfl rfl (wanted_none rfl) (r_move rfl) ?_
      refine F.sk rfl rfl rfl (wf rfl rfl rfl rfl) ?_
      refine F.sk rfl rfl rfl (wf rfl rfl rfl rfl) ?_
      refine F.sk rfl rfl rfl (wf rfl rfl rfl rfl) ?_
      refine F.sk rfl rfl rfl (wf rfl rfl rfl rfl) ?_
      refine F.sk rfl rfl rfl (wf rfl rfl rfl rfl) ?_
      refine F.q rfl rfl rfl (wanted_none rfl) (r_pick rfl rfl rfl) ?_
      refine F.nil ?_
      cases hE_1
      refine Nrm.only [1, 2, 3, 30] rfl ?_
      refine Nrm.pick [0] rfl rfl ?_
      exact hj_1 _ _ ⟨rfl, rfl⟩
    · replace hE_1 := if_ff g17 hE_1
      obtain ⟨t21, h21, hE_1⟩ := bind_some hE_1
      rcases Bool.eq_false_or_eq_true (!t21) with g24 | g24
      · replace hE_1 := if_tt g24 hE_1
        refine Tri.reg (l := [0, 1, 2, 3, 4, 5, 6, 7, 8, 9, 10, 11, 12, 13, 14, 15, 16, 17]) rfl ?_
        refine F.q rfl rfl rfl (wanted_none rfl) (r_loadA ta31 ti31 rfl rfl (fun w hw => (box_cells (i := 0) rfl w hw))) ?_
        refine F.q rfl rfl rfl (wanted_none rfl) (r_move rfl) ?_
        refine F.qc rfl rfl rfl (wanted_none rfl) (q_callF (xs := _) rfl ok65 rfl rfl (fun w hw => impl_asked.ok h15 w ((fun _ hw => hr_a0_1.sep hw) w hw) ((fun _ hw => hr_a0_2.sep hw) w hw))) ?_
        refine F.q rfl rfl rfl (wanted_none rfl) (r_not rfl) ?_
        refine F.q rfl rfl rfl (wanted_none rfl) (r_move rfl) ?_
        refine F.q rfl rfl rfl (wg rfl rfl rfl g17) (r_loadA ta31 ti31 rfl rfl (fun w hw => (box_cells (i := 0) rfl w hw))) ?_
        refine F.q rfl rfl rfl (wg rfl rfl rfl g17) (r_move rfl) ?_
        refine F.q rfl rfl rfl (wg rfl rfl rfl g17) (r_move rfl) ?_
        refine F.qc rfl rfl rfl (wg rfl rfl rfl g17) (q_callF (xs := _) rfl ok66 rfl rfl (fun w hw => impl_isFilling.ok h21 w ((fun _ hw => hr_a0_1.sep hw) w hw) ((fun _ hw => hr_a0_2.sep hw) w hw) ((fun _ hw => hr_a2.sep hw) w hw))) ?_
        refine F.q rfl rfl rfl (wg rfl rfl rfl g17) (r_not rfl) ?_
        refine F.q rfl rfl rfl (wanted_none rfl) (r_pickf rfl rfl g17) ?_
        refine F.q rfl rfl rfl (wanted_none rfl) (r_move rfl) ?_
        refine F.sk rfl rfl rfl (wf rfl rfl rfl g24) ?_
        refine F.sk rfl rfl rfl (wf rfl rfl rfl g24) ?_
        refine F.sk rfl rfl rfl (wf rfl rfl rfl g24) ?_
        refine F.sk rfl rfl rfl (wf rfl rfl rfl g24) ?_
        refine F.sk rfl rfl rfl (wf rfl rfl rfl g24) ?_
        refine F.q rfl rfl rfl (wanted_none rfl) (r_pick rfl rfl g24) ?_
        refine F.nil ?_
        cases hE_1
        refine Nrm.only [1, 2, 3, 30] rfl ?_
        refine Nrm.pick [0] rfl rfl ?_
        exact hj_1 _ _ ⟨rfl, rfl⟩
      · replace hE_1 := if_ff g24 hE_1
        obtain ⟨t28, h28, hE_1⟩ := bind_some hE_1
        refine Tri.reg (l := [0, 1, 2, 3, 4, 5, 6, 7, 8, 9, 10, 11, 12, 13, 14, 15, 16, 17]) rfl ?_
        refine F.q rfl rfl rfl (wanted_none rfl) (r_loadA ta31 ti31 rfl rfl (fun w hw => (box_cells (i := 0) rfl w hw))) ?_
        refine F.q rfl rfl rfl (wanted_none rfl) (r_move rfl) ?_
        refine F.qc rfl rfl rfl (wanted_none rfl) (q_callF (xs := _) rfl ok65 rfl rfl (fun w hw => impl_asked.ok h15 w ((fun _ hw => hr_a0_1.sep hw) w hw) ((fun _ hw => hr_a0_2.sep hw) w hw))) ?_
        refine F.q rfl rfl rfl (wanted_none rfl) (r_not rfl) ?_
        refine F.q rfl rfl rfl (wanted_none rfl) (r_move rfl) ?_
        refine F.q rfl rfl rfl (wg rfl rfl rfl g17) (r_loadA ta31 ti31 rfl rfl (fun w hw => (box_cells (i := 0) rfl w hw))) ?_
        refine F.q rfl rfl rfl (wg rfl rfl rfl g17) (r_move rfl) ?_
        refine F.q rfl rfl rfl (wg rfl rfl rfl g17) (r_move rfl) ?_
        refine F.qc rfl rfl rfl (wg rfl rfl rfl g17) (q_callF (xs := _) rfl ok66 rfl rfl (fun w hw => impl_isFilling.ok h21 w ((fun _ hw => hr_a0_1.sep hw) w hw) ((fun _ hw => hr_a0_2.sep hw) w hw) ((fun _ hw => hr_a2.sep hw) w hw))) ?_
        refine F.q rfl rfl rfl (wg rfl rfl rfl g17) (r_not rfl) ?_
        refine F.q rfl rfl rfl (wanted_none rfl) (r_pickf rfl rfl g17) ?_
        refine F.q rfl rfl rfl (wanted_none rfl) (r_move rfl) ?_
        refine F.q rfl rfl rfl (wg rfl rfl rfl g24) (r_loadA ta31 ti31 rfl rfl (fun w hw => (box_cells (i := 0) rfl w hw))) ?_
        refine F.q rfl rfl rfl (wg rfl rfl rfl g24) (r_move rfl) ?_
        refine F.q rfl rfl rfl (wg rfl rfl rfl g24) (r_move rfl) ?_
        refine F.qc rfl rfl rfl (wg rfl rfl rfl g24) (q_callF (xs := _) rfl ok67 rfl rfl (fun w hw => impl_depth.ok h28 w ((fun _ hw => hr_a0_1.sep hw) w hw) ((fun _ hw => hr_a0_2.sep hw) w hw) ((fun _ hw => hr_a2.sep hw) w hw))) ?_
        refine F.q rfl rfl rfl (wg rfl rfl rfl g24) (r_eql rfl rfl) ?_
        refine F.q rfl rfl rfl (wanted_none rfl) (r_pickf rfl rfl g24) ?_
        refine F.nil ?_
        cases hE_1
        refine Nrm.only [1, 2, 3, 30] rfl ?_
        refine Nrm.pick [0] rfl rfl ?_
        exact hj_1 _ _ ⟨rfl, rfl⟩

end Go.Proofs

/- loop.example/g01158/laws.eqIntA2 -/

namespace Go.Proofs
open Go Go.Ga
set_option linter.unusedVariables false
set_option maxRecDepth 100000
set_option maxHeartbeats 4000000
def laws_eqIntA2.l0 (k : Nat) (a0_0 : Int) (a0_1 : Int) (a1_0 : Int) (a1_1 : Int) : Nat → Int → Option ((Unit) ⊕ (Bool))
  | 0, _ => none
  | n + 1, x5 => (if (decide (x5 < 2)) = true then (rdl [a0_0, a0_1] x5).bind fun t11 => (rdl [a1_0, a1_1] x5).bind fun t14 => (if (t11 != t14) = true then some (Sum.inr false) else laws_eqIntA2.l0 k a0_0 a0_1 a1_0 a1_1 n (w64 (x5 + 1))) else some (Sum.inl ()))

def laws_eqIntA2.f (k : Nat) (a0_0 : Int) (a0_1 : Int) (a1_0 : Int) (a1_1 : Int) : Option (Bool) := (laws_eqIntA2.l0 k a0_0 a0_1 a1_0 a1_1 k 0).bind fun s => Lr s some fun _ => some true

theorem laws_eqIntA2.ok {k : Nat}  {a0_0 : Int} {a0_1 : Int} {a1_0 : Int} {a1_1 : Int} {r0 : Bool} (h : laws_eqIntA2.f k a0_0 a0_1 a1_0 a1_1 = some r0) (w : World) :
    Calls Try.prog 70 ([.agg ([.int .i64 a0_0, .int .i64 a0_1].toArray), .agg ([.int .i64 a1_0, .int .i64 a1_1].toArray)] : List Value).toArray w (fun e w' => e = .returned (.bool r0) ∧ Ext w w') := by
  unfold laws_eqIntA2.f at h
  refine Calls.of_tri (N := 17) Try.func70 rfl rfl rfl (Sep.nil (M := noM)) ?_
  refine Tri.seq ?_
  refine Tri.reg (l := [0, 1, 2]) rfl ?_
  refine F.m rfl rfl rfl (wanted_none rfl) (m_boxG rfl rfl) ?_
  rintro _ _ ⟨b2_1, rfl, rfl⟩
  refine F.m rfl rfl rfl (wanted_none rfl) (m_boxG rfl rfl) ?_
  rintro _ _ ⟨b3_1, rfl, rfl⟩
  refine F.q rfl rfl rfl (wanted_none rfl) (r_assign rfl) ?_
  refine F.nil ?_
  refine Nrm.seq ?_
  refine Tri.seq ?_
  refine Tri.seq ?_
  refine Tri.reg (l := [0]) rfl ?_
  refine F.q rfl rfl rfl (wanted_none rfl) (r_assign rfl) ?_
  refine F.nil ?_
  refine Nrm.seq ?_
  obtain ⟨s0, hE_1, h⟩ := bind_some h
  refine Tri.block ?_
  refine Tri.only [2, 3, 5] rfl ?_
  refine Tri.pick [0, 1] rfl rfl ?_
  refine Tri.rounds (fun n e' C' => ∃ (x5' : Int), laws_eqIntA2.l0 k a0_0 a0_1 a1_0 a1_1 n x5' = some s0 ∧ e' = [(2, .pointer (some ⟨b2_1, 0, none⟩)), (3, .pointer (some ⟨b3_1, 0, none⟩)), (5, .int .i64 x5')] ∧ C' = Sep w noM [R.box b3_1 89 [.int .i64 a1_0, .int .i64 a1_1], R.box b2_1 89 [.int .i64 a0_0, .int .i64 a0_1]]) k ?_ ?_ ?_
  · exact ⟨0, hE_1, rfl, rfl⟩
  · rintro _ _ ⟨_, hE_1, _⟩
    rw [laws_eqIntA2.l0.eq_1] at hE_1; cases hE_1
  · rintro n_1 _ _ ⟨x5, hE_1, rfl, rfl⟩ ih_1
    rw [laws_eqIntA2.l0.eq_2] at hE_1
    refine Tri.seq ?_
    refine Tri.seq ?_
    refine Tri.reg (l := [0, 1]) rfl ?_
    refine F.q rfl rfl rfl (wanted_none rfl) (r_move rfl) ?_
    refine F.q rfl rfl rfl (wanted_none rfl) (r_lss rfl rfl) ?_
    refine F.nil ?_
    refine Nrm.seq ?_
    refine Tri.cond (b := decide (x5 < 2)) rfl (fun g_1 => ?_) (fun g_1 => ?_)
    · replace hE_1 := if_tt g_1 hE_1
      refine Tri.skip ?_
      refine Nrm.seq ?_
      refine Tri.seq ?_
      refine Tri.block ?_
      refine Tri.seq ?_
      obtain ⟨t11, h11, hE_1⟩ := bind_some hE_1
      obtain ⟨t14, h14, hE_1⟩ := bind_some hE_1
      refine Tri.drawA mixedT Sep.up [(0, true), (1, true), (2, true), (3, true), (4, true), (5, true), (6, true)] [] (by kernel_rfl) ?_
      refine S.q rfl rfl rfl (wanted_none rfl) (r_move rfl) ?_
      refine S.q rfl rfl rfl (wanted_none rfl) (r_indexAddrA Try.underlying89 ti3 rfl rfl (rdl_some h11).1 (rdl_some h11).2.1) ?_
      refine S.q rfl rfl rfl (wanted_none rfl) (r_load ta3 rfl (fun w hw => cell_dynB (box_cells (i := 1) rfl w hw) rfl h11)) ?_
      refine S.q rfl rfl rfl (wanted_none rfl) (r_move rfl) ?_
      refine S.q rfl rfl rfl (wanted_none rfl) (r_indexAddrA Try.underlying89 ti3 rfl rfl (rdl_some h14).1 (rdl_some h14).2.1) ?_
      refine S.q rfl rfl rfl (wanted_none rfl) (r_load ta3 rfl (fun w hw => cell_dynB (box_cells (i := 0) rfl w hw) rfl h14)) ?_
      refine S.q rfl rfl rfl (wanted_none rfl) (r_neq rfl rfl) ?_
      refine S.nil ?_
      refine F.nil ?_
      refine Nrm.seq ?_
      refine Tri.cond (b := t11 != t14) rfl (fun g_2 => ?_) (fun g_2 => ?_)
      · replace hE_1 := if_tt g_2 hE_1
        refine Tri.seq ?_
        refine Tri.reg (l := [0]) rfl ?_
        refine F.q rfl rfl rfl (wanted_none rfl) (r_assign rfl) ?_
        refine F.nil ?_
        refine Nrm.seq ?_
        refine Tri.ret ?_
        refine Rtn.block ?_
        refine Rtn.then ?_
        refine Rtn.then ?_
        refine Rtn.block ?_
        refine Rtn.then ?_
        cases hE_1
        replace h := Lr_inr h
        cases h
        exact Rtn.body (.tmp rfl .nil) (fun w hw => ⟨rfl, hw.ext⟩)
      · replace hE_1 := if_ff g_2 hE_1
        refine Tri.skip ?_
        refine Nrm.block ?_
        refine Nrm.seq ?_
        refine Tri.reg (l := [0, 1, 2]) rfl ?_
        refine F.q rfl rfl rfl (wanted_none rfl) (r_move rfl) ?_
        refine F.q rfl rfl rfl (wanted_none rfl) (r_add rfl rfl) ?_
        refine F.q rfl rfl rfl (wanted_none rfl) (r_assign rfl) ?_
        refine F.nil ?_
        refine Nrm.round ?_
        refine Rnd.only [2, 3, 5] rfl ?_
        refine Rnd.pick [0, 1] rfl rfl ?_
        exact ih_1 _ _ ⟨w64 (x5 + 1), hE_1, rfl, rfl⟩
    · replace hE_1 := if_ff g_1 hE_1
      refine Tri.exit ?_
      refine Exi.then ?_
      refine Exi.then ?_
      refine Exi.same ?_
      cases hE_1
      replace h := Lr_inl h
      refine Nrm.seq ?_
      refine Tri.seq ?_
      refine Tri.reg (l := [0]) rfl ?_
      refine F.q rfl rfl rfl (wanted_none rfl) (r_assign rfl) ?_
      refine F.nil ?_
      refine Nrm.seq ?_
      refine Tri.ret ?_
      cases h
      exact Rtn.body (.tmp rfl .nil) (fun w hw => ⟨rfl, hw.ext⟩)

end Go.Proofs

/- loop.example/g01158/laws.eqIntA2S -/
namespace Go.Proofs
open Go Go.Ga
set_option linter.unusedVariables false
set_option maxRecDepth 100000
set_option maxHeartbeats 4000000
def laws_eqIntA2S.l0 (k : Nat) (a0 : List (Int × Int)) (a1 : List (Int × Int)) : Nat → Int → Option ((Unit) ⊕ (Bool))
  | 0, _ => none
  | n + 1, x5 => (if (decide (x5 < (a0.length : Int))) = true then (rdl a0 x5).bind fun t19 => (rdl a1 x5).bind fun t23 => (laws_eqIntA2.f k t19.1 t19.2 t23.1 t23.2).bind fun t25 => (if (!t25) = true then some (Sum.inr false) else laws_eqIntA2S.l0 k a0 a1 n (w64 (x5 + 1))) else some (Sum.inl ()))

def laws_eqIntA2S.f (k : Nat) (a0 : List (Int × Int)) (a1 : List (Int × Int)) : Option (Bool) := (if ((a0.length : Int) != (a1.length : Int)) = true then some false else (laws_eqIntA2S.l0 k a0 a1 k 0).bind fun s => Lr s some fun _ => some true)

theorem laws_eqIntA2S.ok {k : Nat}  {a0 : List (Int × Int)} {a1 : List (Int × Int)} {r0 : Bool} (h : laws_eqIntA2S.f k a0 a1 = some r0) (w : World) {va0 : Value} {va1 : Value} (hr_a0 : Rd w va0 a0) (hr_a1 : Rd w va1 a1) :
    Calls Try.prog 26 ([va0, va1] : List Value).toArray w (fun e w' => e = .returned (.bool r0) ∧ Ext w w') := by
  unfold laws_eqIntA2S.f at h
  have hl_va0 := hr_a0.len
  have hl_va1 := hr_a1.len
  refine Calls.of_tri (N := 27) Try.func26 rfl rfl rfl (Sep.nil (M := noM)) ?_
  refine Tri.seq ?_
  refine Tri.reg (l := [0]) rfl ?_
  refine F.q rfl rfl rfl (wanted_none rfl) (r_assign rfl) ?_
  refine F.nil ?_
  refine Nrm.seq ?_
  refine Tri.seq ?_
  refine Tri.seq ?_
  refine Tri.reg (l := [0, 1, 2, 3, 4]) rfl ?_
  refine F.q rfl rfl rfl (wanted_none rfl) (r_move rfl) ?_
  refine F.q rfl rfl rfl (wanted_none rfl) (r_len Try.underlying41 rfl hl_va0) ?_
  refine F.q rfl rfl rfl (wanted_none rfl) (r_move rfl) ?_
  refine F.q rfl rfl rfl (wanted_none rfl) (r_len Try.underlying41 rfl hl_va1) ?_
  refine F.q rfl rfl rfl (wanted_none rfl) (r_neq rfl rfl) ?_
  refine F.nil ?_
  refine Nrm.seq ?_
  refine Tri.cond (b := (a0.length : Int) != (a1.length : Int)) rfl (fun g_1 => ?_) (fun g_1 => ?_)
  · replace h := if_tt g_1 h
    refine Tri.seq ?_
    refine Tri.reg (l := [0]) rfl ?_
    refine F.q rfl rfl rfl (wanted_none rfl) (r_assign rfl) ?_
    refine F.nil ?_
    refine Nrm.seq ?_
    refine Tri.ret ?_
    refine Rtn.then ?_
    cases h
    exact Rtn.body (.tmp rfl .nil) (fun w hw => ⟨rfl, hw.ext⟩)
  · replace h := if_ff g_1 h
    refine Tri.skip ?_
    refine Nrm.seq ?_
    refine Tri.seq ?_
    refine Tri.seq ?_
    refine Tri.reg (l := [0]) rfl ?_
    refine F.q rfl rfl rfl (wanted_none rfl) (r_assign rfl) ?_
    refine F.nil ?_
    refine Nrm.seq ?_
    obtain ⟨s0, hE_1, h⟩ := bind_some h
    refine Tri.block ?_
    refine Tri.only [0, 1, 5] rfl ?_
    refine Tri.pick [] rfl rfl ?_
    refine Tri.rounds (fun n e' C' => ∃ (x5' : Int), laws_eqIntA2S.l0 k a0 a1 n x5' = some s0 ∧ e' = [(0, va0), (1, va1), (5, .int .i64 x5')] ∧ C' = Sep w noM []) k ?_ ?_ ?_
    · exact ⟨0, hE_1, rfl, rfl⟩
    · rintro _ _ ⟨_, hE_1, _⟩
      rw [laws_eqIntA2S.l0.eq_1] at hE_1; cases hE_1
    · rintro n_1 _ _ ⟨x5, hE_1, rfl, rfl⟩ ih_1
      rw [laws_eqIntA2S.l0.eq_2] at hE_1
      refine Tri.seq ?_
      refine Tri.seq ?_
      refine Tri.reg (l := [0, 1, 2, 3]) rfl ?_
      refine F.q rfl rfl rfl (wanted_none rfl) (r_move rfl) ?_
      refine F.q rfl rfl rfl (wanted_none rfl) (r_move rfl) ?_
      refine F.q rfl rfl rfl (wanted_none rfl) (r_len Try.underlying41 rfl hl_va0) ?_
      refine F.q rfl rfl rfl (wanted_none rfl) (r_lss rfl rfl) ?_
      refine F.nil ?_
      refine Nrm.seq ?_
      refine Tri.cond (b := decide (x5 < (a0.length : Int))) rfl (fun g_2 => ?_) (fun g_2 => ?_)
      · replace hE_1 := if_tt g_2 hE_1
        refine Tri.skip ?_
        refine Nrm.seq ?_
        refine Tri.seq ?_
        refine Tri.block ?_
        refine Tri.seq ?_
        obtain ⟨t19, h19, hE_1⟩ := bind_some hE_1
        obtain ⟨t23, h23, hE_1⟩ := bind_some hE_1
        obtain ⟨t25, h25, hE_1⟩ := bind_some hE_1
        refine Tri.drawA mixedT Sep.up [(0, true), (1, true), (2, true), (3, true), (4, true), (5, true), (6, true), (7, true), (8, true), (9, true)] [] (by kernel_rfl) ?_
        refine S.q rfl rfl rfl (wanted_none rfl) (r_move rfl) ?_
        refine S.q rfl rfl rfl (wanted_none rfl) (r_move rfl) ?_
        refine S.q rfl rfl rfl (wanted_none rfl) (r_indexAddrS Try.underlying41 ti89 rfl hl_va0 rfl (rdl_some h19).1 (rdl_some h19).2.1) ?_
        refine S.q rfl rfl rfl (wanted_none rfl) (r_loadA ta89 ti89 rfl rfl (fun w hw => (Rd.flat ((fun _ hw => hr_a0.sep hw) w hw) (rdl_some h19).2.2))) ?_
        refine S.q rfl rfl rfl (wanted_none rfl) (r_move rfl) ?_
        refine S.q rfl rfl rfl (wanted_none rfl) (r_move rfl) ?_
        refine S.q rfl rfl rfl (wanted_none rfl) (r_indexAddrS Try.underlying41 ti89 rfl hl_va1 rfl (rdl_some h23).1 (rdl_some h23).2.1) ?_
        refine S.q rfl rfl rfl (wanted_none rfl) (r_loadA ta89 ti89 rfl rfl (fun w hw => (Rd.flat ((fun _ hw => hr_a1.sep hw) w hw) (rdl_some h23).2.2))) ?_
        refine S.qc rfl rfl rfl (wanted_none rfl) (q_callF (xs := _) rfl ok70 rfl rfl (fun w hw => laws_eqIntA2.ok h25 w )) ?_
        refine S.q rfl rfl rfl (wanted_none rfl) (r_not rfl) ?_
        refine S.nil ?_
        refine F.nil ?_
        refine Nrm.seq ?_
        refine Tri.cond (b := !t25) rfl (fun g_3 => ?_) (fun g_3 => ?_)
        · replace hE_1 := if_tt g_3 hE_1
          refine Tri.seq ?_
          refine Tri.reg (l := [0]) rfl ?_
          refine F.q rfl rfl rfl (wanted_none rfl) (r_assign rfl) ?_
          refine F.nil ?_
          refine Nrm.seq ?_
          refine Tri.ret ?_
          refine Rtn.block ?_
          refine Rtn.then ?_
          refine Rtn.then ?_
          refine Rtn.block ?_
          refine Rtn.then ?_
          cases hE_1
          replace h := Lr_inr h
          cases h
          exact Rtn.body (.tmp rfl .nil) (fun w hw => ⟨rfl, hw.ext⟩)
        · replace hE_1 := if_ff g_3 hE_1
          refine Tri.skip ?_
          refine Nrm.block ?_
          refine Nrm.seq ?_
          refine Tri.reg (l := [0, 1, 2]) rfl ?_
          refine F.q rfl rfl rfl (wanted_none rfl) (r_move rfl) ?_
          refine F.q rfl rfl rfl (wanted_none rfl) (r_add rfl rfl) ?_
          refine F.q rfl rfl rfl (wanted_none rfl) (r_assign rfl) ?_
          refine F.nil ?_
          refine Nrm.round ?_
          refine Rnd.only [0, 1, 5] rfl ?_
          refine Rnd.pick [] rfl rfl ?_
          exact ih_1 _ _ ⟨w64 (x5 + 1), hE_1, rfl, rfl⟩
      · replace hE_1 := if_ff g_2 hE_1
        refine Tri.exit ?_
        refine Exi.then ?_
        refine Exi.then ?_
        refine Exi.same ?_
        cases hE_1
        replace h := Lr_inl h
        refine Nrm.seq ?_
        refine Tri.seq ?_
        refine Tri.reg (l := [0]) rfl ?_
        refine F.q rfl rfl rfl (wanted_none rfl) (r_assign rfl) ?_
        refine F.nil ?_
        refine Nrm.seq ?_
        refine Tri.ret ?_
        cases h
        exact Rtn.body (.tmp rfl .nil) (fun w hw => ⟨rfl, hw.ext⟩)

end Go.Proofs

/- loop.example/g01158/laws.eqIntA3 -/

namespace Go.Proofs
open Go Go.Ga
set_option linter.unusedVariables false
set_option maxRecDepth 100000
set_option maxHeartbeats 4000000
def laws_eqIntA3.l0 (k : Nat) (a0_0 : Int) (a0_1 : Int) (a0_2 : Int) (a1_0 : Int) (a1_1 : Int) (a1_2 : Int) : Nat → Int → Option ((Unit) ⊕ (Bool))
  | 0, _ => none
  | n + 1, x5 => (if (decide (x5 < 3)) = true then (rdl [a0_0, a0_1, a0_2] x5).bind fun t11 => (rdl [a1_0, a1_1, a1_2] x5).bind fun t14 => (if (t11 != t14) = true then some (Sum.inr false) else laws_eqIntA3.l0 k a0_0 a0_1 a0_2 a1_0 a1_1 a1_2 n (w64 (x5 + 1))) else some (Sum.inl ()))

def laws_eqIntA3.f (k : Nat) (a0_0 : Int) (a0_1 : Int) (a0_2 : Int) (a1_0 : Int) (a1_1 : Int) (a1_2 : Int) : Option (Bool) := (laws_eqIntA3.l0 k a0_0 a0_1 a0_2 a1_0 a1_1 a1_2 k 0).bind fun s => Lr s some fun _ => some true

theorem laws_eqIntA3.ok {k : Nat}  {a0_0 : Int} {a0_1 : Int} {a0_2 : Int} {a1_0 : Int} {a1_1 : Int} {a1_2 : Int} {r0 : Bool} (h : laws_eqIntA3.f k a0_0 a0_1 a0_2 a1_0 a1_1 a1_2 = some r0) (w : World) :
    Calls Try.prog 106 ([.agg ([.int .i64 a0_0, .int .i64 a0_1, .int .i64 a0_2].toArray), .agg ([.int .i64 a1_0, .int .i64 a1_1, .int .i64 a1_2].toArray)] : List Value).toArray w (fun e w' => e = .returned (.bool r0) ∧ Ext w w') := by
  unfold laws_eqIntA3.f at h
  refine Calls.of_tri (N := 17) Try.func106 rfl rfl rfl (Sep.nil (M := noM)) ?_
  refine Tri.seq ?_
  refine Tri.reg (l := [0, 1, 2]) rfl ?_
  refine F.m rfl rfl rfl (wanted_none rfl) (m_boxG rfl rfl) ?_
  rintro _ _ ⟨b2_1, rfl, rfl⟩
  refine F.m rfl rfl rfl (wanted_none rfl) (m_boxG rfl rfl) ?_
  rintro _ _ ⟨b3_1, rfl, rfl⟩
  refine F.q rfl rfl rfl (wanted_none rfl) (r_assign rfl) ?_
  refine F.nil ?_
  refine Nrm.seq ?_
  refine Tri.seq ?_
  refine Tri.seq ?_
  refine Tri.reg (l := [0]) rfl ?_
  refine F.q rfl rfl rfl (wanted_none rfl) (r_assign rfl) ?_
  refine F.nil ?_
  refine Nrm.seq ?_
  obtain ⟨s0, hE_1, h⟩ := bind_some h
  refine Tri.block ?_
  refine Tri.only [2, 3, 5] rfl ?_
  refine Tri.pick [0, 1] rfl rfl ?_
  refine Tri.rounds (fun n e' C' => ∃ (x5' : Int), laws_eqIntA3.l0 k a0_0 a0_1 a0_2 a1_0 a1_1 a1_2 n x5' = some s0 ∧ e' = [(2, .pointer (some ⟨b2_1, 0, none⟩)), (3, .pointer (some ⟨b3_1, 0, none⟩)), (5, .int .i64 x5')] ∧ C' = Sep w noM [R.box b3_1 116 [.int .i64 a1_0, .int .i64 a1_1, .int .i64 a1_2], R.box b2_1 116 [.int .i64 a0_0, .int .i64 a0_1, .int .i64 a0_2]]) k ?_ ?_ ?_
  · exact ⟨0, hE_1, rfl, rfl⟩
  · rintro _ _ ⟨_, hE_1, _⟩
    rw [laws_eqIntA3.l0.eq_1] at hE_1; cases hE_1
  · rintro n_1 _ _ ⟨x5, hE_1, rfl, rfl⟩ ih_1
    rw [laws_eqIntA3.l0.eq_2] at hE_1
    refine Tri.seq ?_
    refine Tri.seq ?_
    refine Tri.reg (l := [0, 1]) rfl ?_
    refine F.q rfl rfl rfl (wanted_none rfl) (r_move rfl) ?_
    refine F.q rfl rfl rfl (wanted_none rfl) (r_lss rfl rfl) ?_
    refine F.nil ?_
    refine Nrm.seq ?_
    refine Tri.cond (b := decide (x5 < 3)) rfl (fun g_1 => ?_) (fun g_1 => ?_)
    · replace hE_1 := if_tt g_1 hE_1
      refine Tri.skip ?_
      refine Nrm.seq ?_
      refine Tri.seq ?_
      refine Tri.block ?_
      refine Tri.seq ?_
      obtain ⟨t11, h11, hE_1⟩ := bind_some hE_1
      obtain ⟨t14, h14, hE_1⟩ := bind_some hE_1
      refine Tri.drawA mixedT Sep.up [(0, true), (1, true), (2, true), (3, true), (4, true), (5, true), (6, true)] [] (by kernel_rfl) ?_
      refine S.q rfl rfl rfl (wanted_none rfl) (r_move rfl) ?_
      refine S.q rfl rfl rfl (wanted_none rfl) (r_indexAddrA Try.underlying116 ti3 rfl rfl (rdl_some h11).1 (rdl_some h11).2.1) ?_
      refine S.q rfl rfl rfl (wanted_none rfl) (r_load ta3 rfl (fun w hw => cell_dynB (box_cells (i := 1) rfl w hw) rfl h11)) ?_
      refine S.q rfl rfl rfl (wanted_none rfl) (r_move rfl) ?_
      refine S.q rfl rfl rfl (wanted_none rfl) (r_indexAddrA Try.underlying116 ti3 rfl rfl (rdl_some h14).1 (rdl_some h14).2.1) ?_
      refine S.q rfl rfl rfl (wanted_none rfl) (r_load ta3 rfl (fun w hw => cell_dynB (box_cells (i := 0) rfl w hw) rfl h14)) ?_
      refine S.q rfl rfl rfl (wanted_none rfl) (r_neq rfl rfl) ?_
      refine S.nil ?_
      refine F.nil ?_
      refine Nrm.seq ?_
      refine Tri.cond (b := t11 != t14) rfl (fun g_2 => ?_) (fun g_2 => ?_)
      · replace hE_1 := if_tt g_2 hE_1
        refine Tri.seq ?_
        refine Tri.reg (l := [0]) rfl ?_
        refine F.q rfl rfl rfl (wanted_none rfl) (r_assign rfl) ?_
        refine F.nil ?_
        refine Nrm.seq ?_
        refine Tri.ret ?_
        refine Rtn.block ?_
        refine Rtn.then ?_
        refine Rtn.then ?_
        refine Rtn.block ?_
        refine Rtn.then ?_
        cases hE_1
        replace h := Lr_inr h
        cases h
        exact Rtn.body (.tmp rfl .nil) (fun w hw => ⟨rfl, hw.ext⟩)
      · replace hE_1 := if_ff g_2 hE_1
        refine Tri.skip ?_
        refine Nrm.block ?_
        refine Nrm.seq ?_
        refine Tri.reg (l := [0, 1, 2]) rfl ?_
        refine F.q rfl rfl rfl (wanted_none rfl) (r_move rfl) ?_
        refine F.q rfl rfl rfl (wanted_none rfl) (r_add rfl rfl) ?_
        refine F.q rfl rfl rfl (wanted_none rfl) (r_assign rfl) ?_
        refine F.nil ?_
        refine Nrm.round ?_
        refine Rnd.only [2, 3, 5] rfl ?_
        refine Rnd.pick [0, 1] rfl rfl ?_
        exact ih_1 _ _ ⟨w64 (x5 + 1), hE_1, rfl, rfl⟩
    · replace hE_1 := if_ff g_1 hE_1
      refine Tri.exit ?_
      refine Exi.then ?_
      refine Exi.then ?_
      refine Exi.same ?_
      cases hE_1
      replace h := Lr_inl h
      refine Nrm.seq ?_
      refine Tri.seq ?_
      refine Tri.reg (l := [0]) rfl ?_
      refine F.q rfl rfl rfl (wanted_none rfl) (r_assign rfl) ?_
      refine F.nil ?_
      refine Nrm.seq ?_
      refine Tri.ret ?_
      cases h
      exact Rtn.body (.tmp rfl .nil) (fun w hw => ⟨rfl, hw.ext⟩)

end Go.Proofs

/- loop.example/g01158/laws.eqIntA3S -/
namespace Go.Proofs
open Go Go.Ga
set_option linter.unusedVariables false
set_option maxRecDepth 100000
set_option maxHeartbeats 4000000
def laws_eqIntA3S.l0 (k : Nat) (a0 : List (Int × Int × Int)) (a1 : List (Int × Int × Int)) : Nat → Int → Option ((Unit) ⊕ (Bool))
  | 0, _ => none
  | n + 1, x5 => (if (decide (x5 < (a0.length : Int))) = true then (rdl a0 x5).bind fun t19 => (rdl a1 x5).bind fun t23 => (laws_eqIntA3.f k t19.1 t19.2.1 t19.2.2 t23.1 t23.2.1 t23.2.2).bind fun t25 => (if (!t25) = true then some (Sum.inr false) else laws_eqIntA3S.l0 k a0 a1 n (w64 (x5 + 1))) else some (Sum.inl ()))

def laws_eqIntA3S.f (k : Nat) (a0 : List (Int × Int × Int)) (a1 : List (Int × Int × Int)) : Option (Bool) := (if ((a0.length : Int) != (a1.length : Int)) = true then some false else (laws_eqIntA3S.l0 k a0 a1 k 0).bind fun s => Lr s some fun _ => some true)

theorem laws_eqIntA3S.ok {k : Nat}  {a0 : List (Int × Int × Int)} {a1 : List (Int × Int × Int)} {r0 : Bool} (h : laws_eqIntA3S.f k a0 a1 = some r0) (w : World) {va0 : Value} {va1 : Value} (hr_a0 : Rd w va0 a0) (hr_a1 : Rd w va1 a1) :
    Calls Try.prog 71 ([va0, va1] : List Value).toArray w (fun e w' => e = .returned (.bool r0) ∧ Ext w w') := by
  unfold laws_eqIntA3S.f at h
  have hl_va0 := hr_a0.len
  have hl_va1 := hr_a1.len
  refine Calls.of_tri (N := 27) Try.func71 rfl rfl rfl (Sep.nil (M := noM)) ?_
  refine Tri.seq ?_
  refine Tri.reg (l := [0]) rfl ?_
  refine F.q rfl rfl rfl (wanted_none rfl) (r_assign rfl) ?_
  refine F.nil ?_
  refine Nrm.seq ?_
  refine Tri.seq ?_
  refine Tri.seq ?_
  refine Tri.reg (l := [0, 1, 2, 3, 4]) rfl ?_
  refine F.q rfl rfl rfl (wanted_none rfl) (r_move rfl) ?_
  refine F.q rfl rfl rfl (wanted_none rfl) (r_len Try.underlying22 rfl hl_va0) ?_
  refine F.q rfl rfl rfl (wanted_none rfl) (r_move rfl) ?_
  refine F.q rfl rfl rfl (wanted_none rfl) (r_len Try.underlying22 rfl hl_va1) ?_
  refine F.q rfl rfl rfl (wanted_none rfl) (r_neq rfl rfl) ?_
  refine F.nil ?_
  refine Nrm.seq ?_
  refine Tri.cond (b := (a0.length : Int) != (a1.length : Int)) rfl (fun g_1 => ?_) (fun g_1 => ?_)
  · replace h := if_tt g_1 h
    refine Tri.seq ?_
    refine Tri.reg (l := [0]) rfl ?_
    refine F.q rfl rfl rfl (wanted_none rfl) (r_assign rfl) ?_
    refine F.nil ?_
    refine Nrm.seq ?_
    refine Tri.ret ?_
    refine Rtn.then ?_
    cases h
    exact Rtn.body (.tmp rfl .nil) (fun w hw => ⟨rfl, hw.ext⟩)
  · replace h := if_ff g_1 h
    refine Tri.skip ?_
    refine Nrm.seq ?_
    refine Tri.seq ?_
    refine Tri.seq ?_
    refine Tri.reg (l := [0]) rfl ?_
    refine F.q rfl rfl rfl (wanted_none rfl) (r_assign rfl) ?_
    refine F.nil ?_
    refine Nrm.seq ?_
    obtain ⟨s0, hE_1, h⟩ := bind_some h
    refine Tri.block ?_
    refine Tri.only [0, 1, 5] rfl ?_
    refine Tri.pick [] rfl rfl ?_
    refine Tri.rounds (fun n e' C' => ∃ (x5' : Int), laws_eqIntA3S.l0 k a0 a1 n x5' = some s0 ∧ e' = [(0, va0), (1, va1), (5, .int .i64 x5')] ∧ C' = Sep w noM []) k ?_ ?_ ?_
    · exact ⟨0, hE_1, rfl, rfl⟩
    · rintro _ _ ⟨_, hE_1, _⟩
      rw [laws_eqIntA3S.l0.eq_1] at hE_1; cases hE_1
    · rintro n_1 _ _ ⟨x5, hE_1, rfl, rfl⟩ ih_1
      rw [laws_eqIntA3S.l0.eq_2] at hE_1
      refine Tri.seq ?_
      refine Tri.seq ?_
      refine Tri.reg (l := [0, 1, 2, 3]) rfl ?_
      refine F.q rfl rfl rfl (wanted_none rfl) (r_move rfl) ?_
      refine F.q rfl rfl rfl (wanted_none rfl) (r_move rfl) ?_
      refine F.q rfl rfl rfl (wanted_none rfl) (r_len Try.underlying22 rfl hl_va0) ?_
      refine F.q rfl rfl rfl (wanted_none rfl) (r_lss rfl rfl) ?_
      refine F.nil ?_
      refine Nrm.seq ?_
      refine Tri.cond (b := decide (x5 < (a0.length : Int))) rfl (fun g_2 => ?_) (fun g_2 => ?_)
      · replace hE_1 := if_tt g_2 hE_1
        refine Tri.skip ?_
        refine Nrm.seq ?_
        refine Tri.seq ?_
        refine Tri.block ?_
        refine Tri.seq ?_
        obtain ⟨t19, h19, hE_1⟩ := bind_some hE_1
        obtain ⟨t23, h23, hE_1⟩ := bind_some hE_1
        obtain ⟨t25, h25, hE_1⟩ := bind_some hE_1
        refine Tri.drawA mixedT Sep.up [(0, true), (1, true), (2, true), (3, true), (4, true), (5, true), (6, true), (7, true), (8, true), (9, true)] [] (by kernel_rfl) ?_
        refine S.q rfl rfl rfl (wanted_none rfl) (r_move rfl) ?_
        refine S.q rfl rfl rfl (wanted_none rfl) (r_move rfl) ?_
        refine S.q rfl rfl rfl (wanted_none rfl) (r_indexAddrS Try.underlying22 ti116 rfl hl_va0 rfl (rdl_some h19).1 (rdl_some h19).2.1) ?_
        refine S.q rfl rfl rfl (wanted_none rfl) (r_loadA ta116 ti116 rfl rfl (fun w hw => (Rd.flat ((fun _ hw => hr_a0.sep hw) w hw) (rdl_some h19).2.2))) ?_
        refine S.q rfl rfl rfl (wanted_none rfl) (r_move rfl) ?_
        refine S.q rfl rfl rfl (wanted_none rfl) (r_move rfl) ?_
        refine S.q rfl rfl rfl (wanted_none rfl) (r_indexAddrS Try.underlying22 ti116 rfl hl_va1 rfl (rdl_some h23).1 (rdl_some h23).2.1) ?_
        refine S.q rfl rfl rfl (wanted_none rfl) (r_loadA ta116 ti116 rfl rfl (fun w hw => (Rd.flat ((fun _ hw => hr_a1.sep hw) w hw) (rdl_some h23).2.2))) ?_
        refine S.qc rfl rfl rfl (wanted_none rfl) (q_callF (xs := _) rfl ok106 rfl rfl (fun w hw => laws_eqIntA3.ok h25 w )) ?_
        refine S.q rfl rfl rfl (wanted_none rfl) (r_not rfl) ?_
        refine S.nil ?_
        refine F.nil ?_
        refine Nrm.seq ?_
        refine Tri.cond (b := !t25) rfl (fun g_3 => ?_) (fun g_3 => ?_)
        · replace hE_1 := if_tt g_3 hE_1
          refine Tri.seq ?_
          refine Tri.reg (l := [0]) rfl ?_
          refine F.q rfl rfl rfl (wanted_none rfl) (r_assign rfl) ?_
          refine F.nil ?_
          refine Nrm.seq ?_
          refine Tri.ret ?_
          refine Rtn.block ?_
          refine Rtn.then ?_
          refine Rtn.then ?_
          refine Rtn.block ?_
          refine Rtn.then ?_
          cases hE_1
          replace h := Lr_inr h
          cases h
          exact Rtn.body (.tmp rfl .nil) (fun w hw => ⟨rfl, hw.ext⟩)
        · replace hE_1 := if_ff g_3 hE_1
          refine Tri.skip ?_
          refine Nrm.block ?_
          refine Nrm.seq ?_
          refine Tri.reg (l := [0, 1, 2]) rfl ?_
          refine F.q rfl rfl rfl (wanted_none rfl) (r_move rfl) ?_
          refine F.q rfl rfl rfl (wanted_none rfl) (r_add rfl rfl) ?_
          refine F.q rfl rfl rfl (wanted_none rfl) (r_assign rfl) ?_
          refine F.nil ?_
          refine Nrm.round ?_
          refine Rnd.only [0, 1, 5] rfl ?_
          refine Rnd.pick [] rfl rfl ?_
          exact ih_1 _ _ ⟨w64 (x5 + 1), hE_1, rfl, rfl⟩
      · replace hE_1 := if_ff g_2 hE_1
        refine Tri.exit ?_
        refine Exi.then ?_
        refine Exi.then ?_
        refine Exi.same ?_
        cases hE_1
        replace h := Lr_inl h
        refine Nrm.seq ?_
        refine Tri.seq ?_
        refine Tri.reg (l := [0]) rfl ?_
        refine F.q rfl rfl rfl (wanted_none rfl) (r_assign rfl) ?_
        refine F.nil ?_
        refine Nrm.seq ?_
        refine Tri.ret ?_
        cases h
        exact Rtn.body (.tmp rfl .nil) (fun w hw => ⟨rfl, hw.ext⟩)

end Go.Proofs

/- loop.example/g01158/laws.eqMaze -/
namespace Go.Proofs
open Go Go.Ga
set_option linter.unusedVariables false
set_option maxRecDepth 100000
set_option maxHeartbeats 4000000
def laws_eqMaze.f (k : Nat) (a0_0 : Int) (a0_1 : List (Int × Int × Int)) (a0_2 : List Int) (a1_0 : Int) (a1_1 : List (Int × Int × Int)) (a1_2 : List Int) : Option (Bool) := (if (a0_0 != a1_0) = true then some false else (laws_eqIntA3S.f k a0_1 a1_1).bind fun t14 => (if (!t14) = true then some false else (laws_eqIntS.f k a0_2 a1_2).bind fun t20 => (if (!t20) = true then some false else some true)))

theorem laws_eqMaze.ok {k : Nat}  {a0_0 : Int} {a0_1 : List (Int × Int × Int)} {a0_2 : List Int} {a1_0 : Int} {a1_1 : List (Int × Int × Int)} {a1_2 : List Int} {r0 : Bool} (h : laws_eqMaze.f k a0_0 a0_1 a0_2 a1_0 a1_1 a1_2 = some r0) (w : World) {va0_1 : Value} {va0_2 : Value} {va1_1 : Value} {va1_2 : Value} (hr_a0_1 : Rd w va0_1 a0_1) (hr_a0_2 : Rd w va0_2 a0_2) (hr_a1_1 : Rd w va1_1 a1_1) (hr_a1_2 : Rd w va1_2 a1_2) :
    Calls Try.prog 27 ([.agg ([.int .i64 a0_0, va0_1, va0_2].toArray), .agg ([.int .i64 a1_0, va1_1, va1_2].toArray)] : List Value).toArray w (fun e w' => e = .returned (.bool r0) ∧ Ext w w') := by
  unfold laws_eqMaze.f at h
  have hl_va0_1 := hr_a0_1.len
  have hl_va0_2 := hr_a0_2.len
  have hl_va1_1 := hr_a1_1.len
  have hl_va1_2 := hr_a1_2.len
  refine Calls.of_tri (N := 22) Try.func27 rfl rfl rfl (Sep.nil (M := noM)) ?_
  refine Tri.seq ?_
  refine Tri.reg (l := [0, 1, 2]) rfl ?_
  refine F.m rfl rfl rfl (wanted_none rfl) (m_boxG rfl rfl) ?_
  rintro _ _ ⟨b2_1, rfl, rfl⟩
  refine F.m rfl rfl rfl (wanted_none rfl) (m_boxG rfl rfl) ?_
  rintro _ _ ⟨b3_1, rfl, rfl⟩
  refine F.q rfl rfl rfl (wanted_none rfl) (r_assign rfl) ?_
  refine F.nil ?_
  refine Nrm.seq ?_
  refine Tri.seq ?_
  refine Tri.seq ?_
  refine Tri.reg (l := [0, 1, 2, 3, 4]) rfl ?_
  refine F.q rfl rfl rfl (wanted_none rfl) (r_fieldAddr tf31_0 rfl) ?_
  refine F.q rfl rfl rfl (wanted_none rfl) (r_load ta3 rfl (fun w hw => cell_1 (box_cells (i := 1) rfl w hw) rfl)) ?_
  refine F.q rfl rfl rfl (wanted_none rfl) (r_fieldAddr tf31_0 rfl) ?_
  refine F.q rfl rfl rfl (wanted_none rfl) (r_load ta3 rfl (fun w hw => cell_1 (box_cells (i := 0) rfl w hw) rfl)) ?_
  refine F.q rfl rfl rfl (wanted_none rfl) (r_neq rfl rfl) ?_
  refine F.nil ?_
  refine Nrm.seq ?_
  refine Tri.cond (b := a0_0 != a1_0) rfl (fun g_1 => ?_) (fun g_1 => ?_)
  · replace h := if_tt g_1 h
    refine Tri.seq ?_
    refine Tri.reg (l := [0]) rfl ?_
    refine F.q rfl rfl rfl (wanted_none rfl) (r_assign rfl) ?_
    refine F.nil ?_
    refine Nrm.seq ?_
    refine Tri.ret ?_
    refine Rtn.then ?_
    cases h
    exact Rtn.body (.tmp rfl .nil) (fun w hw => ⟨rfl, hw.ext⟩)
  · replace h := if_ff g_1 h
    refine Tri.skip ?_
    refine Nrm.seq ?_
    refine Tri.seq ?_
    refine Tri.seq ?_
    obtain ⟨t14, h14, h⟩ := bind_some h
    refine Tri.reg (l := [0, 1, 2, 3, 4, 5]) rfl ?_
    refine F.q rfl rfl rfl (wanted_none rfl) (r_fieldAddr tf31_1 rfl) ?_
    refine F.q rfl rfl rfl (wanted_none rfl) (r_load ta22 rfl (fun w hw => cell_1 (box_cells (i := 1) rfl w hw) rfl)) ?_
    refine F.q rfl rfl rfl (wanted_none rfl) (r_fieldAddr tf31_1 rfl) ?_
    refine F.q rfl rfl rfl (wanted_none rfl) (r_load ta22 rfl (fun w hw => cell_1 (box_cells (i := 0) rfl w hw) rfl)) ?_
    refine F.qc rfl rfl rfl (wanted_none rfl) (q_callF (xs := _) rfl ok71 rfl rfl (fun w hw => laws_eqIntA3S.ok h14 w ((fun _ hw => hr_a0_1.sep hw) w hw) ((fun _ hw => hr_a1_1.sep hw) w hw))) ?_
    refine F.q rfl rfl rfl (wanted_none rfl) (r_not rfl) ?_
    refine F.nil ?_
    refine Nrm.seq ?_
    refine Tri.cond (b := !t14) rfl (fun g_2 => ?_) (fun g_2 => ?_)
    · replace h := if_tt g_2 h
      refine Tri.seq ?_
      refine Tri.reg (l := [0]) rfl ?_
      refine F.q rfl rfl rfl (wanted_none rfl) (r_assign rfl) ?_
      refine F.nil ?_
      refine Nrm.seq ?_
      refine Tri.ret ?_
      refine Rtn.then ?_
      cases h
      exact Rtn.body (.tmp rfl .nil) (fun w hw => ⟨rfl, hw.ext⟩)
    · replace h := if_ff g_2 h
      refine Tri.skip ?_
      refine Nrm.seq ?_
      refine Tri.seq ?_
      refine Tri.seq ?_
      obtain ⟨t20, h20, h⟩ := bind_some h
      refine Tri.reg (l := [0, 1, 2, 3, 4, 5]) rfl ?_
      refine F.q rfl rfl rfl (wanted_none rfl) (r_fieldAddr tf31_2 rfl) ?_
      refine F.q rfl rfl rfl (wanted_none rfl) (r_load ta23 rfl (fun w hw => cell_1 (box_cells (i := 1) rfl w hw) rfl)) ?_
      refine F.q rfl rfl rfl (wanted_none rfl) (r_fieldAddr tf31_2 rfl) ?_
      refine F.q rfl rfl rfl (wanted_none rfl) (r_load ta23 rfl (fun w hw => cell_1 (box_cells (i := 0) rfl w hw) rfl)) ?_
      refine F.qc rfl rfl rfl (wanted_none rfl) (q_callF (xs := _) rfl ok16 rfl rfl (fun w hw => laws_eqIntS.ok h20 w ((fun _ hw => hr_a0_2.sep hw) w hw) ((fun _ hw => hr_a1_2.sep hw) w hw))) ?_
      refine F.q rfl rfl rfl (wanted_none rfl) (r_not rfl) ?_
      refine F.nil ?_
      refine Nrm.seq ?_
      refine Tri.cond (b := !t20) rfl (fun g_3 => ?_) (fun g_3 => ?_)
      · replace h := if_tt g_3 h
        refine Tri.seq ?_
        refine Tri.reg (l := [0]) rfl ?_
        refine F.q rfl rfl rfl (wanted_none rfl) (r_assign rfl) ?_
        refine F.nil ?_
        refine Nrm.seq ?_
        refine Tri.ret ?_
        refine Rtn.then ?_
        cases h
        exact Rtn.body (.tmp rfl .nil) (fun w hw => ⟨rfl, hw.ext⟩)
      · replace h := if_ff g_3 h
        refine Tri.skip ?_
        refine Nrm.seq ?_
        refine Tri.seq ?_
        refine Tri.reg (l := [0]) rfl ?_
        refine F.q rfl rfl rfl (wanted_none rfl) (r_assign rfl) ?_
        refine F.nil ?_
        refine Nrm.seq ?_
        refine Tri.ret ?_
        cases h
        exact Rtn.body (.tmp rfl .nil) (fun w hw => ⟨rfl, hw.ext⟩)

end Go.Proofs

/- loop.example/g01158/laws.markIntA3S -/

namespace Go.Proofs
open Go Go.Ga
set_option linter.unusedVariables false
set_option maxRecDepth 100000
set_option maxHeartbeats 4000000
def laws_markIntA3S.l1 (k : Nat) (x5 : Int) : Nat → (List (Int × Int × Int)) → Int → Int → Option ((List (Int × Int × Int)) × Int)
  | 0, _, _, _ => none
  | n + 1, x0r, x1r, x6 => (if (decide (x6 < 3)) = true then (rdl x0r x5).bind fun t21 => (rdl [t21.1, t21.2.1, t21.2.2] x6).bind fun t22 => laws_markIntA3S.l1 k x5 n (x0r.set x5.toNat (if x6 = 0 then x1r else t21.1, if x6 = 1 then x1r else t21.2.1, if x6 = 2 then x1r else t21.2.2)) (w64 (x1r + 1)) (w64 (x6 + 1)) else some (x0r, x1r))

def laws_markIntA3S.l0 (k : Nat) : Nat → (List (Int × Int × Int)) → Int → Int → Option (Int × (List (Int × Int × Int)))
  | 0, _, _, _ => none
  | n + 1, x0, x1, x5 => (if (decide (x5 < (x0.length : Int))) = true then (laws_markIntA3S.l1 k x5 k x0 x1 0).bind fun (x0r, x1r) => laws_markIntA3S.l0 k n x0r x1r (w64 (x5 + 1)) else some (x1, x0))

def laws_markIntA3S.f (k : Nat) (a0 : List (Int × Int × Int)) (a1 : Int) : Option (Int × (List (Int × Int × Int))) := (laws_markIntA3S.l0 k k a0 a1 0).bind fun (x1, x0) => some (x1, x0)

theorem laws_markIntA3S.ok {k : Nat}  {a0 : List (Int × Int × Int)} {a1 : Int} {r0 : Int} {r1 : List (Int × Int × Int)} (h : laws_markIntA3S.f k a0 a1 = some (r0, r1)) (w : World) {va0 : Value} {Sa0 : Nat → Prop} (hl_va0 : SlLen va0 a0.length) (hw0 : Sep w (footM [R.sl Sa0 va0 a0]) [R.sl Sa0 va0 a0] w) :
    Calls Try.prog 72 ([va0, .int .i64 a1] : List Value).toArray w (PostM (footM [R.sl Sa0 va0 a0]) (fun u ns => u = .int .i64 r0 ∧ SlLen va0 r1.length ∧ ns = [R.sl Sa0 va0 r1]) w) := by
  unfold laws_markIntA3S.f at h
  refine Calls.of_tri (N := 26) Try.func72 rfl rfl rfl hw0 ?_
  refine Tri.seq ?_
  refine Tri.reg (l := [0]) rfl ?_
  refine F.q rfl rfl rfl (wanted_none rfl) (r_assign rfl) ?_
  refine F.nil ?_
  refine Nrm.seq ?_
  refine Tri.seq ?_
  refine Tri.seq ?_
  refine Tri.reg (l := [0]) rfl ?_
  refine F.q rfl rfl rfl (wanted_none rfl) (r_assign rfl) ?_
  refine F.nil ?_
  refine Nrm.seq ?_
  obtain ⟨⟨x1, x0⟩, hE_1, h⟩ := bind_some h
  refine Tri.block ?_
  refine Tri.only [0, 1, 5] rfl ?_
  refine Tri.pick [0] rfl rfl ?_
  refine Tri.rounds (fun n e' C' => ∃ (x0' : List (Int × Int × Int)) (x1' : Int) (x5' : Int), laws_markIntA3S.l0 k n x0' x1' x5' = some (x1, x0) ∧ SlLen va0 (x0').length ∧ e' = [(0, va0), (1, .int .i64 x1'), (5, .int .i64 x5')] ∧ C' = Sep w (footM [R.sl Sa0 va0 a0]) [R.sl Sa0 va0 (x0' : List (Int × Int × Int))]) k ?_ ?_ ?_
  · exact ⟨a0, a1, 0, hE_1, hl_va0, rfl, rfl⟩
  · rintro _ _ ⟨_, _, _, hE_1, _⟩
    rw [laws_markIntA3S.l0.eq_1] at hE_1; cases hE_1
  · rintro n_1 _ _ ⟨x0, x1, x5, hE_1, hl_x0, rfl, rfl⟩ ih_1
    rw [laws_markIntA3S.l0.eq_2] at hE_1
    refine Tri.seq ?_
    refine Tri.seq ?_
    refine Tri.reg (l := [0, 1, 2, 3]) rfl ?_
    refine F.q rfl rfl rfl (wanted_none rfl) (r_move rfl) ?_
    refine F.q rfl rfl rfl (wanted_none rfl) (r_move rfl) ?_
    refine F.q rfl rfl rfl (wanted_none rfl) (r_len Try.underlying22 rfl hl_x0) ?_
    refine F.q rfl rfl rfl (wanted_none rfl) (r_lss rfl rfl) ?_
    refine F.nil ?_
    refine Nrm.seq ?_
    refine Tri.cond (b := decide (x5 < (x0.length : Int))) rfl (fun g_1 => ?_) (fun g_1 => ?_)
    · replace hE_1 := if_tt g_1 hE_1
      refine Tri.skip ?_
      refine Nrm.seq ?_
      refine Tri.seq ?_
      refine Tri.block ?_
      refine Tri.seq ?_
      refine Tri.reg (l := [0]) rfl ?_
      refine F.q rfl rfl rfl (wanted_none rfl) (r_assign rfl) ?_
      refine F.nil ?_
      refine Nrm.seq ?_
      obtain ⟨⟨x0r, x1r⟩, hE_2, hE_1⟩ := bind_some hE_1
      refine Tri.block ?_
      refine Tri.only [0, 1, 5, 6] rfl ?_
      refine Tri.pick [0] rfl rfl ?_
      refine Tri.rounds (fun n e' C' => ∃ (x0r' : List (Int × Int × Int)) (x1r' : Int) (x6' : Int), laws_markIntA3S.l1 k x5 n x0r' x1r' x6' = some (x0r, x1r) ∧ SlLen va0 (x0r').length ∧ e' = [(0, va0), (1, .int .i64 x1r'), (5, .int .i64 x5), (6, .int .i64 x6')] ∧ C' = Sep w (footM [R.sl Sa0 va0 a0]) [R.sl Sa0 va0 (x0r' : List (Int × Int × Int))]) k ?_ ?_ ?_
      · exact ⟨x0, x1, 0, hE_2, hl_x0, rfl, rfl⟩
      · rintro _ _ ⟨_, _, _, hE_2, _⟩
        rw [laws_markIntA3S.l1.eq_1] at hE_2; cases hE_2
      · rintro n_2 _ _ ⟨x0r, x1r, x6, hE_2, hl_x0r, rfl, rfl⟩ ih_2
        rw [laws_markIntA3S.l1.eq_2] at hE_2
        refine Tri.seq ?_
        refine Tri.seq ?_
        refine Tri.reg (l := [0, 1]) rfl ?_
        refine F.q rfl rfl rfl (wanted_none rfl) (r_move rfl) ?_
        refine F.q rfl rfl rfl (wanted_none rfl) (r_lss rfl rfl) ?_
        refine F.nil ?_
        refine Nrm.seq ?_
        refine Tri.cond (b := decide (x6 < 3)) rfl (fun g_2 => ?_) (fun g_2 => ?_)
        · replace hE_2 := if_tt g_2 hE_2
          refine Tri.skip ?_
          refine Nrm.seq ?_
          refine Tri.seq ?_
          refine Tri.block ?_
          refine Tri.seq ?_
          obtain ⟨t21, h21, hE_2⟩ := bind_some hE_2
          obtain ⟨t22, h22, hE_2⟩ := bind_some hE_2
          refine Tri.reg (l := [0, 1, 2, 3, 4, 5, 6]) rfl ?_
          refine F.q rfl rfl rfl (wanted_none rfl) (r_move rfl) ?_
          refine F.q rfl rfl rfl (wanted_none rfl) (r_move rfl) ?_
          refine F.q rfl rfl rfl (wanted_none rfl) (r_move rfl) ?_
          refine F.q rfl rfl rfl (wanted_none rfl) (r_move rfl) ?_
          refine F.q rfl rfl rfl (wanted_none rfl) (r_indexAddrS Try.underlying22 ti116 rfl hl_x0r rfl (rdl_some h21).1 (rdl_some h21).2.1) ?_
          refine F.q rfl rfl rfl (wanted_none rfl) (r_indexAddrA Try.underlying116 ti3 rfl rfl (rdl_some h22).1 (rdl_some h22).2.1) ?_
          refine F.ef0 rfl rfl (wanted_none rfl) (d_storeP (i := 0) (k := (x6.toNat * 1)) (x0 := t21) (x1 := (if x6 = 0 then x1r else t21.1, if x6 = 1 then x1r else t21.2.1, if x6 = 2 then x1r else t21.2.2)) ti3 rfl rfl rfl (rdl_some h21) rfl (dlt (rdl_some h22).1 (rdl_some h22).2.1) (setV3 (rdl_some h22).1 (rdl_some h22).2.1) rfl) ?_
          rintro _ _ ⟨rfl, rfl⟩
          refine F.nil ?_
          refine Nrm.seq ?_
          refine Tri.reg (l := [0, 1, 2]) rfl ?_
          refine F.q rfl rfl rfl (wanted_none rfl) (r_move rfl) ?_
          refine F.q rfl rfl rfl (wanted_none rfl) (r_add rfl rfl) ?_
          refine F.q rfl rfl rfl (wanted_none rfl) (r_assign rfl) ?_
          refine F.nil ?_
          refine Nrm.block ?_
          refine Nrm.seq ?_
          refine Tri.reg (l := [0, 1, 2]) rfl ?_
          refine F.q rfl rfl rfl (wanted_none rfl) (r_move rfl) ?_
          refine F.q rfl rfl rfl (wanted_none rfl) (r_add rfl rfl) ?_
          refine F.q rfl rfl rfl (wanted_none rfl) (r_assign rfl) ?_
          refine F.nil ?_
          refine Nrm.round ?_
          refine Rnd.only [0, 1, 5, 6] rfl ?_
          refine Rnd.pick [0] rfl rfl ?_
          exact ih_2 _ _ ⟨x0r.set x5.toNat (if x6 = 0 then x1r else t21.1, if x6 = 1 then x1r else t21.2.1, if x6 = 2 then x1r else t21.2.2), w64 (x1r + 1), w64 (x6 + 1), hE_2, (len_set hl_x0r), rfl, rfl⟩
        · replace hE_2 := if_ff g_2 hE_2
          refine Tri.exit ?_
          refine Exi.then ?_
          refine Exi.then ?_
          refine Exi.same ?_
          cases hE_2
          refine Nrm.block ?_
          refine Nrm.seq ?_
          refine Tri.reg (l := [0, 1, 2]) rfl ?_
          refine F.q rfl rfl rfl (wanted_none rfl) (r_move rfl) ?_
          refine F.q rfl rfl rfl (wanted_none rfl) (r_add rfl rfl) ?_
          refine F.q rfl rfl rfl (wanted_none rfl) (r_assign rfl) ?_
          refine F.nil ?_
          refine Nrm.round ?_
          refine Rnd.only [0, 1, 5] rfl ?_
          refine Rnd.pick [0] rfl rfl ?_
          exact ih_1 _ _ ⟨x0r, x1r, w64 (x5 + 1), hE_1, hl_x0r, rfl, rfl⟩
    · replace hE_1 := if_ff g_1 hE_1
      refine Tri.exit ?_
      refine Exi.then ?_
      refine Exi.then ?_
      refine Exi.same ?_
      cases hE_1
      refine Nrm.seq ?_
      refine Tri.seq ?_
      refine Tri.reg (l := [0, 1]) rfl ?_
      refine F.q rfl rfl rfl (wanted_none rfl) (r_move rfl) ?_
      refine F.q rfl rfl rfl (wanted_none rfl) (r_assign rfl) ?_
      refine F.nil ?_
      refine Nrm.seq ?_
      refine Tri.ret ?_
      cases h
      exact Rtn.body (.tmp rfl .nil) (fun w hw => ⟨_, _, rfl, ⟨rfl, hl_x0, rfl⟩, Sep.pick (is := [0]) rfl rfl hw⟩)

end Go.Proofs

/- loop.example/g01158/laws.markMaze -/
namespace Go.Proofs
open Go Go.Ga
set_option linter.unusedVariables false
set_option maxRecDepth 100000
set_option maxHeartbeats 4000000
def laws_markMaze.f (k : Nat) (a0_0 : Int) (a0_1 : List (Int × Int × Int)) (a0_2 : List Int) (a1 : Int) : Option (Int × (List (Int × Int × Int)) × (List Int)) := (laws_markIntA3S.f k a0_1 a1).bind fun (t8_1, t8_2) => (laws_markIntS.f k a0_2 t8_1).bind fun (t12_1, t12_2) => some (t12_1, t8_2, t12_2)

theorem laws_markMaze.ok {k : Nat}  {a0_0 : Int} {a0_1 : List (Int × Int × Int)} {a0_2 : List Int} {a1 : Int} {r0 : Int} {r1 : List (Int × Int × Int)} {r2 : List Int} (h : laws_markMaze.f k a0_0 a0_1 a0_2 a1 = some (r0, r1, r2)) (w : World) {va0_1 : Value} {Sa0_1 : Nat → Prop} (hl_va0_1 : SlLen va0_1 a0_1.length) {va0_2 : Value} {Sa0_2 : Nat → Prop} (hl_va0_2 : SlLen va0_2 a0_2.length) (hw0 : Sep w (footM [R.sl Sa0_1 va0_1 a0_1, R.sl Sa0_2 va0_2 a0_2]) [R.sl Sa0_1 va0_1 a0_1, R.sl Sa0_2 va0_2 a0_2] w) :
    Calls Try.prog 28 ([.agg ([.int .i64 a0_0, va0_1, va0_2].toArray), .int .i64 a1] : List Value).toArray w (PostM (footM [R.sl Sa0_1 va0_1 a0_1, R.sl Sa0_2 va0_2 a0_2]) (fun u ns => u = .int .i64 r0 ∧ SlLen va0_1 r1.length ∧ SlLen va0_2 r2.length ∧ ns = [R.sl Sa0_1 va0_1 r1, R.sl Sa0_2 va0_2 r2]) w) := by
  unfold laws_markMaze.f at h
  refine Calls.of_tri (N := 14) Try.func28 rfl rfl rfl hw0 ?_
  refine Tri.seq ?_
  refine Tri.reg (l := [0, 1]) rfl ?_
  refine F.m rfl rfl rfl (wanted_none rfl) (m_boxG rfl rfl) ?_
  rintro _ _ ⟨b2_1, rfl, rfl⟩
  refine F.q rfl rfl rfl (wanted_none rfl) (r_assign rfl) ?_
  refine F.nil ?_
  refine Nrm.seq ?_
  refine Tri.seq ?_
  obtain ⟨⟨t8_1, t8_2⟩, h8, h⟩ := bind_some h
  refine Tri.reg (l := [0, 1, 2, 3, 4]) rfl ?_
  refine F.q rfl rfl rfl (wanted_none rfl) (r_fieldAddr tf31_1 rfl) ?_
  refine F.q rfl rfl rfl (wanted_none rfl) (r_load ta22 rfl (fun w hw => cell_1 (box_cells (i := 0) rfl w hw) rfl)) ?_
  refine F.q rfl rfl rfl (wanted_none rfl) (r_move rfl) ?_
  refine F.ef rfl rfl rfl (wanted_none rfl) (d_callM (xs := _) (cs := [R.sl Sa0_1 va0_1 (a0_1 : List (Int × Int × Int))]) (rest := [R.box b2_1 31 [.int .i64 a0_0, va0_1, va0_2], R.sl Sa0_2 va0_2 (a0_2 : List (Int))]) [1] [0, 2] rfl ok72 rfl rfl rfl rfl (fun w hw => laws_markIntA3S.ok h8 w hl_va0_1 (Sep.sub hw))) ?_
  rintro _ _ ⟨_, ⟨rfl, hl_t8_2, rfl⟩, rfl⟩
  refine F.q rfl rfl rfl (wanted_none rfl) (r_assign rfl) ?_
  refine F.nil ?_
  refine Nrm.seq ?_
  refine Tri.seq ?_
  obtain ⟨⟨t12_1, t12_2⟩, h12, h⟩ := bind_some h
  refine Tri.reg (l := [0, 1, 2, 3, 4]) rfl ?_
  refine F.q rfl rfl rfl (wanted_none rfl) (r_fieldAddr tf31_2 rfl) ?_
  refine F.q rfl rfl rfl (wanted_none rfl) (r_load ta23 rfl (fun w hw => cell_1 (box_cells (i := 1) rfl w hw) rfl)) ?_
  refine F.q rfl rfl rfl (wanted_none rfl) (r_move rfl) ?_
  refine F.ef rfl rfl rfl (wanted_none rfl) (d_callM (xs := _) (cs := [R.sl Sa0_2 va0_2 (a0_2 : List (Int))]) (rest := [R.sl Sa0_1 va0_1 (t8_2 : List (Int × Int × Int)), R.box b2_1 31 [.int .i64 a0_0, va0_1, va0_2]]) [2] [0, 1] rfl ok19 rfl rfl rfl rfl (fun w hw => laws_markIntS.ok h12 w hl_va0_2 (Sep.sub hw))) ?_
  rintro _ _ ⟨_, ⟨rfl, hl_t12_2, rfl⟩, rfl⟩
  refine F.q rfl rfl rfl (wanted_none rfl) (r_assign rfl) ?_
  refine F.nil ?_
  refine Nrm.seq ?_
  refine Tri.seq ?_
  refine Tri.reg (l := [0, 1]) rfl ?_
  refine F.q rfl rfl rfl (wanted_none rfl) (r_move rfl) ?_
  refine F.q rfl rfl rfl (wanted_none rfl) (r_assign rfl) ?_
  refine F.nil ?_
  refine Nrm.seq ?_
  refine Tri.ret ?_
  cases h
  exact Rtn.body (.tmp rfl .nil) (fun w hw => ⟨_, _, rfl, ⟨rfl, hl_t8_2, hl_t12_2, rfl⟩, Sep.pick (is := [1, 0]) rfl rfl hw⟩)

end Go.Proofs

/- loop.example/g01158/laws.markIntA2S -/

namespace Go.Proofs
open Go Go.Ga
set_option linter.unusedVariables false
set_option maxRecDepth 100000
set_option maxHeartbeats 4000000
def laws_markIntA2S.l1 (k : Nat) (x5 : Int) : Nat → (List (Int × Int)) → Int → Int → Option ((List (Int × Int)) × Int)
  | 0, _, _, _ => none
  | n + 1, x0r, x1r, x6 => (if (decide (x6 < 2)) = true then (rdl x0r x5).bind fun t21 => (rdl [t21.1, t21.2] x6).bind fun t22 => laws_markIntA2S.l1 k x5 n (x0r.set x5.toNat (if x6 = 0 then x1r else t21.1, if x6 = 1 then x1r else t21.2)) (w64 (x1r + 1)) (w64 (x6 + 1)) else some (x0r, x1r))

def laws_markIntA2S.l0 (k : Nat) : Nat → (List (Int × Int)) → Int → Int → Option (Int × (List (Int × Int)))
  | 0, _, _, _ => none
  | n + 1, x0, x1, x5 => (if (decide (x5 < (x0.length : Int))) = true then (laws_markIntA2S.l1 k x5 k x0 x1 0).bind fun (x0r, x1r) => laws_markIntA2S.l0 k n x0r x1r (w64 (x5 + 1)) else some (x1, x0))

def laws_markIntA2S.f (k : Nat) (a0 : List (Int × Int)) (a1 : Int) : Option (Int × (List (Int × Int))) := (laws_markIntA2S.l0 k k a0 a1 0).bind fun (x1, x0) => some (x1, x0)

theorem laws_markIntA2S.ok {k : Nat}  {a0 : List (Int × Int)} {a1 : Int} {r0 : Int} {r1 : List (Int × Int)} (h : laws_markIntA2S.f k a0 a1 = some (r0, r1)) (w : World) {va0 : Value} {Sa0 : Nat → Prop} (hl_va0 : SlLen va0 a0.length) (hw0 : Sep w (footM [R.sl Sa0 va0 a0]) [R.sl Sa0 va0 a0] w) :
    Calls Try.prog 29 ([va0, .int .i64 a1] : List Value).toArray w (PostM (footM [R.sl Sa0 va0 a0]) (fun u ns => u = .int .i64 r0 ∧ SlLen va0 r1.length ∧ ns = [R.sl Sa0 va0 r1]) w) := by
  unfold laws_markIntA2S.f at h
  refine Calls.of_tri (N := 26) Try.func29 rfl rfl rfl hw0 ?_
  refine Tri.seq ?_
  refine Tri.reg (l := [0]) rfl ?_
  refine F.q rfl rfl rfl (wanted_none rfl) (r_assign rfl) ?_
  refine F.nil ?_
  refine Nrm.seq ?_
  refine Tri.seq ?_
  refine Tri.seq ?_
  refine Tri.reg (l := [0]) rfl ?_
  refine F.q rfl rfl rfl (wanted_none rfl) (r_assign rfl) ?_
  refine F.nil ?_
  refine Nrm.seq ?_
  obtain ⟨⟨x1, x0⟩, hE_1, h⟩ := bind_some h
  refine Tri.block ?_
  refine Tri.only [0, 1, 5] rfl ?_
  refine Tri.pick [0] rfl rfl ?_
  refine Tri.rounds (fun n e' C' => ∃ (x0' : List (Int × Int)) (x1' : Int) (x5' : Int), laws_markIntA2S.l0 k n x0' x1' x5' = some (x1, x0) ∧ SlLen va0 (x0').length ∧ e' = [(0, va0), (1, .int .i64 x1'), (5, .int .i64 x5')] ∧ C' = Sep w (footM [R.sl Sa0 va0 a0]) [R.sl Sa0 va0 (x0' : List (Int × Int))]) k ?_ ?_ ?_
  · exact ⟨a0, a1, 0, hE_1, hl_va0, rfl, rfl⟩
  · rintro _ _ ⟨_, _, _, hE_1, _⟩
    rw [laws_markIntA2S.l0.eq_1] at hE_1; cases hE_1
  · rintro n_1 _ _ ⟨x0, x1, x5, hE_1, hl_x0, rfl, rfl⟩ ih_1
    rw [laws_markIntA2S.l0.eq_2] at hE_1
    refine Tri.seq ?_
    refine Tri.seq ?_
    refine Tri.reg (l := [0, 1, 2, 3]) rfl ?_
    refine F.q rfl rfl rfl (wanted_none rfl) (r_move rfl) ?_
    refine F.q rfl rfl rfl (wanted_none rfl) (r_move rfl) ?_
    refine F.q rfl rfl rfl (wanted_none rfl) (r_len Try.underlying41 rfl hl_x0) ?_
    refine F.q rfl rfl rfl (wanted_none rfl) (r_lss rfl rfl) ?_
    refine F.nil ?_
    refine Nrm.seq ?_
    refine Tri.cond (b := decide (x5 < (x0.length : Int))) rfl (fun g_1 => ?_) (fun g_1 => ?_)
    · replace hE_1 := if_tt g_1 hE_1
      refine Tri.skip ?_
      refine Nrm.seq ?_
      refine Tri.seq ?_
      refine Tri.block ?_
      refine Tri.seq ?_
      refine Tri.reg (l := [0]) rfl ?_
      refine F.q rfl rfl rfl (wanted_none rfl) (r_assign rfl) ?_
      refine F.nil ?_
      refine Nrm.seq ?_
      obtain ⟨⟨x0r, x1r⟩, hE_2, hE_1⟩ := bind_some hE_1
      refine Tri.block ?_
      refine Tri.only [0, 1, 5, 6] rfl ?_
      refine Tri.pick [0] rfl rfl ?_
      refine Tri.rounds (fun n e' C' => ∃ (x0r' : List (Int × Int)) (x1r' : Int) (x6' : Int), laws_markIntA2S.l1 k x5 n x0r' x1r' x6' = some (x0r, x1r) ∧ SlLen va0 (x0r').length ∧ e' = [(0, va0), (1, .int .i64 x1r'), (5, .int .i64 x5), (6, .int .i64 x6')] ∧ C' = Sep w (footM [R.sl Sa0 va0 a0]) [R.sl Sa0 va0 (x0r' : List (Int × Int))]) k ?_ ?_ ?_
      · exact ⟨x0, x1, 0, hE_2, hl_x0, rfl, rfl⟩
      · rintro _ _ ⟨_, _, _, hE_2, _⟩
        rw [laws_markIntA2S.l1.eq_1] at hE_2; cases hE_2
      · rintro n_2 _ _ ⟨x0r, x1r, x6, hE_2, hl_x0r, rfl, rfl⟩ ih_2
        rw [laws_markIntA2S.l1.eq_2] at hE_2
        refine Tri.seq ?_
        refine Tri.seq ?_
        refine Tri.reg (l := [0, 1]) rfl ?_
        refine F.q rfl rfl rfl (wanted_none rfl) (r_move rfl) ?_
        refine F.q rfl rfl rfl (wanted_none rfl) (r_lss rfl rfl) ?_
        refine F.nil ?_
        refine Nrm.seq ?_
        refine Tri.cond (b := decide (x6 < 2)) rfl (fun g_2 => ?_) (fun g_2 => ?_)
        · replace hE_2 := if_tt g_2 hE_2
          refine Tri.skip ?_
          refine Nrm.seq ?_
          refine Tri.seq ?_
          refine Tri.block ?_
          refine Tri.seq ?_
          obtain ⟨t21, h21, hE_2⟩ := bind_some hE_2
          obtain ⟨t22, h22, hE_2⟩ := bind_some hE_2
          refine Tri.reg (l := [0, 1, 2, 3, 4, 5, 6]) rfl ?_
          refine F.q rfl rfl rfl (wanted_none rfl) (r_move rfl) ?_
          refine F.q rfl rfl rfl (wanted_none rfl) (r_move rfl) ?_
          refine F.q rfl rfl rfl (wanted_none rfl) (r_move rfl) ?_
          refine F.q rfl rfl rfl (wanted_none rfl) (r_move rfl) ?_
          refine F.q rfl rfl rfl (wanted_none rfl) (r_indexAddrS Try.underlying41 ti89 rfl hl_x0r rfl (rdl_some h21).1 (rdl_some h21).2.1) ?_
          refine F.q rfl rfl rfl (wanted_none rfl) (r_indexAddrA Try.underlying89 ti3 rfl rfl (rdl_some h22).1 (rdl_some h22).2.1) ?_
          refine F.ef0 rfl rfl (wanted_none rfl) (d_storeP (i := 0) (k := (x6.toNat * 1)) (x0 := t21) (x1 := (if x6 = 0 then x1r else t21.1, if x6 = 1 then x1r else t21.2)) ti3 rfl rfl rfl (rdl_some h21) rfl (dlt (rdl_some h22).1 (rdl_some h22).2.1) (setV2 (rdl_some h22).1 (rdl_some h22).2.1) rfl) ?_
          rintro _ _ ⟨rfl, rfl⟩
          refine F.nil ?_
          refine Nrm.seq ?_
          refine Tri.reg (l := [0, 1, 2]) rfl ?_
          refine F.q rfl rfl rfl (wanted_none rfl) (r_move rfl) ?_
          refine F.q rfl rfl rfl (wanted_none rfl) (r_add rfl rfl) ?_
          refine F.q rfl rfl rfl (wanted_none rfl) (r_assign rfl) ?_
          refine F.nil ?_
          refine Nrm.block ?_
          refine Nrm.seq ?_
          refine Tri.reg (l := [0, 1, 2]) rfl ?_
          refine F.q rfl rfl rfl (wanted_none rfl) (r_move rfl) ?_
          refine F.q rfl rfl rfl (wanted_none rfl) (r_add rfl rfl) ?_
          refine F.q rfl rfl rfl (wanted_none rfl) (r_assign rfl) ?_
          refine F.nil ?_
          refine Nrm.round ?_
          refine Rnd.only [0, 1, 5, 6] rfl ?_
          refine Rnd.pick [0] rfl rfl ?_
          exact ih_2 _ _ ⟨x0r.set x5.toNat (if x6 = 0 then x1r else t21.1, if x6 = 1 then x1r else t21.2), w64 (x1r + 1), w64 (x6 + 1), hE_2, (len_set hl_x0r), rfl, rfl⟩
        · replace hE_2 := if_ff g_2 hE_2
          refine Tri.exit ?_
          refine Exi.then ?_
          refine Exi.then ?_
          refine Exi.same ?_
          cases hE_2
          refine Nrm.block ?_
          refine Nrm.seq ?_
          refine Tri.reg (l := [0, 1, 2]) rfl ?_
          refine F.q rfl rfl rfl (wanted_none rfl) (r_move rfl) ?_
          refine F.q rfl rfl rfl (wanted_none rfl) (r_add rfl rfl) ?_
          refine F.q rfl rfl rfl (wanted_none rfl) (r_assign rfl) ?_
          refine F.nil ?_
          refine Nrm.round ?_
          refine Rnd.only [0, 1, 5] rfl ?_
          refine Rnd.pick [0] rfl rfl ?_
          exact ih_1 _ _ ⟨x0r, x1r, w64 (x5 + 1), hE_1, hl_x0r, rfl, rfl⟩
    · replace hE_1 := if_ff g_1 hE_1
      refine Tri.exit ?_
      refine Exi.then ?_
      refine Exi.then ?_
      refine Exi.same ?_
      cases hE_1
      refine Nrm.seq ?_
      refine Tri.seq ?_
      refine Tri.reg (l := [0, 1]) rfl ?_
      refine F.q rfl rfl rfl (wanted_none rfl) (r_move rfl) ?_
      refine F.q rfl rfl rfl (wanted_none rfl) (r_assign rfl) ?_
      refine F.nil ?_
      refine Nrm.seq ?_
      refine Tri.ret ?_
      cases h
      exact Rtn.body (.tmp rfl .nil) (fun w hw => ⟨_, _, rfl, ⟨rfl, hl_x0, rfl⟩, Sep.pick (is := [0]) rfl rfl hw⟩)

end Go.Proofs

/- loop.example/g01158/laws.heldIntA2S -/

namespace Go.Proofs
open Go Go.Ga
set_option linter.unusedVariables false
set_option maxRecDepth 100000
set_option maxHeartbeats 4000000
def laws_heldIntA2S.l1 (k : Nat) (a0 : List (Int × Int)) (x5 : Int) : Nat → Int → Int → Option ((Int) ⊕ (Int))
  | 0, _, _ => none
  | n + 1, x1r, x6 => (if (decide (x6 < 2)) = true then (rdl a0 x5).bind fun t20 => (rdl [t20.1, t20.2] x6).bind fun t21 => (if (t21 != x1r) = true then some (Sum.inr (-1)) else laws_heldIntA2S.l1 k a0 x5 n (w64 (x1r + 1)) (w64 (x6 + 1))) else some (Sum.inl x1r))

def laws_heldIntA2S.l0 (k : Nat) (a0 : List (Int × Int)) : Nat → Int → Int → Option ((Int) ⊕ (Int))
  | 0, _, _ => none
  | n + 1, x1, x5 => (if (decide (x5 < (a0.length : Int))) = true then (laws_heldIntA2S.l1 k a0 x5 k x1 0).bind fun s => Lr s (fun r => some (Sum.inr r)) fun x1r => laws_heldIntA2S.l0 k a0 n x1r (w64 (x5 + 1)) else some (Sum.inl x1))

def laws_heldIntA2S.f (k : Nat) (a0 : List (Int × Int)) (a1 : Int) : Option (Int) := (laws_heldIntA2S.l0 k a0 k a1 0).bind fun s => Lr s some fun x1 => some x1

theorem laws_heldIntA2S.ok {k : Nat}  {a0 : List (Int × Int)} {a1 : Int} {r0 : Int} (h : laws_heldIntA2S.f k a0 a1 = some r0) (w : World) {va0 : Value} (hr_a0 : Rd w va0 a0) :
    Calls Try.prog 30 ([va0, .int .i64 a1] : List Value).toArray w (fun e w' => e = .returned (.int .i64 r0) ∧ Ext w w') := by
  unfold laws_heldIntA2S.f at h
  have hl_va0 := hr_a0.len
  refine Calls.of_tri (N := 28) Try.func30 rfl rfl rfl (Sep.nil (M := noM)) ?_
  refine Tri.seq ?_
  refine Tri.reg (l := [0]) rfl ?_
  refine F.q rfl rfl rfl (wanted_none rfl) (r_assign rfl) ?_
  refine F.nil ?_
  refine Nrm.seq ?_
  refine Tri.seq ?_
  refine Tri.seq ?_
  refine Tri.reg (l := [0]) rfl ?_
  refine F.q rfl rfl rfl (wanted_none rfl) (r_assign rfl) ?_
  refine F.nil ?_
  refine Nrm.seq ?_
  obtain ⟨s0, hE_1, h⟩ := bind_some h
  refine Tri.block ?_
  refine Tri.only [0, 1, 5] rfl ?_
  refine Tri.pick [] rfl rfl ?_
  refine Tri.rounds (fun n e' C' => ∃ (x1' : Int) (x5' : Int), laws_heldIntA2S.l0 k a0 n x1' x5' = some s0 ∧ e' = [(0, va0), (1, .int .i64 x1'), (5, .int .i64 x5')] ∧ C' = Sep w noM []) k ?_ ?_ ?_
  · exact ⟨a1, 0, hE_1, rfl, rfl⟩
  · rintro _ _ ⟨_, _, hE_1, _⟩
    rw [laws_heldIntA2S.l0.eq_1] at hE_1; cases hE_1
  · rintro n_1 _ _ ⟨x1, x5, hE_1, rfl, rfl⟩ ih_1
    rw [laws_heldIntA2S.l0.eq_2] at hE_1
    refine Tri.seq ?_
    refine Tri.seq ?_
    refine Tri.reg (l := [0, 1, 2, 3]) rfl ?_
    refine F.q rfl rfl rfl (wanted_none rfl) (r_move rfl) ?_
    refine F.q rfl rfl rfl (wanted_none rfl) (r_move rfl) ?_
    refine F.q rfl rfl rfl (wanted_none rfl) (r_len Try.underlying41 rfl hl_va0) ?_
    refine F.q rfl rfl rfl (wanted_none rfl) (r_lss rfl rfl) ?_
    refine F.nil ?_
    refine Nrm.seq ?_
    refine Tri.cond (b := decide (x5 < (a0.length : Int))) rfl (fun g_1 => ?_) (fun g_1 => ?_)
    · replace hE_1 := if_tt g_1 hE_1
      refine Tri.skip ?_
      refine Nrm.seq ?_
      refine Tri.seq ?_
      refine Tri.block ?_
      refine Tri.seq ?_
      refine Tri.reg (l := [0]) rfl ?_
      refine F.q rfl rfl rfl (wanted_none rfl) (r_assign rfl) ?_
      refine F.nil ?_
      refine Nrm.seq ?_
      obtain ⟨s1, hE_2, hE_1⟩ := bind_some hE_1
      refine Tri.block ?_
      refine Tri.only [0, 1, 5, 6] rfl ?_
      refine Tri.pick [] rfl rfl ?_
      refine Tri.rounds (fun n e' C' => ∃ (x1r' : Int) (x6' : Int), laws_heldIntA2S.l1 k a0 x5 n x1r' x6' = some s1 ∧ e' = [(0, va0), (1, .int .i64 x1r'), (5, .int .i64 x5), (6, .int .i64 x6')] ∧ C' = Sep w noM []) k ?_ ?_ ?_
      · exact ⟨x1, 0, hE_2, rfl, rfl⟩
      · rintro _ _ ⟨_, _, hE_2, _⟩
        rw [laws_heldIntA2S.l1.eq_1] at hE_2; cases hE_2
      · rintro n_2 _ _ ⟨x1r, x6, hE_2, rfl, rfl⟩ ih_2
        rw [laws_heldIntA2S.l1.eq_2] at hE_2
        refine Tri.seq ?_
        refine Tri.seq ?_
        refine Tri.reg (l := [0, 1]) rfl ?_
        refine F.q rfl rfl rfl (wanted_none rfl) (r_move rfl) ?_
        refine F.q rfl rfl rfl (wanted_none rfl) (r_lss rfl rfl) ?_
        refine F.nil ?_
        refine Nrm.seq ?_
        refine Tri.cond (b := decide (x6 < 2)) rfl (fun g_2 => ?_) (fun g_2 => ?_)
        · replace hE_2 := if_tt g_2 hE_2
          refine Tri.skip ?_
          refine Nrm.seq ?_
          refine Tri.seq ?_
          refine Tri.block ?_
          refine Tri.seq ?_
          refine Tri.seq ?_
          obtain ⟨t20, h20, hE_2⟩ := bind_some hE_2
          obtain ⟨t21, h21, hE_2⟩ := bind_some hE_2
          refine Tri.reg (l := [0, 1, 2, 3, 4, 5, 6, 7]) rfl ?_
          refine F.q rfl rfl rfl (wanted_none rfl) (r_move rfl) ?_
          refine F.q rfl rfl rfl (wanted_none rfl) (r_move rfl) ?_
          refine F.q rfl rfl rfl (wanted_none rfl) (r_move rfl) ?_
          refine F.q rfl rfl rfl (wanted_none rfl) (r_indexAddrS Try.underlying41 ti89 rfl hl_va0 rfl (rdl_some h20).1 (rdl_some h20).2.1) ?_
          refine F.q rfl rfl rfl (wanted_none rfl) (r_indexAddrA Try.underlying89 ti3 rfl rfl (rdl_some h21).1 (rdl_some h21).2.1) ?_
          refine F.q rfl rfl rfl (wanted_none rfl) (r_load ta3 rfl (fun w hw => cell_dynB (Rd.flat ((fun _ hw => hr_a0.sep hw) w hw) (rdl_some h20).2.2) rfl h21)) ?_
          refine F.q rfl rfl rfl (wanted_none rfl) (r_move rfl) ?_
          refine F.q rfl rfl rfl (wanted_none rfl) (r_neq rfl rfl) ?_
          refine F.nil ?_
          refine Nrm.seq ?_
          refine Tri.cond (b := t21 != x1r) rfl (fun g_3 => ?_) (fun g_3 => ?_)
          · replace hE_2 := if_tt g_3 hE_2
            refine Tri.seq ?_
            refine Tri.reg (l := [0]) rfl ?_
            refine F.q rfl rfl rfl (wanted_none rfl) (r_assign rfl) ?_
            refine F.nil ?_
            refine Nrm.seq ?_
            refine Tri.ret ?_
            refine Rtn.then ?_
            refine Rtn.block ?_
            refine Rtn.then ?_
            refine Rtn.then ?_
            refine Rtn.block ?_
            refine Rtn.block ?_
            refine Rtn.then ?_
            refine Rtn.then ?_
            refine Rtn.block ?_
            refine Rtn.then ?_
            cases hE_2
            replace hE_1 := Lr_inr hE_1
            cases hE_1
            replace h := Lr_inr h
            cases h
            exact Rtn.body (.tmp rfl .nil) (fun w hw => ⟨rfl, hw.ext⟩)
          · replace hE_2 := if_ff g_3 hE_2
            refine Tri.skip ?_
            refine Nrm.seq ?_
            refine Tri.reg (l := [0, 1, 2]) rfl ?_
            refine F.q rfl rfl rfl (wanted_none rfl) (r_move rfl) ?_
            refine F.q rfl rfl rfl (wanted_none rfl) (r_add rfl rfl) ?_
            refine F.q rfl rfl rfl (wanted_none rfl) (r_assign rfl) ?_
            refine F.nil ?_
            refine Nrm.block ?_
            refine Nrm.seq ?_
            refine Tri.reg (l := [0, 1, 2]) rfl ?_
            refine F.q rfl rfl rfl (wanted_none rfl) (r_move rfl) ?_
            refine F.q rfl rfl rfl (wanted_none rfl) (r_add rfl rfl) ?_
            refine F.q rfl rfl rfl (wanted_none rfl) (r_assign rfl) ?_
            refine F.nil ?_
            refine Nrm.round ?_
            refine Rnd.only [0, 1, 5, 6] rfl ?_
            refine Rnd.pick [] rfl rfl ?_
            exact ih_2 _ _ ⟨w64 (x1r + 1), w64 (x6 + 1), hE_2, rfl, rfl⟩
        · replace hE_2 := if_ff g_2 hE_2
          refine Tri.exit ?_
          refine Exi.then ?_
          refine Exi.then ?_
          refine Exi.same ?_
          cases hE_2
          replace hE_1 := Lr_inl hE_1
          refine Nrm.block ?_
          refine Nrm.seq ?_
          refine Tri.reg (l := [0, 1, 2]) rfl ?_
          refine F.q rfl rfl rfl (wanted_none rfl) (r_move rfl) ?_
          refine F.q rfl rfl rfl (wanted_none rfl) (r_add rfl rfl) ?_
          refine F.q rfl rfl rfl (wanted_none rfl) (r_assign rfl) ?_
          refine F.nil ?_
          refine Nrm.round ?_
          refine Rnd.only [0, 1, 5] rfl ?_
          refine Rnd.pick [] rfl rfl ?_
          exact ih_1 _ _ ⟨x1r, w64 (x5 + 1), hE_1, rfl, rfl⟩
    · replace hE_1 := if_ff g_1 hE_1
      refine Tri.exit ?_
      refine Exi.then ?_
      refine Exi.then ?_
      refine Exi.same ?_
      cases hE_1
      replace h := Lr_inl h
      refine Nrm.seq ?_
      refine Tri.seq ?_
      refine Tri.reg (l := [0, 1]) rfl ?_
      refine F.q rfl rfl rfl (wanted_none rfl) (r_move rfl) ?_
      refine F.q rfl rfl rfl (wanted_none rfl) (r_assign rfl) ?_
      refine F.nil ?_
      refine Nrm.seq ?_
      refine Tri.ret ?_
      cases h
      exact Rtn.body (.tmp rfl .nil) (fun w hw => ⟨rfl, hw.ext⟩)

end Go.Proofs

/- loop.example/g01158/laws.FnExactGoodSwaps -/
namespace Go.Proofs
open Go Go.Ga
set_option linter.unusedVariables false
set_option maxRecDepth 100000
set_option maxHeartbeats 4000000
def laws_FnExactGoodSwaps.f (k : Nat) (a0_0 : Int) (a0_1 : List (Int × Int × Int)) (a0_2 : List Int) (a1 : Int) (a2 : List Int) : Option (Bool) := (if (decide ((a2.length : Int) > 1048576)) = true then some true else (laws_szMaze.f k a0_0 a0_1 a0_2 1048576).bind fun t24 => (if (decide (t24 < 0)) = true then some true else (laws_toMaze.f k a0_0 a0_1 a0_2).bind fun (t29_1, t29_2, t29_3) => (laws_toIntS.f k a2).bind fun t32 => (spec_GoodSwaps.f k t29_1 t29_2 t29_3 a1 t32).bind fun (t33_1, t33_2) => (laws_toMaze.f k a0_0 a0_1 a0_2).bind fun (t37_1, t37_2, t37_3) => (laws_toIntS.f k a2).bind fun t39 => (impl_GoodSwaps.f k t37_1 t37_2 t37_3 a1 t39).bind fun (t44_1, t44_2) => ((laws_eqIntA2S.f k t44_1 t33_1).bind fun t49 => (if (!t49) = true then some true else some (t44_2 != t33_2))).bind fun y55 => (if y55 = true then some false else (laws_toMaze.f k a0_0 a0_1 a0_2).bind fun (t58_1, t58_2, t58_3) => (laws_eqMaze.f k t37_1 t37_2 t37_3 t58_1 t58_2 t58_3).bind fun t59 => (if (!t59) = true then some false else (laws_toIntS.f k a2).bind fun t63 => (laws_eqIntS.f k t39 t63).bind fun t64 => (if (!t64) = true then some false else (laws_markMaze.f k t37_1 t37_2 t37_3 1).bind fun (t68_1, t68_2, t68_3) => (laws_markIntS.f k t39 t68_1).bind fun (t71_1, t71_2) => ((if (decide (t71_1 < 0)) = true then some true else (laws_eqIntA2S.f k t44_1 t33_1).bind fun t77 => (if (!t77) = true then some true else some (t44_2 != t33_2)))).bind fun y84 => (if y84 = true then some false else (laws_markIntA2S.f k t44_1 1).bind fun (t87_1, t87_2) => (laws_heldIntA2S.f k t87_2 1).bind fun t90 => (if (decide (t90 < 0)) = true then some false else (if (t90 != t87_1) = true then some false else (laws_toMaze.f k a0_0 a0_1 a0_2).bind fun (t98_1, t98_2, t98_3) => (laws_toIntS.f k a2).bind fun t101 => (impl_GoodSwaps.f k t98_1 t98_2 t98_3 a1 t101).bind fun (t102_1, t102_2) => ((laws_eqIntA2S.f k t102_1 t33_1).bind fun t107 => (if (!t107) = true then some true else some (t102_2 != t33_2))).bind fun y113 => (if y113 = true then some false else (laws_heldIntA2S.f k t87_2 1).bind fun t116 => (if (decide (t116 < 0)) = true then some false else (if (t116 != t87_1) = true then some false else some true)))))))))))

theorem laws_FnExactGoodSwaps.ok {k : Nat}  {a0_0 : Int} {a0_1 : List (Int × Int × Int)} {a0_2 : List Int} {a1 : Int} {a2 : List Int} {r0 : Bool} (h : laws_FnExactGoodSwaps.f k a0_0 a0_1 a0_2 a1 a2 = some r0) (w : World) {va0_1 : Value} {va0_2 : Value} {va2 : Value} (hr_a0_1 : Rd w va0_1 a0_1) (hr_a0_2 : Rd w va0_2 a0_2) (hr_a2 : Rd w va2 a2) :
    Calls Try.prog 4 ([.agg ([.int .i64 a0_0, va0_1, va0_2].toArray), .int .i64 a1, va2] : List Value).toArray w (fun e w' => e = .returned (.bool r0) ∧ Ext w w') := by
  unfold laws_FnExactGoodSwaps.f at h
  have hl_va0_1 := hr_a0_1.len
  have hl_va0_2 := hr_a0_2.len
  have hl_va2 := hr_a2.len
  refine Calls.of_tri (N := 122) Try.func4 rfl rfl rfl (Sep.nil (M := noM)) ?_
  refine Tri.seq ?_
  refine Tri.reg (l := [0, 1]) rfl ?_
  refine F.m rfl rfl rfl (wanted_none rfl) (m_boxG rfl rfl) ?_
  rintro _ _ ⟨b3_1, rfl, rfl⟩
  refine F.q rfl rfl rfl (wanted_none rfl) (r_assign rfl) ?_
  refine F.nil ?_
  refine Nrm.seq ?_
  refine Tri.seq ?_
  refine Tri.seq ?_
  refine Tri.reg (l := [0, 1, 2]) rfl ?_
  refine F.q rfl rfl rfl (wanted_none rfl) (r_move rfl) ?_
  refine F.q rfl rfl rfl (wanted_none rfl) (r_len Try.underlying23 rfl hl_va2) ?_
  refine F.q rfl rfl rfl (wanted_none rfl) (r_gtr rfl rfl) ?_
  refine F.nil ?_
  refine Nrm.seq ?_
  refine Tri.cond (b := decide ((a2.length : Int) > 1048576)) rfl (fun g_1 => ?_) (fun g_1 => ?_)
  · replace h := if_tt g_1 h
    refine Tri.seq ?_
    refine Tri.reg (l := [0]) rfl ?_
    refine F.q rfl rfl rfl (wanted_none rfl) (r_assign rfl) ?_
    refine F.nil ?_
    refine Nrm.seq ?_
    refine Tri.ret ?_
    refine Rtn.then ?_
    cases h
    exact Rtn.body (.tmp rfl .nil) (fun w hw => ⟨rfl, hw.ext⟩)
  · replace h := if_ff g_1 h
    refine Tri.skip ?_
    refine Nrm.seq ?_
    refine Tri.seq ?_
    refine Tri.reg (l := [0]) rfl ?_
    refine F.q rfl rfl rfl (wanted_none rfl) (r_assign rfl) ?_
    refine F.nil ?_
    refine Nrm.seq ?_
    refine Tri.seq ?_
    obtain ⟨t24, h24, h⟩ := bind_some h
    refine Tri.reg (l := [0, 1, 2, 3]) rfl ?_
    refine F.q rfl rfl rfl (wanted_none rfl) (r_loadA ta25 ti25 rfl rfl (fun w hw => (box_cells (i := 0) rfl w hw))) ?_
    refine F.q rfl rfl rfl (wanted_none rfl) (r_move rfl) ?_
    refine F.qc rfl rfl rfl (wanted_none rfl) (q_callF (xs := _) rfl ok21 rfl rfl (fun w hw => laws_szMaze.ok h24 w ((fun _ hw => hr_a0_1.sep hw) w hw) ((fun _ hw => hr_a0_2.sep hw) w hw))) ?_
    refine F.q rfl rfl rfl (wanted_none rfl) (r_assign rfl) ?_
    refine F.nil ?_
    refine Nrm.seq ?_
    refine Tri.seq ?_
    refine Tri.seq ?_
    refine Tri.reg (l := [0, 1]) rfl ?_
    refine F.q rfl rfl rfl (wanted_none rfl) (r_move rfl) ?_
    refine F.q rfl rfl rfl (wanted_none rfl) (r_lss rfl rfl) ?_
    refine F.nil ?_
    refine Nrm.seq ?_
    refine Tri.cond (b := decide (t24 < 0)) rfl (fun g_2 => ?_) (fun g_2 => ?_)
    · replace h := if_tt g_2 h
      refine Tri.seq ?_
      refine Tri.reg (l := [0]) rfl ?_
      refine F.q rfl rfl rfl (wanted_none rfl) (r_assign rfl) ?_
      refine F.nil ?_
      refine Nrm.seq ?_
      refine Tri.ret ?_
      refine Rtn.then ?_
      cases h
      exact Rtn.body (.tmp rfl .nil) (fun w hw => ⟨rfl, hw.ext⟩)
    · replace h := if_ff g_2 h
      refine Tri.skip ?_
      refine Nrm.seq ?_
      refine Tri.seq ?_
      obtain ⟨⟨t29_1, t29_2, t29_3⟩, h29, h⟩ := bind_some h
      obtain ⟨t32, h32, h⟩ := bind_some h
      obtain ⟨⟨t33_1, t33_2⟩, h33, h⟩ := bind_some h
      refine Tri.reg (l := [0, 1, 2, 3, 4, 5, 6, 7, 8, 9, 10]) rfl ?_
      refine F.q rfl rfl rfl (wanted_none rfl) (r_loadA ta25 ti25 rfl rfl (fun w hw => (box_cells (i := 0) rfl w hw))) ?_
      refine F.m rfl rfl rfl (wanted_none rfl) (m_callF (xs := _) rfl ok23 rfl rfl (fun w hw => laws_toMaze.ok h29 w ((fun _ hw => hr_a0_1.sep hw) w hw) ((fun _ hw => hr_a0_2.sep hw) w hw))) ?_
      rintro _ _ ⟨_, ⟨v29_1, S29_1, v29_2, S29_2, rfl, hl_v29_1, hl_v29_2, rfl⟩, rfl⟩
      refine F.q rfl rfl rfl (wanted_none rfl) (r_move rfl) ?_
      refine F.q rfl rfl rfl (wanted_none rfl) (r_move rfl) ?_
      refine F.m rfl rfl rfl (wanted_none rfl) (m_callF (xs := _) rfl ok24 rfl rfl (fun w hw => laws_toIntS.ok h32 w ((fun _ hw => hr_a2.sep hw) w hw))) ?_
      rintro v32_1 _ ⟨_, ⟨S32_1, hl_v32_1, rfl⟩, rfl⟩
      refine F.m rfl rfl rfl (wanted_none rfl) (m_callF (xs := _) rfl ok22 rfl rfl (fun w hw => spec_GoodSwaps.ok h33 w ((rd_sl (i := 1) rfl) w hw) ((rd_sl (i := 2) rfl) w hw) ((rd_sl (i := 0) rfl) w hw))) ?_
      rintro _ _ ⟨_, ⟨v33_1, S33_1, rfl, hl_v33_1, rfl⟩, rfl⟩
      refine F.q rfl rfl rfl (wanted_none rfl) (r_move rfl) ?_
      refine F.q rfl rfl rfl (wanted_none rfl) (r_extract rfl rfl) ?_
      refine F.q rfl rfl rfl (wanted_none rfl) (r_extract rfl rfl) ?_
      refine F.q rfl rfl rfl (wanted_none rfl) (r_assign rfl) ?_
      refine F.q rfl rfl rfl (wanted_none rfl) (r_assign rfl) ?_
      refine F.nil ?_
      refine Nrm.seq ?_
      refine Tri.seq ?_
      obtain ⟨⟨t37_1, t37_2, t37_3⟩, h37, h⟩ := bind_some h
      refine Tri.reg (l := [0, 1, 2, 3]) rfl ?_
      refine F.q rfl rfl rfl (wanted_none rfl) (r_loadA ta25 ti25 rfl rfl (fun w hw => (box_cells (i := 4) rfl w hw))) ?_
      refine F.m rfl rfl rfl (wanted_none rfl) (m_callF (xs := _) rfl ok23 rfl rfl (fun w hw => laws_toMaze.ok h37 w ((fun _ hw => hr_a0_1.sep hw) w hw) ((fun _ hw => hr_a0_2.sep hw) w hw))) ?_
      rintro _ _ ⟨_, ⟨v37_1, S37_1, v37_2, S37_2, rfl, hl_v37_1, hl_v37_2, rfl⟩, rfl⟩
      refine F.m rfl rfl rfl (wanted_none rfl) (m_alloc ti31) ?_
      rintro _ _ ⟨b10_1, rfl, rfl⟩
      refine F.ef0 rfl rfl (wanted_none rfl) (d_storeG0 (i := 0) (cs2 := [.int .i64 t37_1, v37_1, v37_2]) ti31 rfl rfl rfl rfl rfl (Nat.le_of_ble_eq_true rfl) (lf_cons rfl (lf_cons (sl_leaf hl_v37_1) (lf_cons (sl_leaf hl_v37_2) lf_nil)))) ?_
      rintro _ _ ⟨rfl, rfl⟩
      refine F.nil ?_
      refine Nrm.seq ?_
      refine Tri.seq ?_
      obtain ⟨t39, h39, h⟩ := bind_some h
      refine Tri.reg (l := [0, 1, 2]) rfl ?_
      refine F.q rfl rfl rfl (wanted_none rfl) (r_move rfl) ?_
      refine F.m rfl rfl rfl (wanted_none rfl) (m_callF (xs := _) rfl ok24 rfl rfl (fun w hw => laws_toIntS.ok h39 w ((fun _ hw => hr_a2.sep hw) w hw))) ?_
      rintro v39_1 _ ⟨_, ⟨S39_1, hl_v39_1, rfl⟩, rfl⟩
      refine F.q rfl rfl rfl (wanted_none rfl) (r_assign rfl) ?_
      refine F.nil ?_
      refine Nrm.seq ?_
      refine Tri.seq ?_
      obtain ⟨⟨t44_1, t44_2⟩, h44, h⟩ := bind_some h
      refine Tri.reg (l := [0, 1, 2, 3, 4, 5, 6, 7, 8]) rfl ?_
      refine F.q rfl rfl rfl (wanted_none rfl) (r_loadA ta31 ti31 rfl rfl (fun w hw => (box_cells (i := 1) rfl w hw))) ?_
      refine F.q rfl rfl rfl (wanted_none rfl) (r_move rfl) ?_
      refine F.q rfl rfl rfl (wanted_none rfl) (r_move rfl) ?_
      refine F.m rfl rfl rfl (wanted_none rfl) (m_callF (xs := _) rfl ok25 rfl rfl (fun w hw => impl_GoodSwaps.ok h44 w ((rd_sl (i := 2) rfl) w hw) ((rd_sl (i := 3) rfl) w hw) ((rd_sl (i := 0) rfl) w hw))) ?_
      rintro _ _ ⟨_, ⟨v44_1, S44_1, rfl, hl_v44_1, rfl⟩, rfl⟩
      refine F.q rfl rfl rfl (wanted_none rfl) (r_move rfl) ?_
      refine F.q rfl rfl rfl (wanted_none rfl) (r_extract rfl rfl) ?_
      refine F.q rfl rfl rfl (wanted_none rfl) (r_extract rfl rfl) ?_
      refine F.q rfl rfl rfl (wanted_none rfl) (r_assign rfl) ?_
      refine F.q rfl rfl rfl (wanted_none rfl) (r_assign rfl) ?_
      refine F.nil ?_
      refine Nrm.seq ?_
      refine Tri.seq ?_
      refine Tri.seq ?_
      obtain ⟨y55, hE_1, h⟩ := bind_some h
      refine Tri.cut (fun e' C' => e' = [(1, .int .i64 a1), (2, va2), (3, .pointer (some ⟨b3_1, 0, none⟩)), (8, v33_1), (9, .bool t33_2), (10, .pointer (some ⟨b10_1, 0, none⟩)), (11, v39_1), (12, v44_1), (13, .bool t44_2), (55, .bool y55)] ∧ C' = Sep w noM [R.box b10_1 31 [.int .i64 t37_1, v37_1, v37_2], R.box b3_1 25 [.int .i64 a0_0, va0_1, va0_2], R.sl S33_1 v33_1 (t33_1 : List (Int × Int)), R.sl S37_1 v37_1 (t37_2 : List (Int × Int × Int)), R.sl S37_2 v37_2 (t37_3 : List (Int)), R.sl S39_1 v39_1 (t39 : List (Int)), R.sl S44_1 v44_1 (t44_1 : List (Int × Int))]) ?_ (fun hj_1 => ?_)
      · rintro _ _ ⟨rfl, rfl⟩
        refine Nrm.seq ?_
        refine Tri.cond (b := y55) rfl (fun g_3 => ?_) (fun g_3 => ?_)
        · replace h := if_tt g_3 h
          refine Tri.seq ?_
          refine Tri.reg (l := [0]) rfl ?_
          refine F.q rfl rfl rfl (wanted_none rfl) (r_assign rfl) ?_
          refine F.nil ?_
          refine Nrm.seq ?_
          refine Tri.ret ?_
          refine Rtn.then ?_
          cases h
          exact Rtn.body (.tmp rfl .nil) (fun w hw => ⟨rfl, hw.ext⟩)
        · replace h := if_ff g_3 h
          refine Tri.skip ?_
          refine Nrm.seq ?_
          refine Tri.seq ?_
          refine Tri.seq ?_
          obtain ⟨⟨t58_1, t58_2, t58_3⟩, h58, h⟩ := bind_some h
          obtain ⟨t59, h59, h⟩ := bind_some h
          refine Tri.drawA mixedT Sep.up [(0, true), (1, true), (2, false), (3, true), (4, true)] [] (by kernel_rfl) ?_
          refine S.q rfl rfl rfl (wanted_none rfl) (r_loadA ta31 ti31 rfl rfl (fun w hw => (box_cells (i := 0) rfl w hw))) ?_
          refine S.q rfl rfl rfl (wanted_none rfl) (r_loadA ta25 ti25 rfl rfl (fun w hw => (box_cells (i := 1) rfl w hw))) ?_
          refine S.m rfl rfl rfl (wanted_none rfl) (m_callF (xs := _) rfl ok23 rfl rfl (fun w hw => laws_toMaze.ok h58 w ((fun _ hw => hr_a0_1.sep hw) w hw) ((fun _ hw => hr_a0_2.sep hw) w hw))) ?_
          rintro _ _ ⟨_, ⟨v58_3, S58_3, v58_4, S58_4, rfl, hl_v58_3, hl_v58_4, rfl⟩, rfl⟩
          refine S.qc rfl rfl rfl (wanted_none rfl) (q_callF (xs := _) rfl ok27 rfl rfl (fun w hw => laws_eqMaze.ok h59 w ((rd_sl (i := 5) rfl) w hw) ((rd_sl (i := 6) rfl) w hw) ((rd_sl (i := 0) rfl) w hw) ((rd_sl (i := 1) rfl) w hw))) ?_
          refine S.q rfl rfl rfl (wanted_none rfl) (r_not rfl) ?_
          refine S.nil ?_
          refine F.nil ?_
          refine Nrm.seq ?_
          refine Tri.cond (b := !t59) rfl (fun g_4 => ?_) (fun g_4 => ?_)
          · replace h := if_tt g_4 h
            refine Tri.seq ?_
            refine Tri.reg (l := [0]) rfl ?_
            refine F.q rfl rfl rfl (wanted_none rfl) (r_assign rfl) ?_
            refine F.nil ?_
            refine Nrm.seq ?_
            refine Tri.ret ?_
            refine Rtn.then ?_
            cases h
            exact Rtn.body (.tmp rfl .nil) (fun w hw => ⟨rfl, hw.ext⟩)
          · replace h := if_ff g_4 h
            refine Tri.skip ?_
            refine Nrm.seq ?_
            refine Tri.seq ?_
            refine Tri.seq ?_
            obtain ⟨t63, h63, h⟩ := bind_some h
            obtain ⟨t64, h64, h⟩ := bind_some h
            refine Tri.reg (l := [0, 1, 2, 3, 4]) rfl ?_
            refine F.q rfl rfl rfl (wanted_none rfl) (r_move rfl) ?_
            refine F.q rfl rfl rfl (wanted_none rfl) (r_move rfl) ?_
            refine F.m rfl rfl rfl (wanted_none rfl) (m_callF (xs := _) rfl ok24 rfl rfl (fun w hw => laws_toIntS.ok h63 w ((fun _ hw => hr_a2.sep hw) w hw))) ?_
            rintro v63_1 _ ⟨_, ⟨S63_1, hl_v63_1, rfl⟩, rfl⟩
            refine F.qc rfl rfl rfl (wanted_none rfl) (q_callF (xs := _) rfl ok16 rfl rfl (fun w hw => laws_eqIntS.ok h64 w ((rd_sl (i := 8) rfl) w hw) ((rd_sl (i := 0) rfl) w hw))) ?_
            refine F.q rfl rfl rfl (wanted_none rfl) (r_not rfl) ?_
            refine F.nil ?_
            refine Nrm.seq ?_
            refine Tri.cond (b := !t64) rfl (fun g_5 => ?_) (fun g_5 => ?_)
            · replace h := if_tt g_5 h
              refine Tri.seq ?_
              refine Tri.reg (l := [0]) rfl ?_
              refine F.q rfl rfl rfl (wanted_none rfl) (r_assign rfl) ?_
              refine F.nil ?_
              refine Nrm.seq ?_
              refine Tri.ret ?_
              refine Rtn.then ?_
              cases h
              exact Rtn.body (.tmp rfl .nil) (fun w hw => ⟨rfl, hw.ext⟩)
            · replace h := if_ff g_5 h
              refine Tri.skip ?_
              refine Nrm.seq ?_
              refine Tri.seq ?_
              refine Tri.reg (l := [0]) rfl ?_
              refine F.q rfl rfl rfl (wanted_none rfl) (r_assign rfl) ?_
              refine F.nil ?_
              refine Nrm.seq ?_
              refine Tri.seq ?_
              obtain ⟨⟨t68_1, t68_2, t68_3⟩, h68, h⟩ := bind_some h
              refine Tri.reg (l := [0, 1, 2, 3]) rfl ?_
              refine F.q rfl rfl rfl (wanted_none rfl) (r_loadA ta31 ti31 rfl rfl (fun w hw => (box_cells (i := 3) rfl w hw))) ?_
              refine F.q rfl rfl rfl (wanted_none rfl) (r_move rfl) ?_
              refine F.ef rfl rfl rfl (wanted_none rfl) (d_callM (xs := _) (cs := [R.sl S37_1 v37_1 (t37_2 : List (Int × Int × Int)), R.sl S37_2 v37_2 (t37_3 : List (Int))]) (rest := [R.sl S63_1 v63_1 (t63 : List (Int)), R.sl S58_3 v58_3 (t58_2 : List (Int × Int × Int)), R.sl S58_4 v58_4 (t58_3 : List (Int)), R.box b10_1 31 [.int .i64 t37_1, v37_1, v37_2], R.box b3_1 25 [.int .i64 a0_0, va0_1, va0_2], R.sl S33_1 v33_1 (t33_1 : List (Int × Int)), R.sl S39_1 v39_1 (t39 : List (Int)), R.sl S44_1 v44_1 (t44_1 : List (Int × Int))]) [6, 7] [0, 1, 2, 3, 4, 5, 8, 9] rfl ok28 rfl rfl rfl rfl (fun w hw => laws_markMaze.ok h68 w hl_v37_1 hl_v37_2 (Sep.sub hw))) ?_
              rintro _ _ ⟨_, ⟨rfl, hl_t68_2, hl_t68_3, rfl⟩, rfl⟩
              refine F.q rfl rfl rfl (wanted_none rfl) (r_assign rfl) ?_
              refine F.nil ?_
              refine Nrm.seq ?_
              refine Tri.seq ?_
              obtain ⟨⟨t71_1, t71_2⟩, h71, h⟩ := bind_some h
              refine Tri.reg (l := [0, 1, 2, 3]) rfl ?_
              refine F.q rfl rfl rfl (wanted_none rfl) (r_move rfl) ?_
              refine F.q rfl rfl rfl (wanted_none rfl) (r_move rfl) ?_
              refine F.ef rfl rfl rfl (wanted_none rfl) (d_callM (xs := _) (cs := [R.sl S39_1 v39_1 (t39 : List (Int))]) (rest := [R.sl S37_1 v37_1 (t68_2 : List (Int × Int × Int)), R.sl S37_2 v37_2 (t68_3 : List (Int)), R.sl S63_1 v63_1 (t63 : List (Int)), R.sl S58_3 v58_3 (t58_2 : List (Int × Int × Int)), R.sl S58_4 v58_4 (t58_3 : List (Int)), R.box b10_1 31 [.int .i64 t37_1, v37_1, v37_2], R.box b3_1 25 [.int .i64 a0_0, va0_1, va0_2], R.sl S33_1 v33_1 (t33_1 : List (Int × Int)), R.sl S44_1 v44_1 (t44_1 : List (Int × Int))]) [8] [0, 1, 2, 3, 4, 5, 6, 7, 9] rfl ok19 rfl rfl rfl rfl (fun w hw => laws_markIntS.ok h71 w hl_v39_1 (Sep.sub hw))) ?_
              rintro _ _ ⟨_, ⟨rfl, hl_t71_2, rfl⟩, rfl⟩
              refine F.q rfl rfl rfl (wanted_none rfl) (r_assign rfl) ?_
              refine F.nil ?_
              refine Nrm.seq ?_
              refine Tri.seq ?_
              refine Tri.seq ?_
              obtain ⟨y84, hE_2, h⟩ := bind_some h
              refine Tri.cut (fun e' C' => e' = [(1, .int .i64 a1), (2, va2), (3, .pointer (some ⟨b3_1, 0, none⟩)), (8, v33_1), (9, .bool t33_2), (12, v44_1), (84, .bool y84)] ∧ C' = Sep w noM [R.box b3_1 25 [.int .i64 a0_0, va0_1, va0_2], R.sl S33_1 v33_1 (t33_1 : List (Int × Int)), R.sl S44_1 v44_1 (t44_1 : List (Int × Int))]) ?_ (fun hj_2 => ?_)
              · rintro _ _ ⟨rfl, rfl⟩
                refine Nrm.seq ?_
                refine Tri.cond (b := y84) rfl (fun g_6 => ?_) (fun g_6 => ?_)
                · replace h := if_tt g_6 h
                  refine Tri.seq ?_
                  refine Tri.reg (l := [0]) rfl ?_
                  refine F.q rfl rfl rfl (wanted_none rfl) (r_assign rfl) ?_
                  refine F.nil ?_
                  refine Nrm.seq ?_
                  refine Tri.ret ?_
                  refine Rtn.then ?_
                  cases h
                  exact Rtn.body (.tmp rfl .nil) (fun w hw => ⟨rfl, hw.ext⟩)
                · replace h := if_ff g_6 h
                  refine Tri.skip ?_
                  refine Nrm.seq ?_
                  refine Tri.seq ?_
                  refine Tri.reg (l := [0]) rfl ?_
                  refine F.q rfl rfl rfl (wanted_none rfl) (r_assign rfl) ?_
                  refine F.nil ?_
                  refine Nrm.seq ?_
                  refine Tri.seq ?_
                  obtain ⟨⟨t87_1, t87_2⟩, h87, h⟩ := bind_some h
                  refine Tri.reg (l := [0, 1, 2, 3]) rfl ?_
                  refine F.q rfl rfl rfl (wanted_none rfl) (r_move rfl) ?_
                  refine F.q rfl rfl rfl (wanted_none rfl) (r_move rfl) ?_
                  refine F.ef rfl rfl rfl (wanted_none rfl) (d_callM (xs := _) (cs := [R.sl S44_1 v44_1 (t44_1 : List (Int × Int))]) (rest := [R.box b3_1 25 [.int .i64 a0_0, va0_1, va0_2], R.sl S33_1 v33_1 (t33_1 : List (Int × Int))]) [2] [0, 1] rfl ok29 rfl rfl rfl rfl (fun w hw => laws_markIntA2S.ok h87 w hl_v44_1 (Sep.sub hw))) ?_
                  rintro _ _ ⟨_, ⟨rfl, hl_t87_2, rfl⟩, rfl⟩
                  refine F.q rfl rfl rfl (wanted_none rfl) (r_assign rfl) ?_
                  refine F.nil ?_
                  refine Nrm.seq ?_
                  refine Tri.seq ?_
                  refine Tri.reg (l := [0]) rfl ?_
                  refine F.q rfl rfl rfl (wanted_none rfl) (r_assign rfl) ?_
                  refine F.nil ?_
                  refine Nrm.seq ?_
                  refine Tri.seq ?_
                  obtain ⟨t90, h90, h⟩ := bind_some h
                  refine Tri.reg (l := [0, 1, 2, 3]) rfl ?_
                  refine F.q rfl rfl rfl (wanted_none rfl) (r_move rfl) ?_
                  refine F.q rfl rfl rfl (wanted_none rfl) (r_move rfl) ?_
                  refine F.qc rfl rfl rfl (wanted_none rfl) (q_callF (xs := _) rfl ok30 rfl rfl (fun w hw => laws_heldIntA2S.ok h90 w ((rd_sl (i := 0) rfl) w hw))) ?_
                  refine F.q rfl rfl rfl (wanted_none rfl) (r_assign rfl) ?_
                  refine F.nil ?_
                  refine Nrm.seq ?_
                  refine Tri.seq ?_
                  refine Tri.seq ?_
                  refine Tri.reg (l := [0, 1]) rfl ?_
                  refine F.q rfl rfl rfl (wanted_none rfl) (r_move rfl) ?_
                  refine F.q rfl rfl rfl (wanted_none rfl) (r_lss rfl rfl) ?_
                  refine F.nil ?_
                  refine Nrm.seq ?_
                  refine Tri.cond (b := decide (t90 < 0)) rfl (fun g_7 => ?_) (fun g_7 => ?_)
                  · replace h := if_tt g_7 h
                    refine Tri.seq ?_
                    refine Tri.reg (l := [0]) rfl ?_
                    refine F.q rfl rfl rfl (wanted_none rfl) (r_assign rfl) ?_
                    refine F.nil ?_
                    refine Nrm.seq ?_
                    refine Tri.ret ?_
                    refine Rtn.then ?_
                    cases h
                    exact Rtn.body (.tmp rfl .nil) (fun w hw => ⟨rfl, hw.ext⟩)
                  · replace h := if_ff g_7 h
                    refine Tri.skip ?_
                    refine Nrm.seq ?_
                    refine Tri.seq ?_
                    refine Tri.seq ?_
                    refine Tri.reg (l := [0, 1, 2]) rfl ?_
                    refine F.q rfl rfl rfl (wanted_none rfl) (r_move rfl) ?_
                    refine F.q rfl rfl rfl (wanted_none rfl) (r_move rfl) ?_
                    refine F.q rfl rfl rfl (wanted_none rfl) (r_neq rfl rfl) ?_
                    refine F.nil ?_
                    refine Nrm.seq ?_
                    refine Tri.cond (b := t90 != t87_1) rfl (fun g_8 => ?_) (fun g_8 => ?_)
                    · replace h := if_tt g_8 h
                      refine Tri.seq ?_
                      refine Tri.reg (l := [0]) rfl ?_
                      refine F.q rfl rfl rfl (wanted_none rfl) (r_assign rfl) ?_
                      refine F.nil ?_
                      refine Nrm.seq ?_
                      refine Tri.ret ?_
                      refine Rtn.then ?_
                      cases h
                      exact Rtn.body (.tmp rfl .nil) (fun w hw => ⟨rfl, hw.ext⟩)
                    · replace h := if_ff g_8 h
                      refine Tri.skip ?_
                      refine Nrm.seq ?_
                      refine Tri.seq ?_
                      obtain ⟨⟨t98_1, t98_2, t98_3⟩, h98, h⟩ := bind_some h
                      obtain ⟨t101, h101, h⟩ := bind_some h
                      obtain ⟨⟨t102_1, t102_2⟩, h102, h⟩ := bind_some h
                      refine Tri.reg (l := [0, 1, 2, 3, 4, 5, 6, 7, 8, 9, 10]) rfl ?_
                      refine F.q rfl rfl rfl (wanted_none rfl) (r_loadA ta25 ti25 rfl rfl (fun w hw => (box_cells (i := 1) rfl w hw))) ?_
                      refine F.m rfl rfl rfl (wanted_none rfl) (m_callF (xs := _) rfl ok23 rfl rfl (fun w hw => laws_toMaze.ok h98 w ((fun _ hw => hr_a0_1.sep hw) w hw) ((fun _ hw => hr_a0_2.sep hw) w hw))) ?_
                      rintro _ _ ⟨_, ⟨v98_1, S98_1, v98_2, S98_2, rfl, hl_v98_1, hl_v98_2, rfl⟩, rfl⟩
                      refine F.q rfl rfl rfl (wanted_none rfl) (r_move rfl) ?_
                      refine F.q rfl rfl rfl (wanted_none rfl) (r_move rfl) ?_
                      refine F.m rfl rfl rfl (wanted_none rfl) (m_callF (xs := _) rfl ok24 rfl rfl (fun w hw => laws_toIntS.ok h101 w ((fun _ hw => hr_a2.sep hw) w hw))) ?_
                      rintro v101_1 _ ⟨_, ⟨S101_1, hl_v101_1, rfl⟩, rfl⟩
                      refine F.m rfl rfl rfl (wanted_none rfl) (m_callF (xs := _) rfl ok25 rfl rfl (fun w hw => impl_GoodSwaps.ok h102 w ((rd_sl (i := 1) rfl) w hw) ((rd_sl (i := 2) rfl) w hw) ((rd_sl (i := 0) rfl) w hw))) ?_
                      rintro _ _ ⟨_, ⟨v102_1, S102_1, rfl, hl_v102_1, rfl⟩, rfl⟩
                      refine F.q rfl rfl rfl (wanted_none rfl) (r_move rfl) ?_
                      refine F.q rfl rfl rfl (wanted_none rfl) (r_extract rfl rfl) ?_
                      refine F.q rfl rfl rfl (wanted_none rfl) (r_extract rfl rfl) ?_
                      refine F.q rfl rfl rfl (wanted_none rfl) (r_assign rfl) ?_
                      refine F.q rfl rfl rfl (wanted_none rfl) (r_assign rfl) ?_
                      refine F.nil ?_
                      refine Nrm.seq ?_
                      refine Tri.seq ?_
                      refine Tri.seq ?_
                      obtain ⟨y113, hE_3, h⟩ := bind_some h
                      refine Tri.cut (fun e' C' => e' = [(12, v44_1), (15, .int .i64 t87_1), (113, .bool y113)] ∧ C' = Sep w noM [R.sl S44_1 v44_1 (t87_2 : List (Int × Int))]) ?_ (fun hj_3 => ?_)
                      · rintro _ _ ⟨rfl, rfl⟩
                        refine Nrm.seq ?_
                        refine Tri.cond (b := y113) rfl (fun g_9 => ?_) (fun g_9 => ?_)
                        · replace h := if_tt g_9 h
                          refine Tri.seq ?_
                          refine Tri.reg (l := [0]) rfl ?_
                          refine F.q rfl rfl rfl (wanted_none rfl) (r_assign rfl) ?_
                          refine F.nil ?_
                          refine Nrm.seq ?_
                          refine Tri.ret ?_
                          refine Rtn.then ?_
                          cases h
                          exact Rtn.body (.tmp rfl .nil) (fun w hw => ⟨rfl, hw.ext⟩)
                        · replace h := if_ff g_9 h
                          refine Tri.skip ?_
                          refine Nrm.seq ?_
                          refine Tri.seq ?_
                          refine Tri.reg (l := [0]) rfl ?_
                          refine F.q rfl rfl rfl (wanted_none rfl) (r_assign rfl) ?_
                          refine F.nil ?_
                          refine Nrm.seq ?_
                          refine Tri.seq ?_
                          obtain ⟨t116, h116, h⟩ := bind_some h
                          refine Tri.reg (l := [0, 1, 2, 3]) rfl ?_
                          refine F.q rfl rfl rfl (wanted_none rfl) (r_move rfl) ?_
                          refine F.q rfl rfl rfl (wanted_none rfl) (r_move rfl) ?_
                          refine F.qc rfl rfl rfl (wanted_none rfl) (q_callF (xs := _) rfl ok30 rfl rfl (fun w hw => laws_heldIntA2S.ok h116 w ((rd_sl (i := 0) rfl) w hw))) ?_
                          refine F.q rfl rfl rfl (wanted_none rfl) (r_assign rfl) ?_
                          refine F.nil ?_
                          refine Nrm.seq ?_
                          refine Tri.seq ?_
                          refine Tri.seq ?_
                          refine Tri.reg (l := [0, 1]) rfl ?_
                          refine F.q rfl rfl rfl (wanted_none rfl) (r_move rfl) ?_
                          refine F.q rfl rfl rfl (wanted_none rfl) (r_lss rfl rfl) ?_
                          refine F.nil ?_
                          refine Nrm.seq ?_
                          refine Tri.cond (b := decide (t116 < 0)) rfl (fun g_10 => ?_) (fun g_10 => ?_)
                          · replace h := if_tt g_10 h
                            refine Tri.seq ?_
                            refine Tri.reg (l := [0]) rfl ?_
                            refine F.q rfl rfl rfl (wanted_none rfl) (r_assign rfl) ?_
                            refine F.nil ?_
                            refine Nrm.seq ?_
                            refine Tri.ret ?_
                            refine Rtn.then ?_
                            cases h
                            exact Rtn.body (.tmp rfl .nil) (fun w hw => ⟨rfl, hw.ext⟩)
                          · replace h := if_ff g_10 h
                            refine Tri.skip ?_
                            refine Nrm.seq ?_
                            refine Tri.seq ?_
                            refine Tri.seq ?_
                            refine Tri.reg (l := [0, 1, 2]) rfl ?_
                            refine F.q rfl rfl rfl (wanted_none rfl) (r_move rfl) ?_
                            refine F.q rfl rfl rfl (wanted_none rfl) (r_move rfl) ?_
                            refine F.q rfl rfl rfl (wanted_none rfl) (r_neq rfl rfl) ?_
                            refine F.nil ?_
                            refine Nrm.seq ?_
                            refine Tri.cond (b := t116 != t87_1) rfl (fun g_11 => ?_) (fun g_11 => ?_)
                            · replace h := if_tt g_11 h
                              refine Tri.seq ?_
                              refine Tri.reg (l := [0]) rfl ?_
                              refine F.q rfl rfl rfl (wanted_none rfl) (r_assign rfl) ?_
                              refine F.nil ?_
                              refine Nrm.seq ?_
                              refine Tri.ret ?_
                              refine Rtn.then ?_
                              cases h
                              exact Rtn.body (.tmp rfl .nil) (fun w hw => ⟨rfl, hw.ext⟩)
                            · replace h := if_ff g_11 h
                              refine Tri.skip ?_
                              refine Nrm.seq ?_
                              refine Tri.seq ?_
                              refine Tri.reg (l := [0]) rfl ?_
                              refine F.q rfl rfl rfl (wanted_none rfl) (r_assign rfl) ?_
                              refine F.nil ?_
                              refine Nrm.seq ?_
                              refine Tri.ret ?_
                              cases h
                              exact Rtn.body (.tmp rfl .nil) (fun w hw => ⟨rfl, hw.ext⟩)
                      · obtain ⟨t107, h107, hE_3⟩ := bind_some hE_3
                        rcases Bool.eq_false_or_eq_true (!t107) with g109 | g109
                        · replace hE_3 := if_tt g109 hE_3
                          refine Tri.reg (l := [0, 1, 2, 3, 4, 5, 6, 7, 8]) rfl ?_
                          refine F.q rfl rfl rfl (wanted_none rfl) (r_move rfl) ?_
                          refine F.q rfl rfl rfl (wanted_none rfl) (r_move rfl) ?_
                          refine F.qc rfl rfl rfl (wanted_none rfl) (q_callF (xs := _) rfl ok26 rfl rfl (fun w hw => laws_eqIntA2S.ok h107 w ((rd_sl (i := 0) rfl) w hw) ((rd_sl (i := 6) rfl) w hw))) ?_
                          refine F.q rfl rfl rfl (wanted_none rfl) (r_not rfl) ?_
                          refine F.q rfl rfl rfl (wanted_none rfl) (r_move rfl) ?_
                          refine F.sk rfl rfl rfl (wf rfl rfl rfl g109) ?_
                          refine F.sk rfl rfl rfl (wf rfl rfl rfl g109) ?_
                          refine F.sk rfl rfl rfl (wf rfl rfl rfl g109) ?_
                          refine F.q rfl rfl rfl (wanted_none rfl) (r_pick rfl rfl g109) ?_
                          refine F.nil ?_
                          cases hE_3
                          refine Nrm.only [12, 15, 113] rfl ?_
                          refine Nrm.pick [4] rfl rfl ?_
                          exact hj_3 _ _ ⟨rfl, rfl⟩
                        · replace hE_3 := if_ff g109 hE_3
                          refine Tri.reg (l := [0, 1, 2, 3, 4, 5, 6, 7, 8]) rfl ?_
                          refine F.q rfl rfl rfl (wanted_none rfl) (r_move rfl) ?_
                          refine F.q rfl rfl rfl (wanted_none rfl) (r_move rfl) ?_
                          refine F.qc rfl rfl rfl (wanted_none rfl) (q_callF (xs := _) rfl ok26 rfl rfl (fun w hw => laws_eqIntA2S.ok h107 w ((rd_sl (i := 0) rfl) w hw) ((rd_sl (i := 6) rfl) w hw))) ?_
                          refine F.q rfl rfl rfl (wanted_none rfl) (r_not rfl) ?_
                          refine F.q rfl rfl rfl (wanted_none rfl) (r_move rfl) ?_
                          refine F.q rfl rfl rfl (wg rfl rfl rfl g109) (r_move rfl) ?_
                          refine F.q rfl rfl rfl (wg rfl rfl rfl g109) (r_move rfl) ?_
                          refine F.q rfl rfl rfl (wg rfl rfl rfl g109) (r_neqB Try.underlying4 rfl rfl) ?_
                          refine F.q rfl rfl rfl (wanted_none rfl) (r_pickf rfl rfl g109) ?_
                          refine F.nil ?_
                          cases hE_3
                          refine Nrm.only [12, 15, 113] rfl ?_
                          refine Nrm.pick [4] rfl rfl ?_
                          exact hj_3 _ _ ⟨rfl, rfl⟩
              · rcases Bool.eq_false_or_eq_true (decide (t71_1 < 0)) with g74 | g74
                · replace hE_2 := if_tt g74 hE_2
                  refine Tri.reg (l := [0, 1, 2, 3, 4, 5, 6, 7, 8, 9, 10, 11, 12]) rfl ?_
                  refine F.q rfl rfl rfl (wanted_none rfl) (r_move rfl) ?_
                  refine F.q rfl rfl rfl (wanted_none rfl) (r_lss rfl rfl) ?_
                  refine F.q rfl rfl rfl (wanted_none rfl) (r_move rfl) ?_
                  refine F.sk rfl rfl rfl (wf rfl rfl rfl g74) ?_
                  refine F.sk rfl rfl rfl (wf rfl rfl rfl g74) ?_
                  refine F.sk rfl rfl rfl (wf rfl rfl rfl g74) ?_
                  refine F.sk rfl rfl rfl (wf rfl rfl rfl g74) ?_
                  refine F.q rfl rfl rfl (wanted_none rfl) (r_pick rfl rfl g74) ?_
                  refine F.q rfl rfl rfl (wanted_none rfl) (r_move rfl) ?_
                  refine F.sk rfl rfl rfl (wf rfl rfl rfl rfl) ?_
                  refine F.sk rfl rfl rfl (wf rfl rfl rfl rfl) ?_
                  refine F.sk rfl rfl rfl (wf rfl rfl rfl rfl) ?_
                  refine F.q rfl rfl rfl (wanted_none rfl) (r_pick rfl rfl rfl) ?_
                  refine F.nil ?_
                  cases hE_2
                  refine Nrm.only [1, 2, 3, 8, 9, 12, 84] rfl ?_
                  refine Nrm.pick [7, 8, 9] rfl rfl ?_
                  exact hj_2 _ _ ⟨rfl, rfl⟩
                · replace hE_2 := if_ff g74 hE_2
                  obtain ⟨t77, h77, hE_2⟩ := bind_some hE_2
                  rcases Bool.eq_false_or_eq_true (!t77) with g80 | g80
                  · replace hE_2 := if_tt g80 hE_2
                    refine Tri.reg (l := [0, 1, 2, 3, 4, 5, 6, 7, 8, 9, 10, 11, 12]) rfl ?_
                    refine F.q rfl rfl rfl (wanted_none rfl) (r_move rfl) ?_
                    refine F.q rfl rfl rfl (wanted_none rfl) (r_lss rfl rfl) ?_
                    refine F.q rfl rfl rfl (wanted_none rfl) (r_move rfl) ?_
                    refine F.q rfl rfl rfl (wg rfl rfl rfl g74) (r_move rfl) ?_
                    refine F.q rfl rfl rfl (wg rfl rfl rfl g74) (r_move rfl) ?_
                    refine F.qc rfl rfl rfl (wg rfl rfl rfl g74) (q_callF (xs := _) rfl ok26 rfl rfl (fun w hw => laws_eqIntA2S.ok h77 w ((rd_sl (i := 9) rfl) w hw) ((rd_sl (i := 8) rfl) w hw))) ?_
                    refine F.q rfl rfl rfl (wg rfl rfl rfl g74) (r_not rfl) ?_
                    refine F.q rfl rfl rfl (wanted_none rfl) (r_pickf rfl rfl g74) ?_
                    refine F.q rfl rfl rfl (wanted_none rfl) (r_move rfl) ?_
                    refine F.sk rfl rfl rfl (wf rfl rfl rfl g80) ?_
                    refine F.sk rfl rfl rfl (wf rfl rfl rfl g80) ?_
                    refine F.sk rfl rfl rfl (wf rfl rfl rfl g80) ?_
                    refine F.q rfl rfl rfl (wanted_none rfl) (r_pick rfl rfl g80) ?_
                    refine F.nil ?_
                    cases hE_2
                    refine Nrm.only [1, 2, 3, 8, 9, 12, 84] rfl ?_
                    refine Nrm.pick [7, 8, 9] rfl rfl ?_
                    exact hj_2 _ _ ⟨rfl, rfl⟩
                  · replace hE_2 := if_ff g80 hE_2
                    refine Tri.reg (l := [0, 1, 2, 3, 4, 5, 6, 7, 8, 9, 10, 11, 12]) rfl ?_
                    refine F.q rfl rfl rfl (wanted_none rfl) (r_move rfl) ?_
                    refine F.q rfl rfl rfl (wanted_none rfl) (r_lss rfl rfl) ?_
                    refine F.q rfl rfl rfl (wanted_none rfl) (r_move rfl) ?_
                    refine F.q rfl rfl rfl (wg rfl rfl rfl g74) (r_move rfl) ?_
                    refine F.q rfl rfl rfl (wg rfl rfl rfl g74) (r_move rfl) ?_
                    refine F.qc rfl rfl rfl (wg rfl rfl rfl g74) (q_callF (xs := _) rfl ok26 rfl rfl (fun w hw => laws_eqIntA2S.ok h77 w ((rd_sl (i := 9) rfl) w hw) ((rd_sl (i := 8) rfl) w hw))) ?_
                    refine F.q rfl rfl rfl (wg rfl rfl rfl g74) (r_not rfl) ?_
                    refine F.q rfl rfl rfl (wanted_none rfl) (r_pickf rfl rfl g74) ?_
                    refine F.q rfl rfl rfl (wanted_none rfl) (r_move rfl) ?_
                    refine F.q rfl rfl rfl (wg rfl rfl rfl g80) (r_move rfl) ?_
                    refine F.q rfl rfl rfl (wg rfl rfl rfl g80) (r_move rfl) ?_
                    refine F.q rfl rfl rfl (wg rfl rfl rfl g80) (r_neqB Try.underlying4 rfl rfl) ?_
                    refine F.q rfl rfl rfl (wanted_none rfl) (r_pickf rfl rfl g80) ?_
                    refine F.nil ?_
                    cases hE_2
                    refine Nrm.only [1, 2, 3, 8, 9, 12, 84] rfl ?_
                    refine Nrm.pick [7, 8, 9] rfl rfl ?_
                    exact hj_2 _ _ ⟨rfl, rfl⟩
      · obtain ⟨t49, h49, hE_1⟩ := bind_some hE_1
        rcases Bool.eq_false_or_eq_true (!t49) with g51 | g51
        · replace hE_1 := if_tt g51 hE_1
          refine Tri.reg (l := [0, 1, 2, 3, 4, 5, 6, 7, 8]) rfl ?_
          refine F.q rfl rfl rfl (wanted_none rfl) (r_move rfl) ?_
          refine F.q rfl rfl rfl (wanted_none rfl) (r_move rfl) ?_
          refine F.qc rfl rfl rfl (wanted_none rfl) (q_callF (xs := _) rfl ok26 rfl rfl (fun w hw => laws_eqIntA2S.ok h49 w ((rd_sl (i := 0) rfl) w hw) ((rd_sl (i := 5) rfl) w hw))) ?_
          refine F.q rfl rfl rfl (wanted_none rfl) (r_not rfl) ?_
          refine F.q rfl rfl rfl (wanted_none rfl) (r_move rfl) ?_
          refine F.sk rfl rfl rfl (wf rfl rfl rfl g51) ?_
          refine F.sk rfl rfl rfl (wf rfl rfl rfl g51) ?_
          refine F.sk rfl rfl rfl (wf rfl rfl rfl g51) ?_
          refine F.q rfl rfl rfl (wanted_none rfl) (r_pick rfl rfl g51) ?_
          refine F.nil ?_
          cases hE_1
          refine Nrm.only [1, 2, 3, 8, 9, 10, 11, 12, 13, 55] rfl ?_
          refine Nrm.pick [2, 9, 5, 3, 4, 1, 0] rfl rfl ?_
          exact hj_1 _ _ ⟨rfl, rfl⟩
        · replace hE_1 := if_ff g51 hE_1
          refine Tri.reg (l := [0, 1, 2, 3, 4, 5, 6, 7, 8]) rfl ?_
          refine F.q rfl rfl rfl (wanted_none rfl) (r_move rfl) ?_
          refine F.q rfl rfl rfl (wanted_none rfl) (r_move rfl) ?_
          refine F.qc rfl rfl rfl (wanted_none rfl) (q_callF (xs := _) rfl ok26 rfl rfl (fun w hw => laws_eqIntA2S.ok h49 w ((rd_sl (i := 0) rfl) w hw) ((rd_sl (i := 5) rfl) w hw))) ?_
          refine F.q rfl rfl rfl (wanted_none rfl) (r_not rfl) ?_
          refine F.q rfl rfl rfl (wanted_none rfl) (r_move rfl) ?_
          refine F.q rfl rfl rfl (wg rfl rfl rfl g51) (r_move rfl) ?_
          refine F.q rfl rfl rfl (wg rfl rfl rfl g51) (r_move rfl) ?_
          refine F.q rfl rfl rfl (wg rfl rfl rfl g51) (r_neqB Try.underlying4 rfl rfl) ?_
          refine F.q rfl rfl rfl (wanted_none rfl) (r_pickf rfl rfl g51) ?_
          refine F.nil ?_
          cases hE_1
          refine Nrm.only [1, 2, 3, 8, 9, 10, 11, 12, 13, 55] rfl ?_
          refine Nrm.pick [2, 9, 5, 3, 4, 1, 0] rfl rfl ?_
          exact hj_1 _ _ ⟨rfl, rfl⟩

end Go.Proofs
