/- A part of the proof of FnExactNodesAhead: what the functions of the program compute, walked on the model. No condition. -/
import Derived.Test.YtefpihelkbmpjaaFnExactNodesAheadD
/- loop.example/g01158/impl.NodesAhead -/
namespace Go.Proofs
open Go Go.Ga
set_option linter.unusedVariables false
set_option maxRecDepth 100000
set_option maxHeartbeats 4000000
def impl_NodesAhead.f (k : Nat) (a0_0 : Int) (a0_1 : List (Int × Int × Int)) (a0_2 : List Int) (a0_3 : List Int) (a0_4 : Int) : Option ((List Int) × Bool) := (impl_IsVisit.f k a0_0 a0_1 a0_2 a0_3 a0_4).bind fun t5 => (if (!t5) = true then some ([], false) else (rdl a0_3 (w64 ((a0_3.length : Int) - 1))).bind fun t15 => (impl_hasNow.f k a0_0 a0_1 a0_2 a0_3 a0_4).bind fun t18 => (impl_reach.f k a0_0 a0_1 a0_2 t15 t18).bind fun t19 => (impl_members.f k t19).bind fun t20 => some (t20, true))

theorem impl_NodesAhead.ok {k : Nat}  {a0_0 : Int} {a0_1 : List (Int × Int × Int)} {a0_2 : List Int} {a0_3 : List Int} {a0_4 : Int} {r0 : List Int} {r1 : Bool} (h : impl_NodesAhead.f k a0_0 a0_1 a0_2 a0_3 a0_4 = some (r0, r1)) (w : World) {va0_1 : Value} {va0_2 : Value} {va0_3 : Value} (hr_a0_1 : Rd w va0_1 a0_1) (hr_a0_2 : Rd w va0_2 a0_2) (hr_a0_3 : Rd w va0_3 a0_3) :
    Calls Try.prog 37 ([.agg ([.int .i64 a0_0, va0_1, va0_2, va0_3, .int .i64 a0_4].toArray)] : List Value).toArray w (Post (fun u ns => ∃ (ur0 : Value) (Sr0 : Nat → Prop), u = .tuple #[ur0, .bool r1] ∧ SlLen ur0 r0.length ∧ ns = [R.sl Sr0 ur0 r0]) w) := by
  unfold impl_NodesAhead.f at h
  have hl_va0_1 := hr_a0_1.len
  have hl_va0_2 := hr_a0_2.len
  have hl_va0_3 := hr_a0_3.len
  refine Calls.of_tri (N := 21) Try.func37 rfl rfl rfl (Sep.nil (M := noM)) ?_
  refine Tri.seq ?_
  refine Tri.reg (l := [0, 1, 2]) rfl ?_
  refine F.m rfl rfl rfl (wanted_none rfl) (m_boxG rfl rfl) ?_
  rintro _ _ ⟨b1_1, rfl, rfl⟩
  refine F.q rfl rfl rfl (wanted_none rfl) (r_assign rfl) ?_
  refine F.q rfl rfl rfl (wanted_none rfl) (r_assign rfl) ?_
  refine F.nil ?_
  refine Nrm.seq ?_
  refine Tri.seq ?_
  refine Tri.seq ?_
  obtain ⟨t5, h5, h⟩ := bind_some h
  refine Tri.reg (l := [0, 1, 2]) rfl ?_
  refine F.q rfl rfl rfl (wanted_none rfl) (r_loadA ta51 ti51 rfl rfl (fun w hw => (box_cells (i := 0) rfl w hw))) ?_
  refine F.qc rfl rfl rfl (wanted_none rfl) (q_callF (xs := _) rfl ok88 rfl rfl (fun w hw => impl_IsVisit.ok h5 w ((fun _ hw => hr_a0_1.sep hw) w hw) ((fun _ hw => hr_a0_2.sep hw) w hw) ((fun _ hw => hr_a0_3.sep hw) w hw))) ?_
  refine F.q rfl rfl rfl (wanted_none rfl) (r_not rfl) ?_
  refine F.nil ?_
  refine Nrm.seq ?_
  refine Tri.cond (b := !t5) rfl (fun g_1 => ?_) (fun g_1 => ?_)
  · replace h := if_tt g_1 h
    refine Tri.seq ?_
    refine Tri.reg (l := [0, 1]) rfl ?_
    refine F.q rfl rfl rfl (wanted_none rfl) (r_assign rfl) ?_
    refine F.q rfl rfl rfl (wanted_none rfl) (r_assign rfl) ?_
    refine F.nil ?_
    refine Nrm.seq ?_
    refine Tri.ret ?_
    refine Rtn.then ?_
    cases h
    exact Rtn.body (.tmp rfl (.tmp rfl .nil)) (fun w hw => ⟨_, _, rfl, ⟨.slice none 0 0, fun _ => False, rfl, len_nil, rfl⟩, Sep.pick (is := [0]) rfl rfl hw.pushNil⟩)
  · replace h := if_ff g_1 h
    refine Tri.skip ?_
    refine Nrm.seq ?_
    refine Tri.seq ?_
    obtain ⟨t15, h15, h⟩ := bind_some h
    obtain ⟨t18, h18, h⟩ := bind_some h
    obtain ⟨t19, h19, h⟩ := bind_some h
    obtain ⟨t20, h20, h⟩ := bind_some h
    refine Tri.drawA mixedT Sep.up [(0, true), (1, true), (2, true), (3, true), (4, true), (5, true), (6, true), (7, true), (8, true), (9, true), (10, true), (11, true), (12, true), (13, false), (14, true), (15, true)] [] (by kernel_rfl) ?_
    refine S.q rfl rfl rfl (wanted_none rfl) (r_fieldAddr tf51_0 rfl) ?_
    refine S.q rfl rfl rfl (wanted_none rfl) (r_loadA ta31 ti31 rfl rfl (fun w hw => cells_1 (cs' := [.int .i64 a0_0, va0_1, va0_2]) (box_cells (i := 0) rfl w hw) rfl)) ?_
    refine S.q rfl rfl rfl (wanted_none rfl) (r_fieldAddr tf51_1 rfl) ?_
    refine S.q rfl rfl rfl (wanted_none rfl) (r_load ta23 rfl (fun w hw => cell_1 (box_cells (i := 0) rfl w hw) rfl)) ?_
    refine S.q rfl rfl rfl (wanted_none rfl) (r_fieldAddr tf51_1 rfl) ?_
    refine S.q rfl rfl rfl (wanted_none rfl) (r_load ta23 rfl (fun w hw => cell_1 (box_cells (i := 0) rfl w hw) rfl)) ?_
    refine S.q rfl rfl rfl (wanted_none rfl) (r_len Try.underlying23 rfl hl_va0_3) ?_
    refine S.q rfl rfl rfl (wanted_none rfl) (r_sub rfl rfl) ?_
    refine S.q rfl rfl rfl (wanted_none rfl) (r_indexAddrS Try.underlying23 ti3 rfl hl_va0_3 rfl (rdl_some h15).1 (rdl_some h15).2.1) ?_
    refine S.q rfl rfl rfl (wanted_none rfl) (r_load ta3 rfl (fun w hw => cell_0 (Rd.flat ((fun _ hw => hr_a0_3.sep hw) w hw) (rdl_some h15).2.2) rfl)) ?_
    refine S.q rfl rfl rfl (wanted_none rfl) (r_loadA ta51 ti51 rfl rfl (fun w hw => (box_cells (i := 0) rfl w hw))) ?_
    refine S.qc rfl rfl rfl (wanted_none rfl) (q_callF (xs := _) rfl ok90 rfl rfl (fun w hw => impl_hasNow.ok h18 w ((fun _ hw => hr_a0_1.sep hw) w hw) ((fun _ hw => hr_a0_2.sep hw) w hw) ((fun _ hw => hr_a0_3.sep hw) w hw))) ?_
    refine S.qc rfl rfl rfl (wanted_none rfl) (q_callF (xs := _) rfl ok89 rfl rfl (fun w hw => impl_reach.ok h19 w ((fun _ hw => hr_a0_1.sep hw) w hw) ((fun _ hw => hr_a0_2.sep hw) w hw))) ?_
    refine S.m rfl rfl rfl (wanted_none rfl) (m_callF (xs := _) rfl ok70 rfl rfl (fun w hw => impl_members.ok h20 w )) ?_
    rintro v20_2 _ ⟨_, ⟨S20_2, hl_v20_2, rfl⟩, rfl⟩
    refine S.q rfl rfl rfl (wanted_none rfl) (r_assign rfl) ?_
    refine S.q rfl rfl rfl (wanted_none rfl) (r_assign rfl) ?_
    refine S.nil ?_
    refine F.nil ?_
    refine Nrm.seq ?_
    refine Tri.ret ?_
    cases h
    exact Rtn.body (.tmp rfl (.tmp rfl .nil)) (fun w hw => ⟨_, _, rfl, ⟨v20_2, S20_2, rfl, hl_v20_2, rfl⟩, Sep.pick (is := [0]) rfl rfl hw⟩)

end Go.Proofs

/- loop.example/g01158/laws.eqIntA3 -/

namespace Go.Proofs
open Go Go.Ga
set_option linter.unusedVariables false
set_option maxRecDepth 100000
set_option maxHeartbeats 4000000
def laws_eqIntA3.l0 (k : Nat) (a0_0 : Int) (a0_1 : Int) (a0_2 : Int) (a1_0 : Int) (a1_1 : Int) (a1_2 : Int) : Nat → Int → Option ((Unit) ⊕ (Bool))
  | 0, _ => none
  | n + 1, x5 => (if (decide (x5 < 3)) = true then (rdl [a0_0, a0_1, a0_2] x5).bind fun t11 => (rdl [a1_0, a1_1, a1_2] x5).bind fun t14 => (if (t11 != t14) = true then some (Sum.inr false) else laws_eqIntA3.l0 k a0_0 a0_1 a0_2 a1_0 a1_1 a1_2 n (w64 (x5 + 1))) else some (Sum.inl ()))

def laws_eqIntA3.f (k : Nat) (a0_0 : Int) (a0_1 : Int) (a0_2 : Int) (a1_0 : Int) (a1_1 : Int) (a1_2 : Int) : Option (Bool) := (laws_eqIntA3.l0 k a0_0 a0_1 a0_2 a1_0 a1_1 a1_2 k 0).bind fun s => Lr s some fun _ => some true

theorem laws_eqIntA3.ok {k : Nat}  {a0_0 : Int} {a0_1 : Int} {a0_2 : Int} {a1_0 : Int} {a1_1 : Int} {a1_2 : Int} {r0 : Bool} (h : laws_eqIntA3.f k a0_0 a0_1 a0_2 a1_0 a1_1 a1_2 = some r0) (w : World) :
    Calls Try.prog 130 ([.agg ([.int .i64 a0_0, .int .i64 a0_1, .int .i64 a0_2].toArray), .agg ([.int .i64 a1_0, .int .i64 a1_1, .int .i64 a1_2].toArray)] : List Value).toArray w (fun e w' => e = .returned (.bool r0) ∧ Ext w w') := by
  unfold laws_eqIntA3.f at h
  refine Calls.of_tri (N := 17) Try.func130 rfl rfl rfl (Sep.nil (M := noM)) ?_
  refine Tri.seq ?_
  refine Tri.reg (l := [0, 1, 2]) rfl ?_
  refine F.m rfl rfl rfl (wanted_none rfl) (m_boxG rfl rfl) ?_
  rintro _ _ ⟨b2_1, rfl, rfl⟩
  refine F.m rfl rfl rfl (wanted_none rfl) (m_boxG rfl rfl) ?_
  rintro _ _ ⟨b3_1, rfl, rfl⟩
  refine F.q rfl rfl rfl (wanted_none rfl) (r_assign rfl) ?_
  refine F.nil ?_
  refine Nrm.seq ?_
  refine Tri.seq ?_
  refine Tri.seq ?_
  refine Tri.reg (l := [0]) rfl ?_
  refine F.q rfl rfl rfl (wanted_none rfl) (r_assign rfl) ?_
  refine F.nil ?_
  refine Nrm.seq ?_
  obtain ⟨s0, hE_1, h⟩ := bind_some h
  refine Tri.block ?_
  refine Tri.only [2, 3, 5] rfl ?_
  refine Tri.pick [0, 1] rfl rfl ?_
  refine Tri.rounds (fun n e' C' => ∃ (x5' : Int), laws_eqIntA3.l0 k a0_0 a0_1 a0_2 a1_0 a1_1 a1_2 n x5' = some s0 ∧ e' = [(2, .pointer (some ⟨b2_1, 0, none⟩)), (3, .pointer (some ⟨b3_1, 0, none⟩)), (5, .int .i64 x5')] ∧ C' = Sep w noM [R.box b3_1 130 [.int .i64 a1_0, .int .i64 a1_1, .int .i64 a1_2], R.box b2_1 130 [.int .i64 a0_0, .int .i64 a0_1, .int .i64 a0_2]]) k ?_ ?_ ?_
  · exact ⟨0, hE_1, rfl, rfl⟩
  · rintro _ _ ⟨_, hE_1, _⟩
    rw [laws_eqIntA3.l0.eq_1] at hE_1; cases hE_1
  · rintro n_1 _ _ ⟨x5, hE_1, rfl, rfl⟩ ih_1
    rw [laws_eqIntA3.l0.eq_2] at hE_1
    refine Tri.seq ?_
    refine Tri.seq ?_
    refine Tri.reg (l := [0, 1]) rfl ?_
    refine F.q rfl rfl rfl (wanted_none rfl) (r_move rfl) ?_
    refine F.q rfl rfl rfl (wanted_none rfl) (r_lss rfl rfl) ?_
    refine F.nil ?_
    refine Nrm.seq ?_
    refine Tri.cond (b := decide (x5 < 3)) rfl (fun g_1 => ?_) (fun g_1 => ?_)
    · replace hE_1 := if_tt g_1 hE_1
      refine Tri.skip ?_
      refine Nrm.seq ?_
      refine Tri.seq ?_
      refine Tri.block ?_
      refine Tri.seq ?_
      obtain ⟨t11, h11, hE_1⟩ := bind_some hE_1
      obtain ⟨t14, h14, hE_1⟩ := bind_some hE_1
      refine Tri.drawA mixedT Sep.up [(0, true), (1, true), (2, true), (3, true), (4, true), (5, true), (6, true)] [] (by kernel_rfl) ?_
      refine S.q rfl rfl rfl (wanted_none rfl) (r_move rfl) ?_
      refine S.q rfl rfl rfl (wanted_none rfl) (r_indexAddrA Try.underlying130 ti3 rfl rfl (rdl_some h11).1 (rdl_some h11).2.1) ?_
      refine S.q rfl rfl rfl (wanted_none rfl) (r_load ta3 rfl (fun w hw => cell_dynB (box_cells (i := 1) rfl w hw) rfl h11)) ?_
      refine S.q rfl rfl rfl (wanted_none rfl) (r_move rfl) ?_
      refine S.q rfl rfl rfl (wanted_none rfl) (r_indexAddrA Try.underlying130 ti3 rfl rfl (rdl_some h14).1 (rdl_some h14).2.1) ?_
      refine S.q rfl rfl rfl (wanted_none rfl) (r_load ta3 rfl (fun w hw => cell_dynB (box_cells (i := 0) rfl w hw) rfl h14)) ?_
      refine S.q rfl rfl rfl (wanted_none rfl) (r_neq rfl rfl) ?_
      refine S.nil ?_
      refine F.nil ?_
      refine Nrm.seq ?_
      refine Tri.cond (b := t11 != t14) rfl (fun g_2 => ?_) (fun g_2 => ?_)
      · replace hE_1 := if_tt g_2 hE_1
        refine Tri.seq ?_
        refine Tri.reg (l := [0]) rfl ?_
        refine F.q rfl rfl rfl (wanted_none rfl) (r_assign rfl) ?_
        refine F.nil ?_
        refine Nrm.seq ?_
        refine Tri.ret ?_
        refine Rtn.block ?_
        refine Rtn.then ?_
        refine Rtn.then ?_
        refine Rtn.block ?_
        refine Rtn.then ?_
        cases hE_1
        replace h := Lr_inr h
        cases h
        exact Rtn.body (.tmp rfl .nil) (fun w hw => ⟨rfl, hw.ext⟩)
      · replace hE_1 := if_ff g_2 hE_1
        refine Tri.skip ?_
        refine Nrm.block ?_
        refine Nrm.seq ?_
        refine Tri.reg (l := [0, 1, 2]) rfl ?_
        refine F.q rfl rfl rfl (wanted_none rfl) (r_move rfl) ?_
        refine F.q rfl rfl rfl (wanted_none rfl) (r_add rfl rfl) ?_
        refine F.q rfl rfl rfl (wanted_none rfl) (r_assign rfl) ?_
        refine F.nil ?_
        refine Nrm.round ?_
        refine Rnd.only [2, 3, 5] rfl ?_
        refine Rnd.pick [0, 1] rfl rfl ?_
        exact ih_1 _ _ ⟨w64 (x5 + 1), hE_1, rfl, rfl⟩
    · replace hE_1 := if_ff g_1 hE_1
      refine Tri.exit ?_
      refine Exi.then ?_
      refine Exi.then ?_
      refine Exi.same ?_
      cases hE_1
      replace h := Lr_inl h
      refine Nrm.seq ?_
      refine Tri.seq ?_
      refine Tri.reg (l := [0]) rfl ?_
      refine F.q rfl rfl rfl (wanted_none rfl) (r_assign rfl) ?_
      refine F.nil ?_
      refine Nrm.seq ?_
      refine Tri.ret ?_
      cases h
      exact Rtn.body (.tmp rfl .nil) (fun w hw => ⟨rfl, hw.ext⟩)

end Go.Proofs

/- loop.example/g01158/laws.eqIntA3S -/
namespace Go.Proofs
open Go Go.Ga
set_option linter.unusedVariables false
set_option maxRecDepth 100000
set_option maxHeartbeats 4000000
def laws_eqIntA3S.l0 (k : Nat) (a0 : List (Int × Int × Int)) (a1 : List (Int × Int × Int)) : Nat → Int → Option ((Unit) ⊕ (Bool))
  | 0, _ => none
  | n + 1, x5 => (if (decide (x5 < (a0.length : Int))) = true then (rdl a0 x5).bind fun t19 => (rdl a1 x5).bind fun t23 => (laws_eqIntA3.f k t19.1 t19.2.1 t19.2.2 t23.1 t23.2.1 t23.2.2).bind fun t25 => (if (!t25) = true then some (Sum.inr false) else laws_eqIntA3S.l0 k a0 a1 n (w64 (x5 + 1))) else some (Sum.inl ()))

def laws_eqIntA3S.f (k : Nat) (a0 : List (Int × Int × Int)) (a1 : List (Int × Int × Int)) : Option (Bool) := (if ((a0.length : Int) != (a1.length : Int)) = true then some false else (laws_eqIntA3S.l0 k a0 a1 k 0).bind fun s => Lr s some fun _ => some true)

theorem laws_eqIntA3S.ok {k : Nat}  {a0 : List (Int × Int × Int)} {a1 : List (Int × Int × Int)} {r0 : Bool} (h : laws_eqIntA3S.f k a0 a1 = some r0) (w : World) {va0 : Value} {va1 : Value} (hr_a0 : Rd w va0 a0) (hr_a1 : Rd w va1 a1) :
    Calls Try.prog 80 ([va0, va1] : List Value).toArray w (fun e w' => e = .returned (.bool r0) ∧ Ext w w') := by
  unfold laws_eqIntA3S.f at h
  have hl_va0 := hr_a0.len
  have hl_va1 := hr_a1.len
  refine Calls.of_tri (N := 27) Try.func80 rfl rfl rfl (Sep.nil (M := noM)) ?_
  refine Tri.seq ?_
  refine Tri.reg (l := [0]) rfl ?_
  refine F.q rfl rfl rfl (wanted_none rfl) (r_assign rfl) ?_
  refine F.nil ?_
  refine Nrm.seq ?_
  refine Tri.seq ?_
  refine Tri.seq ?_
  refine Tri.reg (l := [0, 1, 2, 3, 4]) rfl ?_
  refine F.q rfl rfl rfl (wanted_none rfl) (r_move rfl) ?_
  refine F.q rfl rfl rfl (wanted_none rfl) (r_len Try.underlying22 rfl hl_va0) ?_
  refine F.q rfl rfl rfl (wanted_none rfl) (r_move rfl) ?_
  refine F.q rfl rfl rfl (wanted_none rfl) (r_len Try.underlying22 rfl hl_va1) ?_
  refine F.q rfl rfl rfl (wanted_none rfl) (r_neq rfl rfl) ?_
  refine F.nil ?_
  refine Nrm.seq ?_
  refine Tri.cond (b := (a0.length : Int) != (a1.length : Int)) rfl (fun g_1 => ?_) (fun g_1 => ?_)
  · replace h := if_tt g_1 h
    refine Tri.seq ?_
    refine Tri.reg (l := [0]) rfl ?_
    refine F.q rfl rfl rfl (wanted_none rfl) (r_assign rfl) ?_
    refine F.nil ?_
    refine Nrm.seq ?_
    refine Tri.ret ?_
    refine Rtn.then ?_
    cases h
    exact Rtn.body (.tmp rfl .nil) (fun w hw => ⟨rfl, hw.ext⟩)
  · replace h := if_ff g_1 h
    refine Tri.skip ?_
    refine Nrm.seq ?_
    refine Tri.seq ?_
    refine Tri.seq ?_
    refine Tri.reg (l := [0]) rfl ?_
    refine F.q rfl rfl rfl (wanted_none rfl) (r_assign rfl) ?_
    refine F.nil ?_
    refine Nrm.seq ?_
    obtain ⟨s0, hE_1, h⟩ := bind_some h
    refine Tri.block ?_
    refine Tri.only [0, 1, 5] rfl ?_
    refine Tri.pick [] rfl rfl ?_
    refine Tri.rounds (fun n e' C' => ∃ (x5' : Int), laws_eqIntA3S.l0 k a0 a1 n x5' = some s0 ∧ e' = [(0, va0), (1, va1), (5, .int .i64 x5')] ∧ C' = Sep w noM []) k ?_ ?_ ?_
    · exact ⟨0, hE_1, rfl, rfl⟩
    · rintro _ _ ⟨_, hE_1, _⟩
      rw [laws_eqIntA3S.l0.eq_1] at hE_1; cases hE_1
    · rintro n_1 _ _ ⟨x5, hE_1, rfl, rfl⟩ ih_1
      rw [laws_eqIntA3S.l0.eq_2] at hE_1
      refine Tri.seq ?_
      refine Tri.seq ?_
      refine Tri.reg (l := [0, 1, 2, 3]) rfl ?_
      refine F.q rfl rfl rfl (wanted_none rfl) (r_move rfl) ?_
      refine F.q rfl rfl rfl (wanted_none rfl) (r_move rfl) ?_
      refine F.q rfl rfl rfl (wanted_none rfl) (r_len Try.underlying22 rfl hl_va0) ?_
      refine F.q rfl rfl rfl (wanted_none rfl) (r_lss rfl rfl) ?_
      refine F.nil ?_
      refine Nrm.seq ?_
      refine Tri.cond (b := decide (x5 < (a0.length : Int))) rfl (fun g_2 => ?_) (fun g_2 => ?_)
      · replace hE_1 := if_tt g_2 hE_1
        refine Tri.skip ?_
        refine Nrm.seq ?_
        refine Tri.seq ?_
        refine Tri.block ?_
        refine Tri.seq ?_
        obtain ⟨t19, h19, hE_1⟩ := bind_some hE_1
        obtain ⟨t23, h23, hE_1⟩ := bind_some hE_1
        obtain ⟨t25, h25, hE_1⟩ := bind_some hE_1
        refine Tri.drawA mixedT Sep.up [(0, true), (1, true), (2, true), (3, true), (4, true), (5, true), (6, true), (7, true), (8, true), (9, true)] [] (by kernel_rfl) ?_
        refine S.q rfl rfl rfl (wanted_none rfl) (r_move rfl) ?_
        refine S.q rfl rfl rfl (wanted_none rfl) (r_move rfl) ?_
        refine S.q rfl rfl rfl (wanted_none rfl) (r_indexAddrS Try.underlying22 ti130 rfl hl_va0 rfl (rdl_some h19).1 (rdl_some h19).2.1) ?_
        refine S.q rfl rfl rfl (wanted_none rfl) (r_loadA ta130 ti130 rfl rfl (fun w hw => (Rd.flat ((fun _ hw => hr_a0.sep hw) w hw) (rdl_some h19).2.2))) ?_
        refine S.q rfl rfl rfl (wanted_none rfl) (r_move rfl) ?_
        refine S.q rfl rfl rfl (wanted_none rfl) (r_move rfl) ?_
        refine S.q rfl rfl rfl (wanted_none rfl) (r_indexAddrS Try.underlying22 ti130 rfl hl_va1 rfl (rdl_some h23).1 (rdl_some h23).2.1) ?_
        refine S.q rfl rfl rfl (wanted_none rfl) (r_loadA ta130 ti130 rfl rfl (fun w hw => (Rd.flat ((fun _ hw => hr_a1.sep hw) w hw) (rdl_some h23).2.2))) ?_
        refine S.qc rfl rfl rfl (wanted_none rfl) (q_callF (xs := _) rfl ok130 rfl rfl (fun w hw => laws_eqIntA3.ok h25 w )) ?_
        refine S.q rfl rfl rfl (wanted_none rfl) (r_not rfl) ?_
        refine S.nil ?_
        refine F.nil ?_
        refine Nrm.seq ?_
        refine Tri.cond (b := !t25) rfl (fun g_3 => ?_) (fun g_3 => ?_)
        · replace hE_1 := if_tt g_3 hE_1
          refine Tri.seq ?_
          refine Tri.reg (l := [0]) rfl ?_
          refine F.q rfl rfl rfl (wanted_none rfl) (r_assign rfl) ?_
          refine F.nil ?_
          refine Nrm.seq ?_
          refine Tri.ret ?_
          refine Rtn.block ?_
          refine Rtn.then ?_
          refine Rtn.then ?_
          refine Rtn.block ?_
          refine Rtn.then ?_
          cases hE_1
          replace h := Lr_inr h
          cases h
          exact Rtn.body (.tmp rfl .nil) (fun w hw => ⟨rfl, hw.ext⟩)
        · replace hE_1 := if_ff g_3 hE_1
          refine Tri.skip ?_
          refine Nrm.block ?_
          refine Nrm.seq ?_
          refine Tri.reg (l := [0, 1, 2]) rfl ?_
          refine F.q rfl rfl rfl (wanted_none rfl) (r_move rfl) ?_
          refine F.q rfl rfl rfl (wanted_none rfl) (r_add rfl rfl) ?_
          refine F.q rfl rfl rfl (wanted_none rfl) (r_assign rfl) ?_
          refine F.nil ?_
          refine Nrm.round ?_
          refine Rnd.only [0, 1, 5] rfl ?_
          refine Rnd.pick [] rfl rfl ?_
          exact ih_1 _ _ ⟨w64 (x5 + 1), hE_1, rfl, rfl⟩
      · replace hE_1 := if_ff g_2 hE_1
        refine Tri.exit ?_
        refine Exi.then ?_
        refine Exi.then ?_
        refine Exi.same ?_
        cases hE_1
        replace h := Lr_inl h
        refine Nrm.seq ?_
        refine Tri.seq ?_
        refine Tri.reg (l := [0]) rfl ?_
        refine F.q rfl rfl rfl (wanted_none rfl) (r_assign rfl) ?_
        refine F.nil ?_
        refine Nrm.seq ?_
        refine Tri.ret ?_
        cases h
        exact Rtn.body (.tmp rfl .nil) (fun w hw => ⟨rfl, hw.ext⟩)

end Go.Proofs

/- loop.example/g01158/laws.eqMaze -/
namespace Go.Proofs
open Go Go.Ga
set_option linter.unusedVariables false
set_option maxRecDepth 100000
set_option maxHeartbeats 4000000
def laws_eqMaze.f (k : Nat) (a0_0 : Int) (a0_1 : List (Int × Int × Int)) (a0_2 : List Int) (a1_0 : Int) (a1_1 : List (Int × Int × Int)) (a1_2 : List Int) : Option (Bool) := (if (a0_0 != a1_0) = true then some false else (laws_eqIntA3S.f k a0_1 a1_1).bind fun t14 => (if (!t14) = true then some false else (laws_eqIntS.f k a0_2 a1_2).bind fun t20 => (if (!t20) = true then some false else some true)))

theorem laws_eqMaze.ok {k : Nat}  {a0_0 : Int} {a0_1 : List (Int × Int × Int)} {a0_2 : List Int} {a1_0 : Int} {a1_1 : List (Int × Int × Int)} {a1_2 : List Int} {r0 : Bool} (h : laws_eqMaze.f k a0_0 a0_1 a0_2 a1_0 a1_1 a1_2 = some r0) (w : World) {va0_1 : Value} {va0_2 : Value} {va1_1 : Value} {va1_2 : Value} (hr_a0_1 : Rd w va0_1 a0_1) (hr_a0_2 : Rd w va0_2 a0_2) (hr_a1_1 : Rd w va1_1 a1_1) (hr_a1_2 : Rd w va1_2 a1_2) :
    Calls Try.prog 28 ([.agg ([.int .i64 a0_0, va0_1, va0_2].toArray), .agg ([.int .i64 a1_0, va1_1, va1_2].toArray)] : List Value).toArray w (fun e w' => e = .returned (.bool r0) ∧ Ext w w') := by
  unfold laws_eqMaze.f at h
  have hl_va0_1 := hr_a0_1.len
  have hl_va0_2 := hr_a0_2.len
  have hl_va1_1 := hr_a1_1.len
  have hl_va1_2 := hr_a1_2.len
  refine Calls.of_tri (N := 22) Try.func28 rfl rfl rfl (Sep.nil (M := noM)) ?_
  refine Tri.seq ?_
  refine Tri.reg (l := [0, 1, 2]) rfl ?_
  refine F.m rfl rfl rfl (wanted_none rfl) (m_boxG rfl rfl) ?_
  rintro _ _ ⟨b2_1, rfl, rfl⟩
  refine F.m rfl rfl rfl (wanted_none rfl) (m_boxG rfl rfl) ?_
  rintro _ _ ⟨b3_1, rfl, rfl⟩
  refine F.q rfl rfl rfl (wanted_none rfl) (r_assign rfl) ?_
  refine F.nil ?_
  refine Nrm.seq ?_
  refine Tri.seq ?_
  refine Tri.seq ?_
  refine Tri.reg (l := [0, 1, 2, 3, 4]) rfl ?_
  refine F.q rfl rfl rfl (wanted_none rfl) (r_fieldAddr tf31_0 rfl) ?_
  refine F.q rfl rfl rfl (wanted_none rfl) (r_load ta3 rfl (fun w hw => cell_1 (box_cells (i := 1) rfl w hw) rfl)) ?_
  refine F.q rfl rfl rfl (wanted_none rfl) (r_fieldAddr tf31_0 rfl) ?_
  refine F.q rfl rfl rfl (wanted_none rfl) (r_load ta3 rfl (fun w hw => cell_1 (box_cells (i := 0) rfl w hw) rfl)) ?_
  refine F.q rfl rfl rfl (wanted_none rfl) (r_neq rfl rfl) ?_
  refine F.nil ?_
  refine Nrm.seq ?_
  refine Tri.cond (b := a0_0 != a1_0) rfl (fun g_1 => ?_) (fun g_1 => ?_)
  · replace h := if_tt g_1 h
    refine Tri.seq ?_
    refine Tri.reg (l := [0]) rfl ?_
    refine F.q rfl rfl rfl (wanted_none rfl) (r_assign rfl) ?_
    refine F.nil ?_
    refine Nrm.seq ?_
    refine Tri.ret ?_
    refine Rtn.then ?_
    cases h
    exact Rtn.body (.tmp rfl .nil) (fun w hw => ⟨rfl, hw.ext⟩)
  · replace h := if_ff g_1 h
    refine Tri.skip ?_
    refine Nrm.seq ?_
    refine Tri.seq ?_
    refine Tri.seq ?_
    obtain ⟨t14, h14, h⟩ := bind_some h
    refine Tri.reg (l := [0, 1, 2, 3, 4, 5]) rfl ?_
    refine F.q rfl rfl rfl (wanted_none rfl) (r_fieldAddr tf31_1 rfl) ?_
    refine F.q rfl rfl rfl (wanted_none rfl) (r_load ta22 rfl (fun w hw => cell_1 (box_cells (i := 1) rfl w hw) rfl)) ?_
    refine F.q rfl rfl rfl (wanted_none rfl) (r_fieldAddr tf31_1 rfl) ?_
    refine F.q rfl rfl rfl (wanted_none rfl) (r_load ta22 rfl (fun w hw => cell_1 (box_cells (i := 0) rfl w hw) rfl)) ?_
    refine F.qc rfl rfl rfl (wanted_none rfl) (q_callF (xs := _) rfl ok80 rfl rfl (fun w hw => laws_eqIntA3S.ok h14 w ((fun _ hw => hr_a0_1.sep hw) w hw) ((fun _ hw => hr_a1_1.sep hw) w hw))) ?_
    refine F.q rfl rfl rfl (wanted_none rfl) (r_not rfl) ?_
    refine F.nil ?_
    refine Nrm.seq ?_
    refine Tri.cond (b := !t14) rfl (fun g_2 => ?_) (fun g_2 => ?_)
    · replace h := if_tt g_2 h
      refine Tri.seq ?_
      refine Tri.reg (l := [0]) rfl ?_
      refine F.q rfl rfl rfl (wanted_none rfl) (r_assign rfl) ?_
      refine F.nil ?_
      refine Nrm.seq ?_
      refine Tri.ret ?_
      refine Rtn.then ?_
      cases h
      exact Rtn.body (.tmp rfl .nil) (fun w hw => ⟨rfl, hw.ext⟩)
    · replace h := if_ff g_2 h
      refine Tri.skip ?_
      refine Nrm.seq ?_
      refine Tri.seq ?_
      refine Tri.seq ?_
      obtain ⟨t20, h20, h⟩ := bind_some h
      refine Tri.reg (l := [0, 1, 2, 3, 4, 5]) rfl ?_
      refine F.q rfl rfl rfl (wanted_none rfl) (r_fieldAddr tf31_2 rfl) ?_
      refine F.q rfl rfl rfl (wanted_none rfl) (r_load ta23 rfl (fun w hw => cell_1 (box_cells (i := 1) rfl w hw) rfl)) ?_
      refine F.q rfl rfl rfl (wanted_none rfl) (r_fieldAddr tf31_2 rfl) ?_
      refine F.q rfl rfl rfl (wanted_none rfl) (r_load ta23 rfl (fun w hw => cell_1 (box_cells (i := 0) rfl w hw) rfl)) ?_
      refine F.qc rfl rfl rfl (wanted_none rfl) (q_callF (xs := _) rfl ok19 rfl rfl (fun w hw => laws_eqIntS.ok h20 w ((fun _ hw => hr_a0_2.sep hw) w hw) ((fun _ hw => hr_a1_2.sep hw) w hw))) ?_
      refine F.q rfl rfl rfl (wanted_none rfl) (r_not rfl) ?_
      refine F.nil ?_
      refine Nrm.seq ?_
      refine Tri.cond (b := !t20) rfl (fun g_3 => ?_) (fun g_3 => ?_)
      · replace h := if_tt g_3 h
        refine Tri.seq ?_
        refine Tri.reg (l := [0]) rfl ?_
        refine F.q rfl rfl rfl (wanted_none rfl) (r_assign rfl) ?_
        refine F.nil ?_
        refine Nrm.seq ?_
        refine Tri.ret ?_
        refine Rtn.then ?_
        cases h
        exact Rtn.body (.tmp rfl .nil) (fun w hw => ⟨rfl, hw.ext⟩)
      · replace h := if_ff g_3 h
        refine Tri.skip ?_
        refine Nrm.seq ?_
        refine Tri.seq ?_
        refine Tri.reg (l := [0]) rfl ?_
        refine F.q rfl rfl rfl (wanted_none rfl) (r_assign rfl) ?_
        refine F.nil ?_
        refine Nrm.seq ?_
        refine Tri.ret ?_
        cases h
        exact Rtn.body (.tmp rfl .nil) (fun w hw => ⟨rfl, hw.ext⟩)

end Go.Proofs

/- loop.example/g01158/laws.eqVisit -/
namespace Go.Proofs
open Go Go.Ga
set_option linter.unusedVariables false
set_option maxRecDepth 100000
set_option maxHeartbeats 4000000
def laws_eqVisit.f (k : Nat) (a0_0 : Int) (a0_1 : List (Int × Int × Int)) (a0_2 : List Int) (a0_3 : List Int) (a0_4 : Int) (a1_0 : Int) (a1_1 : List (Int × Int × Int)) (a1_2 : List Int) (a1_3 : List Int) (a1_4 : Int) : Option (Bool) := (laws_eqMaze.f k a0_0 a0_1 a0_2 a1_0 a1_1 a1_2).bind fun t9 => (if (!t9) = true then some false else (laws_eqIntS.f k a0_3 a1_3).bind fun t15 => (if (!t15) = true then some false else (if (a0_4 != a1_4) = true then some false else some true)))

theorem laws_eqVisit.ok {k : Nat}  {a0_0 : Int} {a0_1 : List (Int × Int × Int)} {a0_2 : List Int} {a0_3 : List Int} {a0_4 : Int} {a1_0 : Int} {a1_1 : List (Int × Int × Int)} {a1_2 : List Int} {a1_3 : List Int} {a1_4 : Int} {r0 : Bool} (h : laws_eqVisit.f k a0_0 a0_1 a0_2 a0_3 a0_4 a1_0 a1_1 a1_2 a1_3 a1_4 = some r0) (w : World) {va0_1 : Value} {va0_2 : Value} {va0_3 : Value} {va1_1 : Value} {va1_2 : Value} {va1_3 : Value} (hr_a0_1 : Rd w va0_1 a0_1) (hr_a0_2 : Rd w va0_2 a0_2) (hr_a0_3 : Rd w va0_3 a0_3) (hr_a1_1 : Rd w va1_1 a1_1) (hr_a1_2 : Rd w va1_2 a1_2) (hr_a1_3 : Rd w va1_3 a1_3) :
    Calls Try.prog 38 ([.agg ([.int .i64 a0_0, va0_1, va0_2, va0_3, .int .i64 a0_4].toArray), .agg ([.int .i64 a1_0, va1_1, va1_2, va1_3, .int .i64 a1_4].toArray)] : List Value).toArray w (fun e w' => e = .returned (.bool r0) ∧ Ext w w') := by
  unfold laws_eqVisit.f at h
  have hl_va0_1 := hr_a0_1.len
  have hl_va0_2 := hr_a0_2.len
  have hl_va0_3 := hr_a0_3.len
  have hl_va1_1 := hr_a1_1.len
  have hl_va1_2 := hr_a1_2.len
  have hl_va1_3 := hr_a1_3.len
  refine Calls.of_tri (N := 22) Try.func38 rfl rfl rfl (Sep.nil (M := noM)) ?_
  refine Tri.seq ?_
  refine Tri.reg (l := [0, 1, 2]) rfl ?_
  refine F.m rfl rfl rfl (wanted_none rfl) (m_boxG rfl rfl) ?_
  rintro _ _ ⟨b2_1, rfl, rfl⟩
  refine F.m rfl rfl rfl (wanted_none rfl) (m_boxG rfl rfl) ?_
  rintro _ _ ⟨b3_1, rfl, rfl⟩
  refine F.q rfl rfl rfl (wanted_none rfl) (r_assign rfl) ?_
  refine F.nil ?_
  refine Nrm.seq ?_
  refine Tri.seq ?_
  refine Tri.seq ?_
  obtain ⟨t9, h9, h⟩ := bind_some h
  refine Tri.reg (l := [0, 1, 2, 3, 4, 5]) rfl ?_
  refine F.q rfl rfl rfl (wanted_none rfl) (r_fieldAddr tf51_0 rfl) ?_
  refine F.q rfl rfl rfl (wanted_none rfl) (r_loadA ta31 ti31 rfl rfl (fun w hw => cells_1 (cs' := [.int .i64 a0_0, va0_1, va0_2]) (box_cells (i := 1) rfl w hw) rfl)) ?_
  refine F.q rfl rfl rfl (wanted_none rfl) (r_fieldAddr tf51_0 rfl) ?_
  refine F.q rfl rfl rfl (wanted_none rfl) (r_loadA ta31 ti31 rfl rfl (fun w hw => cells_1 (cs' := [.int .i64 a1_0, va1_1, va1_2]) (box_cells (i := 0) rfl w hw) rfl)) ?_
  refine F.qc rfl rfl rfl (wanted_none rfl) (q_callF (xs := _) rfl ok28 rfl rfl (fun w hw => laws_eqMaze.ok h9 w ((fun _ hw => hr_a0_1.sep hw) w hw) ((fun _ hw => hr_a0_2.sep hw) w hw) ((fun _ hw => hr_a1_1.sep hw) w hw) ((fun _ hw => hr_a1_2.sep hw) w hw))) ?_
  refine F.q rfl rfl rfl (wanted_none rfl) (r_not rfl) ?_
  refine F.nil ?_
  refine Nrm.seq ?_
  refine Tri.cond (b := !t9) rfl (fun g_1 => ?_) (fun g_1 => ?_)
  · replace h := if_tt g_1 h
    refine Tri.seq ?_
    refine Tri.reg (l := [0]) rfl ?_
    refine F.q rfl rfl rfl (wanted_none rfl) (r_assign rfl) ?_
    refine F.nil ?_
    refine Nrm.seq ?_
    refine Tri.ret ?_
    refine Rtn.then ?_
    cases h
    exact Rtn.body (.tmp rfl .nil) (fun w hw => ⟨rfl, hw.ext⟩)
  · replace h := if_ff g_1 h
    refine Tri.skip ?_
    refine Nrm.seq ?_
    refine Tri.seq ?_
    refine Tri.seq ?_
    obtain ⟨t15, h15, h⟩ := bind_some h
    refine Tri.reg (l := [0, 1, 2, 3, 4, 5]) rfl ?_
    refine F.q rfl rfl rfl (wanted_none rfl) (r_fieldAddr tf51_1 rfl) ?_
    refine F.q rfl rfl rfl (wanted_none rfl) (r_load ta23 rfl (fun w hw => cell_1 (box_cells (i := 1) rfl w hw) rfl)) ?_
    refine F.q rfl rfl rfl (wanted_none rfl) (r_fieldAddr tf51_1 rfl) ?_
    refine F.q rfl rfl rfl (wanted_none rfl) (r_load ta23 rfl (fun w hw => cell_1 (box_cells (i := 0) rfl w hw) rfl)) ?_
    refine F.qc rfl rfl rfl (wanted_none rfl) (q_callF (xs := _) rfl ok19 rfl rfl (fun w hw => laws_eqIntS.ok h15 w ((fun _ hw => hr_a0_3.sep hw) w hw) ((fun _ hw => hr_a1_3.sep hw) w hw))) ?_
    refine F.q rfl rfl rfl (wanted_none rfl) (r_not rfl) ?_
    refine F.nil ?_
    refine Nrm.seq ?_
    refine Tri.cond (b := !t15) rfl (fun g_2 => ?_) (fun g_2 => ?_)
    · replace h := if_tt g_2 h
      refine Tri.seq ?_
      refine Tri.reg (l := [0]) rfl ?_
      refine F.q rfl rfl rfl (wanted_none rfl) (r_assign rfl) ?_
      refine F.nil ?_
      refine Nrm.seq ?_
      refine Tri.ret ?_
      refine Rtn.then ?_
      cases h
      exact Rtn.body (.tmp rfl .nil) (fun w hw => ⟨rfl, hw.ext⟩)
    · replace h := if_ff g_2 h
      refine Tri.skip ?_
      refine Nrm.seq ?_
      refine Tri.seq ?_
      refine Tri.seq ?_
      refine Tri.reg (l := [0, 1, 2, 3, 4]) rfl ?_
      refine F.q rfl rfl rfl (wanted_none rfl) (r_fieldAddr tf51_2 rfl) ?_
      refine F.q rfl rfl rfl (wanted_none rfl) (r_load ta3 rfl (fun w hw => cell_1 (box_cells (i := 1) rfl w hw) rfl)) ?_
      refine F.q rfl rfl rfl (wanted_none rfl) (r_fieldAddr tf51_2 rfl) ?_
      refine F.q rfl rfl rfl (wanted_none rfl) (r_load ta3 rfl (fun w hw => cell_1 (box_cells (i := 0) rfl w hw) rfl)) ?_
      refine F.q rfl rfl rfl (wanted_none rfl) (r_neq rfl rfl) ?_
      refine F.nil ?_
      refine Nrm.seq ?_
      refine Tri.cond (b := a0_4 != a1_4) rfl (fun g_3 => ?_) (fun g_3 => ?_)
      · replace h := if_tt g_3 h
        refine Tri.seq ?_
        refine Tri.reg (l := [0]) rfl ?_
        refine F.q rfl rfl rfl (wanted_none rfl) (r_assign rfl) ?_
        refine F.nil ?_
        refine Nrm.seq ?_
        refine Tri.ret ?_
        refine Rtn.then ?_
        cases h
        exact Rtn.body (.tmp rfl .nil) (fun w hw => ⟨rfl, hw.ext⟩)
      · replace h := if_ff g_3 h
        refine Tri.skip ?_
        refine Nrm.seq ?_
        refine Tri.seq ?_
        refine Tri.reg (l := [0]) rfl ?_
        refine F.q rfl rfl rfl (wanted_none rfl) (r_assign rfl) ?_
        refine F.nil ?_
        refine Nrm.seq ?_
        refine Tri.ret ?_
        cases h
        exact Rtn.body (.tmp rfl .nil) (fun w hw => ⟨rfl, hw.ext⟩)

end Go.Proofs

/- loop.example/g01158/laws.markIntA3S -/

namespace Go.Proofs
open Go Go.Ga
set_option linter.unusedVariables false
set_option maxRecDepth 100000
set_option maxHeartbeats 4000000
def laws_markIntA3S.l1 (k : Nat) (x5 : Int) : Nat → (List (Int × Int × Int)) → Int → Int → Option ((List (Int × Int × Int)) × Int)
  | 0, _, _, _ => none
  | n + 1, x0r, x1r, x6 => (if (decide (x6 < 3)) = true then (rdl x0r x5).bind fun t21 => (rdl [t21.1, t21.2.1, t21.2.2] x6).bind fun t22 => laws_markIntA3S.l1 k x5 n (x0r.set x5.toNat (if x6 = 0 then x1r else t21.1, if x6 = 1 then x1r else t21.2.1, if x6 = 2 then x1r else t21.2.2)) (w64 (x1r + 1)) (w64 (x6 + 1)) else some (x0r, x1r))

def laws_markIntA3S.l0 (k : Nat) : Nat → (List (Int × Int × Int)) → Int → Int → Option (Int × (List (Int × Int × Int)))
  | 0, _, _, _ => none
  | n + 1, x0, x1, x5 => (if (decide (x5 < (x0.length : Int))) = true then (laws_markIntA3S.l1 k x5 k x0 x1 0).bind fun (x0r, x1r) => laws_markIntA3S.l0 k n x0r x1r (w64 (x5 + 1)) else some (x1, x0))

def laws_markIntA3S.f (k : Nat) (a0 : List (Int × Int × Int)) (a1 : Int) : Option (Int × (List (Int × Int × Int))) := (laws_markIntA3S.l0 k k a0 a1 0).bind fun (x1, x0) => some (x1, x0)

theorem laws_markIntA3S.ok {k : Nat}  {a0 : List (Int × Int × Int)} {a1 : Int} {r0 : Int} {r1 : List (Int × Int × Int)} (h : laws_markIntA3S.f k a0 a1 = some (r0, r1)) (w : World) {va0 : Value} {Sa0 : Nat → Prop} (hl_va0 : SlLen va0 a0.length) (hw0 : Sep w (footM [R.sl Sa0 va0 a0]) [R.sl Sa0 va0 a0] w) :
    Calls Try.prog 81 ([va0, .int .i64 a1] : List Value).toArray w (PostM (footM [R.sl Sa0 va0 a0]) (fun u ns => u = .int .i64 r0 ∧ SlLen va0 r1.length ∧ ns = [R.sl Sa0 va0 r1]) w) := by
  unfold laws_markIntA3S.f at h
  refine Calls.of_tri (N := 26) Try.func81 rfl rfl rfl hw0 ?_
  refine Tri.seq ?_
  refine Tri.reg (l := [0]) rfl ?_
  refine F.q rfl rfl rfl (wanted_none rfl) (r_assign rfl) ?_
  refine F.nil ?_
  refine Nrm.seq ?_
  refine Tri.seq ?_
  refine Tri.seq ?_
  refine Tri.reg (l := [0]) rfl ?_
  refine F.q rfl rfl rfl (wanted_none rfl) (r_assign rfl) ?_
  refine F.nil ?_
  refine Nrm.seq ?_
  obtain ⟨⟨x1, x0⟩, hE_1, h⟩ := bind_some h
  refine Tri.block ?_
  refine Tri.only [0, 1, 5] rfl ?_
  refine Tri.pick [0] rfl rfl ?_
  refine Tri.rounds (fun n e' C' => ∃ (x0' : List (Int × Int × Int)) (x1' : Int) (x5' : Int), laws_markIntA3S.l0 k n x0' x1' x5' = some (x1, x0) ∧ SlLen va0 (x0').length ∧ e' = [(0, va0), (1, .int .i64 x1'), (5, .int .i64 x5')] ∧ C' = Sep w (footM [R.sl Sa0 va0 a0]) [R.sl Sa0 va0 (x0' : List (Int × Int × Int))]) k ?_ ?_ ?_
  · exact ⟨a0, a1, 0, hE_1, hl_va0, rfl, rfl⟩
  · rintro _ _ ⟨_, _, _, hE_1, _⟩
    rw [laws_markIntA3S.l0.eq_1] at hE_1; cases hE_1
  · rintro n_1 _ _ ⟨x0, x1, x5, hE_1, hl_x0, rfl, rfl⟩ ih_1
    rw [laws_markIntA3S.l0.eq_2] at hE_1
    refine Tri.seq ?_
    refine Tri.seq ?_
    refine Tri.reg (l := [0, 1, 2, 3]) rfl ?_
    refine F.q rfl rfl rfl (wanted_none rfl) (r_move rfl) ?_
    refine F.q rfl rfl rfl (wanted_none rfl) (r_move rfl) ?_
    refine F.q rfl rfl rfl (wanted_none rfl) (r_len Try.underlying22 rfl hl_x0) ?_
    refine F.q rfl rfl rfl (wanted_none rfl) (r_lss rfl rfl) ?_
    refine F.nil ?_
    refine Nrm.seq ?_
    refine Tri.cond (b := decide (x5 < (x0.length : Int))) rfl (fun g_1 => ?_) (fun g_1 => ?_)
    · replace hE_1 := if_tt g_1 hE_1
      refine Tri.skip ?_
      refine Nrm.seq ?_
      refine Tri.seq ?_
      refine Tri.block ?_
      refine Tri.seq ?_
      refine Tri.reg (l := [0]) rfl ?_
      refine F.q rfl rfl rfl (wanted_none rfl) (r_assign rfl) ?_
      refine F.nil ?_
      refine Nrm.seq ?_
      obtain ⟨⟨x0r, x1r⟩, hE_2, hE_1⟩ := bind_some hE_1
      refine Tri.block ?_
      refine Tri.only [0, 1, 5, 6] rfl ?_
      refine Tri.pick [0] rfl rfl ?_
      refine Tri.rounds (fun n e' C' => ∃ (x0r' : List (Int × Int × Int)) (x1r' : Int) (x6' : Int), laws_markIntA3S.l1 k x5 n x0r' x1r' x6' = some (x0r, x1r) ∧ SlLen va0 (x0r').length ∧ e' = [(0, va0), (1, .int .i64 x1r'), (5, .int .i64 x5), (6, .int .i64 x6')] ∧ C' = Sep w (footM [R.sl Sa0 va0 a0]) [R.sl Sa0 va0 (x0r' : List (Int × Int × Int))]) k ?_ ?_ ?_
      · exact ⟨x0, x1, 0, hE_2, hl_x0, rfl, rfl⟩
      · rintro _ _ ⟨_, _, _, hE_2, _⟩
        rw [laws_markIntA3S.l1.eq_1] at hE_2; cases hE_2
      · rintro n_2 _ _ ⟨x0r, x1r, x6, hE_2, hl_x0r, rfl, rfl⟩ ih_2
        rw [laws_markIntA3S.l1.eq_2] at hE_2
        refine Tri.seq ?_
        refine Tri.seq ?_
        refine Tri.reg (l := [0, 1]) rfl ?_
        refine F.q rfl rfl rfl (wanted_none rfl) (r_move rfl) ?_
        refine F.q rfl rfl rfl (wanted_none rfl) (r_lss rfl rfl) ?_
        refine F.nil ?_
        refine Nrm.seq ?_
        refine Tri.cond (b := decide (x6 < 3)) rfl (fun g_2 => ?_) (fun g_2 => ?_)
        · replace hE_2 := if_tt g_2 hE_2
          refine Tri.skip ?_
          refine Nrm.seq ?_
          refine Tri.seq ?_
          refine Tri.block ?_
          refine Tri.seq ?_
          obtain ⟨t21, h21, hE_2⟩ := bind_some hE_2
          obtain ⟨t22, h22, hE_2⟩ := bind_some hE_2
          refine Tri.reg (l := [0, 1, 2, 3, 4, 5, 6]) rfl ?_
          refine F.q rfl rfl rfl (wanted_none rfl) (r_move rfl) ?_
          refine F.q rfl rfl rfl (wanted_none rfl) (r_move rfl) ?_
          refine F.q rfl rfl rfl (wanted_none rfl) (r_move rfl) ?_
          refine F.q rfl rfl rfl (wanted_none rfl) (r_move rfl) ?_
          refine F.q rfl rfl rfl (wanted_none rfl) (r_indexAddrS Try.underlying22 ti130 rfl hl_x0r rfl (rdl_some h21).1 (rdl_some h21).2.1) ?_
          refine F.q rfl rfl rfl (wanted_none rfl) (r_indexAddrA Try.underlying130 ti3 rfl rfl (rdl_some h22).1 (rdl_some h22).2.1) ?_
          refine F.ef0 rfl rfl (wanted_none rfl) (d_storeP (i := 0) (k := (x6.toNat * 1)) (x0 := t21) (x1 := (if x6 = 0 then x1r else t21.1, if x6 = 1 then x1r else t21.2.1, if x6 = 2 then x1r else t21.2.2)) ti3 rfl rfl rfl (rdl_some h21) rfl (dlt (rdl_some h22).1 (rdl_some h22).2.1) (setV3 (rdl_some h22).1 (rdl_some h22).2.1) rfl) ?_
          rintro _ _ ⟨rfl, rfl⟩
          refine F.nil ?_
          refine Nrm.seq ?_
          refine Tri.reg (l := [0, 1, 2]) rfl ?_
          refine F.q rfl rfl rfl (wanted_none rfl) (r_move rfl) ?_
          refine F.q rfl rfl rfl (wanted_none rfl) (r_add rfl rfl) ?_
          refine F.q rfl rfl rfl (wanted_none rfl) (r_assign rfl) ?_
          refine F.nil ?_
          refine Nrm.block ?_
          refine Nrm.seq ?_
          refine Tri.reg (l := [0, 1, 2]) rfl ?_
          refine F.q rfl rfl rfl (wanted_none rfl) (r_move rfl) ?_
          refine F.q rfl rfl rfl (wanted_none rfl) (r_add rfl rfl) ?_
          refine F.q rfl rfl rfl (wanted_none rfl) (r_assign rfl) ?_
          refine F.nil ?_
          refine Nrm.round ?_
          refine Rnd.only [0, 1, 5, 6] rfl ?_
          refine Rnd.pick [0] rfl rfl ?_
          exact ih_2 _ _ ⟨x0r.set x5.toNat (if x6 = 0 then x1r else t21.1, if x6 = 1 then x1r else t21.2.1, if x6 = 2 then x1r else t21.2.2), w64 (x1r + 1), w64 (x6 + 1), hE_2, (len_set hl_x0r), rfl, rfl⟩
        · replace hE_2 := if_ff g_2 hE_2
          refine Tri.exit ?_
          refine Exi.then ?_
          refine Exi.then ?_
          refine Exi.same ?_
          cases hE_2
          refine Nrm.block ?_
          refine Nrm.seq ?_
          refine Tri.reg (l := [0, 1, 2]) rfl ?_
          refine F.q rfl rfl rfl (wanted_none rfl) (r_move rfl) ?_
          refine F.q rfl rfl rfl (wanted_none rfl) (r_add rfl rfl) ?_
          refine F.q rfl rfl rfl (wanted_none rfl) (r_assign rfl) ?_
          refine F.nil ?_
          refine Nrm.round ?_
          refine Rnd.only [0, 1, 5] rfl ?_
          refine Rnd.pick [0] rfl rfl ?_
          exact ih_1 _ _ ⟨x0r, x1r, w64 (x5 + 1), hE_1, hl_x0r, rfl, rfl⟩
    · replace hE_1 := if_ff g_1 hE_1
      refine Tri.exit ?_
      refine Exi.then ?_
      refine Exi.then ?_
      refine Exi.same ?_
      cases hE_1
      refine Nrm.seq ?_
      refine Tri.seq ?_
      refine Tri.reg (l := [0, 1]) rfl ?_
      refine F.q rfl rfl rfl (wanted_none rfl) (r_move rfl) ?_
      refine F.q rfl rfl rfl (wanted_none rfl) (r_assign rfl) ?_
      refine F.nil ?_
      refine Nrm.seq ?_
      refine Tri.ret ?_
      cases h
      exact Rtn.body (.tmp rfl .nil) (fun w hw => ⟨_, _, rfl, ⟨rfl, hl_x0, rfl⟩, Sep.pick (is := [0]) rfl rfl hw⟩)

end Go.Proofs

/- loop.example/g01158/laws.markMaze -/
namespace Go.Proofs
open Go Go.Ga
set_option linter.unusedVariables false
set_option maxRecDepth 100000
set_option maxHeartbeats 4000000
def laws_markMaze.f (k : Nat) (a0_0 : Int) (a0_1 : List (Int × Int × Int)) (a0_2 : List Int) (a1 : Int) : Option (Int × (List (Int × Int × Int)) × (List Int)) := (laws_markIntA3S.f k a0_1 a1).bind fun (t8_1, t8_2) => (laws_markIntS.f k a0_2 t8_1).bind fun (t12_1, t12_2) => some (t12_1, t8_2, t12_2)

theorem laws_markMaze.ok {k : Nat}  {a0_0 : Int} {a0_1 : List (Int × Int × Int)} {a0_2 : List Int} {a1 : Int} {r0 : Int} {r1 : List (Int × Int × Int)} {r2 : List Int} (h : laws_markMaze.f k a0_0 a0_1 a0_2 a1 = some (r0, r1, r2)) (w : World) {va0_1 : Value} {Sa0_1 : Nat → Prop} (hl_va0_1 : SlLen va0_1 a0_1.length) {va0_2 : Value} {Sa0_2 : Nat → Prop} (hl_va0_2 : SlLen va0_2 a0_2.length) (hw0 : Sep w (footM [R.sl Sa0_1 va0_1 a0_1, R.sl Sa0_2 va0_2 a0_2]) [R.sl Sa0_1 va0_1 a0_1, R.sl Sa0_2 va0_2 a0_2] w) :
    Calls Try.prog 29 ([.agg ([.int .i64 a0_0, va0_1, va0_2].toArray), .int .i64 a1] : List Value).toArray w (PostM (footM [R.sl Sa0_1 va0_1 a0_1, R.sl Sa0_2 va0_2 a0_2]) (fun u ns => u = .int .i64 r0 ∧ SlLen va0_1 r1.length ∧ SlLen va0_2 r2.length ∧ ns = [R.sl Sa0_1 va0_1 r1, R.sl Sa0_2 va0_2 r2]) w) := by
  unfold laws_markMaze.f at h
  refine Calls.of_tri (N := 14) Try.func29 rfl rfl rfl hw0 ?_
  refine Tri.seq ?_
  refine Tri.reg (l := [0, 1]) rfl ?_
  refine F.m rfl rfl rfl (wanted_none rfl) (m_boxG rfl rfl) ?_
  rintro _ _ ⟨b2_1, rfl, rfl⟩
  refine F.q rfl rfl rfl (wanted_none rfl) (r_assign rfl) ?_
  refine F.nil ?_
  refine Nrm.seq ?_
  refine Tri.seq ?_
  obtain ⟨⟨t8_1, t8_2⟩, h8, h⟩ := bind_some h
  refine Tri.reg (l := [0, 1, 2, 3, 4]) rfl ?_
  refine F.q rfl rfl rfl (wanted_none rfl) (r_fieldAddr tf31_1 rfl) ?_
  refine F.q rfl rfl rfl (wanted_none rfl) (r_load ta22 rfl (fun w hw => cell_1 (box_cells (i := 0) rfl w hw) rfl)) ?_
  refine F.q rfl rfl rfl (wanted_none rfl) (r_move rfl) ?_
  refine F.ef rfl rfl rfl (wanted_none rfl) (d_callM (xs := _) (cs := [R.sl Sa0_1 va0_1 (a0_1 : List (Int × Int × Int))]) (rest := [R.box b2_1 31 [.int .i64 a0_0, va0_1, va0_2], R.sl Sa0_2 va0_2 (a0_2 : List (Int))]) [1] [0, 2] rfl ok81 rfl rfl rfl rfl (fun w hw => laws_markIntA3S.ok h8 w hl_va0_1 (Sep.sub hw))) ?_
  rintro _ _ ⟨_, ⟨rfl, hl_t8_2, rfl⟩, rfl⟩
  refine F.q rfl rfl rfl (wanted_none rfl) (r_assign rfl) ?_
  refine F.nil ?_
  refine Nrm.seq ?_
  refine Tri.seq ?_
  obtain ⟨⟨t12_1, t12_2⟩, h12, h⟩ := bind_some h
  refine Tri.reg (l := [0, 1, 2, 3, 4]) rfl ?_
  refine F.q rfl rfl rfl (wanted_none rfl) (r_fieldAddr tf31_2 rfl) ?_
  refine F.q rfl rfl rfl (wanted_none rfl) (r_load ta23 rfl (fun w hw => cell_1 (box_cells (i := 1) rfl w hw) rfl)) ?_
  refine F.q rfl rfl rfl (wanted_none rfl) (r_move rfl) ?_
  refine F.ef rfl rfl rfl (wanted_none rfl) (d_callM (xs := _) (cs := [R.sl Sa0_2 va0_2 (a0_2 : List (Int))]) (rest := [R.sl Sa0_1 va0_1 (t8_2 : List (Int × Int × Int)), R.box b2_1 31 [.int .i64 a0_0, va0_1, va0_2]]) [2] [0, 1] rfl ok22 rfl rfl rfl rfl (fun w hw => laws_markIntS.ok h12 w hl_va0_2 (Sep.sub hw))) ?_
  rintro _ _ ⟨_, ⟨rfl, hl_t12_2, rfl⟩, rfl⟩
  refine F.q rfl rfl rfl (wanted_none rfl) (r_assign rfl) ?_
  refine F.nil ?_
  refine Nrm.seq ?_
  refine Tri.seq ?_
  refine Tri.reg (l := [0, 1]) rfl ?_
  refine F.q rfl rfl rfl (wanted_none rfl) (r_move rfl) ?_
  refine F.q rfl rfl rfl (wanted_none rfl) (r_assign rfl) ?_
  refine F.nil ?_
  refine Nrm.seq ?_
  refine Tri.ret ?_
  cases h
  exact Rtn.body (.tmp rfl .nil) (fun w hw => ⟨_, _, rfl, ⟨rfl, hl_t8_2, hl_t12_2, rfl⟩, Sep.pick (is := [1, 0]) rfl rfl hw⟩)

end Go.Proofs

/- loop.example/g01158/laws.markVisit -/
namespace Go.Proofs
open Go Go.Ga
set_option linter.unusedVariables false
set_option maxRecDepth 100000
set_option maxHeartbeats 4000000
def laws_markVisit.f (k : Nat) (a0_0 : Int) (a0_1 : List (Int × Int × Int)) (a0_2 : List Int) (a0_3 : List Int) (a0_4 : Int) (a1 : Int) : Option (Int × (List (Int × Int × Int)) × (List Int) × (List Int)) := (laws_markMaze.f k a0_0 a0_1 a0_2 a1).bind fun (t8_1, t8_2, t8_3) => (laws_markIntS.f k a0_3 t8_1).bind fun (t12_1, t12_2) => some (t12_1, t8_2, t8_3, t12_2)

theorem laws_markVisit.ok {k : Nat}  {a0_0 : Int} {a0_1 : List (Int × Int × Int)} {a0_2 : List Int} {a0_3 : List Int} {a0_4 : Int} {a1 : Int} {r0 : Int} {r1 : List (Int × Int × Int)} {r2 : List Int} {r3 : List Int} (h : laws_markVisit.f k a0_0 a0_1 a0_2 a0_3 a0_4 a1 = some (r0, r1, r2, r3)) (w : World) {va0_1 : Value} {Sa0_1 : Nat → Prop} (hl_va0_1 : SlLen va0_1 a0_1.length) {va0_2 : Value} {Sa0_2 : Nat → Prop} (hl_va0_2 : SlLen va0_2 a0_2.length) {va0_3 : Value} {Sa0_3 : Nat → Prop} (hl_va0_3 : SlLen va0_3 a0_3.length) (hw0 : Sep w (footM [R.sl Sa0_1 va0_1 a0_1, R.sl Sa0_2 va0_2 a0_2, R.sl Sa0_3 va0_3 a0_3]) [R.sl Sa0_1 va0_1 a0_1, R.sl Sa0_2 va0_2 a0_2, R.sl Sa0_3 va0_3 a0_3] w) :
    Calls Try.prog 39 ([.agg ([.int .i64 a0_0, va0_1, va0_2, va0_3, .int .i64 a0_4].toArray), .int .i64 a1] : List Value).toArray w (PostM (footM [R.sl Sa0_1 va0_1 a0_1, R.sl Sa0_2 va0_2 a0_2, R.sl Sa0_3 va0_3 a0_3]) (fun u ns => u = .int .i64 r0 ∧ SlLen va0_1 r1.length ∧ SlLen va0_2 r2.length ∧ SlLen va0_3 r3.length ∧ ns = [R.sl Sa0_1 va0_1 r1, R.sl Sa0_2 va0_2 r2, R.sl Sa0_3 va0_3 r3]) w) := by
  unfold laws_markVisit.f at h
  refine Calls.of_tri (N := 14) Try.func39 rfl rfl rfl hw0 ?_
  refine Tri.seq ?_
  refine Tri.reg (l := [0, 1]) rfl ?_
  refine F.m rfl rfl rfl (wanted_none rfl) (m_boxG rfl rfl) ?_
  rintro _ _ ⟨b2_1, rfl, rfl⟩
  refine F.q rfl rfl rfl (wanted_none rfl) (r_assign rfl) ?_
  refine F.nil ?_
  refine Nrm.seq ?_
  refine Tri.seq ?_
  obtain ⟨⟨t8_1, t8_2, t8_3⟩, h8, h⟩ := bind_some h
  refine Tri.reg (l := [0, 1, 2, 3, 4]) rfl ?_
  refine F.q rfl rfl rfl (wanted_none rfl) (r_fieldAddr tf51_0 rfl) ?_
  refine F.q rfl rfl rfl (wanted_none rfl) (r_loadA ta31 ti31 rfl rfl (fun w hw => cells_1 (cs' := [.int .i64 a0_0, va0_1, va0_2]) (box_cells (i := 0) rfl w hw) rfl)) ?_
  refine F.q rfl rfl rfl (wanted_none rfl) (r_move rfl) ?_
  refine F.ef rfl rfl rfl (wanted_none rfl) (d_callM (xs := _) (cs := [R.sl Sa0_1 va0_1 (a0_1 : List (Int × Int × Int)), R.sl Sa0_2 va0_2 (a0_2 : List (Int))]) (rest := [R.box b2_1 51 [.int .i64 a0_0, va0_1, va0_2, va0_3, .int .i64 a0_4], R.sl Sa0_3 va0_3 (a0_3 : List (Int))]) [1, 2] [0, 3] rfl ok29 rfl rfl rfl rfl (fun w hw => laws_markMaze.ok h8 w hl_va0_1 hl_va0_2 (Sep.sub hw))) ?_
  rintro _ _ ⟨_, ⟨rfl, hl_t8_2, hl_t8_3, rfl⟩, rfl⟩
  refine F.q rfl rfl rfl (wanted_none rfl) (r_assign rfl) ?_
  refine F.nil ?_
  refine Nrm.seq ?_
  refine Tri.seq ?_
  obtain ⟨⟨t12_1, t12_2⟩, h12, h⟩ := bind_some h
  refine Tri.reg (l := [0, 1, 2, 3, 4]) rfl ?_
  refine F.q rfl rfl rfl (wanted_none rfl) (r_fieldAddr tf51_1 rfl) ?_
  refine F.q rfl rfl rfl (wanted_none rfl) (r_load ta23 rfl (fun w hw => cell_1 (box_cells (i := 2) rfl w hw) rfl)) ?_
  refine F.q rfl rfl rfl (wanted_none rfl) (r_move rfl) ?_
  refine F.ef rfl rfl rfl (wanted_none rfl) (d_callM (xs := _) (cs := [R.sl Sa0_3 va0_3 (a0_3 : List (Int))]) (rest := [R.sl Sa0_1 va0_1 (t8_2 : List (Int × Int × Int)), R.sl Sa0_2 va0_2 (t8_3 : List (Int)), R.box b2_1 51 [.int .i64 a0_0, va0_1, va0_2, va0_3, .int .i64 a0_4]]) [3] [0, 1, 2] rfl ok22 rfl rfl rfl rfl (fun w hw => laws_markIntS.ok h12 w hl_va0_3 (Sep.sub hw))) ?_
  rintro _ _ ⟨_, ⟨rfl, hl_t12_2, rfl⟩, rfl⟩
  refine F.q rfl rfl rfl (wanted_none rfl) (r_assign rfl) ?_
  refine F.nil ?_
  refine Nrm.seq ?_
  refine Tri.seq ?_
  refine Tri.reg (l := [0, 1]) rfl ?_
  refine F.q rfl rfl rfl (wanted_none rfl) (r_move rfl) ?_
  refine F.q rfl rfl rfl (wanted_none rfl) (r_assign rfl) ?_
  refine F.nil ?_
  refine Nrm.seq ?_
  refine Tri.ret ?_
  cases h
  exact Rtn.body (.tmp rfl .nil) (fun w hw => ⟨_, _, rfl, ⟨rfl, hl_t8_2, hl_t8_3, hl_t12_2, rfl⟩, Sep.pick (is := [1, 2, 0]) rfl rfl hw⟩)

end Go.Proofs

/- loop.example/g01158/laws.FnExactNodesAhead -/
namespace Go.Proofs
open Go Go.Ga
set_option linter.unusedVariables false
set_option maxRecDepth 100000
set_option maxHeartbeats 4000000
def laws_FnExactNodesAhead.f (k : Nat) (a0_0 : Int) (a0_1 : List (Int × Int × Int)) (a0_2 : List Int) (a0_3 : List Int) (a0_4 : Int) : Option (Bool) := (laws_szVisit.f k a0_0 a0_1 a0_2 a0_3 a0_4 1048576).bind fun t16 => (if (decide (t16 < 0)) = true then some true else (laws_toVisit.f k a0_0 a0_1 a0_2 a0_3 a0_4).bind fun (t21_1, t21_2, t21_3, t21_4, t21_5) => (spec_NodesAhead.f k t21_1 t21_2 t21_3 t21_4 t21_5).bind fun (t22_1, t22_2) => (laws_toVisit.f k a0_0 a0_1 a0_2 a0_3 a0_4).bind fun (t26_1, t26_2, t26_3, t26_4, t26_5) => (impl_NodesAhead.f k t26_1 t26_2 t26_3 t26_4 t26_5).bind fun (t29_1, t29_2) => ((laws_eqIntS.f k t29_1 t22_1).bind fun t34 => (if (!t34) = true then some true else some (t29_2 != t22_2))).bind fun y40 => (if y40 = true then some false else (laws_toVisit.f k a0_0 a0_1 a0_2 a0_3 a0_4).bind fun (t43_1, t43_2, t43_3, t43_4, t43_5) => (laws_eqVisit.f k t26_1 t26_2 t26_3 t26_4 t26_5 t43_1 t43_2 t43_3 t43_4 t43_5).bind fun t44 => (if (!t44) = true then some false else (laws_markVisit.f k t26_1 t26_2 t26_3 t26_4 t26_5 1).bind fun (t48_1, t48_2, t48_3, t48_4) => ((if (decide (t48_1 < 0)) = true then some true else (laws_eqIntS.f k t29_1 t22_1).bind fun t54 => (if (!t54) = true then some true else some (t29_2 != t22_2)))).bind fun y61 => (if y61 = true then some false else (laws_markIntS.f k t29_1 1).bind fun (t64_1, t64_2) => (laws_heldIntS.f k t64_2 1).bind fun t67 => (if (decide (t67 < 0)) = true then some false else (if (t67 != t64_1) = true then some false else (laws_toVisit.f k a0_0 a0_1 a0_2 a0_3 a0_4).bind fun (t75_1, t75_2, t75_3, t75_4, t75_5) => (impl_NodesAhead.f k t75_1 t75_2 t75_3 t75_4 t75_5).bind fun (t76_1, t76_2) => ((laws_eqIntS.f k t76_1 t22_1).bind fun t81 => (if (!t81) = true then some true else some (t76_2 != t22_2))).bind fun y87 => (if y87 = true then some false else (laws_heldIntS.f k t64_2 1).bind fun t90 => (if (decide (t90 < 0)) = true then some false else (if (t90 != t64_1) = true then some false else some true)))))))))

theorem laws_FnExactNodesAhead.ok {k : Nat}  {a0_0 : Int} {a0_1 : List (Int × Int × Int)} {a0_2 : List Int} {a0_3 : List Int} {a0_4 : Int} {r0 : Bool} (h : laws_FnExactNodesAhead.f k a0_0 a0_1 a0_2 a0_3 a0_4 = some r0) (w : World) {va0_1 : Value} {va0_2 : Value} {va0_3 : Value} (hr_a0_1 : Rd w va0_1 a0_1) (hr_a0_2 : Rd w va0_2 a0_2) (hr_a0_3 : Rd w va0_3 a0_3) :
    Calls Try.prog 7 ([.agg ([.int .i64 a0_0, va0_1, va0_2, va0_3, .int .i64 a0_4].toArray)] : List Value).toArray w (fun e w' => e = .returned (.bool r0) ∧ Ext w w') := by
  unfold laws_FnExactNodesAhead.f at h
  have hl_va0_1 := hr_a0_1.len
  have hl_va0_2 := hr_a0_2.len
  have hl_va0_3 := hr_a0_3.len
  refine Calls.of_tri (N := 96) Try.func7 rfl rfl rfl (Sep.nil (M := noM)) ?_
  refine Tri.seq ?_
  refine Tri.reg (l := [0, 1]) rfl ?_
  refine F.m rfl rfl rfl (wanted_none rfl) (m_boxG rfl rfl) ?_
  rintro _ _ ⟨b1_1, rfl, rfl⟩
  refine F.q rfl rfl rfl (wanted_none rfl) (r_assign rfl) ?_
  refine F.nil ?_
  refine Nrm.seq ?_
  refine Tri.seq ?_
  refine Tri.reg (l := [0]) rfl ?_
  refine F.q rfl rfl rfl (wanted_none rfl) (r_assign rfl) ?_
  refine F.nil ?_
  refine Nrm.seq ?_
  refine Tri.seq ?_
  obtain ⟨t16, h16, h⟩ := bind_some h
  refine Tri.reg (l := [0, 1, 2, 3]) rfl ?_
  refine F.q rfl rfl rfl (wanted_none rfl) (r_loadA ta47 ti47 rfl rfl (fun w hw => (box_cells (i := 0) rfl w hw))) ?_
  refine F.q rfl rfl rfl (wanted_none rfl) (r_move rfl) ?_
  refine F.qc rfl rfl rfl (wanted_none rfl) (q_callF (xs := _) rfl ok34 rfl rfl (fun w hw => laws_szVisit.ok h16 w ((fun _ hw => hr_a0_1.sep hw) w hw) ((fun _ hw => hr_a0_2.sep hw) w hw) ((fun _ hw => hr_a0_3.sep hw) w hw))) ?_
  refine F.q rfl rfl rfl (wanted_none rfl) (r_assign rfl) ?_
  refine F.nil ?_
  refine Nrm.seq ?_
  refine Tri.seq ?_
  refine Tri.seq ?_
  refine Tri.reg (l := [0, 1]) rfl ?_
  refine F.q rfl rfl rfl (wanted_none rfl) (r_move rfl) ?_
  refine F.q rfl rfl rfl (wanted_none rfl) (r_lss rfl rfl) ?_
  refine F.nil ?_
  refine Nrm.seq ?_
  refine Tri.cond (b := decide (t16 < 0)) rfl (fun g_1 => ?_) (fun g_1 => ?_)
  · replace h := if_tt g_1 h
    refine Tri.seq ?_
    refine Tri.reg (l := [0]) rfl ?_
    refine F.q rfl rfl rfl (wanted_none rfl) (r_assign rfl) ?_
    refine F.nil ?_
    refine Nrm.seq ?_
    refine Tri.ret ?_
    refine Rtn.then ?_
    cases h
    exact Rtn.body (.tmp rfl .nil) (fun w hw => ⟨rfl, hw.ext⟩)
  · replace h := if_ff g_1 h
    refine Tri.skip ?_
    refine Nrm.seq ?_
    refine Tri.seq ?_
    obtain ⟨⟨t21_1, t21_2, t21_3, t21_4, t21_5⟩, h21, h⟩ := bind_some h
    obtain ⟨⟨t22_1, t22_2⟩, h22, h⟩ := bind_some h
    refine Tri.reg (l := [0, 1, 2, 3, 4, 5, 6, 7]) rfl ?_
    refine F.q rfl rfl rfl (wanted_none rfl) (r_loadA ta47 ti47 rfl rfl (fun w hw => (box_cells (i := 0) rfl w hw))) ?_
    refine F.m rfl rfl rfl (wanted_none rfl) (m_callF (xs := _) rfl ok36 rfl rfl (fun w hw => laws_toVisit.ok h21 w ((fun _ hw => hr_a0_1.sep hw) w hw) ((fun _ hw => hr_a0_2.sep hw) w hw) ((fun _ hw => hr_a0_3.sep hw) w hw))) ?_
    rintro _ _ ⟨_, ⟨v21_1, S21_1, v21_2, S21_2, v21_3, S21_3, rfl, hl_v21_1, hl_v21_2, hl_v21_3, rfl⟩, rfl⟩
    refine F.m rfl rfl rfl (wanted_none rfl) (m_callF (xs := _) rfl ok35 rfl rfl (fun w hw => spec_NodesAhead.ok h22 w ((rd_sl (i := 0) rfl) w hw) ((rd_sl (i := 1) rfl) w hw) ((rd_sl (i := 2) rfl) w hw))) ?_
    rintro _ _ ⟨_, ⟨v22_1, S22_1, rfl, hl_v22_1, rfl⟩, rfl⟩
    refine F.q rfl rfl rfl (wanted_none rfl) (r_move rfl) ?_
    refine F.q rfl rfl rfl (wanted_none rfl) (r_extract rfl rfl) ?_
    refine F.q rfl rfl rfl (wanted_none rfl) (r_extract rfl rfl) ?_
    refine F.q rfl rfl rfl (wanted_none rfl) (r_assign rfl) ?_
    refine F.q rfl rfl rfl (wanted_none rfl) (r_assign rfl) ?_
    refine F.nil ?_
    refine Nrm.seq ?_
    refine Tri.seq ?_
    obtain ⟨⟨t26_1, t26_2, t26_3, t26_4, t26_5⟩, h26, h⟩ := bind_some h
    refine Tri.reg (l := [0, 1, 2, 3]) rfl ?_
    refine F.q rfl rfl rfl (wanted_none rfl) (r_loadA ta47 ti47 rfl rfl (fun w hw => (box_cells (i := 4) rfl w hw))) ?_
    refine F.m rfl rfl rfl (wanted_none rfl) (m_callF (xs := _) rfl ok36 rfl rfl (fun w hw => laws_toVisit.ok h26 w ((fun _ hw => hr_a0_1.sep hw) w hw) ((fun _ hw => hr_a0_2.sep hw) w hw) ((fun _ hw => hr_a0_3.sep hw) w hw))) ?_
    rintro _ _ ⟨_, ⟨v26_1, S26_1, v26_2, S26_2, v26_3, S26_3, rfl, hl_v26_1, hl_v26_2, hl_v26_3, rfl⟩, rfl⟩
    refine F.m rfl rfl rfl (wanted_none rfl) (m_alloc ti51) ?_
    rintro _ _ ⟨b6_1, rfl, rfl⟩
    refine F.ef0 rfl rfl (wanted_none rfl) (d_storeG0 (i := 0) (cs2 := [.int .i64 t26_1, v26_1, v26_2, v26_3, .int .i64 t26_5]) ti51 rfl rfl rfl rfl rfl (Nat.le_of_ble_eq_true rfl) (lf_cons rfl (lf_cons (sl_leaf hl_v26_1) (lf_cons (sl_leaf hl_v26_2) (lf_cons (sl_leaf hl_v26_3) (lf_cons rfl lf_nil)))))) ?_
    rintro _ _ ⟨rfl, rfl⟩
    refine F.nil ?_
    refine Nrm.seq ?_
    refine Tri.seq ?_
    obtain ⟨⟨t29_1, t29_2⟩, h29, h⟩ := bind_some h
    refine Tri.reg (l := [0, 1, 2, 3, 4, 5, 6]) rfl ?_
    refine F.q rfl rfl rfl (wanted_none rfl) (r_loadA ta51 ti51 rfl rfl (fun w hw => (box_cells (i := 0) rfl w hw))) ?_
    refine F.m rfl rfl rfl (wanted_none rfl) (m_callF (xs := _) rfl ok37 rfl rfl (fun w hw => impl_NodesAhead.ok h29 w ((rd_sl (i := 1) rfl) w hw) ((rd_sl (i := 2) rfl) w hw) ((rd_sl (i := 3) rfl) w hw))) ?_
    rintro _ _ ⟨_, ⟨v29_1, S29_1, rfl, hl_v29_1, rfl⟩, rfl⟩
    refine F.q rfl rfl rfl (wanted_none rfl) (r_move rfl) ?_
    refine F.q rfl rfl rfl (wanted_none rfl) (r_extract rfl rfl) ?_
    refine F.q rfl rfl rfl (wanted_none rfl) (r_extract rfl rfl) ?_
    refine F.q rfl rfl rfl (wanted_none rfl) (r_assign rfl) ?_
    refine F.q rfl rfl rfl (wanted_none rfl) (r_assign rfl) ?_
    refine F.nil ?_
    refine Nrm.seq ?_
    refine Tri.seq ?_
    refine Tri.seq ?_
    obtain ⟨y40, hE_1, h⟩ := bind_some h
    refine Tri.cut (fun e' C' => e' = [(1, .pointer (some ⟨b1_1, 0, none⟩)), (4, v22_1), (5, .bool t22_2), (6, .pointer (some ⟨b6_1, 0, none⟩)), (7, v29_1), (8, .bool t29_2), (40, .bool y40)] ∧ C' = Sep w noM [R.box b6_1 51 [.int .i64 t26_1, v26_1, v26_2, v26_3, .int .i64 t26_5], R.box b1_1 47 [.int .i64 a0_0, va0_1, va0_2, va0_3, .int .i64 a0_4], R.sl S22_1 v22_1 (t22_1 : List (Int)), R.sl S26_1 v26_1 (t26_2 : List (Int × Int × Int)), R.sl S26_2 v26_2 (t26_3 : List (Int)), R.sl S26_3 v26_3 (t26_4 : List (Int)), R.sl S29_1 v29_1 (t29_1 : List (Int))]) ?_ (fun hj_1 => ?_)
    · rintro _ _ ⟨rfl, rfl⟩
      refine Nrm.seq ?_
      refine Tri.cond (b := y40) rfl (fun g_2 => ?_) (fun g_2 => ?_)
      · replace h := if_tt g_2 h
        refine Tri.seq ?_
        refine Tri.reg (l := [0]) rfl ?_
        refine F.q rfl rfl rfl (wanted_none rfl) (r_assign rfl) ?_
        refine F.nil ?_
        refine Nrm.seq ?_
        refine Tri.ret ?_
        refine Rtn.then ?_
        cases h
        exact Rtn.body (.tmp rfl .nil) (fun w hw => ⟨rfl, hw.ext⟩)
      · replace h := if_ff g_2 h
        refine Tri.skip ?_
        refine Nrm.seq ?_
        refine Tri.seq ?_
        refine Tri.seq ?_
        obtain ⟨⟨t43_1, t43_2, t43_3, t43_4, t43_5⟩, h43, h⟩ := bind_some h
        obtain ⟨t44, h44, h⟩ := bind_some h
        refine Tri.drawA mixedT Sep.up [(0, true), (1, true), (2, false), (3, true), (4, true)] [] (by kernel_rfl) ?_
        refine S.q rfl rfl rfl (wanted_none rfl) (r_loadA ta51 ti51 rfl rfl (fun w hw => (box_cells (i := 0) rfl w hw))) ?_
        refine S.q rfl rfl rfl (wanted_none rfl) (r_loadA ta47 ti47 rfl rfl (fun w hw => (box_cells (i := 1) rfl w hw))) ?_
        refine S.m rfl rfl rfl (wanted_none rfl) (m_callF (xs := _) rfl ok36 rfl rfl (fun w hw => laws_toVisit.ok h43 w ((fun _ hw => hr_a0_1.sep hw) w hw) ((fun _ hw => hr_a0_2.sep hw) w hw) ((fun _ hw => hr_a0_3.sep hw) w hw))) ?_
        rintro _ _ ⟨_, ⟨v43_4, S43_4, v43_5, S43_5, v43_6, S43_6, rfl, hl_v43_4, hl_v43_5, hl_v43_6, rfl⟩, rfl⟩
        refine S.qc rfl rfl rfl (wanted_none rfl) (q_callF (xs := _) rfl ok38 rfl rfl (fun w hw => laws_eqVisit.ok h44 w ((rd_sl (i := 6) rfl) w hw) ((rd_sl (i := 7) rfl) w hw) ((rd_sl (i := 8) rfl) w hw) ((rd_sl (i := 0) rfl) w hw) ((rd_sl (i := 1) rfl) w hw) ((rd_sl (i := 2) rfl) w hw))) ?_
        refine S.q rfl rfl rfl (wanted_none rfl) (r_not rfl) ?_
        refine S.nil ?_
        refine F.nil ?_
        refine Nrm.seq ?_
        refine Tri.cond (b := !t44) rfl (fun g_3 => ?_) (fun g_3 => ?_)
        · replace h := if_tt g_3 h
          refine Tri.seq ?_
          refine Tri.reg (l := [0]) rfl ?_
          refine F.q rfl rfl rfl (wanted_none rfl) (r_assign rfl) ?_
          refine F.nil ?_
          refine Nrm.seq ?_
          refine Tri.ret ?_
          refine Rtn.then ?_
          cases h
          exact Rtn.body (.tmp rfl .nil) (fun w hw => ⟨rfl, hw.ext⟩)
        · replace h := if_ff g_3 h
          refine Tri.skip ?_
          refine Nrm.seq ?_
          refine Tri.seq ?_
          refine Tri.reg (l := [0]) rfl ?_
          refine F.q rfl rfl rfl (wanted_none rfl) (r_assign rfl) ?_
          refine F.nil ?_
          refine Nrm.seq ?_
          refine Tri.seq ?_
          obtain ⟨⟨t48_1, t48_2, t48_3, t48_4⟩, h48, h⟩ := bind_some h
          refine Tri.reg (l := [0, 1, 2, 3]) rfl ?_
          refine F.q rfl rfl rfl (wanted_none rfl) (r_loadA ta51 ti51 rfl rfl (fun w hw => (box_cells (i := 3) rfl w hw))) ?_
          refine F.q rfl rfl rfl (wanted_none rfl) (r_move rfl) ?_
          refine F.ef rfl rfl rfl (wanted_none rfl) (d_callM (xs := _) (cs := [R.sl S26_1 v26_1 (t26_2 : List (Int × Int × Int)), R.sl S26_2 v26_2 (t26_3 : List (Int)), R.sl S26_3 v26_3 (t26_4 : List (Int))]) (rest := [R.sl S43_4 v43_4 (t43_2 : List (Int × Int × Int)), R.sl S43_5 v43_5 (t43_3 : List (Int)), R.sl S43_6 v43_6 (t43_4 : List (Int)), R.box b6_1 51 [.int .i64 t26_1, v26_1, v26_2, v26_3, .int .i64 t26_5], R.box b1_1 47 [.int .i64 a0_0, va0_1, va0_2, va0_3, .int .i64 a0_4], R.sl S22_1 v22_1 (t22_1 : List (Int)), R.sl S29_1 v29_1 (t29_1 : List (Int))]) [6, 7, 8] [0, 1, 2, 3, 4, 5, 9] rfl ok39 rfl rfl rfl rfl (fun w hw => laws_markVisit.ok h48 w hl_v26_1 hl_v26_2 hl_v26_3 (Sep.sub hw))) ?_
          rintro _ _ ⟨_, ⟨rfl, hl_t48_2, hl_t48_3, hl_t48_4, rfl⟩, rfl⟩
          refine F.q rfl rfl rfl (wanted_none rfl) (r_assign rfl) ?_
          refine F.nil ?_
          refine Nrm.seq ?_
          refine Tri.seq ?_
          refine Tri.seq ?_
          obtain ⟨y61, hE_2, h⟩ := bind_some h
          refine Tri.cut (fun e' C' => e' = [(1, .pointer (some ⟨b1_1, 0, none⟩)), (4, v22_1), (5, .bool t22_2), (7, v29_1), (61, .bool y61)] ∧ C' = Sep w noM [R.box b1_1 47 [.int .i64 a0_0, va0_1, va0_2, va0_3, .int .i64 a0_4], R.sl S22_1 v22_1 (t22_1 : List (Int)), R.sl S29_1 v29_1 (t29_1 : List (Int))]) ?_ (fun hj_2 => ?_)
          · rintro _ _ ⟨rfl, rfl⟩
            refine Nrm.seq ?_
            refine Tri.cond (b := y61) rfl (fun g_4 => ?_) (fun g_4 => ?_)
            · replace h := if_tt g_4 h
              refine Tri.seq ?_
              refine Tri.reg (l := [0]) rfl ?_
              refine F.q rfl rfl rfl (wanted_none rfl) (r_assign rfl) ?_
              refine F.nil ?_
              refine Nrm.seq ?_
              refine Tri.ret ?_
              refine Rtn.then ?_
              cases h
              exact Rtn.body (.tmp rfl .nil) (fun w hw => ⟨rfl, hw.ext⟩)
            · replace h := if_ff g_4 h
              refine Tri.skip ?_
              refine Nrm.seq ?_
              refine Tri.seq ?_
              refine Tri.reg (l := [0]) rfl ?_
              refine F.q rfl rfl rfl (wanted_none rfl) (r_assign rfl) ?_
              refine F.nil ?_
              refine Nrm.seq ?_
              refine Tri.seq ?_
              obtain ⟨⟨t64_1, t64_2⟩, h64, h⟩ := bind_some h
              refine Tri.reg (l := [0, 1, 2, 3]) rfl ?_
              refine F.q rfl rfl rfl (wanted_none rfl) (r_move rfl) ?_
              refine F.q rfl rfl rfl (wanted_none rfl) (r_move rfl) ?_
              refine F.ef rfl rfl rfl (wanted_none rfl) (d_callM (xs := _) (cs := [R.sl S29_1 v29_1 (t29_1 : List (Int))]) (rest := [R.box b1_1 47 [.int .i64 a0_0, va0_1, va0_2, va0_3, .int .i64 a0_4], R.sl S22_1 v22_1 (t22_1 : List (Int))]) [2] [0, 1] rfl ok22 rfl rfl rfl rfl (fun w hw => laws_markIntS.ok h64 w hl_v29_1 (Sep.sub hw))) ?_
              rintro _ _ ⟨_, ⟨rfl, hl_t64_2, rfl⟩, rfl⟩
              refine F.q rfl rfl rfl (wanted_none rfl) (r_assign rfl) ?_
              refine F.nil ?_
              refine Nrm.seq ?_
              refine Tri.seq ?_
              refine Tri.reg (l := [0]) rfl ?_
              refine F.q rfl rfl rfl (wanted_none rfl) (r_assign rfl) ?_
              refine F.nil ?_
              refine Nrm.seq ?_
              refine Tri.seq ?_
              obtain ⟨t67, h67, h⟩ := bind_some h
              refine Tri.reg (l := [0, 1, 2, 3]) rfl ?_
              refine F.q rfl rfl rfl (wanted_none rfl) (r_move rfl) ?_
              refine F.q rfl rfl rfl (wanted_none rfl) (r_move rfl) ?_
              refine F.qc rfl rfl rfl (wanted_none rfl) (q_callF (xs := _) rfl ok23 rfl rfl (fun w hw => laws_heldIntS.ok h67 w ((rd_sl (i := 0) rfl) w hw))) ?_
              refine F.q rfl rfl rfl (wanted_none rfl) (r_assign rfl) ?_
              refine F.nil ?_
              refine Nrm.seq ?_
              refine Tri.seq ?_
              refine Tri.seq ?_
              refine Tri.reg (l := [0, 1]) rfl ?_
              refine F.q rfl rfl rfl (wanted_none rfl) (r_move rfl) ?_
              refine F.q rfl rfl rfl (wanted_none rfl) (r_lss rfl rfl) ?_
              refine F.nil ?_
              refine Nrm.seq ?_
              refine Tri.cond (b := decide (t67 < 0)) rfl (fun g_5 => ?_) (fun g_5 => ?_)
              · replace h := if_tt g_5 h
                refine Tri.seq ?_
                refine Tri.reg (l := [0]) rfl ?_
                refine F.q rfl rfl rfl (wanted_none rfl) (r_assign rfl) ?_
                refine F.nil ?_
                refine Nrm.seq ?_
                refine Tri.ret ?_
                refine Rtn.then ?_
                cases h
                exact Rtn.body (.tmp rfl .nil) (fun w hw => ⟨rfl, hw.ext⟩)
              · replace h := if_ff g_5 h
                refine Tri.skip ?_
                refine Nrm.seq ?_
                refine Tri.seq ?_
                refine Tri.seq ?_
                refine Tri.reg (l := [0, 1, 2]) rfl ?_
                refine F.q rfl rfl rfl (wanted_none rfl) (r_move rfl) ?_
                refine F.q rfl rfl rfl (wanted_none rfl) (r_move rfl) ?_
                refine F.q rfl rfl rfl (wanted_none rfl) (r_neq rfl rfl) ?_
                refine F.nil ?_
                refine Nrm.seq ?_
                refine Tri.cond (b := t67 != t64_1) rfl (fun g_6 => ?_) (fun g_6 => ?_)
                · replace h := if_tt g_6 h
                  refine Tri.seq ?_
                  refine Tri.reg (l := [0]) rfl ?_
                  refine F.q rfl rfl rfl (wanted_none rfl) (r_assign rfl) ?_
                  refine F.nil ?_
                  refine Nrm.seq ?_
                  refine Tri.ret ?_
                  refine Rtn.then ?_
                  cases h
                  exact Rtn.body (.tmp rfl .nil) (fun w hw => ⟨rfl, hw.ext⟩)
                · replace h := if_ff g_6 h
                  refine Tri.skip ?_
                  refine Nrm.seq ?_
                  refine Tri.seq ?_
                  obtain ⟨⟨t75_1, t75_2, t75_3, t75_4, t75_5⟩, h75, h⟩ := bind_some h
                  obtain ⟨⟨t76_1, t76_2⟩, h76, h⟩ := bind_some h
                  refine Tri.reg (l := [0, 1, 2, 3, 4, 5, 6, 7]) rfl ?_
                  refine F.q rfl rfl rfl (wanted_none rfl) (r_loadA ta47 ti47 rfl rfl (fun w hw => (box_cells (i := 1) rfl w hw))) ?_
                  refine F.m rfl rfl rfl (wanted_none rfl) (m_callF (xs := _) rfl ok36 rfl rfl (fun w hw => laws_toVisit.ok h75 w ((fun _ hw => hr_a0_1.sep hw) w hw) ((fun _ hw => hr_a0_2.sep hw) w hw) ((fun _ hw => hr_a0_3.sep hw) w hw))) ?_
                  rintro _ _ ⟨_, ⟨v75_1, S75_1, v75_2, S75_2, v75_3, S75_3, rfl, hl_v75_1, hl_v75_2, hl_v75_3, rfl⟩, rfl⟩
                  refine F.m rfl rfl rfl (wanted_none rfl) (m_callF (xs := _) rfl ok37 rfl rfl (fun w hw => impl_NodesAhead.ok h76 w ((rd_sl (i := 0) rfl) w hw) ((rd_sl (i := 1) rfl) w hw) ((rd_sl (i := 2) rfl) w hw))) ?_
                  rintro _ _ ⟨_, ⟨v76_1, S76_1, rfl, hl_v76_1, rfl⟩, rfl⟩
                  refine F.q rfl rfl rfl (wanted_none rfl) (r_move rfl) ?_
                  refine F.q rfl rfl rfl (wanted_none rfl) (r_extract rfl rfl) ?_
                  refine F.q rfl rfl rfl (wanted_none rfl) (r_extract rfl rfl) ?_
                  refine F.q rfl rfl rfl (wanted_none rfl) (r_assign rfl) ?_
                  refine F.q rfl rfl rfl (wanted_none rfl) (r_assign rfl) ?_
                  refine F.nil ?_
                  refine Nrm.seq ?_
                  refine Tri.seq ?_
                  refine Tri.seq ?_
                  obtain ⟨y87, hE_3, h⟩ := bind_some h
                  refine Tri.cut (fun e' C' => e' = [(7, v29_1), (10, .int .i64 t64_1), (87, .bool y87)] ∧ C' = Sep w noM [R.sl S29_1 v29_1 (t64_2 : List (Int))]) ?_ (fun hj_3 => ?_)
                  · rintro _ _ ⟨rfl, rfl⟩
                    refine Nrm.seq ?_
                    refine Tri.cond (b := y87) rfl (fun g_7 => ?_) (fun g_7 => ?_)
                    · replace h := if_tt g_7 h
                      refine Tri.seq ?_
                      refine Tri.reg (l := [0]) rfl ?_
                      refine F.q rfl rfl rfl (wanted_none rfl) (r_assign rfl) ?_
                      refine F.nil ?_
                      refine Nrm.seq ?_
                      refine Tri.ret ?_
                      refine Rtn.then ?_
                      cases h
                      exact Rtn.body (.tmp rfl .nil) (fun w hw => ⟨rfl, hw.ext⟩)
                    · replace h := if_ff g_7 h
                      refine Tri.skip ?_
                      refine Nrm.seq ?_
                      refine Tri.seq ?_
                      refine Tri.reg (l := [0]) rfl ?_
                      refine F.q rfl rfl rfl (wanted_none rfl) (r_assign rfl) ?_
                      refine F.nil ?_
                      refine Nrm.seq ?_
                      refine Tri.seq ?_
                      obtain ⟨t90, h90, h⟩ := bind_some h
                      refine Tri.reg (l := [0, 1, 2, 3]) rfl ?_
                      refine F.q rfl rfl rfl (wanted_none rfl) (r_move rfl) ?_
                      refine F.q rfl rfl rfl (wanted_none rfl) (r_move rfl) ?_
                      refine F.qc rfl rfl rfl (wanted_none rfl) (q_callF (xs := _) rfl ok23 rfl rfl (fun w hw => laws_heldIntS.ok h90 w ((rd_sl (i := 0) rfl) w hw))) ?_
                      refine F.q rfl rfl rfl (wanted_none rfl) (r_assign rfl) ?_
                      refine F.nil ?_
                      refine Nrm.seq ?_
                      refine Tri.seq ?_
                      refine Tri.seq ?_
                      refine Tri.reg (l := [0, 1]) rfl ?_
                      refine F.q rfl rfl rfl (wanted_none rfl) (r_move rfl) ?_
                      refine F.q rfl rfl rfl (wanted_none rfl) (r_lss rfl rfl) ?_
                      refine F.nil ?_
                      refine Nrm.seq ?_
                      refine Tri.cond (b := decide (t90 < 0)) rfl (fun g_8 => ?_) (fun g_8 => ?_)
                      · replace h := if_tt g_8 h
                        refine Tri.seq ?_
                        refine Tri.reg (l := [0]) rfl ?_
                        refine F.q rfl rfl rfl (wanted_none rfl) (r_assign rfl) ?_
                        refine F.nil ?_
                        refine Nrm.seq ?_
                        refine Tri.ret ?_
                        refine Rtn.then ?_
                        cases h
                        exact Rtn.body (.tmp rfl .nil) (fun w hw => ⟨rfl, hw.ext⟩)
                      · replace h := if_ff g_8 h
                        refine Tri.skip ?_
                        refine Nrm.seq ?_
                        refine Tri.seq ?_
                        refine Tri.seq ?_
                        refine Tri.reg (l := [0, 1, 2]) rfl ?_
                        refine F.q rfl rfl rfl (wanted_none rfl) (r_move rfl) ?_
                        refine F.q rfl rfl rfl (wanted_none rfl) (r_move rfl) ?_
                        refine F.q rfl rfl rfl (wanted_none rfl) (r_neq rfl rfl) ?_
                        refine F.nil ?_
                        refine Nrm.seq ?_
                        refine Tri.cond (b := t90 != t64_1) rfl (fun g_9 => ?_) (fun g_9 => ?_)
                        · replace h := if_tt g_9 h
                          refine Tri.seq ?_
                          refine Tri.reg (l := [0]) rfl ?_
                          refine F.q rfl rfl rfl (wanted_none rfl) (r_assign rfl) ?_
                          refine F.nil ?_
                          refine Nrm.seq ?_
                          refine Tri.ret ?_
                          refine Rtn.then ?_
                          cases h
                          exact Rtn.body (.tmp rfl .nil) (fun w hw => ⟨rfl, hw.ext⟩)
                        · replace h := if_ff g_9 h
                          refine Tri.skip ?_
                          refine Nrm.seq ?_
                          refine Tri.seq ?_
                          refine Tri.reg (l := [0]) rfl ?_
                          refine F.q rfl rfl rfl (wanted_none rfl) (r_assign rfl) ?_
                          refine F.nil ?_
                          refine Nrm.seq ?_
                          refine Tri.ret ?_
                          cases h
                          exact Rtn.body (.tmp rfl .nil) (fun w hw => ⟨rfl, hw.ext⟩)
                  · obtain ⟨t81, h81, hE_3⟩ := bind_some hE_3
                    rcases Bool.eq_false_or_eq_true (!t81) with g83 | g83
                    · replace hE_3 := if_tt g83 hE_3
                      refine Tri.reg (l := [0, 1, 2, 3, 4, 5, 6, 7, 8]) rfl ?_
                      refine F.q rfl rfl rfl (wanted_none rfl) (r_move rfl) ?_
                      refine F.q rfl rfl rfl (wanted_none rfl) (r_move rfl) ?_
                      refine F.qc rfl rfl rfl (wanted_none rfl) (q_callF (xs := _) rfl ok19 rfl rfl (fun w hw => laws_eqIntS.ok h81 w ((rd_sl (i := 0) rfl) w hw) ((rd_sl (i := 6) rfl) w hw))) ?_
                      refine F.q rfl rfl rfl (wanted_none rfl) (r_not rfl) ?_
                      refine F.q rfl rfl rfl (wanted_none rfl) (r_move rfl) ?_
                      refine F.sk rfl rfl rfl (wf rfl rfl rfl g83) ?_
                      refine F.sk rfl rfl rfl (wf rfl rfl rfl g83) ?_
                      refine F.sk rfl rfl rfl (wf rfl rfl rfl g83) ?_
                      refine F.q rfl rfl rfl (wanted_none rfl) (r_pick rfl rfl g83) ?_
                      refine F.nil ?_
                      cases hE_3
                      refine Nrm.only [7, 10, 87] rfl ?_
                      refine Nrm.pick [4] rfl rfl ?_
                      exact hj_3 _ _ ⟨rfl, rfl⟩
                    · replace hE_3 := if_ff g83 hE_3
                      refine Tri.reg (l := [0, 1, 2, 3, 4, 5, 6, 7, 8]) rfl ?_
                      refine F.q rfl rfl rfl (wanted_none rfl) (r_move rfl) ?_
                      refine F.q rfl rfl rfl (wanted_none rfl) (r_move rfl) ?_
                      refine F.qc rfl rfl rfl (wanted_none rfl) (q_callF (xs := _) rfl ok19 rfl rfl (fun w hw => laws_eqIntS.ok h81 w ((rd_sl (i := 0) rfl) w hw) ((rd_sl (i := 6) rfl) w hw))) ?_
                      refine F.q rfl rfl rfl (wanted_none rfl) (r_not rfl) ?_
                      refine F.q rfl rfl rfl (wanted_none rfl) (r_move rfl) ?_
                      refine F.q rfl rfl rfl (wg rfl rfl rfl g83) (r_move rfl) ?_
                      refine F.q rfl rfl rfl (wg rfl rfl rfl g83) (r_move rfl) ?_
                      refine F.q rfl rfl rfl (wg rfl rfl rfl g83) (r_neqB Try.underlying4 rfl rfl) ?_
                      refine F.q rfl rfl rfl (wanted_none rfl) (r_pickf rfl rfl g83) ?_
                      refine F.nil ?_
                      cases hE_3
                      refine Nrm.only [7, 10, 87] rfl ?_
                      refine Nrm.pick [4] rfl rfl ?_
                      exact hj_3 _ _ ⟨rfl, rfl⟩
          · rcases Bool.eq_false_or_eq_true (decide (t48_1 < 0)) with g51 | g51
            · replace hE_2 := if_tt g51 hE_2
              refine Tri.reg (l := [0, 1, 2, 3, 4, 5, 6, 7, 8, 9, 10, 11, 12]) rfl ?_
              refine F.q rfl rfl rfl (wanted_none rfl) (r_move rfl) ?_
              refine F.q rfl rfl rfl (wanted_none rfl) (r_lss rfl rfl) ?_
              refine F.q rfl rfl rfl (wanted_none rfl) (r_move rfl) ?_
              refine F.sk rfl rfl rfl (wf rfl rfl rfl g51) ?_
              refine F.sk rfl rfl rfl (wf rfl rfl rfl g51) ?_
              refine F.sk rfl rfl rfl (wf rfl rfl rfl g51) ?_
              refine F.sk rfl rfl rfl (wf rfl rfl rfl g51) ?_
              refine F.q rfl rfl rfl (wanted_none rfl) (r_pick rfl rfl g51) ?_
              refine F.q rfl rfl rfl (wanted_none rfl) (r_move rfl) ?_
              refine F.sk rfl rfl rfl (wf rfl rfl rfl rfl) ?_
              refine F.sk rfl rfl rfl (wf rfl rfl rfl rfl) ?_
              refine F.sk rfl rfl rfl (wf rfl rfl rfl rfl) ?_
              refine F.q rfl rfl rfl (wanted_none rfl) (r_pick rfl rfl rfl) ?_
              refine F.nil ?_
              cases hE_2
              refine Nrm.only [1, 4, 5, 7, 61] rfl ?_
              refine Nrm.pick [7, 8, 9] rfl rfl ?_
              exact hj_2 _ _ ⟨rfl, rfl⟩
            · replace hE_2 := if_ff g51 hE_2
              obtain ⟨t54, h54, hE_2⟩ := bind_some hE_2
              rcases Bool.eq_false_or_eq_true (!t54) with g57 | g57
              · replace hE_2 := if_tt g57 hE_2
                refine Tri.reg (l := [0, 1, 2, 3, 4, 5, 6, 7, 8, 9, 10, 11, 12]) rfl ?_
                refine F.q rfl rfl rfl (wanted_none rfl) (r_move rfl) ?_
                refine F.q rfl rfl rfl (wanted_none rfl) (r_lss rfl rfl) ?_
                refine F.q rfl rfl rfl (wanted_none rfl) (r_move rfl) ?_
                refine F.q rfl rfl rfl (wg rfl rfl rfl g51) (r_move rfl) ?_
                refine F.q rfl rfl rfl (wg rfl rfl rfl g51) (r_move rfl) ?_
                refine F.qc rfl rfl rfl (wg rfl rfl rfl g51) (q_callF (xs := _) rfl ok19 rfl rfl (fun w hw => laws_eqIntS.ok h54 w ((rd_sl (i := 9) rfl) w hw) ((rd_sl (i := 8) rfl) w hw))) ?_
                refine F.q rfl rfl rfl (wg rfl rfl rfl g51) (r_not rfl) ?_
                refine F.q rfl rfl rfl (wanted_none rfl) (r_pickf rfl rfl g51) ?_
                refine F.q rfl rfl rfl (wanted_none rfl) (r_move rfl) ?_
                refine F.sk rfl rfl rfl (wf rfl rfl rfl g57) ?_
                refine F.sk rfl rfl rfl (wf rfl rfl rfl g57) ?_
                refine F.sk rfl rfl rfl (wf rfl rfl rfl g57) ?_
                refine F.q rfl rfl rfl (wanted_none rfl) (r_pick rfl rfl g57) ?_
                refine F.nil ?_
                cases hE_2
                refine Nrm.only [1, 4, 5, 7, 61] rfl ?_
                refine Nrm.pick [7, 8, 9] rfl rfl ?_
                exact hj_2 _ _ ⟨rfl, rfl⟩
              · replace hE_2 := if_ff g57 hE_2
                refine Tri.reg (l := [0, 1, 2, 3, 4, 5, 6, 7, 8, 9, 10, 11, 12]) rfl ?_
                refine F.q rfl rfl rfl (wanted_none rfl) (r_move rfl) ?_
                refine F.q rfl rfl rfl (wanted_none rfl) (r_lss rfl rfl) ?_
                refine F.q rfl rfl rfl (wanted_none rfl) (r_move rfl) ?_
                refine F.q rfl rfl rfl (wg rfl rfl rfl g51) (r_move rfl) ?_
                refine F.q rfl rfl rfl (wg rfl rfl rfl g51) (r_move rfl) ?_
                refine F.qc rfl rfl rfl (wg rfl rfl rfl g51) (q_callF (xs := _) rfl ok19 rfl rfl (fun w hw => laws_eqIntS.ok h54 w ((rd_sl (i := 9) rfl) w hw) ((rd_sl (i := 8) rfl) w hw))) ?_
                refine F.q rfl rfl rfl (wg rfl rfl rfl g51) (r_not rfl) ?_
                refine F.q rfl rfl rfl (wanted_none rfl) (r_pickf rfl rfl g51) ?_
                refine F.q rfl rfl rfl (wanted_none rfl) (r_move rfl) ?_
                refine F.q rfl rfl rfl (wg rfl rfl rfl g57) (r_move rfl) ?_
                refine F.q rfl rfl rfl (wg rfl rfl rfl g57) (r_move rfl) ?_
                refine F.q rfl rfl rfl (wg rfl rfl rfl g57) (r_neqB Try.underlying4 rfl rfl) ?_
                refine F.q rfl rfl rfl (wanted_none rfl) (r_pickf rfl rfl g57) ?_
                refine F.nil ?_
                cases hE_2
                refine Nrm.only [1, 4, 5, 7, 61] rfl ?_
                refine Nrm.pick [7, 8, 9] rfl rfl ?_
                exact hj_2 _ _ ⟨rfl, rfl⟩
    · obtain ⟨t34, h34, hE_1⟩ := bind_some hE_1
      rcases Bool.eq_false_or_eq_true (!t34) with g36 | g36
      · replace hE_1 := if_tt g36 hE_1
        refine Tri.reg (l := [0, 1, 2, 3, 4, 5, 6, 7, 8]) rfl ?_
        refine F.q rfl rfl rfl (wanted_none rfl) (r_move rfl) ?_
        refine F.q rfl rfl rfl (wanted_none rfl) (r_move rfl) ?_
        refine F.qc rfl rfl rfl (wanted_none rfl) (q_callF (xs := _) rfl ok19 rfl rfl (fun w hw => laws_eqIntS.ok h34 w ((rd_sl (i := 0) rfl) w hw) ((rd_sl (i := 5) rfl) w hw))) ?_
        refine F.q rfl rfl rfl (wanted_none rfl) (r_not rfl) ?_
        refine F.q rfl rfl rfl (wanted_none rfl) (r_move rfl) ?_
        refine F.sk rfl rfl rfl (wf rfl rfl rfl g36) ?_
        refine F.sk rfl rfl rfl (wf rfl rfl rfl g36) ?_
        refine F.sk rfl rfl rfl (wf rfl rfl rfl g36) ?_
        refine F.q rfl rfl rfl (wanted_none rfl) (r_pick rfl rfl g36) ?_
        refine F.nil ?_
        cases hE_1
        refine Nrm.only [1, 4, 5, 6, 7, 8, 40] rfl ?_
        refine Nrm.pick [1, 9, 5, 2, 3, 4, 0] rfl rfl ?_
        exact hj_1 _ _ ⟨rfl, rfl⟩
      · replace hE_1 := if_ff g36 hE_1
        refine Tri.reg (l := [0, 1, 2, 3, 4, 5, 6, 7, 8]) rfl ?_
        refine F.q rfl rfl rfl (wanted_none rfl) (r_move rfl) ?_
        refine F.q rfl rfl rfl (wanted_none rfl) (r_move rfl) ?_
        refine F.qc rfl rfl rfl (wanted_none rfl) (q_callF (xs := _) rfl ok19 rfl rfl (fun w hw => laws_eqIntS.ok h34 w ((rd_sl (i := 0) rfl) w hw) ((rd_sl (i := 5) rfl) w hw))) ?_
        refine F.q rfl rfl rfl (wanted_none rfl) (r_not rfl) ?_
        refine F.q rfl rfl rfl (wanted_none rfl) (r_move rfl) ?_
        refine F.q rfl rfl rfl (wg rfl rfl rfl g36) (r_move rfl) ?_
        refine F.q rfl rfl rfl (wg rfl rfl rfl g36) (r_move rfl) ?_
        refine F.q rfl rfl rfl (wg rfl rfl rfl g36) (r_neqB Try.underlying4 rfl rfl) ?_
        refine F.q rfl rfl rfl (wanted_none rfl) (r_pickf rfl rfl g36) ?_
        refine F.nil ?_
        cases hE_1
        refine Nrm.only [1, 4, 5, 6, 7, 8, 40] rfl ?_
        refine Nrm.pick [1, 9, 5, 2, 3, 4, 0] rfl rfl ?_
        exact hj_1 _ _ ⟨rfl, rfl⟩

end Go.Proofs
