/- A part of the proof of FnExactRequiredNodes: what the functions of the program compute, walked on the model. No condition. -/
import Derived.Test.YtefpihelkbmpjaaFnExactRequiredNodesD
/- loop.example/g01158/impl.won -/
namespace Go.Proofs
open Go Go.Ga
set_option linter.unusedVariables false
set_option maxRecDepth 100000
set_option maxHeartbeats 4000000
def impl_won.f (k : Nat) (a0_0 : Int) (a0_1 : List (Int × Int × Int)) (a0_2 : List Int) (a1 : Int) : Option (Bool) := ((impl_asked.f k a0_0 a0_1 a0_2 a1).bind fun t7 => (if t7 = true then (impl_canWin.f k a0_0 a0_1 a0_2 a1).bind fun t11 => some t11 else some false)).bind fun y4 => some y4

theorem impl_won.ok {k : Nat}  {a0_0 : Int} {a0_1 : List (Int × Int × Int)} {a0_2 : List Int} {a1 : Int} {r0 : Bool} (h : impl_won.f k a0_0 a0_1 a0_2 a1 = some r0) (w : World) {va0_1 : Value} {va0_2 : Value} (hr_a0_1 : Rd w va0_1 a0_1) (hr_a0_2 : Rd w va0_2 a0_2) :
    Calls Try.prog 77 ([.agg ([.int .i64 a0_0, va0_1, va0_2].toArray), .int .i64 a1] : List Value).toArray w (fun e w' => e = .returned (.bool r0) ∧ Ext w w') := by
  unfold impl_won.f at h
  have hl_va0_1 := hr_a0_1.len
  have hl_va0_2 := hr_a0_2.len
  refine Calls.of_tri (N := 13) Try.func77 rfl rfl rfl (Sep.nil (M := noM)) ?_
  refine Tri.seq ?_
  refine Tri.reg (l := [0, 1]) rfl ?_
  refine F.m rfl rfl rfl (wanted_none rfl) (m_boxG rfl rfl) ?_
  rintro _ _ ⟨b2_1, rfl, rfl⟩
  refine F.q rfl rfl rfl (wanted_none rfl) (r_assign rfl) ?_
  refine F.nil ?_
  refine Nrm.seq ?_
  refine Tri.seq ?_
  obtain ⟨y4, hE_1, h⟩ := bind_some h
  refine Tri.cut (fun e' C' => e' = [(4, .bool y4)] ∧ C' = Sep w noM []) ?_ (fun hj_1 => ?_)
  · rintro _ _ ⟨rfl, rfl⟩
    refine Nrm.seq ?_
    refine Tri.ret ?_
    cases h
    exact Rtn.body (.tmp rfl .nil) (fun w hw => ⟨rfl, hw.ext⟩)
  · obtain ⟨t7, h7, hE_1⟩ := bind_some hE_1
    rcases Bool.eq_false_or_eq_true (t7) with g8 | g8
    · replace hE_1 := if_tt g8 hE_1
      obtain ⟨t11, h11, hE_1⟩ := bind_some hE_1
      refine Tri.reg (l := [0, 1, 2, 3, 4, 5, 6, 7, 8]) rfl ?_
      refine F.q rfl rfl rfl (wanted_none rfl) (r_loadA ta31 ti31 rfl rfl (fun w hw => (box_cells (i := 0) rfl w hw))) ?_
      refine F.q rfl rfl rfl (wanted_none rfl) (r_move rfl) ?_
      refine F.qc rfl rfl rfl (wanted_none rfl) (q_callF (xs := _) rfl ok128 rfl rfl (fun w hw => impl_asked.ok h7 w ((fun _ hw => hr_a0_1.sep hw) w hw) ((fun _ hw => hr_a0_2.sep hw) w hw))) ?_
      refine F.q rfl rfl rfl (wanted_none rfl) (r_move rfl) ?_
      refine F.q rfl rfl rfl (wg rfl rfl rfl g8) (r_loadA ta31 ti31 rfl rfl (fun w hw => (box_cells (i := 0) rfl w hw))) ?_
      refine F.q rfl rfl rfl (wg rfl rfl rfl g8) (r_move rfl) ?_
      refine F.qc rfl rfl rfl (wg rfl rfl rfl g8) (q_callF (xs := _) rfl ok78 rfl rfl (fun w hw => impl_canWin.ok h11 w ((fun _ hw => hr_a0_1.sep hw) w hw) ((fun _ hw => hr_a0_2.sep hw) w hw))) ?_
      refine F.q rfl rfl rfl (wanted_none rfl) (r_pick rfl rfl g8) ?_
      refine F.q rfl rfl rfl (wanted_none rfl) (r_assign rfl) ?_
      refine F.nil ?_
      cases hE_1
      refine Nrm.only [4] rfl ?_
      refine Nrm.pick [] rfl rfl ?_
      exact hj_1 _ _ ⟨rfl, rfl⟩
    · replace hE_1 := if_ff g8 hE_1
      refine Tri.reg (l := [0, 1, 2, 3, 4, 5, 6, 7, 8]) rfl ?_
      refine F.q rfl rfl rfl (wanted_none rfl) (r_loadA ta31 ti31 rfl rfl (fun w hw => (box_cells (i := 0) rfl w hw))) ?_
      refine F.q rfl rfl rfl (wanted_none rfl) (r_move rfl) ?_
      refine F.qc rfl rfl rfl (wanted_none rfl) (q_callF (xs := _) rfl ok128 rfl rfl (fun w hw => impl_asked.ok h7 w ((fun _ hw => hr_a0_1.sep hw) w hw) ((fun _ hw => hr_a0_2.sep hw) w hw))) ?_
      refine F.q rfl rfl rfl (wanted_none rfl) (r_move rfl) ?_
      refine F.sk rfl rfl rfl (wf rfl rfl rfl g8) ?_
      refine F.sk rfl rfl rfl (wf rfl rfl rfl g8) ?_
      refine F.sk rfl rfl rfl (wf rfl rfl rfl g8) ?_
      refine F.q rfl rfl rfl (wanted_none rfl) (r_pickf rfl rfl g8) ?_
      refine F.q rfl rfl rfl (wanted_none rfl) (r_assign rfl) ?_
      refine F.nil ?_
      cases hE_1
      refine Nrm.only [4] rfl ?_
      refine Nrm.pick [] rfl rfl ?_
      exact hj_1 _ _ ⟨rfl, rfl⟩

end Go.Proofs

/- slices.Clone[[]int,int] -/

namespace Go.Proofs
open Go Go.Ga
set_option linter.unusedVariables false
set_option maxRecDepth 100000
set_option maxHeartbeats 4000000
def slices_Clone_int_int.f (k : Nat) (a0 : List Int) : Option ((List Int)) := if (([] : List (Int)) ++ a0).length < 1099511627776 then some (([] : List (Int)) ++ a0) else none

theorem slices_Clone_int_int.ok {k : Nat}  {a0 : List Int} {r0 : List Int} (h : slices_Clone_int_int.f k a0 = some r0) (w : World) {va0 : Value} (hr_a0 : Rd w va0 a0) :
    Calls Try.prog 108 ([va0] : List Value).toArray w (Post (fun u ns => ∃ (Sr0 : Nat → Prop), SlLen u r0.length ∧ ns = [R.sl Sr0 u r0]) w) := by
  unfold slices_Clone_int_int.f at h
  have hl_va0 := hr_a0.len
  rcases Rd.cases hr_a0 with ⟨rfl, rfl⟩ | ⟨pa0, ca0, rfl⟩
  · replace h : some [] = some r0 := by simpa using h
    refine Calls.of_tri (N := 8) Try.func108 rfl rfl rfl (Sep.nil (M := noM)) ?_
    refine Tri.seq ?_
    refine Tri.reg (l := [0]) rfl ?_
    refine F.q rfl rfl rfl (wanted_none rfl) (r_assign rfl) ?_
    refine F.nil ?_
    refine Nrm.seq ?_
    refine Tri.seq ?_
    refine Tri.seq ?_
    refine Tri.reg (l := [0, 1]) rfl ?_
    refine F.q rfl rfl rfl (wanted_none rfl) (r_move rfl) ?_
    refine F.q rfl rfl rfl (wanted_none rfl) (r_eqlNN Try.underlying23 rfl rfl) ?_
    refine F.nil ?_
    refine Nrm.seq ?_
    refine Tri.condT rfl rfl ?_
    refine Tri.seq ?_
    refine Tri.reg (l := [0]) rfl ?_
    refine F.q rfl rfl rfl (wanted_none rfl) (r_assign rfl) ?_
    refine F.nil ?_
    refine Nrm.seq ?_
    refine Tri.ret ?_
    refine Rtn.then ?_
    cases h
    exact Rtn.body (.tmp rfl .nil) (fun w hw => ⟨_, _, rfl, ⟨fun _ => False, len_nil, rfl⟩, Sep.pick (is := [0]) rfl rfl hw.pushNil⟩)
  · refine Calls.of_tri (N := 8) Try.func108 rfl rfl rfl (Sep.nil (M := noM)) ?_
    refine Tri.seq ?_
    refine Tri.reg (l := [0]) rfl ?_
    refine F.q rfl rfl rfl (wanted_none rfl) (r_assign rfl) ?_
    refine F.nil ?_
    refine Nrm.seq ?_
    refine Tri.seq ?_
    refine Tri.seq ?_
    refine Tri.reg (l := [0, 1]) rfl ?_
    refine F.q rfl rfl rfl (wanted_none rfl) (r_move rfl) ?_
    refine F.q rfl rfl rfl (wanted_none rfl) (r_eqlN Try.underlying23 rfl rfl ⟨_, _, rfl⟩) ?_
    refine F.nil ?_
    refine Nrm.seq ?_
    refine Tri.condF rfl rfl ?_
    refine Tri.skip ?_
    refine Nrm.seq ?_
    refine Tri.seq ?_
    obtain ⟨hs7, h⟩ := ck h
    refine Tri.reg (l := [0, 1, 2, 3]) rfl ?_
    refine F.m rfl rfl rfl (wanted_none rfl) (m_build0 (α := Int) Try.underlying23 ti3) ?_
    rintro v5_1 _ ⟨S5_1, hl_v5_1, rfl⟩
    refine F.q rfl rfl rfl (wanted_none rfl) (r_move rfl) ?_
    refine F.ef rfl rfl rfl (wanted_none rfl) (d_append (i := 0) Try.underlying23 Try.underlying23 ti3 rfl (by decide) rfl rfl rfl (fun _ hw => hr_a0.sep hw) hs7) ?_
    rintro v7_1 _ ⟨S7_1, rfl, hl_v7_1⟩
    refine F.q rfl rfl rfl (wanted_none rfl) (r_assign rfl) ?_
    refine F.nil ?_
    refine Nrm.seq ?_
    refine Tri.ret ?_
    cases h
    exact Rtn.body (.tmp rfl .nil) (fun w hw => ⟨_, _, rfl, ⟨S7_1, hl_v7_1, rfl⟩, Sep.pick (is := [0]) rfl rfl hw⟩)

end Go.Proofs

/- slices.Clone[[][3]int,[3]int] -/

namespace Go.Proofs
open Go Go.Ga
set_option linter.unusedVariables false
set_option maxRecDepth 100000
set_option maxHeartbeats 4000000
def slices_Clone__3int__3int.f (k : Nat) (a0 : List (Int × Int × Int)) : Option ((List (Int × Int × Int))) := if (([] : List (Int × Int × Int)) ++ a0).length < 1099511627776 then some (([] : List (Int × Int × Int)) ++ a0) else none

theorem slices_Clone__3int__3int.ok {k : Nat}  {a0 : List (Int × Int × Int)} {r0 : List (Int × Int × Int)} (h : slices_Clone__3int__3int.f k a0 = some r0) (w : World) {va0 : Value} (hr_a0 : Rd w va0 a0) :
    Calls Try.prog 147 ([va0] : List Value).toArray w (Post (fun u ns => ∃ (Sr0 : Nat → Prop), SlLen u r0.length ∧ ns = [R.sl Sr0 u r0]) w) := by
  unfold slices_Clone__3int__3int.f at h
  have hl_va0 := hr_a0.len
  rcases Rd.cases hr_a0 with ⟨rfl, rfl⟩ | ⟨pa0, ca0, rfl⟩
  · replace h : some [] = some r0 := by simpa using h
    refine Calls.of_tri (N := 8) Try.func147 rfl rfl rfl (Sep.nil (M := noM)) ?_
    refine Tri.seq ?_
    refine Tri.reg (l := [0]) rfl ?_
    refine F.q rfl rfl rfl (wanted_none rfl) (r_assign rfl) ?_
    refine F.nil ?_
    refine Nrm.seq ?_
    refine Tri.seq ?_
    refine Tri.seq ?_
    refine Tri.reg (l := [0, 1]) rfl ?_
    refine F.q rfl rfl rfl (wanted_none rfl) (r_move rfl) ?_
    refine F.q rfl rfl rfl (wanted_none rfl) (r_eqlNN Try.underlying22 rfl rfl) ?_
    refine F.nil ?_
    refine Nrm.seq ?_
    refine Tri.condT rfl rfl ?_
    refine Tri.seq ?_
    refine Tri.reg (l := [0]) rfl ?_
    refine F.q rfl rfl rfl (wanted_none rfl) (r_assign rfl) ?_
    refine F.nil ?_
    refine Nrm.seq ?_
    refine Tri.ret ?_
    refine Rtn.then ?_
    cases h
    exact Rtn.body (.tmp rfl .nil) (fun w hw => ⟨_, _, rfl, ⟨fun _ => False, len_nil, rfl⟩, Sep.pick (is := [0]) rfl rfl hw.pushNil⟩)
  · refine Calls.of_tri (N := 8) Try.func147 rfl rfl rfl (Sep.nil (M := noM)) ?_
    refine Tri.seq ?_
    refine Tri.reg (l := [0]) rfl ?_
    refine F.q rfl rfl rfl (wanted_none rfl) (r_assign rfl) ?_
    refine F.nil ?_
    refine Nrm.seq ?_
    refine Tri.seq ?_
    refine Tri.seq ?_
    refine Tri.reg (l := [0, 1]) rfl ?_
    refine F.q rfl rfl rfl (wanted_none rfl) (r_move rfl) ?_
    refine F.q rfl rfl rfl (wanted_none rfl) (r_eqlN Try.underlying22 rfl rfl ⟨_, _, rfl⟩) ?_
    refine F.nil ?_
    refine Nrm.seq ?_
    refine Tri.condF rfl rfl ?_
    refine Tri.skip ?_
    refine Nrm.seq ?_
    refine Tri.seq ?_
    obtain ⟨hs7, h⟩ := ck h
    refine Tri.reg (l := [0, 1, 2, 3]) rfl ?_
    refine F.m rfl rfl rfl (wanted_none rfl) (m_build0 (α := Int × Int × Int) Try.underlying22 ti130) ?_
    rintro v5_1 _ ⟨S5_1, hl_v5_1, rfl⟩
    refine F.q rfl rfl rfl (wanted_none rfl) (r_move rfl) ?_
    refine F.ef rfl rfl rfl (wanted_none rfl) (d_append (i := 0) Try.underlying22 Try.underlying22 ti130 rfl (by decide) rfl rfl rfl (fun _ hw => hr_a0.sep hw) hs7) ?_
    rintro v7_1 _ ⟨S7_1, rfl, hl_v7_1⟩
    refine F.q rfl rfl rfl (wanted_none rfl) (r_assign rfl) ?_
    refine F.nil ?_
    refine Nrm.seq ?_
    refine Tri.ret ?_
    cases h
    exact Rtn.body (.tmp rfl .nil) (fun w hw => ⟨_, _, rfl, ⟨S7_1, hl_v7_1, rfl⟩, Sep.pick (is := [0]) rfl rfl hw⟩)

end Go.Proofs

/- loop.example/g01158/impl.own -/
namespace Go.Proofs
open Go Go.Ga
set_option linter.unusedVariables false
set_option maxRecDepth 100000
set_option maxHeartbeats 4000000
def impl_own.f (k : Nat) (a0_0 : Int) (a0_1 : List (Int × Int × Int)) (a0_2 : List Int) : Option (Int × (List (Int × Int × Int)) × (List Int)) := (slices_Clone__3int__3int.f k a0_1).bind fun t7 => (slices_Clone_int_int.f k a0_2).bind fun t10 => some (a0_0, t7, t10)

theorem impl_own.ok {k : Nat}  {a0_0 : Int} {a0_1 : List (Int × Int × Int)} {a0_2 : List Int} {r0 : Int} {r1 : List (Int × Int × Int)} {r2 : List Int} (h : impl_own.f k a0_0 a0_1 a0_2 = some (r0, r1, r2)) (w : World) {va0_1 : Value} {va0_2 : Value} (hr_a0_1 : Rd w va0_1 a0_1) (hr_a0_2 : Rd w va0_2 a0_2) :
    Calls Try.prog 107 ([.agg ([.int .i64 a0_0, va0_1, va0_2].toArray)] : List Value).toArray w (Post (fun u ns => ∃ (ur1 : Value) (Sr1 : Nat → Prop) (ur2 : Value) (Sr2 : Nat → Prop), u = .agg [.int .i64 r0, ur1, ur2].toArray ∧ SlLen ur1 r1.length ∧ SlLen ur2 r2.length ∧ ns = [R.sl Sr1 ur1 r1, R.sl Sr2 ur2 r2]) w) := by
  unfold impl_own.f at h
  have hl_va0_1 := hr_a0_1.len
  have hl_va0_2 := hr_a0_2.len
  refine Calls.of_tri (N := 12) Try.func107 rfl rfl rfl (Sep.nil (M := noM)) ?_
  refine Tri.seq ?_
  refine Tri.reg (l := [0, 1]) rfl ?_
  refine F.m rfl rfl rfl (wanted_none rfl) (m_boxG rfl rfl) ?_
  rintro _ _ ⟨b1_1, rfl, rfl⟩
  refine F.m rfl rfl rfl (wanted_none rfl) (m_alloc ti31) ?_
  rintro _ _ ⟨b2_1, rfl, rfl⟩
  refine F.nil ?_
  refine Nrm.seq ?_
  refine Tri.seq ?_
  obtain ⟨t7, h7, h⟩ := bind_some h
  obtain ⟨t10, h10, h⟩ := bind_some h
  refine Tri.drawA mixedT Sep.up [(0, true), (1, true), (2, true), (3, true), (5, true), (6, true), (4, false), (7, false), (8, true)] [9] (by kernel_rfl) ?_
  refine S.q rfl rfl rfl (wanted_none rfl) (r_fieldAddr tf31_0 rfl) ?_
  refine S.q rfl rfl rfl (wanted_none rfl) (r_load ta3 rfl (fun w hw => cell_1 (box_cells (i := 1) rfl w hw) rfl)) ?_
  refine S.q rfl rfl rfl (wanted_none rfl) (r_fieldAddr tf31_1 rfl) ?_
  refine S.q rfl rfl rfl (wanted_none rfl) (r_load ta22 rfl (fun w hw => cell_1 (box_cells (i := 1) rfl w hw) rfl)) ?_
  refine S.q rfl rfl rfl (wanted_none rfl) (r_fieldAddr tf31_2 rfl) ?_
  refine S.q rfl rfl rfl (wanted_none rfl) (r_load ta23 rfl (fun w hw => cell_1 (box_cells (i := 1) rfl w hw) rfl)) ?_
  refine S.m rfl rfl rfl (wanted_none rfl) (m_callF (xs := _) rfl ok147 rfl rfl (fun w hw => slices_Clone__3int__3int.ok h7 w ((fun _ hw => hr_a0_1.sep hw) w hw))) ?_
  rintro v7_2 _ ⟨_, ⟨S7_2, hl_v7_2, rfl⟩, rfl⟩
  refine S.m rfl rfl rfl (wanted_none rfl) (m_callF (xs := _) rfl ok108 rfl rfl (fun w hw => slices_Clone_int_int.ok h10 w ((fun _ hw => hr_a0_2.sep hw) w hw))) ?_
  rintro v10_2 _ ⟨_, ⟨S10_2, hl_v10_2, rfl⟩, rfl⟩
  refine S.q rfl rfl rfl (wanted_none rfl) (r_build (pl := [(0, 1), (1, 1), (2, 1)]) (qs := [(0, [.int .i64 a0_0]), (1, [v7_2]), (2, [v10_2])]) (cs := [.int .i64 a0_0, v7_2, v10_2]) (by kernel_rfl) ti31 rfl (.cons rfl rfl (Nat.le_of_ble_eq_true rfl) (.cons (sl_cells hl_v7_2) rfl (Nat.le_of_ble_eq_true rfl) (.cons (sl_cells hl_v10_2) rfl (Nat.le_of_ble_eq_true rfl) .nil))) rfl rfl) ?_
  refine S.nil ?_
  refine F.ef0 rfl rfl (wanted_none rfl) (d_storeG0 (i := 2) (cs2 := [.int .i64 a0_0, v7_2, v10_2]) ti31 rfl rfl rfl rfl rfl (Nat.le_of_ble_eq_true rfl) (lf_cons rfl (lf_cons (sl_leaf hl_v7_2) (lf_cons (sl_leaf hl_v10_2) lf_nil)))) ?_
  rintro _ _ ⟨rfl, rfl⟩
  refine F.nil ?_
  refine Nrm.seq ?_
  refine Tri.ret ?_
  cases h
  exact Rtn.body (.cell rfl ta31 ti31 rfl (fun _ hw => box_cells (i := 2) rfl _ hw) .nil) (fun w hw => ⟨_, _, rfl, ⟨v7_2, S7_2, v10_2, S10_2, rfl, hl_v7_2, hl_v10_2, rfl⟩, Sep.pick (is := [1, 0]) rfl rfl hw⟩)

end Go.Proofs

/- slices.IndexFunc[[][3]int,[3]int] -/

namespace Go.Proofs
open Go Go.Ga
set_option linter.unusedVariables false
set_option maxRecDepth 100000
set_option maxHeartbeats 4000000
def slices_IndexFunc__3int__3int.l0 (k : Nat) (a0 : List (Int × Int × Int)) (a1 : (Int → Int → Int → Option (Bool))) : Nat → Int → Option ((Unit) ⊕ (Int))
  | 0, _ => none
  | n + 1, x8 => (if (decide (x8 < (a0.length : Int))) = true then (rdl a0 x8).bind fun t14 => (a1 t14.1 t14.2.1 t14.2.2).bind fun t16 => (if t16 = true then some (Sum.inr x8) else slices_IndexFunc__3int__3int.l0 k a0 a1 n (w64 (x8 + 1))) else some (Sum.inl ()))

def slices_IndexFunc__3int__3int.f (k : Nat) (a0 : List (Int × Int × Int)) (a1 : (Int → Int → Int → Option (Bool))) : Option (Int) := (slices_IndexFunc__3int__3int.l0 k a0 a1 k 0).bind fun s => Lr s some fun _ => some (-1)

theorem slices_IndexFunc__3int__3int.ok {k : Nat}  {a0 : List (Int × Int × Int)} {a1 : (Int → Int → Int → Option (Bool))} {r0 : Int} (h : slices_IndexFunc__3int__3int.f k a0 a1 = some r0) (w : World) {va0 : Value} (hr_a0 : Rd w va0 a0) {fi_a1 : FuncId} {ca_a1 : Array Value} (ho_a1 : CallOk Try.prog fi_a1) (hf_a1 : ∀ w2, Ext w w2 → ∀ (z0 : Int) (z1 : Int) (z2 : Int) (y : Bool), a1 z0 z1 z2 = some y → Calls Try.prog fi_a1 (([.agg [.int .i64 z0, .int .i64 z1, .int .i64 z2].toArray] : List Value) ++ ca_a1.toList).toArray w2 (fun e w3 => e = .returned (.bool y) ∧ Ext w2 w3)) :
    Calls Try.prog 158 ([va0, .func (.func fi_a1) #[] ca_a1] : List Value).toArray w (fun e w' => e = .returned (.int .i64 r0) ∧ Ext w w') := by
  unfold slices_IndexFunc__3int__3int.f at h
  have hl_va0 := hr_a0.len
  refine Calls.of_tri (N := 19) Try.func158 rfl rfl rfl (Sep.nil (M := noM)) ?_
  refine Tri.seq ?_
  refine Tri.reg (l := [0]) rfl ?_
  refine F.q rfl rfl rfl (wanted_none rfl) (r_assign rfl) ?_
  refine F.nil ?_
  refine Nrm.seq ?_
  refine Tri.seq ?_
  refine Tri.seq ?_
  refine Tri.reg (l := [0, 1, 2]) rfl ?_
  refine F.q rfl rfl rfl (wanted_none rfl) (r_move rfl) ?_
  refine F.q rfl rfl rfl (wanted_none rfl) (r_len Try.underlying22 rfl hl_va0) ?_
  refine F.q rfl rfl rfl (wanted_none rfl) (r_move rfl) ?_
  refine F.nil ?_
  refine Nrm.seq ?_
  obtain ⟨s0, hE_1, h⟩ := bind_some h
  refine Tri.block ?_
  refine Tri.only [0, 1, 7, 8] rfl ?_
  refine Tri.pick [] rfl rfl ?_
  refine Tri.rounds (fun n e' C' => ∃ (x8' : Int), slices_IndexFunc__3int__3int.l0 k a0 a1 n x8' = some s0 ∧ e' = [(0, va0), (1, .func (.func fi_a1) #[] ca_a1), (7, .int .i64 (a0.length : Int)), (8, .int .i64 x8')] ∧ C' = Sep w noM []) k ?_ ?_ ?_
  · exact ⟨0, hE_1, rfl, rfl⟩
  · rintro _ _ ⟨_, hE_1, _⟩
    rw [slices_IndexFunc__3int__3int.l0.eq_1] at hE_1; cases hE_1
  · rintro n_1 _ _ ⟨x8, hE_1, rfl, rfl⟩ ih_1
    rw [slices_IndexFunc__3int__3int.l0.eq_2] at hE_1
    refine Tri.seq ?_
    refine Tri.reg (l := [0]) rfl ?_
    refine F.q rfl rfl rfl (wanted_none rfl) (r_lss rfl rfl) ?_
    refine F.nil ?_
    refine Nrm.seq ?_
    refine Tri.seq ?_
    refine Tri.cond (b := decide (x8 < (a0.length : Int))) rfl (fun g_1 => ?_) (fun g_1 => ?_)
    · replace hE_1 := if_tt g_1 hE_1
      refine Tri.skip ?_
      refine Nrm.seq ?_
      refine Tri.seq ?_
      refine Tri.block ?_
      refine Tri.seq ?_
      refine Tri.reg (l := [0, 1]) rfl ?_
      refine F.q rfl rfl rfl (wanted_none rfl) (r_move rfl) ?_
      refine F.q rfl rfl rfl (wanted_none rfl) (r_assign rfl) ?_
      refine F.nil ?_
      refine Nrm.seq ?_
      refine Tri.seq ?_
      obtain ⟨t14, h14, hE_1⟩ := bind_some hE_1
      obtain ⟨t16, h16, hE_1⟩ := bind_some hE_1
      refine Tri.reg (l := [0, 1, 2, 3, 4, 5]) rfl ?_
      refine F.q rfl rfl rfl (wanted_none rfl) (r_move rfl) ?_
      refine F.q rfl rfl rfl (wanted_none rfl) (r_move rfl) ?_
      refine F.q rfl rfl rfl (wanted_none rfl) (r_move rfl) ?_
      refine F.q rfl rfl rfl (wanted_none rfl) (r_indexAddrS Try.underlying22 ti130 rfl hl_va0 rfl (rdl_some h14).1 (rdl_some h14).2.1) ?_
      refine F.q rfl rfl rfl (wanted_none rfl) (r_loadA ta130 ti130 rfl rfl (fun w hw => (Rd.flat ((fun _ hw => hr_a0.sep hw) w hw) (rdl_some h14).2.2))) ?_
      refine F.qc rfl rfl rfl (wanted_none rfl) (q_callC (xs := _) rfl ho_a1 rfl rfl (fun w hw => hf_a1 w hw.ext _ _ _  _ h16)) ?_
      refine F.nil ?_
      refine Nrm.seq ?_
      refine Tri.cond (b := t16) rfl (fun g_2 => ?_) (fun g_2 => ?_)
      · replace hE_1 := if_tt g_2 hE_1
        refine Tri.seq ?_
        refine Tri.reg (l := [0, 1]) rfl ?_
        refine F.q rfl rfl rfl (wanted_none rfl) (r_move rfl) ?_
        refine F.q rfl rfl rfl (wanted_none rfl) (r_assign rfl) ?_
        refine F.nil ?_
        refine Nrm.seq ?_
        refine Tri.ret ?_
        refine Rtn.block ?_
        refine Rtn.then ?_
        refine Rtn.then ?_
        refine Rtn.block ?_
        refine Rtn.then ?_
        cases hE_1
        replace h := Lr_inr h
        cases h
        exact Rtn.body (.tmp rfl .nil) (fun w hw => ⟨rfl, hw.ext⟩)
      · replace hE_1 := if_ff g_2 hE_1
        refine Tri.skip ?_
        refine Nrm.block ?_
        refine Nrm.seq ?_
        refine Tri.reg (l := [0, 1]) rfl ?_
        refine F.q rfl rfl rfl (wanted_none rfl) (r_add rfl rfl) ?_
        refine F.q rfl rfl rfl (wanted_none rfl) (r_move rfl) ?_
        refine F.nil ?_
        refine Nrm.round ?_
        refine Rnd.only [0, 1, 7, 8] rfl ?_
        refine Rnd.pick [] rfl rfl ?_
        exact ih_1 _ _ ⟨w64 (x8 + 1), hE_1, rfl, rfl⟩
    · replace hE_1 := if_ff g_1 hE_1
      refine Tri.exit ?_
      refine Exi.then ?_
      refine Exi.then ?_
      refine Exi.same ?_
      cases hE_1
      replace h := Lr_inl h
      refine Nrm.seq ?_
      refine Tri.seq ?_
      refine Tri.reg (l := [0]) rfl ?_
      refine F.q rfl rfl rfl (wanted_none rfl) (r_assign rfl) ?_
      refine F.nil ?_
      refine Nrm.seq ?_
      refine Tri.ret ?_
      cases h
      exact Rtn.body (.tmp rfl .nil) (fun w hw => ⟨rfl, hw.ext⟩)

end Go.Proofs

/- slices.DeleteFunc[[][3]int,[3]int] -/
namespace Go.Proofs
open Go Go.Ga
set_option linter.unusedVariables false
set_option maxRecDepth 100000
set_option maxHeartbeats 4000000
def slices_DeleteFunc__3int__3int.l0 (k : Nat) (a1 : (Int → Int → Int → Option (Bool))) : Nat → (List (Int × Int × Int)) → Int → Int → Option ((List (Int × Int × Int)) × Int)
  | 0, _, _, _ => none
  | n + 1, x0, x5, x6 => (if (decide (x6 < (x0.length : Int))) = true then (rdl x0 x6).bind fun t24 => (a1 t24.1 t24.2.1 t24.2.2).bind fun t28 => ((if (!t28) = true then (rdl x0 x5).bind fun t33 => some (x0.set x5.toNat t24, w64 (x5 + 1)) else some (x0, x5))).bind fun (y0, y5) => slices_DeleteFunc__3int__3int.l0 k a1 n y0 y5 (w64 (x6 + 1)) else some (x0, x5))

def slices_DeleteFunc__3int__3int.f (k : Nat) (a0 : List (Int × Int × Int)) (a1 : (Int → Int → Int → Option (Bool))) : Option ((List (Int × Int × Int))) := (slices_IndexFunc__3int__3int.f k a0 a1).bind fun t10 => (if (t10 == (-1)) = true then some a0 else (slices_DeleteFunc__3int__3int.l0 k a1 k a0 t10 (w64 (t10 + 1))).bind fun (x0, x5) => (slc x0 x5 (x0.length : Int)).bind fun t38 => (slc (x0.take (x5 : Int).toNat ++ List.replicate (((x0.length : Int) : Int).toNat - (x5 : Int).toNat) ((0, 0, 0) : Int × Int × Int) ++ x0.drop ((x0.length : Int) : Int).toNat) 0 x5).bind fun t41 => some t41)

theorem slices_DeleteFunc__3int__3int.ok {k : Nat}  {a0 : List (Int × Int × Int)} {a1 : (Int → Int → Int → Option (Bool))} {r0 : List (Int × Int × Int)} (h : slices_DeleteFunc__3int__3int.f k a0 a1 = some r0) (w : World) {va0 : Value} {Sa0 : Nat → Prop} (hl_va0 : SlLen va0 a0.length) {fi_a1 : FuncId} {ca_a1 : Array Value} (ho_a1 : CallOk Try.prog fi_a1) (hf_a1 : ∀ w2, Kp (footM [R.sl Sa0 va0 a0]) w w2 → ∀ (z0 : Int) (z1 : Int) (z2 : Int) (y : Bool), a1 z0 z1 z2 = some y → Calls Try.prog fi_a1 (([.agg [.int .i64 z0, .int .i64 z1, .int .i64 z2].toArray] : List Value) ++ ca_a1.toList).toArray w2 (fun e w3 => e = .returned (.bool y) ∧ Ext w2 w3)) (hw0 : Sep w (footM [R.sl Sa0 va0 a0]) [R.sl Sa0 va0 a0] w) :
    Calls Try.prog 132 ([va0, .func (.func fi_a1) #[] ca_a1] : List Value).toArray w (PostM (footM [R.sl Sa0 va0 a0]) (fun u ns => ∃ (Sr0 : Nat → Prop), SlLen u r0.length ∧ ns = [R.sl Sr0 u r0]) w) := by
  unfold slices_DeleteFunc__3int__3int.f at h
  refine Calls.of_tri (N := 42) Try.func132 rfl rfl rfl hw0 ?_
  refine Tri.seq ?_
  refine Tri.reg (l := [0]) rfl ?_
  refine F.q rfl rfl rfl (wanted_none rfl) (r_assign rfl) ?_
  refine F.nil ?_
  refine Nrm.seq ?_
  refine Tri.seq ?_
  obtain ⟨t10, h10, h⟩ := bind_some h
  refine Tri.reg (l := [0, 1, 2, 3]) rfl ?_
  refine F.q rfl rfl rfl (wanted_none rfl) (r_move rfl) ?_
  refine F.q rfl rfl rfl (wanted_none rfl) (r_move rfl) ?_
  refine F.qc rfl rfl rfl (wanted_none rfl) (q_callF (xs := _) rfl ok158 rfl rfl (fun w hw => slices_IndexFunc__3int__3int.ok h10 w ((rd_sl (i := 0) rfl) w hw) ho_a1 (fun w2 he2 => hf_a1 w2 (hw.kp.trans (he2.kp _))))) ?_
  refine F.q rfl rfl rfl (wanted_none rfl) (r_assign rfl) ?_
  refine F.nil ?_
  refine Nrm.seq ?_
  refine Tri.seq ?_
  refine Tri.seq ?_
  refine Tri.reg (l := [0, 1]) rfl ?_
  refine F.q rfl rfl rfl (wanted_none rfl) (r_move rfl) ?_
  refine F.q rfl rfl rfl (wanted_none rfl) (r_eql rfl rfl) ?_
  refine F.nil ?_
  refine Nrm.seq ?_
  refine Tri.cond (b := t10 == (-1)) rfl (fun g_1 => ?_) (fun g_1 => ?_)
  · replace h := if_tt g_1 h
    refine Tri.seq ?_
    refine Tri.reg (l := [0, 1]) rfl ?_
    refine F.q rfl rfl rfl (wanted_none rfl) (r_move rfl) ?_
    refine F.q rfl rfl rfl (wanted_none rfl) (r_assign rfl) ?_
    refine F.nil ?_
    refine Nrm.seq ?_
    refine Tri.ret ?_
    refine Rtn.then ?_
    cases h
    exact Rtn.body (.tmp rfl .nil) (fun w hw => ⟨_, _, rfl, ⟨Sa0, hl_va0, rfl⟩, Sep.pick (is := [0]) rfl rfl hw⟩)
  · replace h := if_ff g_1 h
    refine Tri.skip ?_
    refine Nrm.seq ?_
    refine Tri.seq ?_
    refine Tri.seq ?_
    refine Tri.reg (l := [0, 1, 2]) rfl ?_
    refine F.q rfl rfl rfl (wanted_none rfl) (r_move rfl) ?_
    refine F.q rfl rfl rfl (wanted_none rfl) (r_add rfl rfl) ?_
    refine F.q rfl rfl rfl (wanted_none rfl) (r_assign rfl) ?_
    refine F.nil ?_
    refine Nrm.seq ?_
    obtain ⟨⟨x0, x5⟩, hE_1, h⟩ := bind_some h
    refine Tri.block ?_
    refine Tri.only [0, 1, 5, 6] rfl ?_
    refine Tri.pick [0] rfl rfl ?_
    refine Tri.rounds (fun n e' C' => ∃ (x0' : List (Int × Int × Int)) (x5' : Int) (x6' : Int) (w0 : Value) (T0 : Nat → Prop), slices_DeleteFunc__3int__3int.l0 k a1 n x0' x5' x6' = some (x0, x5) ∧ SlLen w0 (x0').length ∧ e' = [(0, w0), (1, .func (.func fi_a1) #[] ca_a1), (5, .int .i64 x5'), (6, .int .i64 x6')] ∧ C' = Sep w (footM [R.sl Sa0 va0 a0]) [R.sl T0 w0 (x0' : List (Int × Int × Int))]) k ?_ ?_ ?_
    · exact ⟨a0, t10, w64 (t10 + 1), va0, Sa0, hE_1, hl_va0, rfl, rfl⟩
    · rintro _ _ ⟨_, _, _, _, _, hE_1, _⟩
      rw [slices_DeleteFunc__3int__3int.l0.eq_1] at hE_1; cases hE_1
    · rintro n_1 _ _ ⟨x0, x5, x6, w0, T0, hE_1, hl_w0, rfl, rfl⟩ ih_1
      rw [slices_DeleteFunc__3int__3int.l0.eq_2] at hE_1
      refine Tri.seq ?_
      refine Tri.seq ?_
      refine Tri.reg (l := [0, 1, 2, 3]) rfl ?_
      refine F.q rfl rfl rfl (wanted_none rfl) (r_move rfl) ?_
      refine F.q rfl rfl rfl (wanted_none rfl) (r_move rfl) ?_
      refine F.q rfl rfl rfl (wanted_none rfl) (r_len Try.underlying22 rfl hl_w0) ?_
      refine F.q rfl rfl rfl (wanted_none rfl) (r_lss rfl rfl) ?_
      refine F.nil ?_
      refine Nrm.seq ?_
      refine Tri.cond (b := decide (x6 < (x0.length : Int))) rfl (fun g_2 => ?_) (fun g_2 => ?_)
      · replace hE_1 := if_tt g_2 hE_1
        refine Tri.skip ?_
        refine Nrm.seq ?_
        refine Tri.seq ?_
        refine Tri.block ?_
        refine Tri.seq ?_
        obtain ⟨t24, h24, hE_1⟩ := bind_some hE_1
        refine Tri.reg (l := [0, 1, 2, 3, 4, 5]) rfl ?_
        refine F.q rfl rfl rfl (wanted_none rfl) (r_move rfl) ?_
        refine F.q rfl rfl rfl (wanted_none rfl) (r_move rfl) ?_
        refine F.q rfl rfl rfl (wanted_none rfl) (r_indexAddrS Try.underlying22 ti130 rfl hl_w0 rfl (rdl_some h24).1 (rdl_some h24).2.1) ?_
        refine F.q rfl rfl rfl (wanted_none rfl) (r_loadA ta130 ti130 rfl rfl (fun w hw => (Rd.flat ((rd_sl (i := 0) rfl) w hw) (rdl_some h24).2.2))) ?_
        refine F.m rfl rfl rfl (wanted_none rfl) (m_alloc ti130) ?_
        rintro _ _ ⟨b7_1, rfl, rfl⟩
        refine F.ef0 rfl rfl (wanted_none rfl) (d_storeG0 (i := 0) (cs2 := [.int .i64 t24.1, .int .i64 t24.2.1, .int .i64 t24.2.2]) ti130 rfl rfl rfl rfl rfl (Nat.le_of_ble_eq_true rfl) (lf_cons rfl (lf_cons rfl (lf_cons rfl lf_nil)))) ?_
        rintro _ _ ⟨rfl, rfl⟩
        refine F.nil ?_
        refine Nrm.seq ?_
        refine Tri.seq ?_
        obtain ⟨t28, h28, hE_1⟩ := bind_some hE_1
        refine Tri.reg (l := [0, 1, 2, 3]) rfl ?_
        refine F.q rfl rfl rfl (wanted_none rfl) (r_move rfl) ?_
        refine F.q rfl rfl rfl (wanted_none rfl) (r_loadA ta130 ti130 rfl rfl (fun w hw => (box_cells (i := 0) rfl w hw))) ?_
        refine F.qc rfl rfl rfl (wanted_none rfl) (q_callC (xs := _) rfl ho_a1 rfl rfl (fun w hw => hf_a1 w hw.kp _ _ _  _ h28)) ?_
        refine F.q rfl rfl rfl (wanted_none rfl) (r_not rfl) ?_
        refine F.nil ?_
        refine Nrm.seq ?_
        obtain ⟨⟨y0, y5⟩, hE_2, hE_1⟩ := bind_some hE_1
        refine Tri.cut (fun e' C' => ∃ (v0_1 : Value) (S0_1 : Nat → Prop), SlLen v0_1 (y0).length ∧ e' = [(0, v0_1), (1, .func (.func fi_a1) #[] ca_a1), (5, .int .i64 y5), (6, .int .i64 x6)] ∧ C' = Sep w (footM [R.sl Sa0 va0 a0]) [R.sl S0_1 v0_1 (y0 : List (Int × Int × Int))]) ?_ (fun hj_1 => ?_)
        · rintro _ _ ⟨v0_1, S0_1, hl_v0_1, rfl, rfl⟩
          refine Nrm.block ?_
          refine Nrm.seq ?_
          refine Tri.reg (l := [0, 1, 2]) rfl ?_
          refine F.q rfl rfl rfl (wanted_none rfl) (r_move rfl) ?_
          refine F.q rfl rfl rfl (wanted_none rfl) (r_add rfl rfl) ?_
          refine F.q rfl rfl rfl (wanted_none rfl) (r_assign rfl) ?_
          refine F.nil ?_
          refine Nrm.round ?_
          refine Rnd.only [0, 1, 5, 6] rfl ?_
          refine Rnd.pick [0] rfl rfl ?_
          exact ih_1 _ _ ⟨y0, y5, w64 (x6 + 1), v0_1, S0_1, hE_1, hl_v0_1, rfl, rfl⟩
        · refine Tri.cond (b := !t28) rfl (fun g_3 => ?_) (fun g_3 => ?_)
          · replace hE_2 := if_tt g_3 hE_2
            refine Tri.seq ?_
            obtain ⟨t33, h33, hE_2⟩ := bind_some hE_2
            refine Tri.reg (l := [0, 1, 2, 3, 4]) rfl ?_
            refine F.q rfl rfl rfl (wanted_none rfl) (r_move rfl) ?_
            refine F.q rfl rfl rfl (wanted_none rfl) (r_move rfl) ?_
            refine F.q rfl rfl rfl (wanted_none rfl) (r_loadA ta130 ti130 rfl rfl (fun w hw => (box_cells (i := 0) rfl w hw))) ?_
            refine F.q rfl rfl rfl (wanted_none rfl) (r_indexAddrS Try.underlying22 ti130 rfl hl_w0 rfl (rdl_some h33).1 (rdl_some h33).2.1) ?_
            refine F.ef0 rfl rfl (wanted_none rfl) (d_storeE (i := 1) (x1 := t24) ti130 rfl rfl rfl (rdl_some h33) rfl) ?_
            rintro _ _ ⟨rfl, rfl⟩
            refine F.nil ?_
            refine Nrm.seq ?_
            refine Tri.reg (l := [0, 1, 2]) rfl ?_
            refine F.q rfl rfl rfl (wanted_none rfl) (r_move rfl) ?_
            refine F.q rfl rfl rfl (wanted_none rfl) (r_add rfl rfl) ?_
            refine F.q rfl rfl rfl (wanted_none rfl) (r_assign rfl) ?_
            refine F.nil ?_
            cases hE_2
            refine Nrm.only [0, 1, 5, 6] rfl ?_
            refine Nrm.pick [1] rfl rfl ?_
            exact hj_1 _ _ ⟨w0, T0, (len_set hl_w0), rfl, rfl⟩
          · replace hE_2 := if_ff g_3 hE_2
            refine Tri.skip ?_
            cases hE_2
            refine Nrm.only [0, 1, 5, 6] rfl ?_
            refine Nrm.pick [1] rfl rfl ?_
            exact hj_1 _ _ ⟨w0, T0, hl_w0, rfl, rfl⟩
      · replace hE_1 := if_ff g_2 hE_1
        refine Tri.exit ?_
        refine Exi.then ?_
        refine Exi.then ?_
        refine Exi.same ?_
        cases hE_1
        refine Nrm.seq ?_
        refine Tri.seq ?_
        obtain ⟨t38, h38, h⟩ := bind_some h
        refine Tri.reg (l := [0, 1, 2, 3]) rfl ?_
        refine F.q rfl rfl rfl (wanted_none rfl) (r_move rfl) ?_
        refine F.q rfl rfl rfl (wanted_none rfl) (r_move rfl) ?_
        refine F.q rfl rfl rfl (wanted_none rfl) (r_sliceL Try.underlying22 ti130 rfl (rd_sl (i := 0) rfl) rfl h38) ?_
        refine F.ef0 rfl rfl (wanted_none rfl) (d_clear (i := 0) (x0 := ((0, 0, 0) : Int × Int × Int)) Try.underlying22 ti130 rfl rfl rfl h38) ?_
        rintro _ _ rfl
        refine F.nil ?_
        refine Nrm.seq ?_
        refine Tri.seq ?_
        obtain ⟨t41, h41, h⟩ := bind_some h
        refine Tri.reg (l := [0, 1, 2, 3]) rfl ?_
        refine F.q rfl rfl rfl (wanted_none rfl) (r_move rfl) ?_
        refine F.q rfl rfl rfl (wanted_none rfl) (r_move rfl) ?_
        refine F.q rfl rfl rfl (wanted_none rfl) (r_sliceH Try.underlying22 ti130 rfl (rd_sl (i := 0) rfl) rfl h41) ?_
        refine F.q rfl rfl rfl (wanted_none rfl) (r_assign rfl) ?_
        refine F.nil ?_
        refine Nrm.imp (fun w hw => Sep.resl (i := 0) rfl h41 hw) ?_
        refine Nrm.seq ?_
        refine Tri.ret ?_
        cases h
        exact Rtn.body (.tmp rfl .nil) (fun w hw => ⟨_, _, rfl, ⟨T0, (slc_len (clr_len hl_w0 (slc_b h38).1 (slc_b h38).2) h41), rfl⟩, Sep.pick (is := [0]) rfl rfl hw⟩)

end Go.Proofs

/- loop.example/g01158/impl.withoutNode$1 -/

namespace Go.Proofs
open Go Go.Ga
set_option linter.unusedVariables false
set_option maxRecDepth 100000
set_option maxHeartbeats 4000000
def impl_withoutNode_1.f (k : Nat) (a0_0 : Int) (a0_1 : Int) (a0_2 : Int) (c0 : Int) : Option (Bool) := ((if (a0_0 == c0) = true then some true else some (a0_1 == c0))).bind fun y3 => some y3

theorem impl_withoutNode_1.ok {k : Nat} {pc0 : Addr} {a0_0 : Int} {a0_1 : Int} {a0_2 : Int} {c0 : Int} {r0 : Bool} (h : impl_withoutNode_1.f k a0_0 a0_1 a0_2 c0 = some r0) (w : World) (hb_c0 : CellsAt w pc0 [.int .i64 c0]) :
    Calls Try.prog 133 ([.agg ([.int .i64 a0_0, .int .i64 a0_1, .int .i64 a0_2].toArray), .pointer (some pc0)] : List Value).toArray w (fun e w' => e = .returned (.bool r0) ∧ Ext w w') := by
  unfold impl_withoutNode_1.f at h
  refine Calls.of_tri (N := 14) Try.func133 rfl rfl rfl (Sep.nil (M := noM)) ?_
  refine Tri.seq ?_
  refine Tri.reg (l := [0, 1]) rfl ?_
  refine F.m rfl rfl rfl (wanted_none rfl) (m_boxG rfl rfl) ?_
  rintro _ _ ⟨b2_1, rfl, rfl⟩
  refine F.q rfl rfl rfl (wanted_none rfl) (r_assign rfl) ?_
  refine F.nil ?_
  refine Nrm.seq ?_
  refine Tri.seq ?_
  obtain ⟨y3, hE_1, h⟩ := bind_some h
  refine Tri.cut (fun e' C' => e' = [(3, .bool y3)] ∧ C' = Sep w noM []) ?_ (fun hj_1 => ?_)
  · rintro _ _ ⟨rfl, rfl⟩
    refine Nrm.seq ?_
    refine Tri.ret ?_
    cases h
    exact Rtn.body (.tmp rfl .nil) (fun w hw => ⟨rfl, hw.ext⟩)
  · rcases Bool.eq_false_or_eq_true (a0_0 == c0) with g8 | g8
    · replace hE_1 := if_tt g8 hE_1
      refine Tri.reg (l := [0, 1, 2, 3, 4, 5, 6, 7, 8, 9, 10]) rfl ?_
      refine F.q rfl rfl rfl (wanted_none rfl) (r_indexAddrA Try.underlying130 ti3 rfl rfl (by decide) (by decide)) ?_
      refine F.q rfl rfl rfl (wanted_none rfl) (r_load ta3 rfl (fun w hw => cell_1 (box_cells (i := 0) rfl w hw) rfl)) ?_
      refine F.q rfl rfl rfl (wanted_none rfl) (r_load ta3 rfl (fun w hw => cell_0 (hb_c0.sep hw) rfl)) ?_
      refine F.q rfl rfl rfl (wanted_none rfl) (r_eql rfl rfl) ?_
      refine F.q rfl rfl rfl (wanted_none rfl) (r_move rfl) ?_
      refine F.sk rfl rfl rfl (wf rfl rfl rfl g8) ?_
      refine F.sk rfl rfl rfl (wf rfl rfl rfl g8) ?_
      refine F.sk rfl rfl rfl (wf rfl rfl rfl g8) ?_
      refine F.sk rfl rfl rfl (wf rfl rfl rfl g8) ?_
      refine F.q rfl rfl rfl (wanted_none rfl) (r_pick rfl rfl g8) ?_
      refine F.q rfl rfl rfl (wanted_none rfl) (r_assign rfl) ?_
      refine F.nil ?_
      cases hE_1
      refine Nrm.only [3] rfl ?_
      refine Nrm.pick [] rfl rfl ?_
      exact hj_1 _ _ ⟨rfl, rfl⟩
    · replace hE_1 := if_ff g8 hE_1
      refine Tri.reg (l := [0, 1, 2, 3, 4, 5, 6, 7, 8, 9, 10]) rfl ?_
      refine F.q rfl rfl rfl (wanted_none rfl) (r_indexAddrA Try.underlying130 ti3 rfl rfl (by decide) (by decide)) ?_
      refine F.q rfl rfl rfl (wanted_none rfl) (r_load ta3 rfl (fun w hw => cell_1 (box_cells (i := 0) rfl w hw) rfl)) ?_
      refine F.q rfl rfl rfl (wanted_none rfl) (r_load ta3 rfl (fun w hw => cell_0 (hb_c0.sep hw) rfl)) ?_
      refine F.q rfl rfl rfl (wanted_none rfl) (r_eql rfl rfl) ?_
      refine F.q rfl rfl rfl (wanted_none rfl) (r_move rfl) ?_
      refine F.q rfl rfl rfl (wg rfl rfl rfl g8) (r_indexAddrA Try.underlying130 ti3 rfl rfl (by decide) (by decide)) ?_
      refine F.q rfl rfl rfl (wg rfl rfl rfl g8) (r_load ta3 rfl (fun w hw => cell_1 (box_cells (i := 0) rfl w hw) rfl)) ?_
      refine F.q rfl rfl rfl (wg rfl rfl rfl g8) (r_load ta3 rfl (fun w hw => cell_0 (hb_c0.sep hw) rfl)) ?_
      refine F.q rfl rfl rfl (wg rfl rfl rfl g8) (r_eql rfl rfl) ?_
      refine F.q rfl rfl rfl (wanted_none rfl) (r_pickf rfl rfl g8) ?_
      refine F.q rfl rfl rfl (wanted_none rfl) (r_assign rfl) ?_
      refine F.nil ?_
      cases hE_1
      refine Nrm.only [3] rfl ?_
      refine Nrm.pick [] rfl rfl ?_
      exact hj_1 _ _ ⟨rfl, rfl⟩

end Go.Proofs

/- loop.example/g01158/impl.withoutNode -/
namespace Go.Proofs
open Go Go.Ga
set_option linter.unusedVariables false
set_option maxRecDepth 100000
set_option maxHeartbeats 4000000
def impl_withoutNode.f (k : Nat) (a0_0 : Int) (a0_1 : List (Int × Int × Int)) (a0_2 : List Int) (a1 : Int) : Option (Int × (List (Int × Int × Int)) × (List Int)) := (impl_own.f k a0_0 a0_1 a0_2).bind fun (t7_1, t7_2, t7_3) => (slices_DeleteFunc__3int__3int.f k t7_2 (fun z0 z1 z2 => impl_withoutNode_1.f k z0 z1 z2 a1)).bind fun t11 => some (t7_1, t11, t7_3)

theorem impl_withoutNode.ok {k : Nat}  {a0_0 : Int} {a0_1 : List (Int × Int × Int)} {a0_2 : List Int} {a1 : Int} {r0 : Int} {r1 : List (Int × Int × Int)} {r2 : List Int} (h : impl_withoutNode.f k a0_0 a0_1 a0_2 a1 = some (r0, r1, r2)) (w : World) {va0_1 : Value} {va0_2 : Value} (hr_a0_1 : Rd w va0_1 a0_1) (hr_a0_2 : Rd w va0_2 a0_2) :
    Calls Try.prog 85 ([.agg ([.int .i64 a0_0, va0_1, va0_2].toArray), .int .i64 a1] : List Value).toArray w (Post (fun u ns => ∃ (ur1 : Value) (Sr1 : Nat → Prop) (ur2 : Value) (Sr2 : Nat → Prop), u = .agg [.int .i64 r0, ur1, ur2].toArray ∧ SlLen ur1 r1.length ∧ SlLen ur2 r2.length ∧ ns = [R.sl Sr1 ur1 r1, R.sl Sr2 ur2 r2]) w) := by
  unfold impl_withoutNode.f at h
  have hl_va0_1 := hr_a0_1.len
  have hl_va0_2 := hr_a0_2.len
  refine Calls.of_tri (N := 14) Try.func85 rfl rfl rfl (Sep.nil (M := noM)) ?_
  refine Tri.seq ?_
  refine Tri.reg (l := [0, 1, 2]) rfl ?_
  refine F.m rfl rfl rfl (wanted_none rfl) (m_boxG rfl rfl) ?_
  rintro _ _ ⟨b2_1, rfl, rfl⟩
  refine F.m rfl rfl rfl (wanted_none rfl) (m_boxG rfl rfl) ?_
  rintro _ _ ⟨b3_1, rfl, rfl⟩
  refine F.m rfl rfl rfl (wanted_none rfl) (m_alloc ti31) ?_
  rintro _ _ ⟨b4_1, rfl, rfl⟩
  refine F.nil ?_
  refine Nrm.seq ?_
  refine Tri.seq ?_
  obtain ⟨⟨t7_1, t7_2, t7_3⟩, h7, h⟩ := bind_some h
  refine Tri.reg (l := [0, 1, 2, 3]) rfl ?_
  refine F.q rfl rfl rfl (wanted_none rfl) (r_loadA ta31 ti31 rfl rfl (fun w hw => (box_cells (i := 2) rfl w hw))) ?_
  refine F.m rfl rfl rfl (wanted_none rfl) (m_callF (xs := _) rfl ok107 rfl rfl (fun w hw => impl_own.ok h7 w ((fun _ hw => hr_a0_1.sep hw) w hw) ((fun _ hw => hr_a0_2.sep hw) w hw))) ?_
  rintro _ _ ⟨_, ⟨v7_1, S7_1, v7_2, S7_2, rfl, hl_v7_1, hl_v7_2, rfl⟩, rfl⟩
  refine F.m rfl rfl rfl (wanted_none rfl) (m_alloc ti31) ?_
  rintro _ _ ⟨b5_1, rfl, rfl⟩
  refine F.ef0 rfl rfl (wanted_none rfl) (d_storeG0 (i := 0) (cs2 := [.int .i64 t7_1, v7_1, v7_2]) ti31 rfl rfl rfl rfl rfl (Nat.le_of_ble_eq_true rfl) (lf_cons rfl (lf_cons (sl_leaf hl_v7_1) (lf_cons (sl_leaf hl_v7_2) lf_nil)))) ?_
  rintro _ _ ⟨rfl, rfl⟩
  refine F.nil ?_
  refine Nrm.seq ?_
  refine Tri.seq ?_
  obtain ⟨t11, h11, h⟩ := bind_some h
  refine Tri.reg (l := [0, 1, 2, 3, 4, 5]) rfl ?_
  refine F.q rfl rfl rfl (wanted_none rfl) (r_fieldAddr tf31_1 rfl) ?_
  refine F.q rfl rfl rfl (wanted_none rfl) (r_load ta22 rfl (fun w hw => cell_1 (box_cells (i := 0) rfl w hw) rfl)) ?_
  refine F.q rfl rfl rfl (wanted_none rfl) (r_makeFunc rfl) ?_
  refine F.ef rfl rfl rfl (wanted_none rfl) (d_callM (xs := _) (cs := [R.sl S7_1 v7_1 (t7_2 : List (Int × Int × Int))]) (rest := [R.box b5_1 31 [.int .i64 t7_1, v7_1, v7_2], R.sl S7_2 v7_2 (t7_3 : List (Int)), R.box b4_1 31 [.int .i64 0, .slice none 0 0, .slice none 0 0], R.box b3_1 3 [.int .i64 a1], R.box b2_1 31 [.int .i64 a0_0, va0_1, va0_2]]) [1] [0, 2, 3, 4, 5] rfl ok132 rfl rfl rfl rfl (fun w hw => slices_DeleteFunc__3int__3int.ok h11 w hl_v7_1 ok133 (fun w2 he2 z0 z1 z2 y2 hy2 => impl_withoutNode_1.ok hy2 w2 (boxM (i := 3) rfl hw he2)) (Sep.sub hw))) ?_
  rintro v11_1 _ ⟨_, ⟨S11_1, hl_v11_1, rfl⟩, rfl⟩
  refine F.q rfl rfl rfl (wanted_none rfl) (r_fieldAddr tf31_1 rfl) ?_
  refine F.ef0 rfl rfl (wanted_none rfl) (d_storeG1 (i := 1) (cs2 := [v11_1]) ti22 rfl rfl rfl (sl_cells hl_v11_1) rfl (Nat.le_of_ble_eq_true rfl) (lf_cons (sl_leaf hl_v11_1) lf_nil)) ?_
  rintro _ _ ⟨rfl, rfl⟩
  refine F.nil ?_
  refine Nrm.seq ?_
  refine Tri.seq ?_
  refine Tri.reg (l := [0, 1]) rfl ?_
  refine F.q rfl rfl rfl (wanted_none rfl) (r_loadA ta31 ti31 rfl rfl (fun w hw => (box_cells (i := 1) rfl w hw))) ?_
  refine F.ef0 rfl rfl (wanted_none rfl) (d_storeG0 (i := 3) (cs2 := [.int .i64 t7_1, v11_1, v7_2]) ti31 rfl rfl rfl rfl rfl (Nat.le_of_ble_eq_true rfl) (lf_cons rfl (lf_cons (sl_leaf hl_v11_1) (lf_cons (sl_leaf hl_v7_2) lf_nil)))) ?_
  rintro _ _ ⟨rfl, rfl⟩
  refine F.nil ?_
  refine Nrm.seq ?_
  refine Tri.ret ?_
  cases h
  exact Rtn.body (.cell rfl ta31 ti31 rfl (fun _ hw => box_cells (i := 3) rfl _ hw) .nil) (fun w hw => ⟨_, _, rfl, ⟨v11_1, S11_1, v7_2, S7_2, rfl, hl_v11_1, hl_v7_2, rfl⟩, Sep.pick (is := [0, 2]) rfl rfl hw⟩)

end Go.Proofs

/- loop.example/g01158/impl.RequiredNodes -/
namespace Go.Proofs
open Go Go.Ga
set_option linter.unusedVariables false
set_option maxRecDepth 100000
set_option maxHeartbeats 4000000
def impl_RequiredNodes.l0 (k : Nat) (a0_0 : Int) (a0_1 : List (Int × Int × Int)) (a0_2 : List Int) (a1 : Int) : Nat → (List (Int)) → Int → Option ((List (Int)))
  | 0, _, _ => none
  | n + 1, x6, x7 => (if (decide (x7 < (w64 (a0_0 - 1)))) = true then (impl_withoutNode.f k a0_0 a0_1 a0_2 x7).bind fun (t22_1, t22_2, t22_3) => (impl_canWin.f k t22_1 t22_2 t22_3 a1).bind fun t24 => ((if (!t24) = true then if (x6 ++ ([x7] : List (Int))).length < 1099511627776 then some (x6 ++ ([x7] : List (Int))) else none else some x6)).bind fun y6 => impl_RequiredNodes.l0 k a0_0 a0_1 a0_2 a1 n y6 (w64 (x7 + 1)) else some x6)

def impl_RequiredNodes.f (k : Nat) (a0_0 : Int) (a0_1 : List (Int × Int × Int)) (a0_2 : List Int) (a1 : Int) : Option ((List Int) × Bool) := (impl_won.f k a0_0 a0_1 a0_2 a1).bind fun t10 => (if (!t10) = true then some ([], false) else (impl_RequiredNodes.l0 k a0_0 a0_1 a0_2 a1 k ([] : List (Int)) 1).bind fun x6 => some (x6, true))

theorem impl_RequiredNodes.ok {k : Nat}  {a0_0 : Int} {a0_1 : List (Int × Int × Int)} {a0_2 : List Int} {a1 : Int} {r0 : List Int} {r1 : Bool} (h : impl_RequiredNodes.f k a0_0 a0_1 a0_2 a1 = some (r0, r1)) (w : World) {va0_1 : Value} {va0_2 : Value} (hr_a0_1 : Rd w va0_1 a0_1) (hr_a0_2 : Rd w va0_2 a0_2) :
    Calls Try.prog 33 ([.agg ([.int .i64 a0_0, va0_1, va0_2].toArray), .int .i64 a1] : List Value).toArray w (Post (fun u ns => ∃ (ur0 : Value) (Sr0 : Nat → Prop), u = .tuple #[ur0, .bool r1] ∧ SlLen ur0 r0.length ∧ ns = [R.sl Sr0 ur0 r0]) w) := by
  unfold impl_RequiredNodes.f at h
  have hl_va0_1 := hr_a0_1.len
  have hl_va0_2 := hr_a0_2.len
  refine Calls.of_tri (N := 31) Try.func33 rfl rfl rfl (Sep.nil (M := noM)) ?_
  refine Tri.seq ?_
  refine Tri.reg (l := [0, 1, 2]) rfl ?_
  refine F.m rfl rfl rfl (wanted_none rfl) (m_boxG rfl rfl) ?_
  rintro _ _ ⟨b2_1, rfl, rfl⟩
  refine F.q rfl rfl rfl (wanted_none rfl) (r_assign rfl) ?_
  refine F.q rfl rfl rfl (wanted_none rfl) (r_assign rfl) ?_
  refine F.nil ?_
  refine Nrm.seq ?_
  refine Tri.seq ?_
  refine Tri.seq ?_
  obtain ⟨t10, h10, h⟩ := bind_some h
  refine Tri.reg (l := [0, 1, 2, 3]) rfl ?_
  refine F.q rfl rfl rfl (wanted_none rfl) (r_loadA ta31 ti31 rfl rfl (fun w hw => (box_cells (i := 0) rfl w hw))) ?_
  refine F.q rfl rfl rfl (wanted_none rfl) (r_move rfl) ?_
  refine F.qc rfl rfl rfl (wanted_none rfl) (q_callF (xs := _) rfl ok77 rfl rfl (fun w hw => impl_won.ok h10 w ((fun _ hw => hr_a0_1.sep hw) w hw) ((fun _ hw => hr_a0_2.sep hw) w hw))) ?_
  refine F.q rfl rfl rfl (wanted_none rfl) (r_not rfl) ?_
  refine F.nil ?_
  refine Nrm.seq ?_
  refine Tri.cond (b := !t10) rfl (fun g_1 => ?_) (fun g_1 => ?_)
  · replace h := if_tt g_1 h
    refine Tri.seq ?_
    refine Tri.reg (l := [0, 1]) rfl ?_
    refine F.q rfl rfl rfl (wanted_none rfl) (r_assign rfl) ?_
    refine F.q rfl rfl rfl (wanted_none rfl) (r_assign rfl) ?_
    refine F.nil ?_
    refine Nrm.seq ?_
    refine Tri.ret ?_
    refine Rtn.then ?_
    cases h
    exact Rtn.body (.tmp rfl (.tmp rfl .nil)) (fun w hw => ⟨_, _, rfl, ⟨.slice none 0 0, fun _ => False, rfl, len_nil, rfl⟩, Sep.pick (is := [0]) rfl rfl hw.pushNil⟩)
  · replace h := if_ff g_1 h
    refine Tri.skip ?_
    refine Nrm.seq ?_
    refine Tri.seq ?_
    refine Tri.reg (l := [0, 1]) rfl ?_
    refine F.m rfl rfl rfl (wanted_none rfl) (m_build0 (α := Int) Try.underlying23 ti3) ?_
    rintro v12_1 _ ⟨S12_1, hl_v12_1, rfl⟩
    refine F.q rfl rfl rfl (wanted_none rfl) (r_assign rfl) ?_
    refine F.nil ?_
    refine Nrm.seq ?_
    refine Tri.seq ?_
    refine Tri.seq ?_
    refine Tri.reg (l := [0]) rfl ?_
    refine F.q rfl rfl rfl (wanted_none rfl) (r_assign rfl) ?_
    refine F.nil ?_
    refine Nrm.seq ?_
    obtain ⟨x6, hE_1, h⟩ := bind_some h
    refine Tri.block ?_
    refine Tri.only [1, 2, 6, 7] rfl ?_
    refine Tri.pick [1, 0] rfl rfl ?_
    refine Tri.rounds (fun n e' C' => ∃ (x6' : List (Int)) (x7' : Int) (w6 : Value) (T6 : Nat → Prop), impl_RequiredNodes.l0 k a0_0 a0_1 a0_2 a1 n x6' x7' = some x6 ∧ SlLen w6 (x6').length ∧ e' = [(1, .int .i64 a1), (2, .pointer (some ⟨b2_1, 0, none⟩)), (6, w6), (7, .int .i64 x7')] ∧ C' = Sep w noM [R.box b2_1 31 [.int .i64 a0_0, va0_1, va0_2], R.sl T6 w6 (x6' : List (Int))]) k ?_ ?_ ?_
    · exact ⟨([] : List (Int)), 1, v12_1, S12_1, hE_1, hl_v12_1, rfl, rfl⟩
    · rintro _ _ ⟨_, _, _, _, hE_1, _⟩
      rw [impl_RequiredNodes.l0.eq_1] at hE_1; cases hE_1
    · rintro n_1 _ _ ⟨x6, x7, w6, T6, hE_1, hl_w6, rfl, rfl⟩ ih_1
      rw [impl_RequiredNodes.l0.eq_2] at hE_1
      refine Tri.seq ?_
      refine Tri.seq ?_
      refine Tri.reg (l := [0, 1, 2, 3, 4]) rfl ?_
      refine F.q rfl rfl rfl (wanted_none rfl) (r_move rfl) ?_
      refine F.q rfl rfl rfl (wanted_none rfl) (r_fieldAddr tf31_0 rfl) ?_
      refine F.q rfl rfl rfl (wanted_none rfl) (r_load ta3 rfl (fun w hw => cell_1 (box_cells (i := 0) rfl w hw) rfl)) ?_
      refine F.q rfl rfl rfl (wanted_none rfl) (r_sub rfl rfl) ?_
      refine F.q rfl rfl rfl (wanted_none rfl) (r_lss rfl rfl) ?_
      refine F.nil ?_
      refine Nrm.seq ?_
      refine Tri.cond (b := decide (x7 < (w64 (a0_0 - 1)))) rfl (fun g_2 => ?_) (fun g_2 => ?_)
      · replace hE_1 := if_tt g_2 hE_1
        refine Tri.skip ?_
        refine Nrm.seq ?_
        refine Tri.seq ?_
        refine Tri.block ?_
        refine Tri.seq ?_
        obtain ⟨⟨t22_1, t22_2, t22_3⟩, h22, hE_1⟩ := bind_some hE_1
        obtain ⟨t24, h24, hE_1⟩ := bind_some hE_1
        refine Tri.reg (l := [0, 1, 2, 3, 4, 5]) rfl ?_
        refine F.q rfl rfl rfl (wanted_none rfl) (r_loadA ta31 ti31 rfl rfl (fun w hw => (box_cells (i := 0) rfl w hw))) ?_
        refine F.q rfl rfl rfl (wanted_none rfl) (r_move rfl) ?_
        refine F.m rfl rfl rfl (wanted_none rfl) (m_callF (xs := _) rfl ok85 rfl rfl (fun w hw => impl_withoutNode.ok h22 w ((fun _ hw => hr_a0_1.sep hw) w hw) ((fun _ hw => hr_a0_2.sep hw) w hw))) ?_
        rintro _ _ ⟨_, ⟨v22_1, S22_1, v22_2, S22_2, rfl, hl_v22_1, hl_v22_2, rfl⟩, rfl⟩
        refine F.q rfl rfl rfl (wanted_none rfl) (r_move rfl) ?_
        refine F.qc rfl rfl rfl (wanted_none rfl) (q_callF (xs := _) rfl ok78 rfl rfl (fun w hw => impl_canWin.ok h24 w ((rd_sl (i := 0) rfl) w hw) ((rd_sl (i := 1) rfl) w hw))) ?_
        refine F.q rfl rfl rfl (wanted_none rfl) (r_not rfl) ?_
        refine F.nil ?_
        refine Nrm.seq ?_
        obtain ⟨y6, hE_2, hE_1⟩ := bind_some hE_1
        refine Tri.cut (fun e' C' => ∃ (v6_1 : Value) (S6_1 : Nat → Prop), SlLen v6_1 (y6).length ∧ e' = [(1, .int .i64 a1), (2, .pointer (some ⟨b2_1, 0, none⟩)), (6, v6_1), (7, .int .i64 x7)] ∧ C' = Sep w noM [R.box b2_1 31 [.int .i64 a0_0, va0_1, va0_2], R.sl S6_1 v6_1 (y6 : List (Int))]) ?_ (fun hj_1 => ?_)
        · rintro _ _ ⟨v6_1, S6_1, hl_v6_1, rfl, rfl⟩
          refine Nrm.block ?_
          refine Nrm.seq ?_
          refine Tri.reg (l := [0, 1, 2]) rfl ?_
          refine F.q rfl rfl rfl (wanted_none rfl) (r_move rfl) ?_
          refine F.q rfl rfl rfl (wanted_none rfl) (r_add rfl rfl) ?_
          refine F.q rfl rfl rfl (wanted_none rfl) (r_assign rfl) ?_
          refine F.nil ?_
          refine Nrm.round ?_
          refine Rnd.only [1, 2, 6, 7] rfl ?_
          refine Rnd.pick [0, 1] rfl rfl ?_
          exact ih_1 _ _ ⟨y6, w64 (x7 + 1), v6_1, S6_1, hE_1, hl_v6_1, rfl, rfl⟩
        · refine Tri.cond (b := !t24) rfl (fun g_3 => ?_) (fun g_3 => ?_)
          · replace hE_2 := if_tt g_3 hE_2
            obtain ⟨hs29, hE_2⟩ := ck hE_2
            refine Tri.reg (l := [0, 1, 2, 3, 4]) rfl ?_
            refine F.q rfl rfl rfl (wanted_none rfl) (r_move rfl) ?_
            refine F.q rfl rfl rfl (wanted_none rfl) (r_move rfl) ?_
            refine F.m rfl rfl rfl (wanted_none rfl) (m_buildF (l := ([x7] : List (Int))) Try.underlying23 ti3 rfl rfl rfl rfl rfl) ?_
            rintro v28_1 _ ⟨S28_1, hl_v28_1, rfl⟩
            refine F.ef rfl rfl rfl (wanted_none rfl) (d_append (i := 4) Try.underlying23 Try.underlying23 ti3 rfl (by decide) rfl rfl rfl (rd_sl (i := 0) rfl) hs29) ?_
            rintro v29_1 _ ⟨S29_1, rfl, hl_v29_1⟩
            refine F.q rfl rfl rfl (wanted_none rfl) (r_assign rfl) ?_
            refine F.nil ?_
            cases hE_2
            refine Nrm.only [1, 2, 6, 7] rfl ?_
            refine Nrm.pick [3, 4] rfl rfl ?_
            exact hj_1 _ _ ⟨v29_1, S29_1, hl_v29_1, rfl, rfl⟩
          · replace hE_2 := if_ff g_3 hE_2
            refine Tri.skip ?_
            cases hE_2
            refine Nrm.only [1, 2, 6, 7] rfl ?_
            refine Nrm.pick [2, 3] rfl rfl ?_
            exact hj_1 _ _ ⟨w6, T6, hl_w6, rfl, rfl⟩
      · replace hE_1 := if_ff g_2 hE_1
        refine Tri.exit ?_
        refine Exi.then ?_
        refine Exi.then ?_
        refine Exi.same ?_
        cases hE_1
        refine Nrm.seq ?_
        refine Tri.seq ?_
        refine Tri.reg (l := [0, 1, 2]) rfl ?_
        refine F.q rfl rfl rfl (wanted_none rfl) (r_move rfl) ?_
        refine F.q rfl rfl rfl (wanted_none rfl) (r_assign rfl) ?_
        refine F.q rfl rfl rfl (wanted_none rfl) (r_assign rfl) ?_
        refine F.nil ?_
        refine Nrm.seq ?_
        refine Tri.ret ?_
        cases h
        exact Rtn.body (.tmp rfl (.tmp rfl .nil)) (fun w hw => ⟨_, _, rfl, ⟨w6, T6, rfl, hl_w6, rfl⟩, Sep.pick (is := [1]) rfl rfl hw⟩)

end Go.Proofs

/- loop.example/g01158/laws.FnExactRequiredNodes -/
namespace Go.Proofs
open Go Go.Ga
set_option linter.unusedVariables false
set_option maxRecDepth 100000
set_option maxHeartbeats 4000000
def laws_FnExactRequiredNodes.f (k : Nat) (a0_0 : Int) (a0_1 : List (Int × Int × Int)) (a0_2 : List Int) (a1 : Int) : Option (Bool) := (laws_szMaze.f k a0_0 a0_1 a0_2 1048576).bind fun t18 => (if (decide (t18 < 0)) = true then some true else (laws_toMaze.f k a0_0 a0_1 a0_2).bind fun (t23_1, t23_2, t23_3) => (spec_RequiredNodes.f k t23_1 t23_2 t23_3 a1).bind fun (t25_1, t25_2) => (laws_toMaze.f k a0_0 a0_1 a0_2).bind fun (t29_1, t29_2, t29_3) => (impl_RequiredNodes.f k t29_1 t29_2 t29_3 a1).bind fun (t33_1, t33_2) => ((laws_eqIntS.f k t33_1 t25_1).bind fun t38 => (if (!t38) = true then some true else some (t33_2 != t25_2))).bind fun y44 => (if y44 = true then some false else (laws_toMaze.f k a0_0 a0_1 a0_2).bind fun (t47_1, t47_2, t47_3) => (laws_eqMaze.f k t29_1 t29_2 t29_3 t47_1 t47_2 t47_3).bind fun t48 => (if (!t48) = true then some false else (laws_markMaze.f k t29_1 t29_2 t29_3 1).bind fun (t52_1, t52_2, t52_3) => ((if (decide (t52_1 < 0)) = true then some true else (laws_eqIntS.f k t33_1 t25_1).bind fun t58 => (if (!t58) = true then some true else some (t33_2 != t25_2)))).bind fun y65 => (if y65 = true then some false else (laws_markIntS.f k t33_1 1).bind fun (t68_1, t68_2) => (laws_heldIntS.f k t68_2 1).bind fun t71 => (if (decide (t71 < 0)) = true then some false else (if (t71 != t68_1) = true then some false else (laws_toMaze.f k a0_0 a0_1 a0_2).bind fun (t79_1, t79_2, t79_3) => (impl_RequiredNodes.f k t79_1 t79_2 t79_3 a1).bind fun (t81_1, t81_2) => ((laws_eqIntS.f k t81_1 t25_1).bind fun t86 => (if (!t86) = true then some true else some (t81_2 != t25_2))).bind fun y92 => (if y92 = true then some false else (laws_heldIntS.f k t68_2 1).bind fun t95 => (if (decide (t95 < 0)) = true then some false else (if (t95 != t68_1) = true then some false else some true)))))))))

theorem laws_FnExactRequiredNodes.ok {k : Nat}  {a0_0 : Int} {a0_1 : List (Int × Int × Int)} {a0_2 : List Int} {a1 : Int} {r0 : Bool} (h : laws_FnExactRequiredNodes.f k a0_0 a0_1 a0_2 a1 = some r0) (w : World) {va0_1 : Value} {va0_2 : Value} (hr_a0_1 : Rd w va0_1 a0_1) (hr_a0_2 : Rd w va0_2 a0_2) :
    Calls Try.prog 6 ([.agg ([.int .i64 a0_0, va0_1, va0_2].toArray), .int .i64 a1] : List Value).toArray w (fun e w' => e = .returned (.bool r0) ∧ Ext w w') := by
  unfold laws_FnExactRequiredNodes.f at h
  have hl_va0_1 := hr_a0_1.len
  have hl_va0_2 := hr_a0_2.len
  refine Calls.of_tri (N := 101) Try.func6 rfl rfl rfl (Sep.nil (M := noM)) ?_
  refine Tri.seq ?_
  refine Tri.reg (l := [0, 1]) rfl ?_
  refine F.m rfl rfl rfl (wanted_none rfl) (m_boxG rfl rfl) ?_
  rintro _ _ ⟨b2_1, rfl, rfl⟩
  refine F.q rfl rfl rfl (wanted_none rfl) (r_assign rfl) ?_
  refine F.nil ?_
  refine Nrm.seq ?_
  refine Tri.seq ?_
  refine Tri.reg (l := [0]) rfl ?_
  refine F.q rfl rfl rfl (wanted_none rfl) (r_assign rfl) ?_
  refine F.nil ?_
  refine Nrm.seq ?_
  refine Tri.seq ?_
  obtain ⟨t18, h18, h⟩ := bind_some h
  refine Tri.reg (l := [0, 1, 2, 3]) rfl ?_
  refine F.q rfl rfl rfl (wanted_none rfl) (r_loadA ta25 ti25 rfl rfl (fun w hw => (box_cells (i := 0) rfl w hw))) ?_
  refine F.q rfl rfl rfl (wanted_none rfl) (r_move rfl) ?_
  refine F.qc rfl rfl rfl (wanted_none rfl) (q_callF (xs := _) rfl ok24 rfl rfl (fun w hw => laws_szMaze.ok h18 w ((fun _ hw => hr_a0_1.sep hw) w hw) ((fun _ hw => hr_a0_2.sep hw) w hw))) ?_
  refine F.q rfl rfl rfl (wanted_none rfl) (r_assign rfl) ?_
  refine F.nil ?_
  refine Nrm.seq ?_
  refine Tri.seq ?_
  refine Tri.seq ?_
  refine Tri.reg (l := [0, 1]) rfl ?_
  refine F.q rfl rfl rfl (wanted_none rfl) (r_move rfl) ?_
  refine F.q rfl rfl rfl (wanted_none rfl) (r_lss rfl rfl) ?_
  refine F.nil ?_
  refine Nrm.seq ?_
  refine Tri.cond (b := decide (t18 < 0)) rfl (fun g_1 => ?_) (fun g_1 => ?_)
  · replace h := if_tt g_1 h
    refine Tri.seq ?_
    refine Tri.reg (l := [0]) rfl ?_
    refine F.q rfl rfl rfl (wanted_none rfl) (r_assign rfl) ?_
    refine F.nil ?_
    refine Nrm.seq ?_
    refine Tri.ret ?_
    refine Rtn.then ?_
    cases h
    exact Rtn.body (.tmp rfl .nil) (fun w hw => ⟨rfl, hw.ext⟩)
  · replace h := if_ff g_1 h
    refine Tri.skip ?_
    refine Nrm.seq ?_
    refine Tri.seq ?_
    obtain ⟨⟨t23_1, t23_2, t23_3⟩, h23, h⟩ := bind_some h
    obtain ⟨⟨t25_1, t25_2⟩, h25, h⟩ := bind_some h
    refine Tri.reg (l := [0, 1, 2, 3, 4, 5, 6, 7, 8]) rfl ?_
    refine F.q rfl rfl rfl (wanted_none rfl) (r_loadA ta25 ti25 rfl rfl (fun w hw => (box_cells (i := 0) rfl w hw))) ?_
    refine F.m rfl rfl rfl (wanted_none rfl) (m_callF (xs := _) rfl ok26 rfl rfl (fun w hw => laws_toMaze.ok h23 w ((fun _ hw => hr_a0_1.sep hw) w hw) ((fun _ hw => hr_a0_2.sep hw) w hw))) ?_
    rintro _ _ ⟨_, ⟨v23_1, S23_1, v23_2, S23_2, rfl, hl_v23_1, hl_v23_2, rfl⟩, rfl⟩
    refine F.q rfl rfl rfl (wanted_none rfl) (r_move rfl) ?_
    refine F.m rfl rfl rfl (wanted_none rfl) (m_callF (xs := _) rfl ok32 rfl rfl (fun w hw => spec_RequiredNodes.ok h25 w ((rd_sl (i := 0) rfl) w hw) ((rd_sl (i := 1) rfl) w hw))) ?_
    rintro _ _ ⟨_, ⟨v25_1, S25_1, rfl, hl_v25_1, rfl⟩, rfl⟩
    refine F.q rfl rfl rfl (wanted_none rfl) (r_move rfl) ?_
    refine F.q rfl rfl rfl (wanted_none rfl) (r_extract rfl rfl) ?_
    refine F.q rfl rfl rfl (wanted_none rfl) (r_extract rfl rfl) ?_
    refine F.q rfl rfl rfl (wanted_none rfl) (r_assign rfl) ?_
    refine F.q rfl rfl rfl (wanted_none rfl) (r_assign rfl) ?_
    refine F.nil ?_
    refine Nrm.seq ?_
    refine Tri.seq ?_
    obtain ⟨⟨t29_1, t29_2, t29_3⟩, h29, h⟩ := bind_some h
    refine Tri.reg (l := [0, 1, 2, 3]) rfl ?_
    refine F.q rfl rfl rfl (wanted_none rfl) (r_loadA ta25 ti25 rfl rfl (fun w hw => (box_cells (i := 3) rfl w hw))) ?_
    refine F.m rfl rfl rfl (wanted_none rfl) (m_callF (xs := _) rfl ok26 rfl rfl (fun w hw => laws_toMaze.ok h29 w ((fun _ hw => hr_a0_1.sep hw) w hw) ((fun _ hw => hr_a0_2.sep hw) w hw))) ?_
    rintro _ _ ⟨_, ⟨v29_1, S29_1, v29_2, S29_2, rfl, hl_v29_1, hl_v29_2, rfl⟩, rfl⟩
    refine F.m rfl rfl rfl (wanted_none rfl) (m_alloc ti31) ?_
    rintro _ _ ⟨b8_1, rfl, rfl⟩
    refine F.ef0 rfl rfl (wanted_none rfl) (d_storeG0 (i := 0) (cs2 := [.int .i64 t29_1, v29_1, v29_2]) ti31 rfl rfl rfl rfl rfl (Nat.le_of_ble_eq_true rfl) (lf_cons rfl (lf_cons (sl_leaf hl_v29_1) (lf_cons (sl_leaf hl_v29_2) lf_nil)))) ?_
    rintro _ _ ⟨rfl, rfl⟩
    refine F.nil ?_
    refine Nrm.seq ?_
    refine Tri.seq ?_
    obtain ⟨⟨t33_1, t33_2⟩, h33, h⟩ := bind_some h
    refine Tri.reg (l := [0, 1, 2, 3, 4, 5, 6, 7]) rfl ?_
    refine F.q rfl rfl rfl (wanted_none rfl) (r_loadA ta31 ti31 rfl rfl (fun w hw => (box_cells (i := 0) rfl w hw))) ?_
    refine F.q rfl rfl rfl (wanted_none rfl) (r_move rfl) ?_
    refine F.m rfl rfl rfl (wanted_none rfl) (m_callF (xs := _) rfl ok33 rfl rfl (fun w hw => impl_RequiredNodes.ok h33 w ((rd_sl (i := 1) rfl) w hw) ((rd_sl (i := 2) rfl) w hw))) ?_
    rintro _ _ ⟨_, ⟨v33_1, S33_1, rfl, hl_v33_1, rfl⟩, rfl⟩
    refine F.q rfl rfl rfl (wanted_none rfl) (r_move rfl) ?_
    refine F.q rfl rfl rfl (wanted_none rfl) (r_extract rfl rfl) ?_
    refine F.q rfl rfl rfl (wanted_none rfl) (r_extract rfl rfl) ?_
    refine F.q rfl rfl rfl (wanted_none rfl) (r_assign rfl) ?_
    refine F.q rfl rfl rfl (wanted_none rfl) (r_assign rfl) ?_
    refine F.nil ?_
    refine Nrm.seq ?_
    refine Tri.seq ?_
    refine Tri.seq ?_
    obtain ⟨y44, hE_1, h⟩ := bind_some h
    refine Tri.cut (fun e' C' => e' = [(1, .int .i64 a1), (2, .pointer (some ⟨b2_1, 0, none⟩)), (6, v25_1), (7, .bool t25_2), (8, .pointer (some ⟨b8_1, 0, none⟩)), (9, v33_1), (10, .bool t33_2), (44, .bool y44)] ∧ C' = Sep w noM [R.box b8_1 31 [.int .i64 t29_1, v29_1, v29_2], R.box b2_1 25 [.int .i64 a0_0, va0_1, va0_2], R.sl S25_1 v25_1 (t25_1 : List (Int)), R.sl S29_1 v29_1 (t29_2 : List (Int × Int × Int)), R.sl S29_2 v29_2 (t29_3 : List (Int)), R.sl S33_1 v33_1 (t33_1 : List (Int))]) ?_ (fun hj_1 => ?_)
    · rintro _ _ ⟨rfl, rfl⟩
      refine Nrm.seq ?_
      refine Tri.cond (b := y44) rfl (fun g_2 => ?_) (fun g_2 => ?_)
      · replace h := if_tt g_2 h
        refine Tri.seq ?_
        refine Tri.reg (l := [0]) rfl ?_
        refine F.q rfl rfl rfl (wanted_none rfl) (r_assign rfl) ?_
        refine F.nil ?_
        refine Nrm.seq ?_
        refine Tri.ret ?_
        refine Rtn.then ?_
        cases h
        exact Rtn.body (.tmp rfl .nil) (fun w hw => ⟨rfl, hw.ext⟩)
      · replace h := if_ff g_2 h
        refine Tri.skip ?_
        refine Nrm.seq ?_
        refine Tri.seq ?_
        refine Tri.seq ?_
        obtain ⟨⟨t47_1, t47_2, t47_3⟩, h47, h⟩ := bind_some h
        obtain ⟨t48, h48, h⟩ := bind_some h
        refine Tri.drawA mixedT Sep.up [(0, true), (1, true), (2, false), (3, true), (4, true)] [] (by kernel_rfl) ?_
        refine S.q rfl rfl rfl (wanted_none rfl) (r_loadA ta31 ti31 rfl rfl (fun w hw => (box_cells (i := 0) rfl w hw))) ?_
        refine S.q rfl rfl rfl (wanted_none rfl) (r_loadA ta25 ti25 rfl rfl (fun w hw => (box_cells (i := 1) rfl w hw))) ?_
        refine S.m rfl rfl rfl (wanted_none rfl) (m_callF (xs := _) rfl ok26 rfl rfl (fun w hw => laws_toMaze.ok h47 w ((fun _ hw => hr_a0_1.sep hw) w hw) ((fun _ hw => hr_a0_2.sep hw) w hw))) ?_
        rintro _ _ ⟨_, ⟨v47_3, S47_3, v47_4, S47_4, rfl, hl_v47_3, hl_v47_4, rfl⟩, rfl⟩
        refine S.qc rfl rfl rfl (wanted_none rfl) (q_callF (xs := _) rfl ok28 rfl rfl (fun w hw => laws_eqMaze.ok h48 w ((rd_sl (i := 5) rfl) w hw) ((rd_sl (i := 6) rfl) w hw) ((rd_sl (i := 0) rfl) w hw) ((rd_sl (i := 1) rfl) w hw))) ?_
        refine S.q rfl rfl rfl (wanted_none rfl) (r_not rfl) ?_
        refine S.nil ?_
        refine F.nil ?_
        refine Nrm.seq ?_
        refine Tri.cond (b := !t48) rfl (fun g_3 => ?_) (fun g_3 => ?_)
        · replace h := if_tt g_3 h
          refine Tri.seq ?_
          refine Tri.reg (l := [0]) rfl ?_
          refine F.q rfl rfl rfl (wanted_none rfl) (r_assign rfl) ?_
          refine F.nil ?_
          refine Nrm.seq ?_
          refine Tri.ret ?_
          refine Rtn.then ?_
          cases h
          exact Rtn.body (.tmp rfl .nil) (fun w hw => ⟨rfl, hw.ext⟩)
        · replace h := if_ff g_3 h
          refine Tri.skip ?_
          refine Nrm.seq ?_
          refine Tri.seq ?_
          refine Tri.reg (l := [0]) rfl ?_
          refine F.q rfl rfl rfl (wanted_none rfl) (r_assign rfl) ?_
          refine F.nil ?_
          refine Nrm.seq ?_
          refine Tri.seq ?_
          obtain ⟨⟨t52_1, t52_2, t52_3⟩, h52, h⟩ := bind_some h
          refine Tri.reg (l := [0, 1, 2, 3]) rfl ?_
          refine F.q rfl rfl rfl (wanted_none rfl) (r_loadA ta31 ti31 rfl rfl (fun w hw => (box_cells (i := 2) rfl w hw))) ?_
          refine F.q rfl rfl rfl (wanted_none rfl) (r_move rfl) ?_
          refine F.ef rfl rfl rfl (wanted_none rfl) (d_callM (xs := _) (cs := [R.sl S29_1 v29_1 (t29_2 : List (Int × Int × Int)), R.sl S29_2 v29_2 (t29_3 : List (Int))]) (rest := [R.sl S47_3 v47_3 (t47_2 : List (Int × Int × Int)), R.sl S47_4 v47_4 (t47_3 : List (Int)), R.box b8_1 31 [.int .i64 t29_1, v29_1, v29_2], R.box b2_1 25 [.int .i64 a0_0, va0_1, va0_2], R.sl S25_1 v25_1 (t25_1 : List (Int)), R.sl S33_1 v33_1 (t33_1 : List (Int))]) [5, 6] [0, 1, 2, 3, 4, 7] rfl ok29 rfl rfl rfl rfl (fun w hw => laws_markMaze.ok h52 w hl_v29_1 hl_v29_2 (Sep.sub hw))) ?_
          rintro _ _ ⟨_, ⟨rfl, hl_t52_2, hl_t52_3, rfl⟩, rfl⟩
          refine F.q rfl rfl rfl (wanted_none rfl) (r_assign rfl) ?_
          refine F.nil ?_
          refine Nrm.seq ?_
          refine Tri.seq ?_
          refine Tri.seq ?_
          obtain ⟨y65, hE_2, h⟩ := bind_some h
          refine Tri.cut (fun e' C' => e' = [(1, .int .i64 a1), (2, .pointer (some ⟨b2_1, 0, none⟩)), (6, v25_1), (7, .bool t25_2), (9, v33_1), (65, .bool y65)] ∧ C' = Sep w noM [R.box b2_1 25 [.int .i64 a0_0, va0_1, va0_2], R.sl S25_1 v25_1 (t25_1 : List (Int)), R.sl S33_1 v33_1 (t33_1 : List (Int))]) ?_ (fun hj_2 => ?_)
          · rintro _ _ ⟨rfl, rfl⟩
            refine Nrm.seq ?_
            refine Tri.cond (b := y65) rfl (fun g_4 => ?_) (fun g_4 => ?_)
            · replace h := if_tt g_4 h
              refine Tri.seq ?_
              refine Tri.reg (l := [0]) rfl ?_
              refine F.q rfl rfl rfl (wanted_none rfl) (r_assign rfl) ?_
              refine F.nil ?_
              refine Nrm.seq ?_
              refine Tri.ret ?_
              refine Rtn.then ?_
              cases h
              exact Rtn.body (.tmp rfl .nil) (fun w hw => ⟨rfl, hw.ext⟩)
            · replace h := if_ff g_4 h
              refine Tri.skip ?_
              refine Nrm.seq ?_
              refine Tri.seq ?_
              refine Tri.reg (l := [0]) rfl ?_
              refine F.q rfl rfl rfl (wanted_none rfl) (r_assign rfl) ?_
              refine F.nil ?_
              refine Nrm.seq ?_
              refine Tri.seq ?_
              obtain ⟨⟨t68_1, t68_2⟩, h68, h⟩ := bind_some h
              refine Tri.reg (l := [0, 1, 2, 3]) rfl ?_
              refine F.q rfl rfl rfl (wanted_none rfl) (r_move rfl) ?_
              refine F.q rfl rfl rfl (wanted_none rfl) (r_move rfl) ?_
              refine F.ef rfl rfl rfl (wanted_none rfl) (d_callM (xs := _) (cs := [R.sl S33_1 v33_1 (t33_1 : List (Int))]) (rest := [R.box b2_1 25 [.int .i64 a0_0, va0_1, va0_2], R.sl S25_1 v25_1 (t25_1 : List (Int))]) [2] [0, 1] rfl ok22 rfl rfl rfl rfl (fun w hw => laws_markIntS.ok h68 w hl_v33_1 (Sep.sub hw))) ?_
              rintro _ _ ⟨_, ⟨rfl, hl_t68_2, rfl⟩, rfl⟩
              refine F.q rfl rfl rfl (wanted_none rfl) (r_assign rfl) ?_
              refine F.nil ?_
              refine Nrm.seq ?_
              refine Tri.seq ?_
              refine Tri.reg (l := [0]) rfl ?_
              refine F.q rfl rfl rfl (wanted_none rfl) (r_assign rfl) ?_
              refine F.nil ?_
              refine Nrm.seq ?_
              refine Tri.seq ?_
              obtain ⟨t71, h71, h⟩ := bind_some h
              refine Tri.reg (l := [0, 1, 2, 3]) rfl ?_
              refine F.q rfl rfl rfl (wanted_none rfl) (r_move rfl) ?_
              refine F.q rfl rfl rfl (wanted_none rfl) (r_move rfl) ?_
              refine F.qc rfl rfl rfl (wanted_none rfl) (q_callF (xs := _) rfl ok23 rfl rfl (fun w hw => laws_heldIntS.ok h71 w ((rd_sl (i := 0) rfl) w hw))) ?_
              refine F.q rfl rfl rfl (wanted_none rfl) (r_assign rfl) ?_
              refine F.nil ?_
              refine Nrm.seq ?_
              refine Tri.seq ?_
              refine Tri.seq ?_
              refine Tri.reg (l := [0, 1]) rfl ?_
              refine F.q rfl rfl rfl (wanted_none rfl) (r_move rfl) ?_
              refine F.q rfl rfl rfl (wanted_none rfl) (r_lss rfl rfl) ?_
              refine F.nil ?_
              refine Nrm.seq ?_
              refine Tri.cond (b := decide (t71 < 0)) rfl (fun g_5 => ?_) (fun g_5 => ?_)
              · replace h := if_tt g_5 h
                refine Tri.seq ?_
                refine Tri.reg (l := [0]) rfl ?_
                refine F.q rfl rfl rfl (wanted_none rfl) (r_assign rfl) ?_
                refine F.nil ?_
                refine Nrm.seq ?_
                refine Tri.ret ?_
                refine Rtn.then ?_
                cases h
                exact Rtn.body (.tmp rfl .nil) (fun w hw => ⟨rfl, hw.ext⟩)
              · replace h := if_ff g_5 h
                refine Tri.skip ?_
                refine Nrm.seq ?_
                refine Tri.seq ?_
                refine Tri.seq ?_
                refine Tri.reg (l := [0, 1, 2]) rfl ?_
                refine F.q rfl rfl rfl (wanted_none rfl) (r_move rfl) ?_
                refine F.q rfl rfl rfl (wanted_none rfl) (r_move rfl) ?_
                refine F.q rfl rfl rfl (wanted_none rfl) (r_neq rfl rfl) ?_
                refine F.nil ?_
                refine Nrm.seq ?_
                refine Tri.cond (b := t71 != t68_1) rfl (fun g_6 => ?_) (fun g_6 => ?_)
                · replace h := if_tt g_6 h
                  refine Tri.seq ?_
                  refine Tri.reg (l := [0]) rfl ?_
                  refine F.q rfl rfl rfl (wanted_none rfl) (r_assign rfl) ?_
                  refine F.nil ?_
                  refine Nrm.seq ?_
                  refine Tri.ret ?_
                  refine Rtn.then ?_
                  cases h
                  exact Rtn.body (.tmp rfl .nil) (fun w hw => ⟨rfl, hw.ext⟩)
                · replace h := if_ff g_6 h
                  refine Tri.skip ?_
                  refine Nrm.seq ?_
                  refine Tri.seq ?_
                  obtain ⟨⟨t79_1, t79_2, t79_3⟩, h79, h⟩ := bind_some h
                  obtain ⟨⟨t81_1, t81_2⟩, h81, h⟩ := bind_some h
                  refine Tri.reg (l := [0, 1, 2, 3, 4, 5, 6, 7, 8]) rfl ?_
                  refine F.q rfl rfl rfl (wanted_none rfl) (r_loadA ta25 ti25 rfl rfl (fun w hw => (box_cells (i := 1) rfl w hw))) ?_
                  refine F.m rfl rfl rfl (wanted_none rfl) (m_callF (xs := _) rfl ok26 rfl rfl (fun w hw => laws_toMaze.ok h79 w ((fun _ hw => hr_a0_1.sep hw) w hw) ((fun _ hw => hr_a0_2.sep hw) w hw))) ?_
                  rintro _ _ ⟨_, ⟨v79_1, S79_1, v79_2, S79_2, rfl, hl_v79_1, hl_v79_2, rfl⟩, rfl⟩
                  refine F.q rfl rfl rfl (wanted_none rfl) (r_move rfl) ?_
                  refine F.m rfl rfl rfl (wanted_none rfl) (m_callF (xs := _) rfl ok33 rfl rfl (fun w hw => impl_RequiredNodes.ok h81 w ((rd_sl (i := 0) rfl) w hw) ((rd_sl (i := 1) rfl) w hw))) ?_
                  rintro _ _ ⟨_, ⟨v81_1, S81_1, rfl, hl_v81_1, rfl⟩, rfl⟩
                  refine F.q rfl rfl rfl (wanted_none rfl) (r_move rfl) ?_
                  refine F.q rfl rfl rfl (wanted_none rfl) (r_extract rfl rfl) ?_
                  refine F.q rfl rfl rfl (wanted_none rfl) (r_extract rfl rfl) ?_
                  refine F.q rfl rfl rfl (wanted_none rfl) (r_assign rfl) ?_
                  refine F.q rfl rfl rfl (wanted_none rfl) (r_assign rfl) ?_
                  refine F.nil ?_
                  refine Nrm.seq ?_
                  refine Tri.seq ?_
                  refine Tri.seq ?_
                  obtain ⟨y92, hE_3, h⟩ := bind_some h
                  refine Tri.cut (fun e' C' => e' = [(9, v33_1), (12, .int .i64 t68_1), (92, .bool y92)] ∧ C' = Sep w noM [R.sl S33_1 v33_1 (t68_2 : List (Int))]) ?_ (fun hj_3 => ?_)
                  · rintro _ _ ⟨rfl, rfl⟩
                    refine Nrm.seq ?_
                    refine Tri.cond (b := y92) rfl (fun g_7 => ?_) (fun g_7 => ?_)
                    · replace h := if_tt g_7 h
                      refine Tri.seq ?_
                      refine Tri.reg (l := [0]) rfl ?_
                      refine F.q rfl rfl rfl (wanted_none rfl) (r_assign rfl) ?_
                      refine F.nil ?_
                      refine Nrm.seq ?_
                      refine Tri.ret ?_
                      refine Rtn.then ?_
                      cases h
                      exact Rtn.body (.tmp rfl .nil) (fun w hw => ⟨rfl, hw.ext⟩)
                    · replace h := if_ff g_7 h
                      refine Tri.skip ?_
                      refine Nrm.seq ?_
                      refine Tri.seq ?_
                      refine Tri.reg (l := [0]) rfl ?_
                      refine F.q rfl rfl rfl (wanted_none rfl) (r_assign rfl) ?_
                      refine F.nil ?_
                      refine Nrm.seq ?_
                      refine Tri.seq ?_
                      obtain ⟨t95, h95, h⟩ := bind_some h
                      refine Tri.reg (l := [0, 1, 2, 3]) rfl ?_
                      refine F.q rfl rfl rfl (wanted_none rfl) (r_move rfl) ?_
                      refine F.q rfl rfl rfl (wanted_none rfl) (r_move rfl) ?_
                      refine F.qc rfl rfl rfl (wanted_none rfl) (q_callF (xs := _) rfl ok23 rfl rfl (fun w hw => laws_heldIntS.ok h95 w ((rd_sl (i := 0) rfl) w hw))) ?_
                      refine F.q rfl rfl rfl (wanted_none rfl) (r_assign rfl) ?_
                      refine F.nil ?_
                      refine Nrm.seq ?_
                      refine Tri.seq ?_
                      refine Tri.seq ?_
                      refine Tri.reg (l := [0, 1]) rfl ?_
                      refine F.q rfl rfl rfl (wanted_none rfl) (r_move rfl) ?_
                      refine F.q rfl rfl rfl (wanted_none rfl) (r_lss rfl rfl) ?_
                      refine F.nil ?_
                      refine Nrm.seq ?_
                      refine Tri.cond (b := decide (t95 < 0)) rfl (fun g_8 => ?_) (fun g_8 => ?_)
                      · replace h := if_tt g_8 h
                        refine Tri.seq ?_
                        refine Tri.reg (l := [0]) rfl ?_
                        refine F.q rfl rfl rfl (wanted_none rfl) (r_assign rfl) ?_
                        refine F.nil ?_
                        refine Nrm.seq ?_
                        refine Tri.ret ?_
                        refine Rtn.then ?_
                        cases h
                        exact Rtn.body (.tmp rfl .nil) (fun w hw => ⟨rfl, hw.ext⟩)
                      · replace h := if_ff g_8 h
                        refine Tri.skip ?_
                        refine Nrm.seq ?_
                        refine Tri.seq ?_
                        refine Tri.seq ?_
                        refine Tri.reg (l := [0, 1, 2]) rfl ?_
                        refine F.q rfl rfl rfl (wanted_none rfl) (r_move rfl) ?_
                        refine F.q rfl rfl rfl (wanted_none rfl) (r_move rfl) ?_
                        refine F.q rfl rfl rfl (wanted_none rfl) (r_neq rfl rfl) ?_
                        refine F.nil ?_
                        refine Nrm.seq ?_
                        refine Tri.cond (b := t95 != t68_1) rfl (fun g_9 => ?_) (fun g_9 => ?_)
                        · replace h := if_tt g_9 h
                          refine Tri.seq ?_
                          refine Tri.reg (l := [0]) rfl ?_
                          refine F.q rfl rfl rfl (wanted_none rfl) (r_assign rfl) ?_
                          refine F.nil ?_
                          refine Nrm.seq ?_
                          refine Tri.ret ?_
                          refine Rtn.then ?_
                          cases h
                          exact Rtn.body (.tmp rfl .nil) (fun w hw => ⟨rfl, hw.ext⟩)
                        · replace h := if_ff g_9 h
                          refine Tri.skip ?_
                          refine Nrm.seq ?_
                          refine Tri.seq ?_
                          refine Tri.reg (l := [0]) rfl ?_
                          refine F.q rfl rfl rfl (wanted_none rfl) (r_assign rfl) ?_
                          refine F.nil ?_
                          refine Nrm.seq ?_
                          refine Tri.ret ?_
                          cases h
                          exact Rtn.body (.tmp rfl .nil) (fun w hw => ⟨rfl, hw.ext⟩)
                  · obtain ⟨t86, h86, hE_3⟩ := bind_some hE_3
                    rcases Bool.eq_false_or_eq_true (!t86) with g88 | g88
                    · replace hE_3 := if_tt g88 hE_3
                      refine Tri.reg (l := [0, 1, 2, 3, 4, 5, 6, 7, 8]) rfl ?_
                      refine F.q rfl rfl rfl (wanted_none rfl) (r_move rfl) ?_
                      refine F.q rfl rfl rfl (wanted_none rfl) (r_move rfl) ?_
                      refine F.qc rfl rfl rfl (wanted_none rfl) (q_callF (xs := _) rfl ok19 rfl rfl (fun w hw => laws_eqIntS.ok h86 w ((rd_sl (i := 0) rfl) w hw) ((rd_sl (i := 5) rfl) w hw))) ?_
                      refine F.q rfl rfl rfl (wanted_none rfl) (r_not rfl) ?_
                      refine F.q rfl rfl rfl (wanted_none rfl) (r_move rfl) ?_
                      refine F.sk rfl rfl rfl (wf rfl rfl rfl g88) ?_
                      refine F.sk rfl rfl rfl (wf rfl rfl rfl g88) ?_
                      refine F.sk rfl rfl rfl (wf rfl rfl rfl g88) ?_
                      refine F.q rfl rfl rfl (wanted_none rfl) (r_pick rfl rfl g88) ?_
                      refine F.nil ?_
                      cases hE_3
                      refine Nrm.only [9, 12, 92] rfl ?_
                      refine Nrm.pick [3] rfl rfl ?_
                      exact hj_3 _ _ ⟨rfl, rfl⟩
                    · replace hE_3 := if_ff g88 hE_3
                      refine Tri.reg (l := [0, 1, 2, 3, 4, 5, 6, 7, 8]) rfl ?_
                      refine F.q rfl rfl rfl (wanted_none rfl) (r_move rfl) ?_
                      refine F.q rfl rfl rfl (wanted_none rfl) (r_move rfl) ?_
                      refine F.qc rfl rfl rfl (wanted_none rfl) (q_callF (xs := _) rfl ok19 rfl rfl (fun w hw => laws_eqIntS.ok h86 w ((rd_sl (i := 0) rfl) w hw) ((rd_sl (i := 5) rfl) w hw))) ?_
                      refine F.q rfl rfl rfl (wanted_none rfl) (r_not rfl) ?_
                      refine F.q rfl rfl rfl (wanted_none rfl) (r_move rfl) ?_
                      refine F.q rfl rfl rfl (wg rfl rfl rfl g88) (r_move rfl) ?_
                      refine F.q rfl rfl rfl (wg rfl rfl rfl g88) (r_move rfl) ?_
                      refine F.q rfl rfl rfl (wg rfl rfl rfl g88) (r_neqB Try.underlying4 rfl rfl) ?_
                      refine F.q rfl rfl rfl (wanted_none rfl) (r_pickf rfl rfl g88) ?_
                      refine F.nil ?_
                      cases hE_3
                      refine Nrm.only [9, 12, 92] rfl ?_
                      refine Nrm.pick [3] rfl rfl ?_
                      exact hj_3 _ _ ⟨rfl, rfl⟩
          · rcases Bool.eq_false_or_eq_true (decide (t52_1 < 0)) with g55 | g55
            · replace hE_2 := if_tt g55 hE_2
              refine Tri.reg (l := [0, 1, 2, 3, 4, 5, 6, 7, 8, 9, 10, 11, 12]) rfl ?_
              refine F.q rfl rfl rfl (wanted_none rfl) (r_move rfl) ?_
              refine F.q rfl rfl rfl (wanted_none rfl) (r_lss rfl rfl) ?_
              refine F.q rfl rfl rfl (wanted_none rfl) (r_move rfl) ?_
              refine F.sk rfl rfl rfl (wf rfl rfl rfl g55) ?_
              refine F.sk rfl rfl rfl (wf rfl rfl rfl g55) ?_
              refine F.sk rfl rfl rfl (wf rfl rfl rfl g55) ?_
              refine F.sk rfl rfl rfl (wf rfl rfl rfl g55) ?_
              refine F.q rfl rfl rfl (wanted_none rfl) (r_pick rfl rfl g55) ?_
              refine F.q rfl rfl rfl (wanted_none rfl) (r_move rfl) ?_
              refine F.sk rfl rfl rfl (wf rfl rfl rfl rfl) ?_
              refine F.sk rfl rfl rfl (wf rfl rfl rfl rfl) ?_
              refine F.sk rfl rfl rfl (wf rfl rfl rfl rfl) ?_
              refine F.q rfl rfl rfl (wanted_none rfl) (r_pick rfl rfl rfl) ?_
              refine F.nil ?_
              cases hE_2
              refine Nrm.only [1, 2, 6, 7, 9, 65] rfl ?_
              refine Nrm.pick [5, 6, 7] rfl rfl ?_
              exact hj_2 _ _ ⟨rfl, rfl⟩
            · replace hE_2 := if_ff g55 hE_2
              obtain ⟨t58, h58, hE_2⟩ := bind_some hE_2
              rcases Bool.eq_false_or_eq_true (!t58) with g61 | g61
              · replace hE_2 := if_tt g61 hE_2
                refine Tri.reg (l := [0, 1, 2, 3, 4, 5, 6, 7, 8, 9, 10, 11, 12]) rfl ?_
                refine F.q rfl rfl rfl (wanted_none rfl) (r_move rfl) ?_
                refine F.q rfl rfl rfl (wanted_none rfl) (r_lss rfl rfl) ?_
                refine F.q rfl rfl rfl (wanted_none rfl) (r_move rfl) ?_
                refine F.q rfl rfl rfl (wg rfl rfl rfl g55) (r_move rfl) ?_
                refine F.q rfl rfl rfl (wg rfl rfl rfl g55) (r_move rfl) ?_
                refine F.qc rfl rfl rfl (wg rfl rfl rfl g55) (q_callF (xs := _) rfl ok19 rfl rfl (fun w hw => laws_eqIntS.ok h58 w ((rd_sl (i := 7) rfl) w hw) ((rd_sl (i := 6) rfl) w hw))) ?_
                refine F.q rfl rfl rfl (wg rfl rfl rfl g55) (r_not rfl) ?_
                refine F.q rfl rfl rfl (wanted_none rfl) (r_pickf rfl rfl g55) ?_
                refine F.q rfl rfl rfl (wanted_none rfl) (r_move rfl) ?_
                refine F.sk rfl rfl rfl (wf rfl rfl rfl g61) ?_
                refine F.sk rfl rfl rfl (wf rfl rfl rfl g61) ?_
                refine F.sk rfl rfl rfl (wf rfl rfl rfl g61) ?_
                refine F.q rfl rfl rfl (wanted_none rfl) (r_pick rfl rfl g61) ?_
                refine F.nil ?_
                cases hE_2
                refine Nrm.only [1, 2, 6, 7, 9, 65] rfl ?_
                refine Nrm.pick [5, 6, 7] rfl rfl ?_
                exact hj_2 _ _ ⟨rfl, rfl⟩
              · replace hE_2 := if_ff g61 hE_2
                refine Tri.reg (l := [0, 1, 2, 3, 4, 5, 6, 7, 8, 9, 10, 11, 12]) rfl ?_
                refine F.q rfl rfl rfl (wanted_none rfl) (r_move rfl) ?_
                refine F.q rfl rfl rfl (wanted_none rfl) (r_lss rfl rfl) ?_
                refine F.q rfl rfl rfl (wanted_none rfl) (r_move rfl) ?_
                refine F.q rfl rfl rfl (wg rfl rfl rfl g55) (r_move rfl) ?_
                refine F.q rfl rfl rfl (wg rfl rfl rfl g55) (r_move rfl) ?_
                refine F.qc rfl rfl rfl (wg rfl rfl rfl g55) (q_callF (xs := _) rfl ok19 rfl rfl (fun w hw => laws_eqIntS.ok h58 w ((rd_sl (i := 7) rfl) w hw) ((rd_sl (i := 6) rfl) w hw))) ?_
                refine F.q rfl rfl rfl (wg rfl rfl rfl g55) (r_not rfl) ?_
                refine F.q rfl rfl rfl (wanted_none rfl) (r_pickf rfl rfl g55) ?_
                refine F.q rfl rfl rfl (wanted_none rfl) (r_move rfl) ?_
                refine F.q rfl rfl rfl (wg rfl rfl rfl g61) (r_move rfl) ?_
                refine F.q rfl rfl rfl (wg rfl rfl rfl g61) (r_move rfl) ?_
                refine F.q rfl rfl rfl (wg rfl rfl rfl g61) (r_neqB Try.underlying4 rfl rfl) ?_
                refine F.q rfl rfl rfl (wanted_none rfl) (r_pickf rfl rfl g61) ?_
                refine F.nil ?_
                cases hE_2
                refine Nrm.only [1, 2, 6, 7, 9, 65] rfl ?_
                refine Nrm.pick [5, 6, 7] rfl rfl ?_
                exact hj_2 _ _ ⟨rfl, rfl⟩
    · obtain ⟨t38, h38, hE_1⟩ := bind_some hE_1
      rcases Bool.eq_false_or_eq_true (!t38) with g40 | g40
      · replace hE_1 := if_tt g40 hE_1
        refine Tri.reg (l := [0, 1, 2, 3, 4, 5, 6, 7, 8]) rfl ?_
        refine F.q rfl rfl rfl (wanted_none rfl) (r_move rfl) ?_
        refine F.q rfl rfl rfl (wanted_none rfl) (r_move rfl) ?_
        refine F.qc rfl rfl rfl (wanted_none rfl) (q_callF (xs := _) rfl ok19 rfl rfl (fun w hw => laws_eqIntS.ok h38 w ((rd_sl (i := 0) rfl) w hw) ((rd_sl (i := 4) rfl) w hw))) ?_
        refine F.q rfl rfl rfl (wanted_none rfl) (r_not rfl) ?_
        refine F.q rfl rfl rfl (wanted_none rfl) (r_move rfl) ?_
        refine F.sk rfl rfl rfl (wf rfl rfl rfl g40) ?_
        refine F.sk rfl rfl rfl (wf rfl rfl rfl g40) ?_
        refine F.sk rfl rfl rfl (wf rfl rfl rfl g40) ?_
        refine F.q rfl rfl rfl (wanted_none rfl) (r_pick rfl rfl g40) ?_
        refine F.nil ?_
        cases hE_1
        refine Nrm.only [1, 2, 6, 7, 8, 9, 10, 44] rfl ?_
        refine Nrm.pick [1, 7, 4, 2, 3, 0] rfl rfl ?_
        exact hj_1 _ _ ⟨rfl, rfl⟩
      · replace hE_1 := if_ff g40 hE_1
        refine Tri.reg (l := [0, 1, 2, 3, 4, 5, 6, 7, 8]) rfl ?_
        refine F.q rfl rfl rfl (wanted_none rfl) (r_move rfl) ?_
        refine F.q rfl rfl rfl (wanted_none rfl) (r_move rfl) ?_
        refine F.qc rfl rfl rfl (wanted_none rfl) (q_callF (xs := _) rfl ok19 rfl rfl (fun w hw => laws_eqIntS.ok h38 w ((rd_sl (i := 0) rfl) w hw) ((rd_sl (i := 4) rfl) w hw))) ?_
        refine F.q rfl rfl rfl (wanted_none rfl) (r_not rfl) ?_
        refine F.q rfl rfl rfl (wanted_none rfl) (r_move rfl) ?_
        refine F.q rfl rfl rfl (wg rfl rfl rfl g40) (r_move rfl) ?_
        refine F.q rfl rfl rfl (wg rfl rfl rfl g40) (r_move rfl) ?_
        refine F.q rfl rfl rfl (wg rfl rfl rfl g40) (r_neqB Try.underlying4 rfl rfl) ?_
        refine F.q rfl rfl rfl (wanted_none rfl) (r_pickf rfl rfl g40) ?_
        refine F.nil ?_
        cases hE_1
        refine Nrm.only [1, 2, 6, 7, 8, 9, 10, 44] rfl ?_
        refine Nrm.pick [1, 7, 4, 2, 3, 0] rfl rfl ?_
        exact hj_1 _ _ ⟨rfl, rfl⟩

end Go.Proofs
