/- A part of the proof of FnExactAloneWorlds: what the functions of the program compute, walked on the model. No condition. -/
import Derived.Test.YteaphppkjcngiaaFnExactAloneWorldsC
/- loop.example/g01158/impl.within -/

namespace Go.Proofs
open Go Go.Ga
set_option linter.unusedVariables false
set_option maxRecDepth 100000
set_option maxHeartbeats 4000000
def impl_within.f (k : Nat) (a0 : Int) (a1 : Int) (a2 : Int) : Option (Bool) := ((if (decide (a1 ≤ a0)) = true then some (decide (a0 ≤ a2)) else some false)).bind fun y6 => some y6

theorem impl_within.ok {k : Nat}  {a0 : Int} {a1 : Int} {a2 : Int} {r0 : Bool} (h : impl_within.f k a0 a1 a2 = some r0) (w : World) :
    Calls Try.prog 83 ([.int .i64 a0, .int .i64 a1, .int .i64 a2] : List Value).toArray w (fun e w' => e = .returned (.bool r0) ∧ Ext w w') := by
  unfold impl_within.f at h
  refine Calls.of_tri (N := 15) Try.func83 rfl rfl rfl (Sep.nil (M := noM)) ?_
  refine Tri.seq ?_
  refine Tri.reg (l := [0]) rfl ?_
  refine F.q rfl rfl rfl (wanted_none rfl) (r_assign rfl) ?_
  refine F.nil ?_
  refine Nrm.seq ?_
  refine Tri.seq ?_
  obtain ⟨y6, hE_1, h⟩ := bind_some h
  refine Tri.cut (fun e' C' => e' = [(6, .bool y6)] ∧ C' = Sep w noM []) ?_ (fun hj_1 => ?_)
  · rintro _ _ ⟨rfl, rfl⟩
    refine Nrm.seq ?_
    refine Tri.ret ?_
    cases h
    exact Rtn.body (.tmp rfl .nil) (fun w hw => ⟨rfl, hw.ext⟩)
  · rcases Bool.eq_false_or_eq_true (decide (a1 ≤ a0)) with g10 | g10
    · replace hE_1 := if_tt g10 hE_1
      refine Tri.reg (l := [0, 1, 2, 3, 4, 5, 6, 7, 8]) rfl ?_
      refine F.q rfl rfl rfl (wanted_none rfl) (r_move rfl) ?_
      refine F.q rfl rfl rfl (wanted_none rfl) (r_move rfl) ?_
      refine F.q rfl rfl rfl (wanted_none rfl) (r_leq rfl rfl) ?_
      refine F.q rfl rfl rfl (wanted_none rfl) (r_move rfl) ?_
      refine F.q rfl rfl rfl (wg rfl rfl rfl g10) (r_move rfl) ?_
      refine F.q rfl rfl rfl (wg rfl rfl rfl g10) (r_move rfl) ?_
      refine F.q rfl rfl rfl (wg rfl rfl rfl g10) (r_leq rfl rfl) ?_
      refine F.q rfl rfl rfl (wanted_none rfl) (r_pick rfl rfl g10) ?_
      refine F.q rfl rfl rfl (wanted_none rfl) (r_assign rfl) ?_
      refine F.nil ?_
      cases hE_1
      refine Nrm.only [6] rfl ?_
      refine Nrm.pick [] rfl rfl ?_
      exact hj_1 _ _ ⟨rfl, rfl⟩
    · replace hE_1 := if_ff g10 hE_1
      refine Tri.reg (l := [0, 1, 2, 3, 4, 5, 6, 7, 8]) rfl ?_
      refine F.q rfl rfl rfl (wanted_none rfl) (r_move rfl) ?_
      refine F.q rfl rfl rfl (wanted_none rfl) (r_move rfl) ?_
      refine F.q rfl rfl rfl (wanted_none rfl) (r_leq rfl rfl) ?_
      refine F.q rfl rfl rfl (wanted_none rfl) (r_move rfl) ?_
      refine F.sk rfl rfl rfl (wf rfl rfl rfl g10) ?_
      refine F.sk rfl rfl rfl (wf rfl rfl rfl g10) ?_
      refine F.sk rfl rfl rfl (wf rfl rfl rfl g10) ?_
      refine F.q rfl rfl rfl (wanted_none rfl) (r_pickf rfl rfl g10) ?_
      refine F.q rfl rfl rfl (wanted_none rfl) (r_assign rfl) ?_
      refine F.nil ?_
      cases hE_1
      refine Nrm.only [6] rfl ?_
      refine Nrm.pick [] rfl rfl ?_
      exact hj_1 _ _ ⟨rfl, rfl⟩

end Go.Proofs

/- slices.IndexFunc[[]int,int] -/

namespace Go.Proofs
open Go Go.Ga
set_option linter.unusedVariables false
set_option maxRecDepth 100000
set_option maxHeartbeats 4000000
def slices_IndexFunc_int_int.l0 (k : Nat) (a0 : List Int) (a1 : (Int → Option (Bool))) : Nat → Int → Option ((Unit) ⊕ (Int))
  | 0, _ => none
  | n + 1, x8 => (if (decide (x8 < (a0.length : Int))) = true then (rdl a0 x8).bind fun t14 => (a1 t14).bind fun t16 => (if t16 = true then some (Sum.inr x8) else slices_IndexFunc_int_int.l0 k a0 a1 n (w64 (x8 + 1))) else some (Sum.inl ()))

def slices_IndexFunc_int_int.f (k : Nat) (a0 : List Int) (a1 : (Int → Option (Bool))) : Option (Int) := (slices_IndexFunc_int_int.l0 k a0 a1 k 0).bind fun s => Lr s some fun _ => some (-1)

theorem slices_IndexFunc_int_int.ok {k : Nat}  {a0 : List Int} {a1 : (Int → Option (Bool))} {r0 : Int} (h : slices_IndexFunc_int_int.f k a0 a1 = some r0) (w : World) {va0 : Value} (hr_a0 : Rd w va0 a0) {fi_a1 : FuncId} {ca_a1 : Array Value} (ho_a1 : CallOk Try.prog fi_a1) (hf_a1 : ∀ w2, Ext w w2 → ∀ (z0 : Int) (y : Bool), a1 z0 = some y → Calls Try.prog fi_a1 (([.int .i64 z0] : List Value) ++ ca_a1.toList).toArray w2 (fun e w3 => e = .returned (.bool y) ∧ Ext w2 w3)) :
    Calls Try.prog 154 ([va0, .func (.func fi_a1) #[] ca_a1] : List Value).toArray w (fun e w' => e = .returned (.int .i64 r0) ∧ Ext w w') := by
  unfold slices_IndexFunc_int_int.f at h
  have hl_va0 := hr_a0.len
  refine Calls.of_tri (N := 19) Try.func154 rfl rfl rfl (Sep.nil (M := noM)) ?_
  refine Tri.seq ?_
  refine Tri.reg (l := [0]) rfl ?_
  refine F.q rfl rfl rfl (wanted_none rfl) (r_assign rfl) ?_
  refine F.nil ?_
  refine Nrm.seq ?_
  refine Tri.seq ?_
  refine Tri.seq ?_
  refine Tri.reg (l := [0, 1, 2]) rfl ?_
  refine F.q rfl rfl rfl (wanted_none rfl) (r_move rfl) ?_
  refine F.q rfl rfl rfl (wanted_none rfl) (r_len Try.underlying30 rfl hl_va0) ?_
  refine F.q rfl rfl rfl (wanted_none rfl) (r_move rfl) ?_
  refine F.nil ?_
  refine Nrm.seq ?_
  obtain ⟨s0, hE_1, h⟩ := bind_some h
  refine Tri.block ?_
  refine Tri.only [0, 1, 7, 8] rfl ?_
  refine Tri.pick [] rfl rfl ?_
  refine Tri.rounds (fun n e' C' => ∃ (x8' : Int), slices_IndexFunc_int_int.l0 k a0 a1 n x8' = some s0 ∧ e' = [(0, va0), (1, .func (.func fi_a1) #[] ca_a1), (7, .int .i64 (a0.length : Int)), (8, .int .i64 x8')] ∧ C' = Sep w noM []) k ?_ ?_ ?_
  · exact ⟨0, hE_1, rfl, rfl⟩
  · rintro _ _ ⟨_, hE_1, _⟩
    rw [slices_IndexFunc_int_int.l0.eq_1] at hE_1; cases hE_1
  · rintro n_1 _ _ ⟨x8, hE_1, rfl, rfl⟩ ih_1
    rw [slices_IndexFunc_int_int.l0.eq_2] at hE_1
    refine Tri.seq ?_
    refine Tri.reg (l := [0]) rfl ?_
    refine F.q rfl rfl rfl (wanted_none rfl) (r_lss rfl rfl) ?_
    refine F.nil ?_
    refine Nrm.seq ?_
    refine Tri.seq ?_
    refine Tri.cond (b := decide (x8 < (a0.length : Int))) rfl (fun g_1 => ?_) (fun g_1 => ?_)
    · replace hE_1 := if_tt g_1 hE_1
      refine Tri.skip ?_
      refine Nrm.seq ?_
      refine Tri.seq ?_
      refine Tri.block ?_
      refine Tri.seq ?_
      refine Tri.reg (l := [0, 1]) rfl ?_
      refine F.q rfl rfl rfl (wanted_none rfl) (r_move rfl) ?_
      refine F.q rfl rfl rfl (wanted_none rfl) (r_assign rfl) ?_
      refine F.nil ?_
      refine Nrm.seq ?_
      refine Tri.seq ?_
      obtain ⟨t14, h14, hE_1⟩ := bind_some hE_1
      obtain ⟨t16, h16, hE_1⟩ := bind_some hE_1
      refine Tri.reg (l := [0, 1, 2, 3, 4, 5]) rfl ?_
      refine F.q rfl rfl rfl (wanted_none rfl) (r_move rfl) ?_
      refine F.q rfl rfl rfl (wanted_none rfl) (r_move rfl) ?_
      refine F.q rfl rfl rfl (wanted_none rfl) (r_move rfl) ?_
      refine F.q rfl rfl rfl (wanted_none rfl) (r_indexAddrS Try.underlying30 ti3 rfl hl_va0 rfl (rdl_some h14).1 (rdl_some h14).2.1) ?_
      refine F.q rfl rfl rfl (wanted_none rfl) (r_load ta3 rfl (fun w hw => cell_0 (Rd.flat ((fun _ hw => hr_a0.sep hw) w hw) (rdl_some h14).2.2) rfl)) ?_
      refine F.qc rfl rfl rfl (wanted_none rfl) (q_callC (xs := _) rfl ho_a1 rfl rfl (fun w hw => hf_a1 w hw.ext _  _ h16)) ?_
      refine F.nil ?_
      refine Nrm.seq ?_
      refine Tri.cond (b := t16) rfl (fun g_2 => ?_) (fun g_2 => ?_)
      · replace hE_1 := if_tt g_2 hE_1
        refine Tri.seq ?_
        refine Tri.reg (l := [0, 1]) rfl ?_
        refine F.q rfl rfl rfl (wanted_none rfl) (r_move rfl) ?_
        refine F.q rfl rfl rfl (wanted_none rfl) (r_assign rfl) ?_
        refine F.nil ?_
        refine Nrm.seq ?_
        refine Tri.ret ?_
        refine Rtn.block ?_
        refine Rtn.then ?_
        refine Rtn.then ?_
        refine Rtn.block ?_
        refine Rtn.then ?_
        cases hE_1
        replace h := Lr_inr h
        cases h
        exact Rtn.body (.tmp rfl .nil) (fun w hw => ⟨rfl, hw.ext⟩)
      · replace hE_1 := if_ff g_2 hE_1
        refine Tri.skip ?_
        refine Nrm.block ?_
        refine Nrm.seq ?_
        refine Tri.reg (l := [0, 1]) rfl ?_
        refine F.q rfl rfl rfl (wanted_none rfl) (r_add rfl rfl) ?_
        refine F.q rfl rfl rfl (wanted_none rfl) (r_move rfl) ?_
        refine F.nil ?_
        refine Nrm.round ?_
        refine Rnd.only [0, 1, 7, 8] rfl ?_
        refine Rnd.pick [] rfl rfl ?_
        exact ih_1 _ _ ⟨w64 (x8 + 1), hE_1, rfl, rfl⟩
    · replace hE_1 := if_ff g_1 hE_1
      refine Tri.exit ?_
      refine Exi.then ?_
      refine Exi.then ?_
      refine Exi.same ?_
      cases hE_1
      replace h := Lr_inl h
      refine Nrm.seq ?_
      refine Tri.seq ?_
      refine Tri.reg (l := [0]) rfl ?_
      refine F.q rfl rfl rfl (wanted_none rfl) (r_assign rfl) ?_
      refine F.nil ?_
      refine Nrm.seq ?_
      refine Tri.ret ?_
      cases h
      exact Rtn.body (.tmp rfl .nil) (fun w hw => ⟨rfl, hw.ext⟩)

end Go.Proofs

/- slices.ContainsFunc[[]int,int] -/
namespace Go.Proofs
open Go Go.Ga
set_option linter.unusedVariables false
set_option maxRecDepth 100000
set_option maxHeartbeats 4000000
def slices_ContainsFunc_int_int.f (k : Nat) (a0 : List Int) (a1 : (Int → Option (Bool))) : Option (Bool) := (slices_IndexFunc_int_int.f k a0 a1).bind fun t7 => some (decide (t7 ≥ 0))

theorem slices_ContainsFunc_int_int.ok {k : Nat}  {a0 : List Int} {a1 : (Int → Option (Bool))} {r0 : Bool} (h : slices_ContainsFunc_int_int.f k a0 a1 = some r0) (w : World) {va0 : Value} (hr_a0 : Rd w va0 a0) {fi_a1 : FuncId} {ca_a1 : Array Value} (ho_a1 : CallOk Try.prog fi_a1) (hf_a1 : ∀ w2, Ext w w2 → ∀ (z0 : Int) (y : Bool), a1 z0 = some y → Calls Try.prog fi_a1 (([.int .i64 z0] : List Value) ++ ca_a1.toList).toArray w2 (fun e w3 => e = .returned (.bool y) ∧ Ext w2 w3)) :
    Calls Try.prog 103 ([va0, .func (.func fi_a1) #[] ca_a1] : List Value).toArray w (fun e w' => e = .returned (.bool r0) ∧ Ext w w') := by
  unfold slices_ContainsFunc_int_int.f at h
  have hl_va0 := hr_a0.len
  refine Calls.of_tri (N := 9) Try.func103 rfl rfl rfl (Sep.nil (M := noM)) ?_
  refine Tri.seq ?_
  refine Tri.reg (l := [0]) rfl ?_
  refine F.q rfl rfl rfl (wanted_none rfl) (r_assign rfl) ?_
  refine F.nil ?_
  refine Nrm.seq ?_
  refine Tri.seq ?_
  obtain ⟨t7, h7, h⟩ := bind_some h
  refine Tri.reg (l := [0, 1, 2, 3, 4]) rfl ?_
  refine F.q rfl rfl rfl (wanted_none rfl) (r_move rfl) ?_
  refine F.q rfl rfl rfl (wanted_none rfl) (r_move rfl) ?_
  refine F.qc rfl rfl rfl (wanted_none rfl) (q_callF (xs := _) rfl ok154 rfl rfl (fun w hw => slices_IndexFunc_int_int.ok h7 w ((fun _ hw => hr_a0.sep hw) w hw) ho_a1 (fun w2 he2 => hf_a1 w2 (hw.ext.trans he2)))) ?_
  refine F.q rfl rfl rfl (wanted_none rfl) (r_geq rfl rfl) ?_
  refine F.q rfl rfl rfl (wanted_none rfl) (r_assign rfl) ?_
  refine F.nil ?_
  refine Nrm.seq ?_
  refine Tri.ret ?_
  cases h
  exact Rtn.body (.tmp rfl .nil) (fun w hw => ⟨rfl, hw.ext⟩)

end Go.Proofs

/- loop.example/g01158/impl.isSet -/
namespace Go.Proofs
open Go Go.Ga
set_option linter.unusedVariables false
set_option maxRecDepth 100000
set_option maxHeartbeats 4000000
def impl_isSet.f (k : Nat) (a0 : Int) : Option (Bool) := (impl_within.f k a0 0 63).bind fun t4 => some t4

theorem impl_isSet.ok {k : Nat}  {a0 : Int} {r0 : Bool} (h : impl_isSet.f k a0 = some r0) (w : World) :
    Calls Try.prog 124 ([.int .i64 a0] : List Value).toArray w (fun e w' => e = .returned (.bool r0) ∧ Ext w w') := by
  unfold impl_isSet.f at h
  refine Calls.of_tri (N := 5) Try.func124 rfl rfl rfl (Sep.nil (M := noM)) ?_
  refine Tri.seq ?_
  refine Tri.reg (l := [0]) rfl ?_
  refine F.q rfl rfl rfl (wanted_none rfl) (r_assign rfl) ?_
  refine F.nil ?_
  refine Nrm.seq ?_
  refine Tri.seq ?_
  obtain ⟨t4, h4, h⟩ := bind_some h
  refine Tri.reg (l := [0, 1, 2]) rfl ?_
  refine F.q rfl rfl rfl (wanted_none rfl) (r_move rfl) ?_
  refine F.qc rfl rfl rfl (wanted_none rfl) (q_callF (xs := _) rfl ok83 rfl rfl (fun w hw => impl_within.ok h4 w )) ?_
  refine F.q rfl rfl rfl (wanted_none rfl) (r_assign rfl) ?_
  refine F.nil ?_
  refine Nrm.seq ?_
  refine Tri.ret ?_
  cases h
  exact Rtn.body (.tmp rfl .nil) (fun w hw => ⟨rfl, hw.ext⟩)

end Go.Proofs

/- cmp.Or[int] -/

namespace Go.Proofs
open Go Go.Ga
set_option linter.unusedVariables false
set_option maxRecDepth 100000
set_option maxHeartbeats 4000000
def cmp_Or_int.l0 (k : Nat) (a0 : List Int) : Nat → Int → Option ((Unit) ⊕ (Int))
  | 0, _ => none
  | n + 1, x8 => (if (decide (x8 < (a0.length : Int))) = true then (rdl a0 x8).bind fun t10 => (if (t10 != 0) = true then some (Sum.inr t10) else cmp_Or_int.l0 k a0 n (w64 (x8 + 1))) else some (Sum.inl ()))

def cmp_Or_int.f (k : Nat) (a0 : List Int) : Option (Int) := (cmp_Or_int.l0 k a0 k 0).bind fun s => Lr s some fun _ => some 0

theorem cmp_Or_int.ok {k : Nat}  {a0 : List Int} {r0 : Int} (h : cmp_Or_int.f k a0 = some r0) (w : World) {va0 : Value} (hr_a0 : Rd w va0 a0) :
    Calls Try.prog 175 ([va0] : List Value).toArray w (fun e w' => e = .returned (.int .i64 r0) ∧ Ext w w') := by
  unfold cmp_Or_int.f at h
  have hl_va0 := hr_a0.len
  refine Calls.of_tri (N := 18) Try.func175 rfl rfl rfl (Sep.nil (M := noM)) ?_
  refine Tri.seq ?_
  refine Tri.reg (l := [0]) rfl ?_
  refine F.q rfl rfl rfl (wanted_none rfl) (r_assign rfl) ?_
  refine F.nil ?_
  refine Nrm.seq ?_
  refine Tri.seq ?_
  refine Tri.reg (l := [0]) rfl ?_
  refine F.q rfl rfl rfl (wanted_none rfl) (r_assign rfl) ?_
  refine F.nil ?_
  refine Nrm.seq ?_
  refine Tri.seq ?_
  refine Tri.seq ?_
  refine Tri.reg (l := [0, 1, 2]) rfl ?_
  refine F.q rfl rfl rfl (wanted_none rfl) (r_move rfl) ?_
  refine F.q rfl rfl rfl (wanted_none rfl) (r_len Try.underlying30 rfl hl_va0) ?_
  refine F.q rfl rfl rfl (wanted_none rfl) (r_move rfl) ?_
  refine F.nil ?_
  refine Nrm.seq ?_
  obtain ⟨s0, hE_1, h⟩ := bind_some h
  refine Tri.block ?_
  refine Tri.only [3, 6, 7, 8] rfl ?_
  refine Tri.pick [] rfl rfl ?_
  refine Tri.rounds (fun n e' C' => ∃ (x8' : Int), cmp_Or_int.l0 k a0 n x8' = some s0 ∧ e' = [(3, .int .i64 0), (6, va0), (7, .int .i64 (a0.length : Int)), (8, .int .i64 x8')] ∧ C' = Sep w noM []) k ?_ ?_ ?_
  · exact ⟨0, hE_1, rfl, rfl⟩
  · rintro _ _ ⟨_, hE_1, _⟩
    rw [cmp_Or_int.l0.eq_1] at hE_1; cases hE_1
  · rintro n_1 _ _ ⟨x8, hE_1, rfl, rfl⟩ ih_1
    rw [cmp_Or_int.l0.eq_2] at hE_1
    refine Tri.seq ?_
    refine Tri.reg (l := [0]) rfl ?_
    refine F.q rfl rfl rfl (wanted_none rfl) (r_lss rfl rfl) ?_
    refine F.nil ?_
    refine Nrm.seq ?_
    refine Tri.seq ?_
    refine Tri.cond (b := decide (x8 < (a0.length : Int))) rfl (fun g_1 => ?_) (fun g_1 => ?_)
    · replace hE_1 := if_tt g_1 hE_1
      refine Tri.skip ?_
      refine Nrm.seq ?_
      refine Tri.seq ?_
      refine Tri.block ?_
      refine Tri.seq ?_
      obtain ⟨t10, h10, hE_1⟩ := bind_some hE_1
      refine Tri.reg (l := [0, 1, 2]) rfl ?_
      refine F.q rfl rfl rfl (wanted_none rfl) (r_indexAddrS Try.underlying30 ti3 rfl hl_va0 rfl (rdl_some h10).1 (rdl_some h10).2.1) ?_
      refine F.q rfl rfl rfl (wanted_none rfl) (r_load ta3 rfl (fun w hw => cell_0 (Rd.flat ((fun _ hw => hr_a0.sep hw) w hw) (rdl_some h10).2.2) rfl)) ?_
      refine F.q rfl rfl rfl (wanted_none rfl) (r_assign rfl) ?_
      refine F.nil ?_
      refine Nrm.seq ?_
      refine Tri.seq ?_
      refine Tri.reg (l := [0, 1, 2]) rfl ?_
      refine F.q rfl rfl rfl (wanted_none rfl) (r_move rfl) ?_
      refine F.q rfl rfl rfl (wanted_none rfl) (r_move rfl) ?_
      refine F.q rfl rfl rfl (wanted_none rfl) (r_neq rfl rfl) ?_
      refine F.nil ?_
      refine Nrm.seq ?_
      refine Tri.cond (b := t10 != 0) rfl (fun g_2 => ?_) (fun g_2 => ?_)
      · replace hE_1 := if_tt g_2 hE_1
        refine Tri.seq ?_
        refine Tri.reg (l := [0, 1]) rfl ?_
        refine F.q rfl rfl rfl (wanted_none rfl) (r_move rfl) ?_
        refine F.q rfl rfl rfl (wanted_none rfl) (r_assign rfl) ?_
        refine F.nil ?_
        refine Nrm.seq ?_
        refine Tri.ret ?_
        refine Rtn.block ?_
        refine Rtn.then ?_
        refine Rtn.then ?_
        refine Rtn.block ?_
        refine Rtn.then ?_
        cases hE_1
        replace h := Lr_inr h
        cases h
        exact Rtn.body (.tmp rfl .nil) (fun w hw => ⟨rfl, hw.ext⟩)
      · replace hE_1 := if_ff g_2 hE_1
        refine Tri.skip ?_
        refine Nrm.block ?_
        refine Nrm.seq ?_
        refine Tri.reg (l := [0, 1]) rfl ?_
        refine F.q rfl rfl rfl (wanted_none rfl) (r_add rfl rfl) ?_
        refine F.q rfl rfl rfl (wanted_none rfl) (r_move rfl) ?_
        refine F.nil ?_
        refine Nrm.round ?_
        refine Rnd.only [3, 6, 7, 8] rfl ?_
        refine Rnd.pick [] rfl rfl ?_
        exact ih_1 _ _ ⟨w64 (x8 + 1), hE_1, rfl, rfl⟩
    · replace hE_1 := if_ff g_1 hE_1
      refine Tri.exit ?_
      refine Exi.then ?_
      refine Exi.then ?_
      refine Exi.same ?_
      cases hE_1
      replace h := Lr_inl h
      refine Nrm.seq ?_
      refine Tri.seq ?_
      refine Tri.reg (l := [0, 1]) rfl ?_
      refine F.q rfl rfl rfl (wanted_none rfl) (r_move rfl) ?_
      refine F.q rfl rfl rfl (wanted_none rfl) (r_assign rfl) ?_
      refine F.nil ?_
      refine Nrm.seq ?_
      refine Tri.ret ?_
      cases h
      exact Rtn.body (.tmp rfl .nil) (fun w hw => ⟨rfl, hw.ext⟩)

end Go.Proofs

/- cmp.isNaN[int] -/

namespace Go.Proofs
open Go Go.Ga
set_option linter.unusedVariables false
set_option maxRecDepth 100000
set_option maxHeartbeats 4000000
def cmp_isNaN_int.f (k : Nat) (a0 : Int) : Option (Bool) := some (a0 != a0)

theorem cmp_isNaN_int.ok {k : Nat}  {a0 : Int} {r0 : Bool} (h : cmp_isNaN_int.f k a0 = some r0) (w : World) :
    Calls Try.prog 189 ([.int .i64 a0] : List Value).toArray w (fun e w' => e = .returned (.bool r0) ∧ Ext w w') := by
  unfold cmp_isNaN_int.f at h
  refine Calls.of_tri (N := 6) Try.func189 rfl rfl rfl (Sep.nil (M := noM)) ?_
  refine Tri.seq ?_
  refine Tri.reg (l := [0]) rfl ?_
  refine F.q rfl rfl rfl (wanted_none rfl) (r_assign rfl) ?_
  refine F.nil ?_
  refine Nrm.seq ?_
  refine Tri.seq ?_
  refine Tri.reg (l := [0, 1, 2, 3]) rfl ?_
  refine F.q rfl rfl rfl (wanted_none rfl) (r_move rfl) ?_
  refine F.q rfl rfl rfl (wanted_none rfl) (r_move rfl) ?_
  refine F.q rfl rfl rfl (wanted_none rfl) (r_neq rfl rfl) ?_
  refine F.q rfl rfl rfl (wanted_none rfl) (r_assign rfl) ?_
  refine F.nil ?_
  refine Nrm.seq ?_
  refine Tri.ret ?_
  cases h
  exact Rtn.body (.tmp rfl .nil) (fun w hw => ⟨rfl, hw.ext⟩)

end Go.Proofs

/- cmp.Compare[int] -/
namespace Go.Proofs
open Go Go.Ga
set_option linter.unusedVariables false
set_option maxRecDepth 100000
set_option maxHeartbeats 4000000
def cmp_Compare_int.f (k : Nat) (a0 : Int) (a1 : Int) : Option (Int) := (cmp_isNaN_int.f k a0).bind fun t8 => (cmp_isNaN_int.f k a1).bind fun t10 => (if t8 = true then (if t10 = true then some 0 else some (-1)) else (if t10 = true then some 1 else (if (decide (a0 < a1)) = true then some (-1) else (if (decide (a0 > a1)) = true then some 1 else some 0))))

theorem cmp_Compare_int.ok {k : Nat}  {a0 : Int} {a1 : Int} {r0 : Int} (h : cmp_Compare_int.f k a0 a1 = some r0) (w : World) :
    Calls Try.prog 176 ([.int .i64 a0, .int .i64 a1] : List Value).toArray w (fun e w' => e = .returned (.int .i64 r0) ∧ Ext w w') := by
  unfold cmp_Compare_int.f at h
  refine Calls.of_tri (N := 20) Try.func176 rfl rfl rfl (Sep.nil (M := noM)) ?_
  refine Tri.seq ?_
  refine Tri.reg (l := [0]) rfl ?_
  refine F.q rfl rfl rfl (wanted_none rfl) (r_assign rfl) ?_
  refine F.nil ?_
  refine Nrm.seq ?_
  refine Tri.seq ?_
  obtain ⟨t8, h8, h⟩ := bind_some h
  refine Tri.reg (l := [0, 1, 2]) rfl ?_
  refine F.q rfl rfl rfl (wanted_none rfl) (r_move rfl) ?_
  refine F.qc rfl rfl rfl (wanted_none rfl) (q_callF (xs := _) rfl ok189 rfl rfl (fun w hw => cmp_isNaN_int.ok h8 w )) ?_
  refine F.q rfl rfl rfl (wanted_none rfl) (r_assign rfl) ?_
  refine F.nil ?_
  refine Nrm.seq ?_
  refine Tri.seq ?_
  obtain ⟨t10, h10, h⟩ := bind_some h
  refine Tri.reg (l := [0, 1, 2]) rfl ?_
  refine F.q rfl rfl rfl (wanted_none rfl) (r_move rfl) ?_
  refine F.qc rfl rfl rfl (wanted_none rfl) (q_callF (xs := _) rfl ok189 rfl rfl (fun w hw => cmp_isNaN_int.ok h10 w )) ?_
  refine F.q rfl rfl rfl (wanted_none rfl) (r_assign rfl) ?_
  refine F.nil ?_
  refine Nrm.seq ?_
  refine Tri.seq ?_
  refine Tri.seq ?_
  refine Tri.reg (l := [0]) rfl ?_
  refine F.q rfl rfl rfl (wanted_none rfl) (r_move rfl) ?_
  refine F.nil ?_
  refine Nrm.seq ?_
  refine Tri.cond (b := t8) rfl (fun g_1 => ?_) (fun g_1 => ?_)
  · replace h := if_tt g_1 h
    refine Tri.seq ?_
    refine Tri.seq ?_
    refine Tri.reg (l := [0]) rfl ?_
    refine F.q rfl rfl rfl (wanted_none rfl) (r_move rfl) ?_
    refine F.nil ?_
    refine Nrm.seq ?_
    refine Tri.cond (b := t10) rfl (fun g_2 => ?_) (fun g_2 => ?_)
    · replace h := if_tt g_2 h
      refine Tri.seq ?_
      refine Tri.reg (l := [0]) rfl ?_
      refine F.q rfl rfl rfl (wanted_none rfl) (r_assign rfl) ?_
      refine F.nil ?_
      refine Nrm.seq ?_
      refine Tri.ret ?_
      refine Rtn.then ?_
      refine Rtn.then ?_
      cases h
      exact Rtn.body (.tmp rfl .nil) (fun w hw => ⟨rfl, hw.ext⟩)
    · replace h := if_ff g_2 h
      refine Tri.skip ?_
      refine Nrm.seq ?_
      refine Tri.seq ?_
      refine Tri.reg (l := [0]) rfl ?_
      refine F.q rfl rfl rfl (wanted_none rfl) (r_assign rfl) ?_
      refine F.nil ?_
      refine Nrm.seq ?_
      refine Tri.ret ?_
      refine Rtn.then ?_
      cases h
      exact Rtn.body (.tmp rfl .nil) (fun w hw => ⟨rfl, hw.ext⟩)
  · replace h := if_ff g_1 h
    refine Tri.skip ?_
    refine Nrm.seq ?_
    refine Tri.seq ?_
    refine Tri.seq ?_
    refine Tri.reg (l := [0]) rfl ?_
    refine F.q rfl rfl rfl (wanted_none rfl) (r_move rfl) ?_
    refine F.nil ?_
    refine Nrm.seq ?_
    refine Tri.cond (b := t10) rfl (fun g_3 => ?_) (fun g_3 => ?_)
    · replace h := if_tt g_3 h
      refine Tri.seq ?_
      refine Tri.reg (l := [0]) rfl ?_
      refine F.q rfl rfl rfl (wanted_none rfl) (r_assign rfl) ?_
      refine F.nil ?_
      refine Nrm.seq ?_
      refine Tri.ret ?_
      refine Rtn.then ?_
      cases h
      exact Rtn.body (.tmp rfl .nil) (fun w hw => ⟨rfl, hw.ext⟩)
    · replace h := if_ff g_3 h
      refine Tri.skip ?_
      refine Nrm.seq ?_
      refine Tri.seq ?_
      refine Tri.seq ?_
      refine Tri.reg (l := [0, 1, 2]) rfl ?_
      refine F.q rfl rfl rfl (wanted_none rfl) (r_move rfl) ?_
      refine F.q rfl rfl rfl (wanted_none rfl) (r_move rfl) ?_
      refine F.q rfl rfl rfl (wanted_none rfl) (r_lss rfl rfl) ?_
      refine F.nil ?_
      refine Nrm.seq ?_
      refine Tri.cond (b := decide (a0 < a1)) rfl (fun g_4 => ?_) (fun g_4 => ?_)
      · replace h := if_tt g_4 h
        refine Tri.seq ?_
        refine Tri.reg (l := [0]) rfl ?_
        refine F.q rfl rfl rfl (wanted_none rfl) (r_assign rfl) ?_
        refine F.nil ?_
        refine Nrm.seq ?_
        refine Tri.ret ?_
        refine Rtn.then ?_
        cases h
        exact Rtn.body (.tmp rfl .nil) (fun w hw => ⟨rfl, hw.ext⟩)
      · replace h := if_ff g_4 h
        refine Tri.skip ?_
        refine Nrm.seq ?_
        refine Tri.seq ?_
        refine Tri.seq ?_
        refine Tri.reg (l := [0, 1, 2]) rfl ?_
        refine F.q rfl rfl rfl (wanted_none rfl) (r_move rfl) ?_
        refine F.q rfl rfl rfl (wanted_none rfl) (r_move rfl) ?_
        refine F.q rfl rfl rfl (wanted_none rfl) (r_gtr rfl rfl) ?_
        refine F.nil ?_
        refine Nrm.seq ?_
        refine Tri.cond (b := decide (a0 > a1)) rfl (fun g_5 => ?_) (fun g_5 => ?_)
        · replace h := if_tt g_5 h
          refine Tri.seq ?_
          refine Tri.reg (l := [0]) rfl ?_
          refine F.q rfl rfl rfl (wanted_none rfl) (r_assign rfl) ?_
          refine F.nil ?_
          refine Nrm.seq ?_
          refine Tri.ret ?_
          refine Rtn.then ?_
          cases h
          exact Rtn.body (.tmp rfl .nil) (fun w hw => ⟨rfl, hw.ext⟩)
        · replace h := if_ff g_5 h
          refine Tri.skip ?_
          refine Nrm.seq ?_
          refine Tri.seq ?_
          refine Tri.reg (l := [0]) rfl ?_
          refine F.q rfl rfl rfl (wanted_none rfl) (r_assign rfl) ?_
          refine F.nil ?_
          refine Nrm.seq ?_
          refine Tri.ret ?_
          cases h
          exact Rtn.body (.tmp rfl .nil) (fun w hw => ⟨rfl, hw.ext⟩)

end Go.Proofs

/- loop.example/g01158/impl.compareDoors -/
namespace Go.Proofs
open Go Go.Ga
set_option linter.unusedVariables false
set_option maxRecDepth 100000
set_option maxHeartbeats 4000000
def impl_compareDoors.f (k : Nat) (a0_0 : Int) (a0_1 : Int) (a0_2 : Int) (a1_0 : Int) (a1_1 : Int) (a1_2 : Int) : Option (Int) := (cmp_Compare_int.f k a0_0 a1_0).bind fun t9 => (cmp_Compare_int.f k a0_1 a1_1).bind fun t14 => (cmp_Compare_int.f k a0_2 a1_2).bind fun t19 => (cmp_Or_int.f k ([t9, t14, t19] : List (Int))).bind fun t21 => some t21

theorem impl_compareDoors.ok {k : Nat}  {a0_0 : Int} {a0_1 : Int} {a0_2 : Int} {a1_0 : Int} {a1_1 : Int} {a1_2 : Int} {r0 : Int} (h : impl_compareDoors.f k a0_0 a0_1 a0_2 a1_0 a1_1 a1_2 = some r0) (w : World) :
    Calls Try.prog 142 ([.agg ([.int .i64 a0_0, .int .i64 a0_1, .int .i64 a0_2].toArray), .agg ([.int .i64 a1_0, .int .i64 a1_1, .int .i64 a1_2].toArray)] : List Value).toArray w (fun e w' => e = .returned (.int .i64 r0) ∧ Ext w w') := by
  unfold impl_compareDoors.f at h
  refine Calls.of_tri (N := 22) Try.func142 rfl rfl rfl (Sep.nil (M := noM)) ?_
  refine Tri.seq ?_
  refine Tri.reg (l := [0, 1, 2]) rfl ?_
  refine F.m rfl rfl rfl (wanted_none rfl) (m_boxG rfl rfl) ?_
  rintro _ _ ⟨b2_1, rfl, rfl⟩
  refine F.m rfl rfl rfl (wanted_none rfl) (m_boxG rfl rfl) ?_
  rintro _ _ ⟨b3_1, rfl, rfl⟩
  refine F.q rfl rfl rfl (wanted_none rfl) (r_assign rfl) ?_
  refine F.nil ?_
  refine Nrm.seq ?_
  refine Tri.seq ?_
  obtain ⟨t9, h9, h⟩ := bind_some h
  obtain ⟨t14, h14, h⟩ := bind_some h
  obtain ⟨t19, h19, h⟩ := bind_some h
  obtain ⟨t21, h21, h⟩ := bind_some h
  refine Tri.drawA mixedT Sep.up [(0, true), (1, true), (2, true), (3, true), (4, true), (5, true), (6, true), (7, true), (8, true), (9, true), (10, true), (11, true), (12, true), (13, true), (14, true), (15, false), (16, true), (17, true)] [] (by kernel_rfl) ?_
  refine S.q rfl rfl rfl (wanted_none rfl) (r_indexAddrA Try.underlying145 ti3 rfl rfl (by decide) (by decide)) ?_
  refine S.q rfl rfl rfl (wanted_none rfl) (r_load ta3 rfl (fun w hw => cell_1 (box_cells (i := 1) rfl w hw) rfl)) ?_
  refine S.q rfl rfl rfl (wanted_none rfl) (r_indexAddrA Try.underlying145 ti3 rfl rfl (by decide) (by decide)) ?_
  refine S.q rfl rfl rfl (wanted_none rfl) (r_load ta3 rfl (fun w hw => cell_1 (box_cells (i := 0) rfl w hw) rfl)) ?_
  refine S.qc rfl rfl rfl (wanted_none rfl) (q_callF (xs := _) rfl ok176 rfl rfl (fun w hw => cmp_Compare_int.ok h9 w )) ?_
  refine S.q rfl rfl rfl (wanted_none rfl) (r_indexAddrA Try.underlying145 ti3 rfl rfl (by decide) (by decide)) ?_
  refine S.q rfl rfl rfl (wanted_none rfl) (r_load ta3 rfl (fun w hw => cell_1 (box_cells (i := 1) rfl w hw) rfl)) ?_
  refine S.q rfl rfl rfl (wanted_none rfl) (r_indexAddrA Try.underlying145 ti3 rfl rfl (by decide) (by decide)) ?_
  refine S.q rfl rfl rfl (wanted_none rfl) (r_load ta3 rfl (fun w hw => cell_1 (box_cells (i := 0) rfl w hw) rfl)) ?_
  refine S.qc rfl rfl rfl (wanted_none rfl) (q_callF (xs := _) rfl ok176 rfl rfl (fun w hw => cmp_Compare_int.ok h14 w )) ?_
  refine S.q rfl rfl rfl (wanted_none rfl) (r_indexAddrA Try.underlying145 ti3 rfl rfl (by decide) (by decide)) ?_
  refine S.q rfl rfl rfl (wanted_none rfl) (r_load ta3 rfl (fun w hw => cell_1 (box_cells (i := 1) rfl w hw) rfl)) ?_
  refine S.q rfl rfl rfl (wanted_none rfl) (r_indexAddrA Try.underlying145 ti3 rfl rfl (by decide) (by decide)) ?_
  refine S.q rfl rfl rfl (wanted_none rfl) (r_load ta3 rfl (fun w hw => cell_1 (box_cells (i := 0) rfl w hw) rfl)) ?_
  refine S.qc rfl rfl rfl (wanted_none rfl) (q_callF (xs := _) rfl ok176 rfl rfl (fun w hw => cmp_Compare_int.ok h19 w )) ?_
  refine S.m rfl rfl rfl (wanted_none rfl) (m_buildF (l := ([t9, t14, t19] : List (Int))) Try.underlying30 ti3 rfl rfl rfl rfl rfl) ?_
  rintro v20_2 _ ⟨S20_2, hl_v20_2, rfl⟩
  refine S.qc rfl rfl rfl (wanted_none rfl) (q_callF (xs := _) rfl ok175 rfl rfl (fun w hw => cmp_Or_int.ok h21 w ((rd_sl (i := 0) rfl) w hw))) ?_
  refine S.q rfl rfl rfl (wanted_none rfl) (r_assign rfl) ?_
  refine S.nil ?_
  refine F.nil ?_
  refine Nrm.seq ?_
  refine Tri.ret ?_
  cases h
  exact Rtn.body (.tmp rfl .nil) (fun w hw => ⟨rfl, hw.ext⟩)

end Go.Proofs

/- loop.example/g01158/impl.IsMaze$1 -/
namespace Go.Proofs
open Go Go.Ga
set_option linter.unusedVariables false
set_option maxRecDepth 100000
set_option maxHeartbeats 4000000
def impl_IsMaze_1.f (k : Nat) (a0 : Int) : Option (Bool) := (impl_isSet.f k a0).bind fun t4 => some (!t4)

theorem impl_IsMaze_1.ok {k : Nat}  {a0 : Int} {r0 : Bool} (h : impl_IsMaze_1.f k a0 = some r0) (w : World) :
    Calls Try.prog 143 ([.int .i64 a0] : List Value).toArray w (fun e w' => e = .returned (.bool r0) ∧ Ext w w') := by
  unfold impl_IsMaze_1.f at h
  refine Calls.of_tri (N := 6) Try.func143 rfl rfl rfl (Sep.nil (M := noM)) ?_
  refine Tri.seq ?_
  refine Tri.reg (l := [0]) rfl ?_
  refine F.q rfl rfl rfl (wanted_none rfl) (r_assign rfl) ?_
  refine F.nil ?_
  refine Nrm.seq ?_
  refine Tri.seq ?_
  obtain ⟨t4, h4, h⟩ := bind_some h
  refine Tri.reg (l := [0, 1, 2, 3]) rfl ?_
  refine F.q rfl rfl rfl (wanted_none rfl) (r_move rfl) ?_
  refine F.qc rfl rfl rfl (wanted_none rfl) (q_callF (xs := _) rfl ok124 rfl rfl (fun w hw => impl_isSet.ok h4 w )) ?_
  refine F.q rfl rfl rfl (wanted_none rfl) (r_not rfl) ?_
  refine F.q rfl rfl rfl (wanted_none rfl) (r_assign rfl) ?_
  refine F.nil ?_
  refine Nrm.seq ?_
  refine Tri.ret ?_
  cases h
  exact Rtn.body (.tmp rfl .nil) (fun w hw => ⟨rfl, hw.ext⟩)

end Go.Proofs

/- loop.example/g01158/impl.IsMaze -/
namespace Go.Proofs
open Go Go.Ga
set_option linter.unusedVariables false
set_option maxRecDepth 100000
set_option maxHeartbeats 4000000
def impl_IsMaze.l0 (k : Nat) (a0_0 : Int) (a0_1 : List (Int × Int × Int)) : Nat → Int → Option ((Unit) ⊕ (Bool))
  | 0, _ => none
  | n + 1, x26 => (if (decide (x26 < (a0_1.length : Int))) = true then (rdl a0_1 x26).bind fun t29 => ((if (decide (t29.1 < 0)) = true then some true else (if (decide (t29.1 ≥ t29.2.1)) = true then some true else (if (decide (t29.2.1 ≥ a0_0)) = true then some true else (impl_isSet.f k t29.2.2).bind fun t51 => (if (!t51) = true then some true else (if (decide (x26 > 0)) = true then (rdl a0_1 (w64 (x26 - 1))).bind fun t62 => (impl_compareDoors.f k t62.1 t62.2.1 t62.2.2 t29.1 t29.2.1 t29.2.2).bind fun t65 => some (decide (t65 ≥ 0)) else some false)))))).bind fun y68 => (if y68 = true then some (Sum.inr false) else impl_IsMaze.l0 k a0_0 a0_1 n (w64 (x26 + 1))) else some (Sum.inl ()))

def impl_IsMaze.f (k : Nat) (a0_0 : Int) (a0_1 : List (Int × Int × Int)) (a0_2 : List Int) : Option (Bool) := ((impl_within.f k a0_0 1 12).bind fun t7 => (if (!t7) = true then some true else (if (decide ((a0_1.length : Int) > 30)) = true then some true else some ((a0_2.length : Int) != a0_0)))).bind fun y22 => (if y22 = true then some false else (impl_IsMaze.l0 k a0_0 a0_1 k 0).bind fun s => Lr s some fun _ => (slices_ContainsFunc_int_int.f k a0_2 (fun z0 => impl_IsMaze_1.f k z0)).bind fun t72 => some (!t72))

theorem impl_IsMaze.ok {k : Nat}  {a0_0 : Int} {a0_1 : List (Int × Int × Int)} {a0_2 : List Int} {r0 : Bool} (h : impl_IsMaze.f k a0_0 a0_1 a0_2 = some r0) (w : World) {va0_1 : Value} {va0_2 : Value} (hr_a0_1 : Rd w va0_1 a0_1) (hr_a0_2 : Rd w va0_2 a0_2) :
    Calls Try.prog 82 ([.agg ([.int .i64 a0_0, va0_1, va0_2].toArray)] : List Value).toArray w (fun e w' => e = .returned (.bool r0) ∧ Ext w w') := by
  unfold impl_IsMaze.f at h
  have hl_va0_1 := hr_a0_1.len
  have hl_va0_2 := hr_a0_2.len
  refine Calls.of_tri (N := 74) Try.func82 rfl rfl rfl (Sep.nil (M := noM)) ?_
  refine Tri.seq ?_
  refine Tri.reg (l := [0, 1]) rfl ?_
  refine F.m rfl rfl rfl (wanted_none rfl) (m_boxG rfl rfl) ?_
  rintro _ _ ⟨b1_1, rfl, rfl⟩
  refine F.q rfl rfl rfl (wanted_none rfl) (r_assign rfl) ?_
  refine F.nil ?_
  refine Nrm.seq ?_
  refine Tri.seq ?_
  refine Tri.seq ?_
  obtain ⟨y22, hE_1, h⟩ := bind_some h
  refine Tri.cut (fun e' C' => e' = [(1, .pointer (some ⟨b1_1, 0, none⟩)), (22, .bool y22)] ∧ C' = Sep w noM [R.box b1_1 37 [.int .i64 a0_0, va0_1, va0_2]]) ?_ (fun hj_1 => ?_)
  · rintro _ _ ⟨rfl, rfl⟩
    refine Nrm.seq ?_
    refine Tri.cond (b := y22) rfl (fun g_1 => ?_) (fun g_1 => ?_)
    · replace h := if_tt g_1 h
      refine Tri.seq ?_
      refine Tri.reg (l := [0]) rfl ?_
      refine F.q rfl rfl rfl (wanted_none rfl) (r_assign rfl) ?_
      refine F.nil ?_
      refine Nrm.seq ?_
      refine Tri.ret ?_
      refine Rtn.then ?_
      cases h
      exact Rtn.body (.tmp rfl .nil) (fun w hw => ⟨rfl, hw.ext⟩)
    · replace h := if_ff g_1 h
      refine Tri.skip ?_
      refine Nrm.seq ?_
      refine Tri.seq ?_
      refine Tri.seq ?_
      refine Tri.reg (l := [0, 1, 2, 3]) rfl ?_
      refine F.q rfl rfl rfl (wanted_none rfl) (r_fieldAddr tf37_1 rfl) ?_
      refine F.q rfl rfl rfl (wanted_none rfl) (r_load ta29 rfl (fun w hw => cell_1 (box_cells (i := 0) rfl w hw) rfl)) ?_
      refine F.q rfl rfl rfl (wanted_none rfl) (r_len Try.underlying29 rfl hl_va0_1) ?_
      refine F.q rfl rfl rfl (wanted_none rfl) (r_move rfl) ?_
      refine F.nil ?_
      refine Nrm.seq ?_
      obtain ⟨s0, hE_2, h⟩ := bind_some h
      refine Tri.block ?_
      refine Tri.only [1, 24, 25, 26] rfl ?_
      refine Tri.pick [0] rfl rfl ?_
      refine Tri.rounds (fun n e' C' => ∃ (x26' : Int), impl_IsMaze.l0 k a0_0 a0_1 n x26' = some s0 ∧ e' = [(1, .pointer (some ⟨b1_1, 0, none⟩)), (24, va0_1), (25, .int .i64 (a0_1.length : Int)), (26, .int .i64 x26')] ∧ C' = Sep w noM [R.box b1_1 37 [.int .i64 a0_0, va0_1, va0_2]]) k ?_ ?_ ?_
      · exact ⟨0, hE_2, rfl, rfl⟩
      · rintro _ _ ⟨_, hE_2, _⟩
        rw [impl_IsMaze.l0.eq_1] at hE_2; cases hE_2
      · rintro n_1 _ _ ⟨x26, hE_2, rfl, rfl⟩ ih_1
        rw [impl_IsMaze.l0.eq_2] at hE_2
        refine Tri.seq ?_
        refine Tri.reg (l := [0]) rfl ?_
        refine F.q rfl rfl rfl (wanted_none rfl) (r_lss rfl rfl) ?_
        refine F.nil ?_
        refine Nrm.seq ?_
        refine Tri.seq ?_
        refine Tri.cond (b := decide (x26 < (a0_1.length : Int))) rfl (fun g_2 => ?_) (fun g_2 => ?_)
        · replace hE_2 := if_tt g_2 hE_2
          refine Tri.skip ?_
          refine Nrm.seq ?_
          refine Tri.seq ?_
          refine Tri.block ?_
          refine Tri.seq ?_
          obtain ⟨t29, h29, hE_2⟩ := bind_some hE_2
          refine Tri.reg (l := [0, 1, 2, 3, 4, 5]) rfl ?_
          refine F.q rfl rfl rfl (wanted_none rfl) (r_move rfl) ?_
          refine F.q rfl rfl rfl (wanted_none rfl) (r_indexAddrS Try.underlying29 ti145 rfl hl_va0_1 rfl (rdl_some h29).1 (rdl_some h29).2.1) ?_
          refine F.q rfl rfl rfl (wanted_none rfl) (r_loadA ta145 ti145 rfl rfl (fun w hw => (Rd.flat ((fun _ hw => hr_a0_1.sep hw) w hw) (rdl_some h29).2.2))) ?_
          refine F.m rfl rfl rfl (wanted_none rfl) (m_alloc ti145) ?_
          rintro _ _ ⟨b4_1, rfl, rfl⟩
          refine F.q rfl rfl rfl (wanted_none rfl) (r_assign rfl) ?_
          refine F.ef0 rfl rfl (wanted_none rfl) (d_storeG0 (i := 0) (cs2 := [.int .i64 t29.1, .int .i64 t29.2.1, .int .i64 t29.2.2]) ti145 rfl rfl rfl rfl rfl (Nat.le_of_ble_eq_true rfl) (lf_cons rfl (lf_cons rfl (lf_cons rfl lf_nil)))) ?_
          rintro _ _ ⟨rfl, rfl⟩
          refine F.nil ?_
          refine Nrm.seq ?_
          refine Tri.seq ?_
          obtain ⟨y68, hE_3, hE_2⟩ := bind_some hE_2
          refine Tri.cut (fun e' C' => e' = [(1, .pointer (some ⟨b1_1, 0, none⟩)), (24, va0_1), (25, .int .i64 (a0_1.length : Int)), (26, .int .i64 x26), (68, .bool y68)] ∧ C' = Sep w noM [R.box b1_1 37 [.int .i64 a0_0, va0_1, va0_2]]) ?_ (fun hj_2 => ?_)
          · rintro _ _ ⟨rfl, rfl⟩
            refine Nrm.seq ?_
            refine Tri.cond (b := y68) rfl (fun g_3 => ?_) (fun g_3 => ?_)
            · replace hE_2 := if_tt g_3 hE_2
              refine Tri.seq ?_
              refine Tri.reg (l := [0]) rfl ?_
              refine F.q rfl rfl rfl (wanted_none rfl) (r_assign rfl) ?_
              refine F.nil ?_
              refine Nrm.seq ?_
              refine Tri.ret ?_
              refine Rtn.block ?_
              refine Rtn.then ?_
              refine Rtn.then ?_
              refine Rtn.block ?_
              refine Rtn.then ?_
              cases hE_2
              replace h := Lr_inr h
              cases h
              exact Rtn.body (.tmp rfl .nil) (fun w hw => ⟨rfl, hw.ext⟩)
            · replace hE_2 := if_ff g_3 hE_2
              refine Tri.skip ?_
              refine Nrm.block ?_
              refine Nrm.seq ?_
              refine Tri.reg (l := [0, 1]) rfl ?_
              refine F.q rfl rfl rfl (wanted_none rfl) (r_add rfl rfl) ?_
              refine F.q rfl rfl rfl (wanted_none rfl) (r_move rfl) ?_
              refine F.nil ?_
              refine Nrm.round ?_
              refine Rnd.only [1, 24, 25, 26] rfl ?_
              refine Rnd.pick [0] rfl rfl ?_
              exact ih_1 _ _ ⟨w64 (x26 + 1), hE_2, rfl, rfl⟩
          · rcases Bool.eq_false_or_eq_true (decide (t29.1 < 0)) with g34 | g34
            · replace hE_3 := if_tt g34 hE_3
              refine Tri.drawA mixedT Sep.up [(0, true), (1, true), (2, true), (3, true), (4, true), (5, true), (6, true), (7, true), (8, true), (9, true), (10, true), (11, true), (12, true), (13, true), (14, true), (15, true), (16, true), (17, true), (18, true), (19, true), (20, true), (21, true), (22, true), (23, true), (24, true), (25, true), (26, true), (27, true), (28, true), (29, true), (30, true), (31, true), (32, true), (33, true), (34, true), (35, true), (36, true), (37, true)] [] (by kernel_rfl) ?_
              refine S.q rfl rfl rfl (wanted_none rfl) (r_indexAddrA Try.underlying145 ti3 rfl rfl (by decide) (by decide)) ?_
              refine S.q rfl rfl rfl (wanted_none rfl) (r_load ta3 rfl (fun w hw => cell_1 (box_cells (i := 0) rfl w hw) rfl)) ?_
              refine S.q rfl rfl rfl (wanted_none rfl) (r_lss rfl rfl) ?_
              refine S.q rfl rfl rfl (wanted_none rfl) (r_move rfl) ?_
              refine S.sk rfl rfl rfl (wf rfl rfl rfl g34) ?_
              refine S.sk rfl rfl rfl (wf rfl rfl rfl g34) ?_
              refine S.sk rfl rfl rfl (wf rfl rfl rfl g34) ?_
              refine S.sk rfl rfl rfl (wf rfl rfl rfl g34) ?_
              refine S.sk rfl rfl rfl (wf rfl rfl rfl g34) ?_
              refine S.q rfl rfl rfl (wanted_none rfl) (r_pick rfl rfl g34) ?_
              refine S.q rfl rfl rfl (wanted_none rfl) (r_move rfl) ?_
              refine S.sk rfl rfl rfl (wf rfl rfl rfl rfl) ?_
              refine S.sk rfl rfl rfl (wf rfl rfl rfl rfl) ?_
              refine S.sk rfl rfl rfl (wf rfl rfl rfl rfl) ?_
              refine S.sk rfl rfl rfl (wf rfl rfl rfl rfl) ?_
              refine S.sk rfl rfl rfl (wf rfl rfl rfl rfl) ?_
              refine S.q rfl rfl rfl (wanted_none rfl) (r_pick rfl rfl rfl) ?_
              refine S.q rfl rfl rfl (wanted_none rfl) (r_move rfl) ?_
              refine S.sk rfl rfl rfl (wf rfl rfl rfl rfl) ?_
              refine S.sk rfl rfl rfl (wf rfl rfl rfl rfl) ?_
              refine S.sk rfl rfl rfl (wf rfl rfl rfl rfl) ?_
              refine S.sk rfl rfl rfl (wf rfl rfl rfl rfl) ?_
              refine S.q rfl rfl rfl (wanted_none rfl) (r_pick rfl rfl rfl) ?_
              refine S.q rfl rfl rfl (wanted_none rfl) (r_move rfl) ?_
              refine S.sk rfl rfl rfl (wf rfl rfl rfl rfl) ?_
              refine S.sk rfl rfl rfl (wf rfl rfl rfl rfl) ?_
              refine S.sk rfl rfl rfl (wf rfl rfl rfl rfl) ?_
              refine S.sk rfl rfl rfl (wanted_undef rfl rfl rfl) ?_
              refine S.sk rfl rfl rfl (wanted_undef rfl rfl rfl) ?_
              refine S.sk rfl rfl rfl (wanted_undef rfl rfl rfl) ?_
              refine S.sk rfl rfl rfl (wanted_undef rfl rfl rfl) ?_
              refine S.sk rfl rfl rfl (wanted_undef rfl rfl rfl) ?_
              refine S.sk rfl rfl rfl (wanted_undef rfl rfl rfl) ?_
              refine S.sk rfl rfl rfl (wanted_undef rfl rfl rfl) ?_
              refine S.sk rfl rfl rfl (wanted_undef rfl rfl rfl) ?_
              refine S.sk rfl rfl rfl (wanted_undef rfl rfl rfl) ?_
              refine S.sk rfl rfl rfl (wf rfl rfl rfl rfl) ?_
              refine S.q rfl rfl rfl (wanted_none rfl) (r_pick rfl rfl rfl) ?_
              refine S.nil ?_
              refine F.nil ?_
              cases hE_3
              refine Nrm.only [1, 24, 25, 26, 68] rfl ?_
              refine Nrm.pick [1] rfl rfl ?_
              exact hj_2 _ _ ⟨rfl, rfl⟩
            · replace hE_3 := if_ff g34 hE_3
              rcases Bool.eq_false_or_eq_true (decide (t29.1 ≥ t29.2.1)) with g41 | g41
              · replace hE_3 := if_tt g41 hE_3
                refine Tri.drawA mixedT Sep.up [(0, true), (1, true), (2, true), (3, true), (4, true), (5, true), (6, true), (7, true), (8, true), (9, true), (10, true), (11, true), (12, true), (13, true), (14, true), (15, true), (16, true), (17, true), (18, true), (19, true), (20, true), (21, true), (22, true), (23, true), (24, true), (25, true), (26, true), (27, true), (28, true), (29, true), (30, true), (31, true), (32, true), (33, true), (34, true), (35, true), (36, true), (37, true)] [] (by kernel_rfl) ?_
                refine S.q rfl rfl rfl (wanted_none rfl) (r_indexAddrA Try.underlying145 ti3 rfl rfl (by decide) (by decide)) ?_
                refine S.q rfl rfl rfl (wanted_none rfl) (r_load ta3 rfl (fun w hw => cell_1 (box_cells (i := 0) rfl w hw) rfl)) ?_
                refine S.q rfl rfl rfl (wanted_none rfl) (r_lss rfl rfl) ?_
                refine S.q rfl rfl rfl (wanted_none rfl) (r_move rfl) ?_
                refine S.q rfl rfl rfl (wg rfl rfl rfl g34) (r_indexAddrA Try.underlying145 ti3 rfl rfl (by decide) (by decide)) ?_
                refine S.q rfl rfl rfl (wg rfl rfl rfl g34) (r_load ta3 rfl (fun w hw => cell_1 (box_cells (i := 0) rfl w hw) rfl)) ?_
                refine S.q rfl rfl rfl (wg rfl rfl rfl g34) (r_indexAddrA Try.underlying145 ti3 rfl rfl (by decide) (by decide)) ?_
                refine S.q rfl rfl rfl (wg rfl rfl rfl g34) (r_load ta3 rfl (fun w hw => cell_1 (box_cells (i := 0) rfl w hw) rfl)) ?_
                refine S.q rfl rfl rfl (wg rfl rfl rfl g34) (r_geq rfl rfl) ?_
                refine S.q rfl rfl rfl (wanted_none rfl) (r_pickf rfl rfl g34) ?_
                refine S.q rfl rfl rfl (wanted_none rfl) (r_move rfl) ?_
                refine S.sk rfl rfl rfl (wf rfl rfl rfl g41) ?_
                refine S.sk rfl rfl rfl (wf rfl rfl rfl g41) ?_
                refine S.sk rfl rfl rfl (wf rfl rfl rfl g41) ?_
                refine S.sk rfl rfl rfl (wf rfl rfl rfl g41) ?_
                refine S.sk rfl rfl rfl (wf rfl rfl rfl g41) ?_
                refine S.q rfl rfl rfl (wanted_none rfl) (r_pick rfl rfl g41) ?_
                refine S.q rfl rfl rfl (wanted_none rfl) (r_move rfl) ?_
                refine S.sk rfl rfl rfl (wf rfl rfl rfl rfl) ?_
                refine S.sk rfl rfl rfl (wf rfl rfl rfl rfl) ?_
                refine S.sk rfl rfl rfl (wf rfl rfl rfl rfl) ?_
                refine S.sk rfl rfl rfl (wf rfl rfl rfl rfl) ?_
                refine S.q rfl rfl rfl (wanted_none rfl) (r_pick rfl rfl rfl) ?_
                refine S.q rfl rfl rfl (wanted_none rfl) (r_move rfl) ?_
                refine S.sk rfl rfl rfl (wf rfl rfl rfl rfl) ?_
                refine S.sk rfl rfl rfl (wf rfl rfl rfl rfl) ?_
                refine S.sk rfl rfl rfl (wf rfl rfl rfl rfl) ?_
                refine S.sk rfl rfl rfl (wanted_undef rfl rfl rfl) ?_
                refine S.sk rfl rfl rfl (wanted_undef rfl rfl rfl) ?_
                refine S.sk rfl rfl rfl (wanted_undef rfl rfl rfl) ?_
                refine S.sk rfl rfl rfl (wanted_undef rfl rfl rfl) ?_
                refine S.sk rfl rfl rfl (wanted_undef rfl rfl rfl) ?_
                refine S.sk rfl rfl rfl (wanted_undef rfl rfl rfl) ?_
                refine S.sk rfl rfl rfl (wanted_undef rfl rfl rfl) ?_
                refine S.sk rfl rfl rfl (wanted_undef rfl rfl rfl) ?_
                refine S.sk rfl rfl rfl (wanted_undef rfl rfl rfl) ?_
                refine S.sk rfl rfl rfl (wf rfl rfl rfl rfl) ?_
                refine S.q rfl rfl rfl (wanted_none rfl) (r_pick rfl rfl rfl) ?_
                refine S.nil ?_
                refine F.nil ?_
                cases hE_3
                refine Nrm.only [1, 24, 25, 26, 68] rfl ?_
                refine Nrm.pick [1] rfl rfl ?_
                exact hj_2 _ _ ⟨rfl, rfl⟩
              · replace hE_3 := if_ff g41 hE_3
                rcases Bool.eq_false_or_eq_true (decide (t29.2.1 ≥ a0_0)) with g48 | g48
                · replace hE_3 := if_tt g48 hE_3
                  refine Tri.drawA mixedT Sep.up [(0, true), (1, true), (2, true), (3, true), (4, true), (5, true), (6, true), (7, true), (8, true), (9, true), (10, true), (11, true), (12, true), (13, true), (14, true), (15, true), (16, true), (17, true), (18, true), (19, true), (20, true), (21, true), (22, true), (23, true), (24, true), (25, true), (26, true), (27, true), (28, true), (29, true), (30, true), (31, true), (32, true), (33, true), (34, true), (35, true), (36, true), (37, true)] [] (by kernel_rfl) ?_
                  refine S.q rfl rfl rfl (wanted_none rfl) (r_indexAddrA Try.underlying145 ti3 rfl rfl (by decide) (by decide)) ?_
                  refine S.q rfl rfl rfl (wanted_none rfl) (r_load ta3 rfl (fun w hw => cell_1 (box_cells (i := 0) rfl w hw) rfl)) ?_
                  refine S.q rfl rfl rfl (wanted_none rfl) (r_lss rfl rfl) ?_
                  refine S.q rfl rfl rfl (wanted_none rfl) (r_move rfl) ?_
                  refine S.q rfl rfl rfl (wg rfl rfl rfl g34) (r_indexAddrA Try.underlying145 ti3 rfl rfl (by decide) (by decide)) ?_
                  refine S.q rfl rfl rfl (wg rfl rfl rfl g34) (r_load ta3 rfl (fun w hw => cell_1 (box_cells (i := 0) rfl w hw) rfl)) ?_
                  refine S.q rfl rfl rfl (wg rfl rfl rfl g34) (r_indexAddrA Try.underlying145 ti3 rfl rfl (by decide) (by decide)) ?_
                  refine S.q rfl rfl rfl (wg rfl rfl rfl g34) (r_load ta3 rfl (fun w hw => cell_1 (box_cells (i := 0) rfl w hw) rfl)) ?_
                  refine S.q rfl rfl rfl (wg rfl rfl rfl g34) (r_geq rfl rfl) ?_
                  refine S.q rfl rfl rfl (wanted_none rfl) (r_pickf rfl rfl g34) ?_
                  refine S.q rfl rfl rfl (wanted_none rfl) (r_move rfl) ?_
                  refine S.q rfl rfl rfl (wg rfl rfl rfl g41) (r_indexAddrA Try.underlying145 ti3 rfl rfl (by decide) (by decide)) ?_
                  refine S.q rfl rfl rfl (wg rfl rfl rfl g41) (r_load ta3 rfl (fun w hw => cell_1 (box_cells (i := 0) rfl w hw) rfl)) ?_
                  refine S.q rfl rfl rfl (wg rfl rfl rfl g41) (r_fieldAddr tf37_0 rfl) ?_
                  refine S.q rfl rfl rfl (wg rfl rfl rfl g41) (r_load ta3 rfl (fun w hw => cell_1 (box_cells (i := 1) rfl w hw) rfl)) ?_
                  refine S.q rfl rfl rfl (wg rfl rfl rfl g41) (r_geq rfl rfl) ?_
                  refine S.q rfl rfl rfl (wanted_none rfl) (r_pickf rfl rfl g41) ?_
                  refine S.q rfl rfl rfl (wanted_none rfl) (r_move rfl) ?_
                  refine S.sk rfl rfl rfl (wf rfl rfl rfl g48) ?_
                  refine S.sk rfl rfl rfl (wf rfl rfl rfl g48) ?_
                  refine S.sk rfl rfl rfl (wf rfl rfl rfl g48) ?_
                  refine S.sk rfl rfl rfl (wf rfl rfl rfl g48) ?_
                  refine S.q rfl rfl rfl (wanted_none rfl) (r_pick rfl rfl g48) ?_
                  refine S.q rfl rfl rfl (wanted_none rfl) (r_move rfl) ?_
                  refine S.sk rfl rfl rfl (wf rfl rfl rfl rfl) ?_
                  refine S.sk rfl rfl rfl (wf rfl rfl rfl rfl) ?_
                  refine S.sk rfl rfl rfl (wf rfl rfl rfl rfl) ?_
                  refine S.sk rfl rfl rfl (wanted_undef rfl rfl rfl) ?_
                  refine S.sk rfl rfl rfl (wanted_undef rfl rfl rfl) ?_
                  refine S.sk rfl rfl rfl (wanted_undef rfl rfl rfl) ?_
                  refine S.sk rfl rfl rfl (wanted_undef rfl rfl rfl) ?_
                  refine S.sk rfl rfl rfl (wanted_undef rfl rfl rfl) ?_
                  refine S.sk rfl rfl rfl (wanted_undef rfl rfl rfl) ?_
                  refine S.sk rfl rfl rfl (wanted_undef rfl rfl rfl) ?_
                  refine S.sk rfl rfl rfl (wanted_undef rfl rfl rfl) ?_
                  refine S.sk rfl rfl rfl (wanted_undef rfl rfl rfl) ?_
                  refine S.sk rfl rfl rfl (wf rfl rfl rfl rfl) ?_
                  refine S.q rfl rfl rfl (wanted_none rfl) (r_pick rfl rfl rfl) ?_
                  refine S.nil ?_
                  refine F.nil ?_
                  cases hE_3
                  refine Nrm.only [1, 24, 25, 26, 68] rfl ?_
                  refine Nrm.pick [1] rfl rfl ?_
                  exact hj_2 _ _ ⟨rfl, rfl⟩
                · replace hE_3 := if_ff g48 hE_3
                  obtain ⟨t51, h51, hE_3⟩ := bind_some hE_3
                  rcases Bool.eq_false_or_eq_true (!t51) with g54 | g54
                  · replace hE_3 := if_tt g54 hE_3
                    refine Tri.drawA mixedT Sep.up [(0, true), (1, true), (2, true), (3, true), (4, true), (5, true), (6, true), (7, true), (8, true), (9, true), (10, true), (11, true), (12, true), (13, true), (14, true), (15, true), (16, true), (17, true), (18, true), (19, true), (20, true), (21, true), (22, true), (23, true), (24, true), (25, true), (26, true), (27, true), (28, true), (29, true), (30, true), (31, true), (32, true), (33, true), (34, true), (35, true), (36, true), (37, true)] [] (by kernel_rfl) ?_
                    refine S.q rfl rfl rfl (wanted_none rfl) (r_indexAddrA Try.underlying145 ti3 rfl rfl (by decide) (by decide)) ?_
                    refine S.q rfl rfl rfl (wanted_none rfl) (r_load ta3 rfl (fun w hw => cell_1 (box_cells (i := 0) rfl w hw) rfl)) ?_
                    refine S.q rfl rfl rfl (wanted_none rfl) (r_lss rfl rfl) ?_
                    refine S.q rfl rfl rfl (wanted_none rfl) (r_move rfl) ?_
                    refine S.q rfl rfl rfl (wg rfl rfl rfl g34) (r_indexAddrA Try.underlying145 ti3 rfl rfl (by decide) (by decide)) ?_
                    refine S.q rfl rfl rfl (wg rfl rfl rfl g34) (r_load ta3 rfl (fun w hw => cell_1 (box_cells (i := 0) rfl w hw) rfl)) ?_
                    refine S.q rfl rfl rfl (wg rfl rfl rfl g34) (r_indexAddrA Try.underlying145 ti3 rfl rfl (by decide) (by decide)) ?_
                    refine S.q rfl rfl rfl (wg rfl rfl rfl g34) (r_load ta3 rfl (fun w hw => cell_1 (box_cells (i := 0) rfl w hw) rfl)) ?_
                    refine S.q rfl rfl rfl (wg rfl rfl rfl g34) (r_geq rfl rfl) ?_
                    refine S.q rfl rfl rfl (wanted_none rfl) (r_pickf rfl rfl g34) ?_
                    refine S.q rfl rfl rfl (wanted_none rfl) (r_move rfl) ?_
                    refine S.q rfl rfl rfl (wg rfl rfl rfl g41) (r_indexAddrA Try.underlying145 ti3 rfl rfl (by decide) (by decide)) ?_
                    refine S.q rfl rfl rfl (wg rfl rfl rfl g41) (r_load ta3 rfl (fun w hw => cell_1 (box_cells (i := 0) rfl w hw) rfl)) ?_
                    refine S.q rfl rfl rfl (wg rfl rfl rfl g41) (r_fieldAddr tf37_0 rfl) ?_
                    refine S.q rfl rfl rfl (wg rfl rfl rfl g41) (r_load ta3 rfl (fun w hw => cell_1 (box_cells (i := 1) rfl w hw) rfl)) ?_
                    refine S.q rfl rfl rfl (wg rfl rfl rfl g41) (r_geq rfl rfl) ?_
                    refine S.q rfl rfl rfl (wanted_none rfl) (r_pickf rfl rfl g41) ?_
                    refine S.q rfl rfl rfl (wanted_none rfl) (r_move rfl) ?_
                    refine S.q rfl rfl rfl (wg rfl rfl rfl g48) (r_indexAddrA Try.underlying145 ti3 rfl rfl (by decide) (by decide)) ?_
                    refine S.q rfl rfl rfl (wg rfl rfl rfl g48) (r_load ta3 rfl (fun w hw => cell_1 (box_cells (i := 0) rfl w hw) rfl)) ?_
                    refine S.qc rfl rfl rfl (wg rfl rfl rfl g48) (q_callF (xs := _) rfl ok124 rfl rfl (fun w hw => impl_isSet.ok h51 w )) ?_
                    refine S.q rfl rfl rfl (wg rfl rfl rfl g48) (r_not rfl) ?_
                    refine S.q rfl rfl rfl (wanted_none rfl) (r_pickf rfl rfl g48) ?_
                    refine S.q rfl rfl rfl (wanted_none rfl) (r_move rfl) ?_
                    refine S.sk rfl rfl rfl (wf rfl rfl rfl g54) ?_
                    refine S.sk rfl rfl rfl (wf rfl rfl rfl g54) ?_
                    refine S.sk rfl rfl rfl (wf rfl rfl rfl g54) ?_
                    refine S.sk rfl rfl rfl (wanted_undef rfl rfl rfl) ?_
                    refine S.sk rfl rfl rfl (wanted_undef rfl rfl rfl) ?_
                    refine S.sk rfl rfl rfl (wanted_undef rfl rfl rfl) ?_
                    refine S.sk rfl rfl rfl (wanted_undef rfl rfl rfl) ?_
                    refine S.sk rfl rfl rfl (wanted_undef rfl rfl rfl) ?_
                    refine S.sk rfl rfl rfl (wanted_undef rfl rfl rfl) ?_
                    refine S.sk rfl rfl rfl (wanted_undef rfl rfl rfl) ?_
                    refine S.sk rfl rfl rfl (wanted_undef rfl rfl rfl) ?_
                    refine S.sk rfl rfl rfl (wanted_undef rfl rfl rfl) ?_
                    refine S.sk rfl rfl rfl (wf rfl rfl rfl g54) ?_
                    refine S.q rfl rfl rfl (wanted_none rfl) (r_pick rfl rfl g54) ?_
                    refine S.nil ?_
                    refine F.nil ?_
                    cases hE_3
                    refine Nrm.only [1, 24, 25, 26, 68] rfl ?_
                    refine Nrm.pick [1] rfl rfl ?_
                    exact hj_2 _ _ ⟨rfl, rfl⟩
                  · replace hE_3 := if_ff g54 hE_3
                    rcases Bool.eq_false_or_eq_true (decide (x26 > 0)) with g57 | g57
                    · replace hE_3 := if_tt g57 hE_3
                      obtain ⟨t62, h62, hE_3⟩ := bind_some hE_3
                      obtain ⟨t65, h65, hE_3⟩ := bind_some hE_3
                      refine Tri.drawA mixedT Sep.up [(0, true), (1, true), (2, true), (3, true), (4, true), (5, true), (6, true), (7, true), (8, true), (9, true), (10, true), (11, true), (12, true), (13, true), (14, true), (15, true), (16, true), (17, true), (18, true), (19, true), (20, true), (21, true), (22, true), (23, true), (24, true), (25, true), (26, true), (27, true), (28, true), (29, true), (30, true), (31, true), (32, true), (33, true), (34, true), (35, true), (36, true), (37, true)] [] (by kernel_rfl) ?_
                      refine S.q rfl rfl rfl (wanted_none rfl) (r_indexAddrA Try.underlying145 ti3 rfl rfl (by decide) (by decide)) ?_
                      refine S.q rfl rfl rfl (wanted_none rfl) (r_load ta3 rfl (fun w hw => cell_1 (box_cells (i := 0) rfl w hw) rfl)) ?_
                      refine S.q rfl rfl rfl (wanted_none rfl) (r_lss rfl rfl) ?_
                      refine S.q rfl rfl rfl (wanted_none rfl) (r_move rfl) ?_
                      refine S.q rfl rfl rfl (wg rfl rfl rfl g34) (r_indexAddrA Try.underlying145 ti3 rfl rfl (by decide) (by decide)) ?_
                      refine S.q rfl rfl rfl (wg rfl rfl rfl g34) (r_load ta3 rfl (fun w hw => cell_1 (box_cells (i := 0) rfl w hw) rfl)) ?_
                      refine S.q rfl rfl rfl (wg rfl rfl rfl g34) (r_indexAddrA Try.underlying145 ti3 rfl rfl (by decide) (by decide)) ?_
                      refine S.q rfl rfl rfl (wg rfl rfl rfl g34) (r_load ta3 rfl (fun w hw => cell_1 (box_cells (i := 0) rfl w hw) rfl)) ?_
                      refine S.q rfl rfl rfl (wg rfl rfl rfl g34) (r_geq rfl rfl) ?_
                      refine S.q rfl rfl rfl (wanted_none rfl) (r_pickf rfl rfl g34) ?_
                      refine S.q rfl rfl rfl (wanted_none rfl) (r_move rfl) ?_
                      refine S.q rfl rfl rfl (wg rfl rfl rfl g41) (r_indexAddrA Try.underlying145 ti3 rfl rfl (by decide) (by decide)) ?_
                      refine S.q rfl rfl rfl (wg rfl rfl rfl g41) (r_load ta3 rfl (fun w hw => cell_1 (box_cells (i := 0) rfl w hw) rfl)) ?_
                      refine S.q rfl rfl rfl (wg rfl rfl rfl g41) (r_fieldAddr tf37_0 rfl) ?_
                      refine S.q rfl rfl rfl (wg rfl rfl rfl g41) (r_load ta3 rfl (fun w hw => cell_1 (box_cells (i := 1) rfl w hw) rfl)) ?_
                      refine S.q rfl rfl rfl (wg rfl rfl rfl g41) (r_geq rfl rfl) ?_
                      refine S.q rfl rfl rfl (wanted_none rfl) (r_pickf rfl rfl g41) ?_
                      refine S.q rfl rfl rfl (wanted_none rfl) (r_move rfl) ?_
                      refine S.q rfl rfl rfl (wg rfl rfl rfl g48) (r_indexAddrA Try.underlying145 ti3 rfl rfl (by decide) (by decide)) ?_
                      refine S.q rfl rfl rfl (wg rfl rfl rfl g48) (r_load ta3 rfl (fun w hw => cell_1 (box_cells (i := 0) rfl w hw) rfl)) ?_
                      refine S.qc rfl rfl rfl (wg rfl rfl rfl g48) (q_callF (xs := _) rfl ok124 rfl rfl (fun w hw => impl_isSet.ok h51 w )) ?_
                      refine S.q rfl rfl rfl (wg rfl rfl rfl g48) (r_not rfl) ?_
                      refine S.q rfl rfl rfl (wanted_none rfl) (r_pickf rfl rfl g48) ?_
                      refine S.q rfl rfl rfl (wanted_none rfl) (r_move rfl) ?_
                      refine S.q rfl rfl rfl (wg rfl rfl rfl g54) (r_move rfl) ?_
                      refine S.q rfl rfl rfl (wg rfl rfl rfl g54) (r_gtr rfl rfl) ?_
                      refine S.q rfl rfl rfl (wg rfl rfl rfl g54) (r_move rfl) ?_
                      refine S.q rfl rfl rfl (wg rfl rfl rfl g57) (r_fieldAddr tf37_1 rfl) ?_
                      refine S.q rfl rfl rfl (wg rfl rfl rfl g57) (r_load ta29 rfl (fun w hw => cell_1 (box_cells (i := 1) rfl w hw) rfl)) ?_
                      refine S.q rfl rfl rfl (wg rfl rfl rfl g57) (r_move rfl) ?_
                      refine S.q rfl rfl rfl (wg rfl rfl rfl g57) (r_sub rfl rfl) ?_
                      refine S.q rfl rfl rfl (wg rfl rfl rfl g57) (r_indexAddrS Try.underlying29 ti145 rfl hl_va0_1 rfl (rdl_some h62).1 (rdl_some h62).2.1) ?_
                      refine S.q rfl rfl rfl (wg rfl rfl rfl g57) (r_loadA ta145 ti145 rfl rfl (fun w hw => (Rd.flat ((fun _ hw => hr_a0_1.sep hw) w hw) (rdl_some h62).2.2))) ?_
                      refine S.q rfl rfl rfl (wg rfl rfl rfl g57) (r_loadA ta145 ti145 rfl rfl (fun w hw => (box_cells (i := 0) rfl w hw))) ?_
                      refine S.qc rfl rfl rfl (wg rfl rfl rfl g57) (q_callF (xs := _) rfl ok142 rfl rfl (fun w hw => impl_compareDoors.ok h65 w )) ?_
                      refine S.q rfl rfl rfl (wg rfl rfl rfl g57) (r_geq rfl rfl) ?_
                      refine S.q rfl rfl rfl (wg rfl rfl rfl g54) (r_pick rfl rfl g57) ?_
                      refine S.q rfl rfl rfl (wanted_none rfl) (r_pickf rfl rfl g54) ?_
                      refine S.nil ?_
                      refine F.nil ?_
                      cases hE_3
                      refine Nrm.only [1, 24, 25, 26, 68] rfl ?_
                      refine Nrm.pick [1] rfl rfl ?_
                      exact hj_2 _ _ ⟨rfl, rfl⟩
                    · replace hE_3 := if_ff g57 hE_3
                      refine Tri.drawA mixedT Sep.up [(0, true), (1, true), (2, true), (3, true), (4, true), (5, true), (6, true), (7, true), (8, true), (9, true), (10, true), (11, true), (12, true), (13, true), (14, true), (15, true), (16, true), (17, true), (18, true), (19, true), (20, true), (21, true), (22, true), (23, true), (24, true), (25, true), (26, true), (27, true), (28, true), (29, true), (30, true), (31, true), (32, true), (33, true), (34, true), (35, true), (36, true), (37, true)] [] (by kernel_rfl) ?_
                      refine S.q rfl rfl rfl (wanted_none rfl) (r_indexAddrA Try.underlying145 ti3 rfl rfl (by decide) (by decide)) ?_
                      refine S.q rfl rfl rfl (wanted_none rfl) (r_load ta3 rfl (fun w hw => cell_1 (box_cells (i := 0) rfl w hw) rfl)) ?_
                      refine S.q rfl rfl rfl (wanted_none rfl) (r_lss rfl rfl) ?_
                      refine S.q rfl rfl rfl (wanted_none rfl) (r_move rfl) ?_
                      refine S.q rfl rfl rfl (wg rfl rfl rfl g34) (r_indexAddrA Try.underlying145 ti3 rfl rfl (by decide) (by decide)) ?_
                      refine S.q rfl rfl rfl (wg rfl rfl rfl g34) (r_load ta3 rfl (fun w hw => cell_1 (box_cells (i := 0) rfl w hw) rfl)) ?_
                      refine S.q rfl rfl rfl (wg rfl rfl rfl g34) (r_indexAddrA Try.underlying145 ti3 rfl rfl (by decide) (by decide)) ?_
                      refine S.q rfl rfl rfl (wg rfl rfl rfl g34) (r_load ta3 rfl (fun w hw => cell_1 (box_cells (i := 0) rfl w hw) rfl)) ?_
                      refine S.q rfl rfl rfl (wg rfl rfl rfl g34) (r_geq rfl rfl) ?_
                      refine S.q rfl rfl rfl (wanted_none rfl) (r_pickf rfl rfl g34) ?_
                      refine S.q rfl rfl rfl (wanted_none rfl) (r_move rfl) ?_
                      refine S.q rfl rfl rfl (wg rfl rfl rfl g41) (r_indexAddrA Try.underlying145 ti3 rfl rfl (by decide) (by decide)) ?_
                      refine S.q rfl rfl rfl (wg rfl rfl rfl g41) (r_load ta3 rfl (fun w hw => cell_1 (box_cells (i := 0) rfl w hw) rfl)) ?_
                      refine S.q rfl rfl rfl (wg rfl rfl rfl g41) (r_fieldAddr tf37_0 rfl) ?_
                      refine S.q rfl rfl rfl (wg rfl rfl rfl g41) (r_load ta3 rfl (fun w hw => cell_1 (box_cells (i := 1) rfl w hw) rfl)) ?_
                      refine S.q rfl rfl rfl (wg rfl rfl rfl g41) (r_geq rfl rfl) ?_
                      refine S.q rfl rfl rfl (wanted_none rfl) (r_pickf rfl rfl g41) ?_
                      refine S.q rfl rfl rfl (wanted_none rfl) (r_move rfl) ?_
                      refine S.q rfl rfl rfl (wg rfl rfl rfl g48) (r_indexAddrA Try.underlying145 ti3 rfl rfl (by decide) (by decide)) ?_
                      refine S.q rfl rfl rfl (wg rfl rfl rfl g48) (r_load ta3 rfl (fun w hw => cell_1 (box_cells (i := 0) rfl w hw) rfl)) ?_
                      refine S.qc rfl rfl rfl (wg rfl rfl rfl g48) (q_callF (xs := _) rfl ok124 rfl rfl (fun w hw => impl_isSet.ok h51 w )) ?_
                      refine S.q rfl rfl rfl (wg rfl rfl rfl g48) (r_not rfl) ?_
                      refine S.q rfl rfl rfl (wanted_none rfl) (r_pickf rfl rfl g48) ?_
                      refine S.q rfl rfl rfl (wanted_none rfl) (r_move rfl) ?_
                      refine S.q rfl rfl rfl (wg rfl rfl rfl g54) (r_move rfl) ?_
                      refine S.q rfl rfl rfl (wg rfl rfl rfl g54) (r_gtr rfl rfl) ?_
                      refine S.q rfl rfl rfl (wg rfl rfl rfl g54) (r_move rfl) ?_
                      refine S.sk rfl rfl rfl (wf rfl rfl rfl g57) ?_
                      refine S.sk rfl rfl rfl (wf rfl rfl rfl g57) ?_
                      refine S.sk rfl rfl rfl (wf rfl rfl rfl g57) ?_
                      refine S.sk rfl rfl rfl (wf rfl rfl rfl g57) ?_
                      refine S.sk rfl rfl rfl (wf rfl rfl rfl g57) ?_
                      refine S.sk rfl rfl rfl (wf rfl rfl rfl g57) ?_
                      refine S.sk rfl rfl rfl (wf rfl rfl rfl g57) ?_
                      refine S.sk rfl rfl rfl (wf rfl rfl rfl g57) ?_
                      refine S.sk rfl rfl rfl (wf rfl rfl rfl g57) ?_
                      refine S.q rfl rfl rfl (wg rfl rfl rfl g54) (r_pickf rfl rfl g57) ?_
                      refine S.q rfl rfl rfl (wanted_none rfl) (r_pickf rfl rfl g54) ?_
                      refine S.nil ?_
                      refine F.nil ?_
                      cases hE_3
                      refine Nrm.only [1, 24, 25, 26, 68] rfl ?_
                      refine Nrm.pick [1] rfl rfl ?_
                      exact hj_2 _ _ ⟨rfl, rfl⟩
        · replace hE_2 := if_ff g_2 hE_2
          refine Tri.exit ?_
          refine Exi.then ?_
          refine Exi.then ?_
          refine Exi.same ?_
          cases hE_2
          replace h := Lr_inl h
          refine Nrm.seq ?_
          refine Tri.seq ?_
          obtain ⟨t72, h72, h⟩ := bind_some h
          refine Tri.reg (l := [0, 1, 2, 3, 4]) rfl ?_
          refine F.q rfl rfl rfl (wanted_none rfl) (r_fieldAddr tf37_2 rfl) ?_
          refine F.q rfl rfl rfl (wanted_none rfl) (r_load ta30 rfl (fun w hw => cell_1 (box_cells (i := 0) rfl w hw) rfl)) ?_
          refine F.qc rfl rfl rfl (wanted_none rfl) (q_callF (xs := _) rfl ok103 rfl rfl (fun w hw => slices_ContainsFunc_int_int.ok h72 w ((fun _ hw => hr_a0_2.sep hw) w hw) ok143 (fun w2 he2 z0 y2 hy2 => impl_IsMaze_1.ok hy2 w2 ))) ?_
          refine F.q rfl rfl rfl (wanted_none rfl) (r_not rfl) ?_
          refine F.q rfl rfl rfl (wanted_none rfl) (r_assign rfl) ?_
          refine F.nil ?_
          refine Nrm.seq ?_
          refine Tri.ret ?_
          cases h
          exact Rtn.body (.tmp rfl .nil) (fun w hw => ⟨rfl, hw.ext⟩)
  · obtain ⟨t7, h7, hE_1⟩ := bind_some hE_1
    rcases Bool.eq_false_or_eq_true (!t7) with g9 | g9
    · replace hE_1 := if_tt g9 hE_1
      refine Tri.reg (l := [0, 1, 2, 3, 4, 5, 6, 7, 8, 9, 10, 11, 12, 13, 14, 15, 16, 17]) rfl ?_
      refine F.q rfl rfl rfl (wanted_none rfl) (r_fieldAddr tf37_0 rfl) ?_
      refine F.q rfl rfl rfl (wanted_none rfl) (r_load ta3 rfl (fun w hw => cell_1 (box_cells (i := 0) rfl w hw) rfl)) ?_
      refine F.qc rfl rfl rfl (wanted_none rfl) (q_callF (xs := _) rfl ok83 rfl rfl (fun w hw => impl_within.ok h7 w )) ?_
      refine F.q rfl rfl rfl (wanted_none rfl) (r_not rfl) ?_
      refine F.q rfl rfl rfl (wanted_none rfl) (r_move rfl) ?_
      refine F.sk rfl rfl rfl (wf rfl rfl rfl g9) ?_
      refine F.sk rfl rfl rfl (wf rfl rfl rfl g9) ?_
      refine F.sk rfl rfl rfl (wf rfl rfl rfl g9) ?_
      refine F.sk rfl rfl rfl (wf rfl rfl rfl g9) ?_
      refine F.q rfl rfl rfl (wanted_none rfl) (r_pick rfl rfl g9) ?_
      refine F.q rfl rfl rfl (wanted_none rfl) (r_move rfl) ?_
      refine F.sk rfl rfl rfl (wf rfl rfl rfl rfl) ?_
      refine F.sk rfl rfl rfl (wf rfl rfl rfl rfl) ?_
      refine F.sk rfl rfl rfl (wf rfl rfl rfl rfl) ?_
      refine F.sk rfl rfl rfl (wf rfl rfl rfl rfl) ?_
      refine F.sk rfl rfl rfl (wf rfl rfl rfl rfl) ?_
      refine F.sk rfl rfl rfl (wf rfl rfl rfl rfl) ?_
      refine F.q rfl rfl rfl (wanted_none rfl) (r_pick rfl rfl rfl) ?_
      refine F.nil ?_
      cases hE_1
      refine Nrm.only [1, 22] rfl ?_
      refine Nrm.pick [0] rfl rfl ?_
      exact hj_1 _ _ ⟨rfl, rfl⟩
    · replace hE_1 := if_ff g9 hE_1
      rcases Bool.eq_false_or_eq_true (decide ((a0_1.length : Int) > 30)) with g15 | g15
      · replace hE_1 := if_tt g15 hE_1
        refine Tri.reg (l := [0, 1, 2, 3, 4, 5, 6, 7, 8, 9, 10, 11, 12, 13, 14, 15, 16, 17]) rfl ?_
        refine F.q rfl rfl rfl (wanted_none rfl) (r_fieldAddr tf37_0 rfl) ?_
        refine F.q rfl rfl rfl (wanted_none rfl) (r_load ta3 rfl (fun w hw => cell_1 (box_cells (i := 0) rfl w hw) rfl)) ?_
        refine F.qc rfl rfl rfl (wanted_none rfl) (q_callF (xs := _) rfl ok83 rfl rfl (fun w hw => impl_within.ok h7 w )) ?_
        refine F.q rfl rfl rfl (wanted_none rfl) (r_not rfl) ?_
        refine F.q rfl rfl rfl (wanted_none rfl) (r_move rfl) ?_
        refine F.q rfl rfl rfl (wg rfl rfl rfl g9) (r_fieldAddr tf37_1 rfl) ?_
        refine F.q rfl rfl rfl (wg rfl rfl rfl g9) (r_load ta29 rfl (fun w hw => cell_1 (box_cells (i := 0) rfl w hw) rfl)) ?_
        refine F.q rfl rfl rfl (wg rfl rfl rfl g9) (r_len Try.underlying29 rfl hl_va0_1) ?_
        refine F.q rfl rfl rfl (wg rfl rfl rfl g9) (r_gtr rfl rfl) ?_
        refine F.q rfl rfl rfl (wanted_none rfl) (r_pickf rfl rfl g9) ?_
        refine F.q rfl rfl rfl (wanted_none rfl) (r_move rfl) ?_
        refine F.sk rfl rfl rfl (wf rfl rfl rfl g15) ?_
        refine F.sk rfl rfl rfl (wf rfl rfl rfl g15) ?_
        refine F.sk rfl rfl rfl (wf rfl rfl rfl g15) ?_
        refine F.sk rfl rfl rfl (wf rfl rfl rfl g15) ?_
        refine F.sk rfl rfl rfl (wf rfl rfl rfl g15) ?_
        refine F.sk rfl rfl rfl (wf rfl rfl rfl g15) ?_
        refine F.q rfl rfl rfl (wanted_none rfl) (r_pick rfl rfl g15) ?_
        refine F.nil ?_
        cases hE_1
        refine Nrm.only [1, 22] rfl ?_
        refine Nrm.pick [0] rfl rfl ?_
        exact hj_1 _ _ ⟨rfl, rfl⟩
      · replace hE_1 := if_ff g15 hE_1
        refine Tri.reg (l := [0, 1, 2, 3, 4, 5, 6, 7, 8, 9, 10, 11, 12, 13, 14, 15, 16, 17]) rfl ?_
        refine F.q rfl rfl rfl (wanted_none rfl) (r_fieldAddr tf37_0 rfl) ?_
        refine F.q rfl rfl rfl (wanted_none rfl) (r_load ta3 rfl (fun w hw => cell_1 (box_cells (i := 0) rfl w hw) rfl)) ?_
        refine F.qc rfl rfl rfl (wanted_none rfl) (q_callF (xs := _) rfl ok83 rfl rfl (fun w hw => impl_within.ok h7 w )) ?_
        refine F.q rfl rfl rfl (wanted_none rfl) (r_not rfl) ?_
        refine F.q rfl rfl rfl (wanted_none rfl) (r_move rfl) ?_
        refine F.q rfl rfl rfl (wg rfl rfl rfl g9) (r_fieldAddr tf37_1 rfl) ?_
        refine F.q rfl rfl rfl (wg rfl rfl rfl g9) (r_load ta29 rfl (fun w hw => cell_1 (box_cells (i := 0) rfl w hw) rfl)) ?_
        refine F.q rfl rfl rfl (wg rfl rfl rfl g9) (r_len Try.underlying29 rfl hl_va0_1) ?_
        refine F.q rfl rfl rfl (wg rfl rfl rfl g9) (r_gtr rfl rfl) ?_
        refine F.q rfl rfl rfl (wanted_none rfl) (r_pickf rfl rfl g9) ?_
        refine F.q rfl rfl rfl (wanted_none rfl) (r_move rfl) ?_
        refine F.q rfl rfl rfl (wg rfl rfl rfl g15) (r_fieldAddr tf37_2 rfl) ?_
        refine F.q rfl rfl rfl (wg rfl rfl rfl g15) (r_load ta30 rfl (fun w hw => cell_1 (box_cells (i := 0) rfl w hw) rfl)) ?_
        refine F.q rfl rfl rfl (wg rfl rfl rfl g15) (r_len Try.underlying30 rfl hl_va0_2) ?_
        refine F.q rfl rfl rfl (wg rfl rfl rfl g15) (r_fieldAddr tf37_0 rfl) ?_
        refine F.q rfl rfl rfl (wg rfl rfl rfl g15) (r_load ta3 rfl (fun w hw => cell_1 (box_cells (i := 0) rfl w hw) rfl)) ?_
        refine F.q rfl rfl rfl (wg rfl rfl rfl g15) (r_neq rfl rfl) ?_
        refine F.q rfl rfl rfl (wanted_none rfl) (r_pickf rfl rfl g15) ?_
        refine F.nil ?_
        cases hE_1
        refine Nrm.only [1, 22] rfl ?_
        refine Nrm.pick [0] rfl rfl ?_
        exact hj_1 _ _ ⟨rfl, rfl⟩

end Go.Proofs

/- slices.Clone[[][3]int,[3]int] -/

namespace Go.Proofs
open Go Go.Ga
set_option linter.unusedVariables false
set_option maxRecDepth 100000
set_option maxHeartbeats 4000000
def slices_Clone__3int__3int.f (k : Nat) (a0 : List (Int × Int × Int)) : Option ((List (Int × Int × Int))) := if (([] : List (Int × Int × Int)) ++ a0).length < 1099511627776 then some (([] : List (Int × Int × Int)) ++ a0) else none

theorem slices_Clone__3int__3int.ok {k : Nat}  {a0 : List (Int × Int × Int)} {r0 : List (Int × Int × Int)} (h : slices_Clone__3int__3int.f k a0 = some r0) (w : World) {va0 : Value} (hr_a0 : Rd w va0 a0) :
    Calls Try.prog 150 ([va0] : List Value).toArray w (Post (fun u ns => ∃ (Sr0 : Nat → Prop), SlLen u r0.length ∧ ns = [R.sl Sr0 u r0]) w) := by
  unfold slices_Clone__3int__3int.f at h
  have hl_va0 := hr_a0.len
  rcases Rd.cases hr_a0 with ⟨rfl, rfl⟩ | ⟨pa0, ca0, rfl⟩
  · replace h : some [] = some r0 := by simpa using h
    refine Calls.of_tri (N := 8) Try.func150 rfl rfl rfl (Sep.nil (M := noM)) ?_
    refine Tri.seq ?_
    refine Tri.reg (l := [0]) rfl ?_
    refine F.q rfl rfl rfl (wanted_none rfl) (r_assign rfl) ?_
    refine F.nil ?_
    refine Nrm.seq ?_
    refine Tri.seq ?_
    refine Tri.seq ?_
    refine Tri.reg (l := [0, 1]) rfl ?_
    refine F.q rfl rfl rfl (wanted_none rfl) (r_move rfl) ?_
    refine F.q rfl rfl rfl (wanted_none rfl) (r_eqlNN Try.underlying29 rfl rfl) ?_
    refine F.nil ?_
    refine Nrm.seq ?_
    refine Tri.condT rfl rfl ?_
    refine Tri.seq ?_
    refine Tri.reg (l := [0]) rfl ?_
    refine F.q rfl rfl rfl (wanted_none rfl) (r_assign rfl) ?_
    refine F.nil ?_
    refine Nrm.seq ?_
    refine Tri.ret ?_
    refine Rtn.then ?_
    cases h
    exact Rtn.body (.tmp rfl .nil) (fun w hw => ⟨_, _, rfl, ⟨fun _ => False, len_nil, rfl⟩, Sep.pick (is := [0]) rfl rfl hw.pushNil⟩)
  · refine Calls.of_tri (N := 8) Try.func150 rfl rfl rfl (Sep.nil (M := noM)) ?_
    refine Tri.seq ?_
    refine Tri.reg (l := [0]) rfl ?_
    refine F.q rfl rfl rfl (wanted_none rfl) (r_assign rfl) ?_
    refine F.nil ?_
    refine Nrm.seq ?_
    refine Tri.seq ?_
    refine Tri.seq ?_
    refine Tri.reg (l := [0, 1]) rfl ?_
    refine F.q rfl rfl rfl (wanted_none rfl) (r_move rfl) ?_
    refine F.q rfl rfl rfl (wanted_none rfl) (r_eqlN Try.underlying29 rfl rfl ⟨_, _, rfl⟩) ?_
    refine F.nil ?_
    refine Nrm.seq ?_
    refine Tri.condF rfl rfl ?_
    refine Tri.skip ?_
    refine Nrm.seq ?_
    refine Tri.seq ?_
    obtain ⟨hs7, h⟩ := ck h
    refine Tri.reg (l := [0, 1, 2, 3]) rfl ?_
    refine F.m rfl rfl rfl (wanted_none rfl) (m_build0 (α := Int × Int × Int) Try.underlying29 ti145) ?_
    rintro v5_1 _ ⟨S5_1, hl_v5_1, rfl⟩
    refine F.q rfl rfl rfl (wanted_none rfl) (r_move rfl) ?_
    refine F.ef rfl rfl rfl (wanted_none rfl) (d_append (i := 0) Try.underlying29 Try.underlying29 ti145 rfl (by decide) rfl rfl rfl (fun _ hw => hr_a0.sep hw) hs7) ?_
    rintro v7_1 _ ⟨S7_1, rfl, hl_v7_1⟩
    refine F.q rfl rfl rfl (wanted_none rfl) (r_assign rfl) ?_
    refine F.nil ?_
    refine Nrm.seq ?_
    refine Tri.ret ?_
    cases h
    exact Rtn.body (.tmp rfl .nil) (fun w hw => ⟨_, _, rfl, ⟨S7_1, hl_v7_1, rfl⟩, Sep.pick (is := [0]) rfl rfl hw⟩)

end Go.Proofs

/- slices.Clone[[]int,int] -/

namespace Go.Proofs
open Go Go.Ga
set_option linter.unusedVariables false
set_option maxRecDepth 100000
set_option maxHeartbeats 4000000
def slices_Clone_int_int.f (k : Nat) (a0 : List Int) : Option ((List Int)) := if (([] : List (Int)) ++ a0).length < 1099511627776 then some (([] : List (Int)) ++ a0) else none

theorem slices_Clone_int_int.ok {k : Nat}  {a0 : List Int} {r0 : List Int} (h : slices_Clone_int_int.f k a0 = some r0) (w : World) {va0 : Value} (hr_a0 : Rd w va0 a0) :
    Calls Try.prog 151 ([va0] : List Value).toArray w (Post (fun u ns => ∃ (Sr0 : Nat → Prop), SlLen u r0.length ∧ ns = [R.sl Sr0 u r0]) w) := by
  unfold slices_Clone_int_int.f at h
  have hl_va0 := hr_a0.len
  rcases Rd.cases hr_a0 with ⟨rfl, rfl⟩ | ⟨pa0, ca0, rfl⟩
  · replace h : some [] = some r0 := by simpa using h
    refine Calls.of_tri (N := 8) Try.func151 rfl rfl rfl (Sep.nil (M := noM)) ?_
    refine Tri.seq ?_
    refine Tri.reg (l := [0]) rfl ?_
    refine F.q rfl rfl rfl (wanted_none rfl) (r_assign rfl) ?_
    refine F.nil ?_
    refine Nrm.seq ?_
    refine Tri.seq ?_
    refine Tri.seq ?_
    refine Tri.reg (l := [0, 1]) rfl ?_
    refine F.q rfl rfl rfl (wanted_none rfl) (r_move rfl) ?_
    refine F.q rfl rfl rfl (wanted_none rfl) (r_eqlNN Try.underlying30 rfl rfl) ?_
    refine F.nil ?_
    refine Nrm.seq ?_
    refine Tri.condT rfl rfl ?_
    refine Tri.seq ?_
    refine Tri.reg (l := [0]) rfl ?_
    refine F.q rfl rfl rfl (wanted_none rfl) (r_assign rfl) ?_
    refine F.nil ?_
    refine Nrm.seq ?_
    refine Tri.ret ?_
    refine Rtn.then ?_
    cases h
    exact Rtn.body (.tmp rfl .nil) (fun w hw => ⟨_, _, rfl, ⟨fun _ => False, len_nil, rfl⟩, Sep.pick (is := [0]) rfl rfl hw.pushNil⟩)
  · refine Calls.of_tri (N := 8) Try.func151 rfl rfl rfl (Sep.nil (M := noM)) ?_
    refine Tri.seq ?_
    refine Tri.reg (l := [0]) rfl ?_
    refine F.q rfl rfl rfl (wanted_none rfl) (r_assign rfl) ?_
    refine F.nil ?_
    refine Nrm.seq ?_
    refine Tri.seq ?_
    refine Tri.seq ?_
    refine Tri.reg (l := [0, 1]) rfl ?_
    refine F.q rfl rfl rfl (wanted_none rfl) (r_move rfl) ?_
    refine F.q rfl rfl rfl (wanted_none rfl) (r_eqlN Try.underlying30 rfl rfl ⟨_, _, rfl⟩) ?_
    refine F.nil ?_
    refine Nrm.seq ?_
    refine Tri.condF rfl rfl ?_
    refine Tri.skip ?_
    refine Nrm.seq ?_
    refine Tri.seq ?_
    obtain ⟨hs7, h⟩ := ck h
    refine Tri.reg (l := [0, 1, 2, 3]) rfl ?_
    refine F.m rfl rfl rfl (wanted_none rfl) (m_build0 (α := Int) Try.underlying30 ti3) ?_
    rintro v5_1 _ ⟨S5_1, hl_v5_1, rfl⟩
    refine F.q rfl rfl rfl (wanted_none rfl) (r_move rfl) ?_
    refine F.ef rfl rfl rfl (wanted_none rfl) (d_append (i := 0) Try.underlying30 Try.underlying30 ti3 rfl (by decide) rfl rfl rfl (fun _ hw => hr_a0.sep hw) hs7) ?_
    rintro v7_1 _ ⟨S7_1, rfl, hl_v7_1⟩
    refine F.q rfl rfl rfl (wanted_none rfl) (r_assign rfl) ?_
    refine F.nil ?_
    refine Nrm.seq ?_
    refine Tri.ret ?_
    cases h
    exact Rtn.body (.tmp rfl .nil) (fun w hw => ⟨_, _, rfl, ⟨S7_1, hl_v7_1, rfl⟩, Sep.pick (is := [0]) rfl rfl hw⟩)

end Go.Proofs

/- loop.example/g01158/impl.own -/
namespace Go.Proofs
open Go Go.Ga
set_option linter.unusedVariables false
set_option maxRecDepth 100000
set_option maxHeartbeats 4000000
def impl_own.f (k : Nat) (a0_0 : Int) (a0_1 : List (Int × Int × Int)) (a0_2 : List Int) : Option (Int × (List (Int × Int × Int)) × (List Int)) := (slices_Clone__3int__3int.f k a0_1).bind fun t7 => (slices_Clone_int_int.f k a0_2).bind fun t10 => some (a0_0, t7, t10)

theorem impl_own.ok {k : Nat}  {a0_0 : Int} {a0_1 : List (Int × Int × Int)} {a0_2 : List Int} {r0 : Int} {r1 : List (Int × Int × Int)} {r2 : List Int} (h : impl_own.f k a0_0 a0_1 a0_2 = some (r0, r1, r2)) (w : World) {va0_1 : Value} {va0_2 : Value} (hr_a0_1 : Rd w va0_1 a0_1) (hr_a0_2 : Rd w va0_2 a0_2) :
    Calls Try.prog 90 ([.agg ([.int .i64 a0_0, va0_1, va0_2].toArray)] : List Value).toArray w (Post (fun u ns => ∃ (ur1 : Value) (Sr1 : Nat → Prop) (ur2 : Value) (Sr2 : Nat → Prop), u = .agg [.int .i64 r0, ur1, ur2].toArray ∧ SlLen ur1 r1.length ∧ SlLen ur2 r2.length ∧ ns = [R.sl Sr1 ur1 r1, R.sl Sr2 ur2 r2]) w) := by
  unfold impl_own.f at h
  have hl_va0_1 := hr_a0_1.len
  have hl_va0_2 := hr_a0_2.len
  refine Calls.of_tri (N := 12) Try.func90 rfl rfl rfl (Sep.nil (M := noM)) ?_
  refine Tri.seq ?_
  refine Tri.reg (l := [0, 1]) rfl ?_
  refine F.m rfl rfl rfl (wanted_none rfl) (m_boxG rfl rfl) ?_
  rintro _ _ ⟨b1_1, rfl, rfl⟩
  refine F.m rfl rfl rfl (wanted_none rfl) (m_alloc ti37) ?_
  rintro _ _ ⟨b2_1, rfl, rfl⟩
  refine F.nil ?_
  refine Nrm.seq ?_
  refine Tri.seq ?_
  obtain ⟨t7, h7, h⟩ := bind_some h
  obtain ⟨t10, h10, h⟩ := bind_some h
  refine Tri.drawA mixedT Sep.up [(0, true), (1, true), (2, true), (3, true), (5, true), (6, true), (4, false), (7, false), (8, true)] [9] (by kernel_rfl) ?_
  refine S.q rfl rfl rfl (wanted_none rfl) (r_fieldAddr tf37_0 rfl) ?_
  refine S.q rfl rfl rfl (wanted_none rfl) (r_load ta3 rfl (fun w hw => cell_1 (box_cells (i := 1) rfl w hw) rfl)) ?_
  refine S.q rfl rfl rfl (wanted_none rfl) (r_fieldAddr tf37_1 rfl) ?_
  refine S.q rfl rfl rfl (wanted_none rfl) (r_load ta29 rfl (fun w hw => cell_1 (box_cells (i := 1) rfl w hw) rfl)) ?_
  refine S.q rfl rfl rfl (wanted_none rfl) (r_fieldAddr tf37_2 rfl) ?_
  refine S.q rfl rfl rfl (wanted_none rfl) (r_load ta30 rfl (fun w hw => cell_1 (box_cells (i := 1) rfl w hw) rfl)) ?_
  refine S.m rfl rfl rfl (wanted_none rfl) (m_callF (xs := _) rfl ok150 rfl rfl (fun w hw => slices_Clone__3int__3int.ok h7 w ((fun _ hw => hr_a0_1.sep hw) w hw))) ?_
  rintro v7_2 _ ⟨_, ⟨S7_2, hl_v7_2, rfl⟩, rfl⟩
  refine S.m rfl rfl rfl (wanted_none rfl) (m_callF (xs := _) rfl ok151 rfl rfl (fun w hw => slices_Clone_int_int.ok h10 w ((fun _ hw => hr_a0_2.sep hw) w hw))) ?_
  rintro v10_2 _ ⟨_, ⟨S10_2, hl_v10_2, rfl⟩, rfl⟩
  refine S.q rfl rfl rfl (wanted_none rfl) (r_build (pl := [(0, 1), (1, 1), (2, 1)]) (qs := [(0, [.int .i64 a0_0]), (1, [v7_2]), (2, [v10_2])]) (cs := [.int .i64 a0_0, v7_2, v10_2]) (by kernel_rfl) ti37 rfl (.cons rfl rfl (Nat.le_of_ble_eq_true rfl) (.cons (sl_cells hl_v7_2) rfl (Nat.le_of_ble_eq_true rfl) (.cons (sl_cells hl_v10_2) rfl (Nat.le_of_ble_eq_true rfl) .nil))) rfl rfl) ?_
  refine S.nil ?_
  refine F.ef0 rfl rfl (wanted_none rfl) (d_storeG0 (i := 2) (cs2 := [.int .i64 a0_0, v7_2, v10_2]) ti37 rfl rfl rfl rfl rfl (Nat.le_of_ble_eq_true rfl) (lf_cons rfl (lf_cons (sl_leaf hl_v7_2) (lf_cons (sl_leaf hl_v10_2) lf_nil)))) ?_
  rintro _ _ ⟨rfl, rfl⟩
  refine F.nil ?_
  refine Nrm.seq ?_
  refine Tri.ret ?_
  cases h
  exact Rtn.body (.cell rfl ta37 ti37 rfl (fun _ hw => box_cells (i := 2) rfl _ hw) .nil) (fun w hw => ⟨_, _, rfl, ⟨v7_2, S7_2, v10_2, S10_2, rfl, hl_v7_2, hl_v10_2, rfl⟩, Sep.pick (is := [1, 0]) rfl rfl hw⟩)

end Go.Proofs

/- loop.example/g01158/impl.AloneWorlds -/
namespace Go.Proofs
open Go Go.Ga
set_option linter.unusedVariables false
set_option maxRecDepth 100000
set_option maxHeartbeats 4000000
def impl_AloneWorlds.f (k : Nat) (a0_0 : Int) (a0_1 : List (Int × Int × Int)) (a0_2 : List Int) : Option ((List (Int × List (Int × Int × Int) × List Int)) × (List (List Int)) × Bool) := (impl_IsMaze.f k a0_0 a0_1 a0_2).bind fun t5 => (if (!t5) = true then some ([], [], false) else ((impl_own.f k a0_0 a0_1 a0_2).bind fun (t9_1, t9_2, t9_3) => if 0 ≤ a0_0 ∧ a0_0 < 1099511627776 then some (true, ([(t9_1, t9_2, t9_3)] : List (Int × List (Int × Int × Int) × List Int)), ([List.replicate (a0_0).toNat (0 : Int)] : List (List Int))) else none).bind fun (y3, yb2_1_0, yb2_1_1) => some (yb2_1_0, yb2_1_1, y3))

theorem impl_AloneWorlds.ok {k : Nat}  {a0_0 : Int} {a0_1 : List (Int × Int × Int)} {a0_2 : List Int} {r0 : List (Int × List (Int × Int × Int) × List Int)} {r1 : List (List Int)} {r2 : Bool} (h : impl_AloneWorlds.f k a0_0 a0_1 a0_2 = some (r0, r1, r2)) (w : World) {va0_1 : Value} {va0_2 : Value} (hr_a0_1 : Rd w va0_1 a0_1) (hr_a0_2 : Rd w va0_2 a0_2) :
    Calls Try.prog 72 ([.agg ([.int .i64 a0_0, va0_1, va0_2].toArray)] : List Value).toArray w (Post (fun u ns => ∃ (ur0 : Value) (Sr0 : Nat → Prop) (ur1 : Value) (Sr1 : Nat → Prop), u = .tuple #[.agg [ur0, ur1].toArray, .bool r2] ∧ SlLen ur0 r0.length ∧ SlLen ur1 r1.length ∧ ns = [R.sl Sr0 ur0 r0, R.sl Sr1 ur1 r1]) w) := by
  unfold impl_AloneWorlds.f at h
  have hl_va0_1 := hr_a0_1.len
  have hl_va0_2 := hr_a0_2.len
  refine Calls.of_tri (N := 16) Try.func72 rfl rfl rfl (Sep.nil (M := noM)) ?_
  refine Tri.seq ?_
  refine Tri.reg (l := [0, 1, 2]) rfl ?_
  refine F.m rfl rfl rfl (wanted_none rfl) (m_boxG rfl rfl) ?_
  rintro _ _ ⟨b1_1, rfl, rfl⟩
  refine F.m rfl rfl rfl (wanted_none rfl) (m_alloc ti70) ?_
  rintro _ _ ⟨b2_1, rfl, rfl⟩
  refine F.q rfl rfl rfl (wanted_none rfl) (r_assign rfl) ?_
  refine F.nil ?_
  refine Nrm.seq ?_
  refine Tri.seq ?_
  refine Tri.seq ?_
  obtain ⟨t5, h5, h⟩ := bind_some h
  refine Tri.reg (l := [0, 1, 2]) rfl ?_
  refine F.q rfl rfl rfl (wanted_none rfl) (r_loadA ta37 ti37 rfl rfl (fun w hw => (box_cells (i := 1) rfl w hw))) ?_
  refine F.qc rfl rfl rfl (wanted_none rfl) (q_callF (xs := _) rfl ok82 rfl rfl (fun w hw => impl_IsMaze.ok h5 w ((fun _ hw => hr_a0_1.sep hw) w hw) ((fun _ hw => hr_a0_2.sep hw) w hw))) ?_
  refine F.q rfl rfl rfl (wanted_none rfl) (r_not rfl) ?_
  refine F.nil ?_
  refine Nrm.seq ?_
  refine Tri.cond (b := !t5) rfl (fun g_1 => ?_) (fun g_1 => ?_)
  · replace h := if_tt g_1 h
    refine Tri.seq ?_
    refine Tri.reg (l := [0, 1, 2]) rfl ?_
    refine F.q rfl rfl rfl (wanted_none rfl) (r_build (pl := [(0, 1), (1, 1)]) (qs := []) (cs := [.slice none 0 0, .slice none 0 0]) (by kernel_rfl) ti70 rfl .nil rfl rfl) ?_
    refine F.ef0 rfl rfl (wanted_none rfl) (d_storeG0 (i := 0) (cs2 := [.slice none 0 0, .slice none 0 0]) ti70 rfl rfl rfl rfl rfl (Nat.le_of_ble_eq_true rfl) (lf_cons rfl (lf_cons rfl lf_nil))) ?_
    rintro _ _ ⟨rfl, rfl⟩
    refine F.q rfl rfl rfl (wanted_none rfl) (r_assign rfl) ?_
    refine F.nil ?_
    refine Nrm.seq ?_
    refine Tri.ret ?_
    refine Rtn.then ?_
    cases h
    exact Rtn.body (.cell rfl ta70 ti70 rfl (fun _ hw => box_cells (i := 0) rfl _ hw) (.tmp rfl .nil)) (fun w hw => ⟨_, _, rfl, ⟨.slice none 0 0, fun _ => False, .slice none 0 0, fun _ => False, rfl, len_nil, len_nil, rfl⟩, Sep.pick (is := [0, 1]) rfl rfl hw.pushNil.pushNil⟩)
  · replace h := if_ff g_1 h
    refine Tri.skip ?_
    refine Nrm.seq ?_
    refine Tri.seq ?_
    obtain ⟨⟨y3, yb2_1_0, yb2_1_1⟩, hE_1, h⟩ := bind_some h
    refine Tri.cut (fun e' C' => ∃ (vb2_1_0_1 : Value) (Sb2_1_0_1 : Nat → Prop) (vb2_1_1_1 : Value) (Sb2_1_1_1 : Nat → Prop), SlLen vb2_1_0_1 (yb2_1_0).length ∧ SlLen vb2_1_1_1 (yb2_1_1).length ∧ e' = [(2, .pointer (some ⟨b2_1, 0, none⟩)), (3, .bool y3)] ∧ C' = Sep w noM [R.box b2_1 70 [vb2_1_0_1, vb2_1_1_1], R.sl Sb2_1_0_1 vb2_1_0_1 (yb2_1_0 : List (Int × List (Int × Int × Int) × List Int)), R.sl Sb2_1_1_1 vb2_1_1_1 (yb2_1_1 : List (List Int))]) ?_ (fun hj_1 => ?_)
    · rintro _ _ ⟨vb2_1_0_1, Sb2_1_0_1, vb2_1_1_1, Sb2_1_1_1, hl_vb2_1_0_1, hl_vb2_1_1_1, rfl, rfl⟩
      refine Nrm.seq ?_
      refine Tri.ret ?_
      cases h
      exact Rtn.body (.cell rfl ta70 ti70 rfl (fun _ hw => box_cells (i := 0) rfl _ hw) (.tmp rfl .nil)) (fun w hw => ⟨_, _, rfl, ⟨vb2_1_0_1, Sb2_1_0_1, vb2_1_1_1, Sb2_1_1_1, rfl, hl_vb2_1_0_1, hl_vb2_1_1_1, rfl⟩, Sep.pick (is := [1, 2]) rfl rfl hw⟩)
    · obtain ⟨⟨t9_1, t9_2, t9_3⟩, h9, hE_1⟩ := bind_some hE_1
      obtain ⟨hm13, hE_1⟩ := ck hE_1
      refine Tri.drawT mixedT Sep.up [0, 3, 4, 1, 2, 5, 6] [7, 8, 9] (.q 0 (.q 3 (.q 4 (.alt 1 (.alt 2 (.alt 5 (.alt 6 .nil .stop) .stop) (.alt 5 (.alt 2 (.alt 6 .nil .stop) (.alt 6 (.alt 2 .nil .stop) .stop)) .stop)) (.alt 5 (.alt 1 (.alt 2 (.alt 6 .nil .stop) (.alt 6 (.alt 2 .nil .stop) .stop)) (.alt 6 (.alt 1 (.alt 2 .nil .stop) .stop) .stop)) .stop))))) (by kernel_rfl) ?_
      refine T.q rfl rfl rfl (wanted_none rfl) (r_loadA ta37 ti37 rfl rfl (fun w hw => (box_cells (i := 1) rfl w hw))) ?_
      refine T.q rfl rfl rfl (wanted_none rfl) (r_fieldAddr tf37_0 rfl) ?_
      refine T.q rfl rfl rfl (wanted_none rfl) (r_load ta3 rfl (fun w hw => cell_1 (box_cells (i := 1) rfl w hw) rfl)) ?_
      refine T.ef rfl rfl rfl (wanted_none rfl) (Makes.does (m_callF (xs := _) rfl ok90 rfl rfl (fun w hw => impl_own.ok h9 w ((fun _ hw => hr_a0_1.sep hw) w hw) ((fun _ hw => hr_a0_2.sep hw) w hw)))) (by rintro _ _ ⟨_, ⟨v9_3, S9_3, v9_4, S9_4, rfl, hl_v9_3, hl_v9_4, rfl⟩, rfl⟩; exact upd rfl [2, 3] rfl rfl) ?_ ?_
      · rintro _ _ ⟨_, ⟨v9_3, S9_3, v9_4, S9_4, rfl, hl_v9_3, hl_v9_4, rfl⟩, rfl⟩
        refine T.ef rfl rfl rfl (wanted_none rfl) (d_build1 (cells := [.int .i64 t9_1, v9_3, v9_4]) (x0 := ((t9_1, t9_2, t9_3) : Int × List (Int × Int × Int) × List Int)) (cs := [R.sl S9_3 v9_3 (t9_2 : List (Int × Int × Int)), R.sl S9_4 v9_4 (t9_3 : List (Int))]) (rest := [R.box b2_1 70 [.slice none 0 0, .slice none 0 0], R.box b1_1 37 [.int .i64 a0_0, va0_1, va0_2]]) [0, 1] [2, 3] Try.underlying68 ti37 rfl rfl rfl (lf_cons rfl (lf_cons (sl_leaf hl_v9_3) (lf_cons (sl_leaf hl_v9_4) lf_nil))) rfl rfl (jn_pair (jn_int (n := t9_1)) (jn_pair (jn_sl (S := S9_3) (v := v9_3) (l := (t9_2 : List (Int × Int × Int)))) (jn_sl (S := S9_4) (v := v9_4) (l := (t9_3 : List (Int))))))) (by rintro v10_2 _ ⟨S10_2, hl_v10_2, rfl⟩; exact upd rfl [1, 2] rfl rfl) ?_ ?_
        · rintro v10_2 _ ⟨S10_2, hl_v10_2, rfl⟩
          refine T.ef rfl rfl rfl (wanted_none rfl) (Makes.does (m_make (x0 := (0 : Int)) Try.underlying30 ti3 rfl rfl rfl hm13.1 hm13.2 (by decide))) (by rintro v13_2 _ ⟨S13_2, hl_v13_2, rfl⟩; exact upd rfl [2, 3] rfl rfl) ?_ ?_
          · rintro v13_2 _ ⟨S13_2, hl_v13_2, rfl⟩
            refine T.ef rfl rfl rfl (wanted_none rfl) (d_build1 (cells := [v13_2]) (x0 := (List.replicate (a0_0).toNat (0 : Int) : List Int)) (cs := [R.sl S13_2 v13_2 (List.replicate (a0_0).toNat (0 : Int) : List (Int))]) (rest := [R.sl S10_2 v10_2 (([(t9_1, t9_2, t9_3)] : List (Int × List (Int × Int × Int) × List Int)) : List (Int × List (Int × Int × Int) × List Int)), R.box b2_1 70 [.slice none 0 0, .slice none 0 0], R.box b1_1 37 [.int .i64 a0_0, va0_1, va0_2]]) [0] [1, 2, 3] Try.underlying63 ti30 rfl (sl_cells hl_v13_2) rfl (lf_cons (sl_leaf hl_v13_2) lf_nil) rfl rfl (jn_sl (S := S13_2) (v := v13_2) (l := (List.replicate (a0_0).toNat (0 : Int) : List (Int))))) (by rintro v14_2 _ ⟨S14_2, hl_v14_2, rfl⟩; exact upd rfl [2, 3] rfl rfl) ?_ ?_
            · rintro v14_2 _ ⟨S14_2, hl_v14_2, rfl⟩
              refine T.nil ?_
              refine F.q rfl rfl rfl (wanted_none rfl) (r_build (pl := [(0, 1), (1, 1)]) (qs := [(0, [v10_2]), (1, [v14_2])]) (cs := [v10_2, v14_2]) (by kernel_rfl) ti70 rfl (.cons (sl_cells hl_v10_2) rfl (Nat.le_of_ble_eq_true rfl) (.cons (sl_cells hl_v14_2) rfl (Nat.le_of_ble_eq_true rfl) .nil)) rfl rfl) ?_
              refine F.ef0 rfl rfl (wanted_none rfl) (d_storeG0 (i := 2) (cs2 := [v10_2, v14_2]) ti70 rfl rfl rfl rfl rfl (Nat.le_of_ble_eq_true rfl) (lf_cons (sl_leaf hl_v10_2) (lf_cons (sl_leaf hl_v14_2) lf_nil))) ?_
              rintro _ _ ⟨rfl, rfl⟩
              refine F.q rfl rfl rfl (wanted_none rfl) (r_assign rfl) ?_
              refine F.nil ?_
              cases hE_1
              refine Nrm.only [2, 3] rfl ?_
              refine Nrm.pick [2, 1, 0] rfl rfl ?_
              exact hj_1 _ _ ⟨v10_2, S10_2, v14_2, S14_2, hl_v10_2, hl_v14_2, rfl, rfl⟩
            exact T.stop
          exact T.stop
        · refine T.ef rfl rfl rfl (wanted_none rfl) (Makes.does (m_make (x0 := (0 : Int)) Try.underlying30 ti3 rfl rfl rfl hm13.1 hm13.2 (by decide))) (by rintro v13_3 _ ⟨S13_3, hl_v13_3, rfl⟩; exact upd rfl [3, 4] rfl rfl) ?_ ?_
          · rintro v13_3 _ ⟨S13_3, hl_v13_3, rfl⟩
            refine T.ef rfl rfl rfl (wanted_none rfl) (d_build1 (cells := [.int .i64 t9_1, v9_3, v9_4]) (x0 := ((t9_1, t9_2, t9_3) : Int × List (Int × Int × Int) × List Int)) (cs := [R.sl S9_3 v9_3 (t9_2 : List (Int × Int × Int)), R.sl S9_4 v9_4 (t9_3 : List (Int))]) (rest := [R.sl S13_3 v13_3 (List.replicate (a0_0).toNat (0 : Int) : List (Int)), R.box b2_1 70 [.slice none 0 0, .slice none 0 0], R.box b1_1 37 [.int .i64 a0_0, va0_1, va0_2]]) [1, 2] [0, 3, 4] Try.underlying68 ti37 rfl rfl rfl (lf_cons rfl (lf_cons (sl_leaf hl_v9_3) (lf_cons (sl_leaf hl_v9_4) lf_nil))) rfl rfl (jn_pair (jn_int (n := t9_1)) (jn_pair (jn_sl (S := S9_3) (v := v9_3) (l := (t9_2 : List (Int × Int × Int)))) (jn_sl (S := S9_4) (v := v9_4) (l := (t9_3 : List (Int))))))) (by rintro v10_3 _ ⟨S10_3, hl_v10_3, rfl⟩; exact upd rfl [2, 3] rfl rfl) ?_ ?_
            · rintro v10_3 _ ⟨S10_3, hl_v10_3, rfl⟩
              refine T.ef rfl rfl rfl (wanted_none rfl) (d_build1 (cells := [v13_3]) (x0 := (List.replicate (a0_0).toNat (0 : Int) : List Int)) (cs := [R.sl S13_3 v13_3 (List.replicate (a0_0).toNat (0 : Int) : List (Int))]) (rest := [R.sl S10_3 v10_3 (([(t9_1, t9_2, t9_3)] : List (Int × List (Int × Int × Int) × List Int)) : List (Int × List (Int × Int × Int) × List Int)), R.box b2_1 70 [.slice none 0 0, .slice none 0 0], R.box b1_1 37 [.int .i64 a0_0, va0_1, va0_2]]) [1] [0, 2, 3] Try.underlying63 ti30 rfl (sl_cells hl_v13_3) rfl (lf_cons (sl_leaf hl_v13_3) lf_nil) rfl rfl (jn_sl (S := S13_3) (v := v13_3) (l := (List.replicate (a0_0).toNat (0 : Int) : List (Int))))) (by rintro v14_3 _ ⟨S14_3, hl_v14_3, rfl⟩; exact upd rfl [2, 3] rfl rfl) ?_ ?_
              · rintro v14_3 _ ⟨S14_3, hl_v14_3, rfl⟩
                refine T.nil ?_
                refine F.q rfl rfl rfl (wanted_none rfl) (r_build (pl := [(0, 1), (1, 1)]) (qs := [(0, [v10_3]), (1, [v14_3])]) (cs := [v10_3, v14_3]) (by kernel_rfl) ti70 rfl (.cons (sl_cells hl_v10_3) rfl (Nat.le_of_ble_eq_true rfl) (.cons (sl_cells hl_v14_3) rfl (Nat.le_of_ble_eq_true rfl) .nil)) rfl rfl) ?_
                refine F.ef0 rfl rfl (wanted_none rfl) (d_storeG0 (i := 2) (cs2 := [v10_3, v14_3]) ti70 rfl rfl rfl rfl rfl (Nat.le_of_ble_eq_true rfl) (lf_cons (sl_leaf hl_v10_3) (lf_cons (sl_leaf hl_v14_3) lf_nil))) ?_
                rintro _ _ ⟨rfl, rfl⟩
                refine F.q rfl rfl rfl (wanted_none rfl) (r_assign rfl) ?_
                refine F.nil ?_
                cases hE_1
                refine Nrm.only [2, 3] rfl ?_
                refine Nrm.pick [2, 1, 0] rfl rfl ?_
                exact hj_1 _ _ ⟨v10_3, S10_3, v14_3, S14_3, hl_v10_3, hl_v14_3, rfl, rfl⟩
              exact T.stop
            · refine T.ef rfl rfl rfl (wanted_none rfl) (d_build1 (cells := [v13_3]) (x0 := (List.replicate (a0_0).toNat (0 : Int) : List Int)) (cs := [R.sl S13_3 v13_3 (List.replicate (a0_0).toNat (0 : Int) : List (Int))]) (rest := [R.sl S9_3 v9_3 (t9_2 : List (Int × Int × Int)), R.sl S9_4 v9_4 (t9_3 : List (Int)), R.box b2_1 70 [.slice none 0 0, .slice none 0 0], R.box b1_1 37 [.int .i64 a0_0, va0_1, va0_2]]) [0] [1, 2, 3, 4] Try.underlying63 ti30 rfl (sl_cells hl_v13_3) rfl (lf_cons (sl_leaf hl_v13_3) lf_nil) rfl rfl (jn_sl (S := S13_3) (v := v13_3) (l := (List.replicate (a0_0).toNat (0 : Int) : List (Int))))) (by rintro v14_4 _ ⟨S14_4, hl_v14_4, rfl⟩; exact upd rfl [3, 4] rfl rfl) ?_ ?_
              · rintro v14_4 _ ⟨S14_4, hl_v14_4, rfl⟩
                refine T.ef rfl rfl rfl (wanted_none rfl) (d_build1 (cells := [.int .i64 t9_1, v9_3, v9_4]) (x0 := ((t9_1, t9_2, t9_3) : Int × List (Int × Int × Int) × List Int)) (cs := [R.sl S9_3 v9_3 (t9_2 : List (Int × Int × Int)), R.sl S9_4 v9_4 (t9_3 : List (Int))]) (rest := [R.sl S14_4 v14_4 (([List.replicate (a0_0).toNat (0 : Int)] : List (List Int)) : List (List Int)), R.box b2_1 70 [.slice none 0 0, .slice none 0 0], R.box b1_1 37 [.int .i64 a0_0, va0_1, va0_2]]) [1, 2] [0, 3, 4] Try.underlying68 ti37 rfl rfl rfl (lf_cons rfl (lf_cons (sl_leaf hl_v9_3) (lf_cons (sl_leaf hl_v9_4) lf_nil))) rfl rfl (jn_pair (jn_int (n := t9_1)) (jn_pair (jn_sl (S := S9_3) (v := v9_3) (l := (t9_2 : List (Int × Int × Int)))) (jn_sl (S := S9_4) (v := v9_4) (l := (t9_3 : List (Int))))))) (by rintro v10_4 _ ⟨S10_4, hl_v10_4, rfl⟩; exact upd rfl [2, 3] rfl rfl) ?_ ?_
                · rintro v10_4 _ ⟨S10_4, hl_v10_4, rfl⟩
                  refine T.nil ?_
                  refine F.q rfl rfl rfl (wanted_none rfl) (r_build (pl := [(0, 1), (1, 1)]) (qs := [(0, [v10_4]), (1, [v14_4])]) (cs := [v10_4, v14_4]) (by kernel_rfl) ti70 rfl (.cons (sl_cells hl_v10_4) rfl (Nat.le_of_ble_eq_true rfl) (.cons (sl_cells hl_v14_4) rfl (Nat.le_of_ble_eq_true rfl) .nil)) rfl rfl) ?_
                  refine F.ef0 rfl rfl (wanted_none rfl) (d_storeG0 (i := 2) (cs2 := [v10_4, v14_4]) ti70 rfl rfl rfl rfl rfl (Nat.le_of_ble_eq_true rfl) (lf_cons (sl_leaf hl_v10_4) (lf_cons (sl_leaf hl_v14_4) lf_nil))) ?_
                  rintro _ _ ⟨rfl, rfl⟩
                  refine F.q rfl rfl rfl (wanted_none rfl) (r_assign rfl) ?_
                  refine F.nil ?_
                  cases hE_1
                  refine Nrm.only [2, 3] rfl ?_
                  refine Nrm.pick [2, 0, 1] rfl rfl ?_
                  exact hj_1 _ _ ⟨v10_4, S10_4, v14_4, S14_4, hl_v10_4, hl_v14_4, rfl, rfl⟩
                exact T.stop
              exact T.stop
          exact T.stop
      · refine T.ef rfl rfl rfl (wanted_none rfl) (Makes.does (m_make (x0 := (0 : Int)) Try.underlying30 ti3 rfl rfl rfl hm13.1 hm13.2 (by decide))) (by rintro v13_4 _ ⟨S13_4, hl_v13_4, rfl⟩; exact upd rfl [1, 2] rfl rfl) ?_ ?_
        · rintro v13_4 _ ⟨S13_4, hl_v13_4, rfl⟩
          refine T.ef rfl rfl rfl (wanted_none rfl) (Makes.does (m_callF (xs := _) rfl ok90 rfl rfl (fun w hw => impl_own.ok h9 w ((fun _ hw => hr_a0_1.sep hw) w hw) ((fun _ hw => hr_a0_2.sep hw) w hw)))) (by rintro _ _ ⟨_, ⟨v9_5, S9_5, v9_6, S9_6, rfl, hl_v9_5, hl_v9_6, rfl⟩, rfl⟩; exact upd rfl [3, 4] rfl rfl) ?_ ?_
          · rintro _ _ ⟨_, ⟨v9_5, S9_5, v9_6, S9_6, rfl, hl_v9_5, hl_v9_6, rfl⟩, rfl⟩
            refine T.ef rfl rfl rfl (wanted_none rfl) (d_build1 (cells := [.int .i64 t9_1, v9_5, v9_6]) (x0 := ((t9_1, t9_2, t9_3) : Int × List (Int × Int × Int) × List Int)) (cs := [R.sl S9_5 v9_5 (t9_2 : List (Int × Int × Int)), R.sl S9_6 v9_6 (t9_3 : List (Int))]) (rest := [R.sl S13_4 v13_4 (List.replicate (a0_0).toNat (0 : Int) : List (Int)), R.box b2_1 70 [.slice none 0 0, .slice none 0 0], R.box b1_1 37 [.int .i64 a0_0, va0_1, va0_2]]) [0, 1] [2, 3, 4] Try.underlying68 ti37 rfl rfl rfl (lf_cons rfl (lf_cons (sl_leaf hl_v9_5) (lf_cons (sl_leaf hl_v9_6) lf_nil))) rfl rfl (jn_pair (jn_int (n := t9_1)) (jn_pair (jn_sl (S := S9_5) (v := v9_5) (l := (t9_2 : List (Int × Int × Int)))) (jn_sl (S := S9_6) (v := v9_6) (l := (t9_3 : List (Int))))))) (by rintro v10_5 _ ⟨S10_5, hl_v10_5, rfl⟩; exact upd rfl [2, 3] rfl rfl) ?_ ?_
            · rintro v10_5 _ ⟨S10_5, hl_v10_5, rfl⟩
              refine T.ef rfl rfl rfl (wanted_none rfl) (d_build1 (cells := [v13_4]) (x0 := (List.replicate (a0_0).toNat (0 : Int) : List Int)) (cs := [R.sl S13_4 v13_4 (List.replicate (a0_0).toNat (0 : Int) : List (Int))]) (rest := [R.sl S10_5 v10_5 (([(t9_1, t9_2, t9_3)] : List (Int × List (Int × Int × Int) × List Int)) : List (Int × List (Int × Int × Int) × List Int)), R.box b2_1 70 [.slice none 0 0, .slice none 0 0], R.box b1_1 37 [.int .i64 a0_0, va0_1, va0_2]]) [1] [0, 2, 3] Try.underlying63 ti30 rfl (sl_cells hl_v13_4) rfl (lf_cons (sl_leaf hl_v13_4) lf_nil) rfl rfl (jn_sl (S := S13_4) (v := v13_4) (l := (List.replicate (a0_0).toNat (0 : Int) : List (Int))))) (by rintro v14_5 _ ⟨S14_5, hl_v14_5, rfl⟩; exact upd rfl [2, 3] rfl rfl) ?_ ?_
              · rintro v14_5 _ ⟨S14_5, hl_v14_5, rfl⟩
                refine T.nil ?_
                refine F.q rfl rfl rfl (wanted_none rfl) (r_build (pl := [(0, 1), (1, 1)]) (qs := [(0, [v10_5]), (1, [v14_5])]) (cs := [v10_5, v14_5]) (by kernel_rfl) ti70 rfl (.cons (sl_cells hl_v10_5) rfl (Nat.le_of_ble_eq_true rfl) (.cons (sl_cells hl_v14_5) rfl (Nat.le_of_ble_eq_true rfl) .nil)) rfl rfl) ?_
                refine F.ef0 rfl rfl (wanted_none rfl) (d_storeG0 (i := 2) (cs2 := [v10_5, v14_5]) ti70 rfl rfl rfl rfl rfl (Nat.le_of_ble_eq_true rfl) (lf_cons (sl_leaf hl_v10_5) (lf_cons (sl_leaf hl_v14_5) lf_nil))) ?_
                rintro _ _ ⟨rfl, rfl⟩
                refine F.q rfl rfl rfl (wanted_none rfl) (r_assign rfl) ?_
                refine F.nil ?_
                cases hE_1
                refine Nrm.only [2, 3] rfl ?_
                refine Nrm.pick [2, 1, 0] rfl rfl ?_
                exact hj_1 _ _ ⟨v10_5, S10_5, v14_5, S14_5, hl_v10_5, hl_v14_5, rfl, rfl⟩
              exact T.stop
            · refine T.ef rfl rfl rfl (wanted_none rfl) (d_build1 (cells := [v13_4]) (x0 := (List.replicate (a0_0).toNat (0 : Int) : List Int)) (cs := [R.sl S13_4 v13_4 (List.replicate (a0_0).toNat (0 : Int) : List (Int))]) (rest := [R.sl S9_5 v9_5 (t9_2 : List (Int × Int × Int)), R.sl S9_6 v9_6 (t9_3 : List (Int)), R.box b2_1 70 [.slice none 0 0, .slice none 0 0], R.box b1_1 37 [.int .i64 a0_0, va0_1, va0_2]]) [2] [0, 1, 3, 4] Try.underlying63 ti30 rfl (sl_cells hl_v13_4) rfl (lf_cons (sl_leaf hl_v13_4) lf_nil) rfl rfl (jn_sl (S := S13_4) (v := v13_4) (l := (List.replicate (a0_0).toNat (0 : Int) : List (Int))))) (by rintro v14_6 _ ⟨S14_6, hl_v14_6, rfl⟩; exact upd rfl [3, 4] rfl rfl) ?_ ?_
              · rintro v14_6 _ ⟨S14_6, hl_v14_6, rfl⟩
                refine T.ef rfl rfl rfl (wanted_none rfl) (d_build1 (cells := [.int .i64 t9_1, v9_5, v9_6]) (x0 := ((t9_1, t9_2, t9_3) : Int × List (Int × Int × Int) × List Int)) (cs := [R.sl S9_5 v9_5 (t9_2 : List (Int × Int × Int)), R.sl S9_6 v9_6 (t9_3 : List (Int))]) (rest := [R.sl S14_6 v14_6 (([List.replicate (a0_0).toNat (0 : Int)] : List (List Int)) : List (List Int)), R.box b2_1 70 [.slice none 0 0, .slice none 0 0], R.box b1_1 37 [.int .i64 a0_0, va0_1, va0_2]]) [1, 2] [0, 3, 4] Try.underlying68 ti37 rfl rfl rfl (lf_cons rfl (lf_cons (sl_leaf hl_v9_5) (lf_cons (sl_leaf hl_v9_6) lf_nil))) rfl rfl (jn_pair (jn_int (n := t9_1)) (jn_pair (jn_sl (S := S9_5) (v := v9_5) (l := (t9_2 : List (Int × Int × Int)))) (jn_sl (S := S9_6) (v := v9_6) (l := (t9_3 : List (Int))))))) (by rintro v10_6 _ ⟨S10_6, hl_v10_6, rfl⟩; exact upd rfl [2, 3] rfl rfl) ?_ ?_
                · rintro v10_6 _ ⟨S10_6, hl_v10_6, rfl⟩
                  refine T.nil ?_
                  refine F.q rfl rfl rfl (wanted_none rfl) (r_build (pl := [(0, 1), (1, 1)]) (qs := [(0, [v10_6]), (1, [v14_6])]) (cs := [v10_6, v14_6]) (by kernel_rfl) ti70 rfl (.cons (sl_cells hl_v10_6) rfl (Nat.le_of_ble_eq_true rfl) (.cons (sl_cells hl_v14_6) rfl (Nat.le_of_ble_eq_true rfl) .nil)) rfl rfl) ?_
                  refine F.ef0 rfl rfl (wanted_none rfl) (d_storeG0 (i := 2) (cs2 := [v10_6, v14_6]) ti70 rfl rfl rfl rfl rfl (Nat.le_of_ble_eq_true rfl) (lf_cons (sl_leaf hl_v10_6) (lf_cons (sl_leaf hl_v14_6) lf_nil))) ?_
                  rintro _ _ ⟨rfl, rfl⟩
                  refine F.q rfl rfl rfl (wanted_none rfl) (r_assign rfl) ?_
                  refine F.nil ?_
                  cases hE_1
                  refine Nrm.only [2, 3] rfl ?_
                  refine Nrm.pick [2, 0, 1] rfl rfl ?_
                  exact hj_1 _ _ ⟨v10_6, S10_6, v14_6, S14_6, hl_v10_6, hl_v14_6, rfl, rfl⟩
                exact T.stop
              exact T.stop
          · refine T.ef rfl rfl rfl (wanted_none rfl) (d_build1 (cells := [v13_4]) (x0 := (List.replicate (a0_0).toNat (0 : Int) : List Int)) (cs := [R.sl S13_4 v13_4 (List.replicate (a0_0).toNat (0 : Int) : List (Int))]) (rest := [R.box b2_1 70 [.slice none 0 0, .slice none 0 0], R.box b1_1 37 [.int .i64 a0_0, va0_1, va0_2]]) [0] [1, 2] Try.underlying63 ti30 rfl (sl_cells hl_v13_4) rfl (lf_cons (sl_leaf hl_v13_4) lf_nil) rfl rfl (jn_sl (S := S13_4) (v := v13_4) (l := (List.replicate (a0_0).toNat (0 : Int) : List (Int))))) (by rintro v14_7 _ ⟨S14_7, hl_v14_7, rfl⟩; exact upd rfl [1, 2] rfl rfl) ?_ ?_
            · rintro v14_7 _ ⟨S14_7, hl_v14_7, rfl⟩
              refine T.ef rfl rfl rfl (wanted_none rfl) (Makes.does (m_callF (xs := _) rfl ok90 rfl rfl (fun w hw => impl_own.ok h9 w ((fun _ hw => hr_a0_1.sep hw) w hw) ((fun _ hw => hr_a0_2.sep hw) w hw)))) (by rintro _ _ ⟨_, ⟨v9_7, S9_7, v9_8, S9_8, rfl, hl_v9_7, hl_v9_8, rfl⟩, rfl⟩; exact upd rfl [3, 4] rfl rfl) ?_ ?_
              · rintro _ _ ⟨_, ⟨v9_7, S9_7, v9_8, S9_8, rfl, hl_v9_7, hl_v9_8, rfl⟩, rfl⟩
                refine T.ef rfl rfl rfl (wanted_none rfl) (d_build1 (cells := [.int .i64 t9_1, v9_7, v9_8]) (x0 := ((t9_1, t9_2, t9_3) : Int × List (Int × Int × Int) × List Int)) (cs := [R.sl S9_7 v9_7 (t9_2 : List (Int × Int × Int)), R.sl S9_8 v9_8 (t9_3 : List (Int))]) (rest := [R.sl S14_7 v14_7 (([List.replicate (a0_0).toNat (0 : Int)] : List (List Int)) : List (List Int)), R.box b2_1 70 [.slice none 0 0, .slice none 0 0], R.box b1_1 37 [.int .i64 a0_0, va0_1, va0_2]]) [0, 1] [2, 3, 4] Try.underlying68 ti37 rfl rfl rfl (lf_cons rfl (lf_cons (sl_leaf hl_v9_7) (lf_cons (sl_leaf hl_v9_8) lf_nil))) rfl rfl (jn_pair (jn_int (n := t9_1)) (jn_pair (jn_sl (S := S9_7) (v := v9_7) (l := (t9_2 : List (Int × Int × Int)))) (jn_sl (S := S9_8) (v := v9_8) (l := (t9_3 : List (Int))))))) (by rintro v10_7 _ ⟨S10_7, hl_v10_7, rfl⟩; exact upd rfl [2, 3] rfl rfl) ?_ ?_
                · rintro v10_7 _ ⟨S10_7, hl_v10_7, rfl⟩
                  refine T.nil ?_
                  refine F.q rfl rfl rfl (wanted_none rfl) (r_build (pl := [(0, 1), (1, 1)]) (qs := [(0, [v10_7]), (1, [v14_7])]) (cs := [v10_7, v14_7]) (by kernel_rfl) ti70 rfl (.cons (sl_cells hl_v10_7) rfl (Nat.le_of_ble_eq_true rfl) (.cons (sl_cells hl_v14_7) rfl (Nat.le_of_ble_eq_true rfl) .nil)) rfl rfl) ?_
                  refine F.ef0 rfl rfl (wanted_none rfl) (d_storeG0 (i := 2) (cs2 := [v10_7, v14_7]) ti70 rfl rfl rfl rfl rfl (Nat.le_of_ble_eq_true rfl) (lf_cons (sl_leaf hl_v10_7) (lf_cons (sl_leaf hl_v14_7) lf_nil))) ?_
                  rintro _ _ ⟨rfl, rfl⟩
                  refine F.q rfl rfl rfl (wanted_none rfl) (r_assign rfl) ?_
                  refine F.nil ?_
                  cases hE_1
                  refine Nrm.only [2, 3] rfl ?_
                  refine Nrm.pick [2, 0, 1] rfl rfl ?_
                  exact hj_1 _ _ ⟨v10_7, S10_7, v14_7, S14_7, hl_v10_7, hl_v14_7, rfl, rfl⟩
                exact T.stop
              exact T.stop
            exact T.stop
        exact T.stop

end Go.Proofs

/- loop.example/g01158/laws.markMazeS -/
namespace Go.Proofs
open Go Go.Ga
set_option linter.unusedVariables false
set_option maxRecDepth 100000
set_option maxHeartbeats 4000000
def laws_markMazeS.l0 (k : Nat) : Nat → (List (Int × List (Int × Int × Int) × List Int)) → Int → Int → Option (Int × (List (Int × List (Int × Int × Int) × List Int)))
  | 0, _, _, _ => none
  | n + 1, x0, x1, x5 => (if (decide (x5 < (x0.length : Int))) = true then (rdl (x0 : List (Int × List (Int × Int × Int) × List Int)) x5).bind fun t15 => (rdl ((x0 : List (Int × List (Int × Int × Int) × List Int)).set (x5).toNat (x1, t15.2.1, t15.2.2) : List (Int × List (Int × Int × Int) × List Int)) x5).bind fun t21 => (laws_markIntA3S.f k t21.2.1 (w64 (x1 + 1))).bind fun (t25_1, t25_2) => (rdl (((x0 : List (Int × List (Int × Int × Int) × List Int)).set (x5).toNat (x1, t15.2.1, t15.2.2) : List (Int × List (Int × Int × Int) × List Int)).set (x5).toNat (t21.1, t25_2, t21.2.2) : List (Int × List (Int × Int × Int) × List Int)) x5).bind fun t28 => (laws_markIntS.f k t28.2.2 t25_1).bind fun (t32_1, t32_2) => laws_markMazeS.l0 k n ((((x0 : List (Int × List (Int × Int × Int) × List Int)).set (x5).toNat (x1, t15.2.1, t15.2.2) : List (Int × List (Int × Int × Int) × List Int)).set (x5).toNat (t21.1, t25_2, t21.2.2) : List (Int × List (Int × Int × Int) × List Int)).set (x5).toNat (t28.1, t28.2.1, t32_2)) t32_1 (w64 (x5 + 1)) else some (x1, x0))

def laws_markMazeS.f (k : Nat) (a0 : List (Int × List (Int × Int × Int) × List Int)) (a1 : Int) : Option (Int × (List (Int × List (Int × Int × Int) × List Int))) := (laws_markMazeS.l0 k k a0 a1 0).bind fun (x1, x0) => some (x1, x0)

theorem laws_markMazeS.ok {k : Nat}  {a0 : List (Int × List (Int × Int × Int) × List Int)} {a1 : Int} {r0 : Int} {r1 : List (Int × List (Int × Int × Int) × List Int)} (h : laws_markMazeS.f k a0 a1 = some (r0, r1)) (w : World) {va0 : Value} {Sa0 : Nat → Prop} (hl_va0 : SlLen va0 a0.length) (hw0 : Sep w (footM [R.sl Sa0 va0 a0]) [R.sl Sa0 va0 a0] w) :
    Calls Try.prog 128 ([va0, .int .i64 a1] : List Value).toArray w (PostM (footM [R.sl Sa0 va0 a0]) (fun u ns => u = .int .i64 r0 ∧ SlLen va0 r1.length ∧ ns = [R.sl Sa0 va0 r1]) w) := by
  unfold laws_markMazeS.f at h
  refine Calls.of_tri (N := 34) Try.func128 rfl rfl rfl hw0 ?_
  refine Tri.seq ?_
  refine Tri.reg (l := [0]) rfl ?_
  refine F.q rfl rfl rfl (wanted_none rfl) (r_assign rfl) ?_
  refine F.nil ?_
  refine Nrm.seq ?_
  refine Tri.seq ?_
  refine Tri.seq ?_
  refine Tri.reg (l := [0]) rfl ?_
  refine F.q rfl rfl rfl (wanted_none rfl) (r_assign rfl) ?_
  refine F.nil ?_
  refine Nrm.seq ?_
  obtain ⟨⟨x1, x0⟩, hE_1, h⟩ := bind_some h
  refine Tri.block ?_
  refine Tri.only [0, 1, 5] rfl ?_
  refine Tri.pick [0] rfl rfl ?_
  refine Tri.rounds (fun n e' C' => ∃ (x0' : List (Int × List (Int × Int × Int) × List Int)) (x1' : Int) (x5' : Int), laws_markMazeS.l0 k n x0' x1' x5' = some (x1, x0) ∧ SlLen va0 (x0').length ∧ e' = [(0, va0), (1, .int .i64 x1'), (5, .int .i64 x5')] ∧ C' = Sep w (footM [R.sl Sa0 va0 a0]) [R.sl Sa0 va0 (x0' : List (Int × List (Int × Int × Int) × List Int))]) k ?_ ?_ ?_
  · exact ⟨a0, a1, 0, hE_1, hl_va0, rfl, rfl⟩
  · rintro _ _ ⟨_, _, _, hE_1, _⟩
    rw [laws_markMazeS.l0.eq_1] at hE_1; cases hE_1
  · rintro n_1 _ _ ⟨x0, x1, x5, hE_1, hl_x0, rfl, rfl⟩ ih_1
    rw [laws_markMazeS.l0.eq_2] at hE_1
    refine Tri.seq ?_
    refine Tri.seq ?_
    refine Tri.reg (l := [0, 1, 2, 3]) rfl ?_
    refine F.q rfl rfl rfl (wanted_none rfl) (r_move rfl) ?_
    refine F.q rfl rfl rfl (wanted_none rfl) (r_move rfl) ?_
    refine F.q rfl rfl rfl (wanted_none rfl) (r_len Try.underlying68 rfl hl_x0) ?_
    refine F.q rfl rfl rfl (wanted_none rfl) (r_lss rfl rfl) ?_
    refine F.nil ?_
    refine Nrm.seq ?_
    refine Tri.cond (b := decide (x5 < (x0.length : Int))) rfl (fun g_1 => ?_) (fun g_1 => ?_)
    · replace hE_1 := if_tt g_1 hE_1
      refine Tri.skip ?_
      refine Nrm.seq ?_
      refine Tri.seq ?_
      refine Tri.block ?_
      refine Tri.seq ?_
      obtain ⟨t15, h15, hE_1⟩ := bind_some hE_1
      refine Tri.ex (on37 [0] [] rfl rfl (rdl_some h15).2.2) ?_
      rintro _ ⟨v15_1_1, S15_1_1, v15_2_1, S15_2_1, Sr15_1, hl_v15_1_1, hl_v15_2_1, hS15_1, rfl⟩
      refine Tri.reg (l := [0, 1, 2, 3, 4, 5]) rfl ?_
      refine F.q rfl rfl rfl (wanted_none rfl) (r_move rfl) ?_
      refine F.q rfl rfl rfl (wanted_none rfl) (r_move rfl) ?_
      refine F.q rfl rfl rfl (wanted_none rfl) (r_move rfl) ?_
      refine F.q rfl rfl rfl (wanted_none rfl) (r_indexAddrS Try.underlying68 ti37 rfl hl_x0 rfl (rdl_some h15).1 (rdl_some h15).2.1) ?_
      refine F.q rfl rfl rfl (wanted_none rfl) (r_fieldAddr tf37_0 rfl) ?_
      refine F.ef0 rfl rfl (wanted_none rfl) (d_storeH1 (α := Int × List (Int × Int × Int) × List Int) (p := 2) (k := 0) (cs2 := [.int .i64 x1]) ti3 rfl rfl rfl rfl rfl (Nat.le_of_ble_eq_true rfl) (lf_cons rfl lf_nil)) ?_
      rintro _ _ ⟨rfl, rfl⟩
      refine F.nil ?_
      refine Nrm.imp (cloS2 (cs := [R.sl S15_1_1 v15_1_1 (t15.2.1 : List (Int × Int × Int)), R.sl S15_2_1 v15_2_1 (t15.2.2 : List (Int))]) (rest := []) [0, 1, 2] [] rfl rfl (jn_pair (jn_int (n := x1)) (jn_pair (jn_sl (S := S15_1_1) (v := v15_1_1) (l := (t15.2.1 : List (Int × Int × Int)))) (jn_sl (S := S15_2_1) (v := v15_2_1) (l := (t15.2.2 : List (Int)))))) hS15_1) ?_
      refine Nrm.seq ?_
      refine Tri.seq ?_
      refine Tri.reg (l := [0, 1, 2]) rfl ?_
      refine F.q rfl rfl rfl (wanted_none rfl) (r_move rfl) ?_
      refine F.q rfl rfl rfl (wanted_none rfl) (r_add rfl rfl) ?_
      refine F.q rfl rfl rfl (wanted_none rfl) (r_assign rfl) ?_
      refine F.nil ?_
      refine Nrm.seq ?_
      refine Tri.seq ?_
      obtain ⟨t21, h21, hE_1⟩ := bind_some hE_1
      obtain ⟨⟨t25_1, t25_2⟩, h25, hE_1⟩ := bind_some hE_1
      refine Tri.ex (on37 [0] [] rfl rfl (rdl_some h21).2.2) ?_
      rintro _ ⟨v21_1_1, S21_1_1, v21_2_1, S21_2_1, Sr21_1, hl_v21_1_1, hl_v21_2_1, hS21_1, rfl⟩
      refine Tri.reg (l := [0, 1, 2, 3, 4, 5, 6, 7]) rfl ?_
      refine F.q rfl rfl rfl (wanted_none rfl) (r_move rfl) ?_
      refine F.q rfl rfl rfl (wanted_none rfl) (r_move rfl) ?_
      refine F.q rfl rfl rfl (wanted_none rfl) (r_indexAddrS Try.underlying68 ti37 rfl (len_set hl_x0) rfl (rdl_some h21).1 (rdl_some h21).2.1) ?_
      refine F.q rfl rfl rfl (wanted_none rfl) (r_fieldAddr tf37_1 rfl) ?_
      refine F.q rfl rfl rfl (wanted_none rfl) (r_load ta29 rfl (fun w hw => cell_1 (hole_cells (p := 2) rfl w hw) rfl)) ?_
      refine F.q rfl rfl rfl (wanted_none rfl) (r_move rfl) ?_
      refine F.ef rfl rfl rfl (wanted_none rfl) (d_callM (xs := _) (cs := [R.sl S21_1_1 v21_1_1 (t21.2.1 : List (Int × Int × Int))]) (rest := [R.sl S21_2_1 v21_2_1 (t21.2.2 : List (Int)), R.hole Sr21_1 va0 ((x0 : List (Int × List (Int × Int × Int) × List Int)).set (x5).toNat (x1, t15.2.1, t15.2.2) : List (Int × List (Int × Int × Int) × List Int)) (x5).toNat [.int .i64 t21.1, v21_1_1, v21_2_1]]) [0] [1, 2] rfl ok92 rfl rfl rfl rfl (fun w hw => laws_markIntA3S.ok h25 w hl_v21_1_1 (Sep.sub hw))) ?_
      rintro _ _ ⟨_, ⟨rfl, hl_t25_2, rfl⟩, rfl⟩
      refine F.q rfl rfl rfl (wanted_none rfl) (r_assign rfl) ?_
      refine F.nil ?_
      refine Nrm.imp (cloS2 (cs := [R.sl S21_1_1 v21_1_1 (t25_2 : List (Int × Int × Int)), R.sl S21_2_1 v21_2_1 (t21.2.2 : List (Int))]) (rest := []) [0, 1, 2] [] rfl rfl (jn_pair (jn_int (n := t21.1)) (jn_pair (jn_sl (S := S21_1_1) (v := v21_1_1) (l := (t25_2 : List (Int × Int × Int)))) (jn_sl (S := S21_2_1) (v := v21_2_1) (l := (t21.2.2 : List (Int)))))) hS21_1) ?_
      refine Nrm.seq ?_
      obtain ⟨t28, h28, hE_1⟩ := bind_some hE_1
      obtain ⟨⟨t32_1, t32_2⟩, h32, hE_1⟩ := bind_some hE_1
      refine Tri.ex (on37 [0] [] rfl rfl (rdl_some h28).2.2) ?_
      rintro _ ⟨v28_1_1, S28_1_1, v28_2_1, S28_2_1, Sr28_1, hl_v28_1_1, hl_v28_2_1, hS28_1, rfl⟩
      refine Tri.reg (l := [0, 1, 2, 3, 4, 5, 6, 7]) rfl ?_
      refine F.q rfl rfl rfl (wanted_none rfl) (r_move rfl) ?_
      refine F.q rfl rfl rfl (wanted_none rfl) (r_move rfl) ?_
      refine F.q rfl rfl rfl (wanted_none rfl) (r_indexAddrS Try.underlying68 ti37 rfl (len_set (len_set hl_x0)) rfl (rdl_some h28).1 (rdl_some h28).2.1) ?_
      refine F.q rfl rfl rfl (wanted_none rfl) (r_fieldAddr tf37_2 rfl) ?_
      refine F.q rfl rfl rfl (wanted_none rfl) (r_load ta30 rfl (fun w hw => cell_1 (hole_cells (p := 2) rfl w hw) rfl)) ?_
      refine F.q rfl rfl rfl (wanted_none rfl) (r_move rfl) ?_
      refine F.ef rfl rfl rfl (wanted_none rfl) (d_callM (xs := _) (cs := [R.sl S28_2_1 v28_2_1 (t28.2.2 : List (Int))]) (rest := [R.sl S28_1_1 v28_1_1 (t28.2.1 : List (Int × Int × Int)), R.hole Sr28_1 va0 (((x0 : List (Int × List (Int × Int × Int) × List Int)).set (x5).toNat (x1, t15.2.1, t15.2.2) : List (Int × List (Int × Int × Int) × List Int)).set (x5).toNat (t21.1, t25_2, t21.2.2) : List (Int × List (Int × Int × Int) × List Int)) (x5).toNat [.int .i64 t28.1, v28_1_1, v28_2_1]]) [1] [0, 2] rfl ok93 rfl rfl rfl rfl (fun w hw => laws_markIntS.ok h32 w hl_v28_2_1 (Sep.sub hw))) ?_
      rintro _ _ ⟨_, ⟨rfl, hl_t32_2, rfl⟩, rfl⟩
      refine F.q rfl rfl rfl (wanted_none rfl) (r_assign rfl) ?_
      refine F.nil ?_
      refine Nrm.imp (cloS2 (cs := [R.sl S28_1_1 v28_1_1 (t28.2.1 : List (Int × Int × Int)), R.sl S28_2_1 v28_2_1 (t32_2 : List (Int))]) (rest := []) [1, 0, 2] [] rfl rfl (jn_pair (jn_int (n := t28.1)) (jn_pair (jn_sl (S := S28_1_1) (v := v28_1_1) (l := (t28.2.1 : List (Int × Int × Int)))) (jn_sl (S := S28_2_1) (v := v28_2_1) (l := (t32_2 : List (Int)))))) hS28_1) ?_
      refine Nrm.block ?_
      refine Nrm.seq ?_
      refine Tri.reg (l := [0, 1, 2]) rfl ?_
      refine F.q rfl rfl rfl (wanted_none rfl) (r_move rfl) ?_
      refine F.q rfl rfl rfl (wanted_none rfl) (r_add rfl rfl) ?_
      refine F.q rfl rfl rfl (wanted_none rfl) (r_assign rfl) ?_
      refine F.nil ?_
      refine Nrm.round ?_
      refine Rnd.only [0, 1, 5] rfl ?_
      refine Rnd.pick [0] rfl rfl ?_
      exact ih_1 _ _ ⟨(((x0 : List (Int × List (Int × Int × Int) × List Int)).set (x5).toNat (x1, t15.2.1, t15.2.2) : List (Int × List (Int × Int × Int) × List Int)).set (x5).toNat (t21.1, t25_2, t21.2.2) : List (Int × List (Int × Int × Int) × List Int)).set (x5).toNat (t28.1, t28.2.1, t32_2), t32_1, w64 (x5 + 1), hE_1, (len_set (len_set (len_set hl_x0))), rfl, rfl⟩
    · replace hE_1 := if_ff g_1 hE_1
      refine Tri.exit ?_
      refine Exi.then ?_
      refine Exi.then ?_
      refine Exi.same ?_
      cases hE_1
      refine Nrm.seq ?_
      refine Tri.seq ?_
      refine Tri.reg (l := [0, 1]) rfl ?_
      refine F.q rfl rfl rfl (wanted_none rfl) (r_move rfl) ?_
      refine F.q rfl rfl rfl (wanted_none rfl) (r_assign rfl) ?_
      refine F.nil ?_
      refine Nrm.seq ?_
      refine Tri.ret ?_
      cases h
      exact Rtn.body (.tmp rfl .nil) (fun w hw => ⟨_, _, rfl, ⟨rfl, hl_x0, rfl⟩, Sep.pick (is := [0]) rfl rfl hw⟩)

end Go.Proofs

/- loop.example/g01158/laws.markIntSS -/
namespace Go.Proofs
open Go Go.Ga
set_option linter.unusedVariables false
set_option maxRecDepth 100000
set_option maxHeartbeats 4000000
def laws_markIntSS.l0 (k : Nat) : Nat → (List (List Int)) → Int → Int → Option (Int × (List (List Int)))
  | 0, _, _, _ => none
  | n + 1, x0, x1, x5 => (if (decide (x5 < (x0.length : Int))) = true then (rdl (x0 : List (List Int)) x5).bind fun t14 => (laws_markIntS.f k t14 x1).bind fun (t17_1, t17_2) => laws_markIntSS.l0 k n ((x0 : List (List Int)).set (x5).toNat t17_2) t17_1 (w64 (x5 + 1)) else some (x1, x0))

def laws_markIntSS.f (k : Nat) (a0 : List (List Int)) (a1 : Int) : Option (Int × (List (List Int))) := (laws_markIntSS.l0 k k a0 a1 0).bind fun (x1, x0) => some (x1, x0)

theorem laws_markIntSS.ok {k : Nat}  {a0 : List (List Int)} {a1 : Int} {r0 : Int} {r1 : List (List Int)} (h : laws_markIntSS.f k a0 a1 = some (r0, r1)) (w : World) {va0 : Value} {Sa0 : Nat → Prop} (hl_va0 : SlLen va0 a0.length) (hw0 : Sep w (footM [R.sl Sa0 va0 a0]) [R.sl Sa0 va0 a0] w) :
    Calls Try.prog 129 ([va0, .int .i64 a1] : List Value).toArray w (PostM (footM [R.sl Sa0 va0 a0]) (fun u ns => u = .int .i64 r0 ∧ SlLen va0 r1.length ∧ ns = [R.sl Sa0 va0 r1]) w) := by
  unfold laws_markIntSS.f at h
  refine Calls.of_tri (N := 19) Try.func129 rfl rfl rfl hw0 ?_
  refine Tri.seq ?_
  refine Tri.reg (l := [0]) rfl ?_
  refine F.q rfl rfl rfl (wanted_none rfl) (r_assign rfl) ?_
  refine F.nil ?_
  refine Nrm.seq ?_
  refine Tri.seq ?_
  refine Tri.seq ?_
  refine Tri.reg (l := [0]) rfl ?_
  refine F.q rfl rfl rfl (wanted_none rfl) (r_assign rfl) ?_
  refine F.nil ?_
  refine Nrm.seq ?_
  obtain ⟨⟨x1, x0⟩, hE_1, h⟩ := bind_some h
  refine Tri.block ?_
  refine Tri.only [0, 1, 5] rfl ?_
  refine Tri.pick [0] rfl rfl ?_
  refine Tri.rounds (fun n e' C' => ∃ (x0' : List (List Int)) (x1' : Int) (x5' : Int), laws_markIntSS.l0 k n x0' x1' x5' = some (x1, x0) ∧ SlLen va0 (x0').length ∧ e' = [(0, va0), (1, .int .i64 x1'), (5, .int .i64 x5')] ∧ C' = Sep w (footM [R.sl Sa0 va0 a0]) [R.sl Sa0 va0 (x0' : List (List Int))]) k ?_ ?_ ?_
  · exact ⟨a0, a1, 0, hE_1, hl_va0, rfl, rfl⟩
  · rintro _ _ ⟨_, _, _, hE_1, _⟩
    rw [laws_markIntSS.l0.eq_1] at hE_1; cases hE_1
  · rintro n_1 _ _ ⟨x0, x1, x5, hE_1, hl_x0, rfl, rfl⟩ ih_1
    rw [laws_markIntSS.l0.eq_2] at hE_1
    refine Tri.seq ?_
    refine Tri.seq ?_
    refine Tri.reg (l := [0, 1, 2, 3]) rfl ?_
    refine F.q rfl rfl rfl (wanted_none rfl) (r_move rfl) ?_
    refine F.q rfl rfl rfl (wanted_none rfl) (r_move rfl) ?_
    refine F.q rfl rfl rfl (wanted_none rfl) (r_len Try.underlying63 rfl hl_x0) ?_
    refine F.q rfl rfl rfl (wanted_none rfl) (r_lss rfl rfl) ?_
    refine F.nil ?_
    refine Nrm.seq ?_
    refine Tri.cond (b := decide (x5 < (x0.length : Int))) rfl (fun g_1 => ?_) (fun g_1 => ?_)
    · replace hE_1 := if_tt g_1 hE_1
      refine Tri.skip ?_
      refine Nrm.seq ?_
      refine Tri.seq ?_
      refine Tri.block ?_
      obtain ⟨t14, h14, hE_1⟩ := bind_some hE_1
      obtain ⟨⟨t17_1, t17_2⟩, h17, hE_1⟩ := bind_some hE_1
      refine Tri.ex (on30 [0] [] rfl rfl (rdl_some h14).2.2) ?_
      rintro _ ⟨v14_0_1, S14_0_1, Sr14_1, hl_v14_0_1, hS14_1, rfl⟩
      refine Tri.reg (l := [0, 1, 2, 3, 4, 5, 6]) rfl ?_
      refine F.q rfl rfl rfl (wanted_none rfl) (r_move rfl) ?_
      refine F.q rfl rfl rfl (wanted_none rfl) (r_move rfl) ?_
      refine F.q rfl rfl rfl (wanted_none rfl) (r_indexAddrS Try.underlying63 ti30 rfl hl_x0 rfl (rdl_some h14).1 (rdl_some h14).2.1) ?_
      refine F.q rfl rfl rfl (wanted_none rfl) (r_load ta30 rfl (fun w hw => cell_0 (hole_cells (p := 1) rfl w hw) rfl)) ?_
      refine F.q rfl rfl rfl (wanted_none rfl) (r_move rfl) ?_
      refine F.ef rfl rfl rfl (wanted_none rfl) (d_callM (xs := _) (cs := [R.sl S14_0_1 v14_0_1 (t14 : List (Int))]) (rest := [R.hole Sr14_1 va0 (x0 : List (List Int)) (x5).toNat [v14_0_1]]) [0] [1] rfl ok93 rfl rfl rfl rfl (fun w hw => laws_markIntS.ok h17 w hl_v14_0_1 (Sep.sub hw))) ?_
      rintro _ _ ⟨_, ⟨rfl, hl_t17_2, rfl⟩, rfl⟩
      refine F.q rfl rfl rfl (wanted_none rfl) (r_assign rfl) ?_
      refine F.nil ?_
      refine Nrm.imp (cloS1 (cs := [R.sl S14_0_1 v14_0_1 (t17_2 : List (Int))]) (rest := []) [0, 1] [] rfl rfl (jn_sl (S := S14_0_1) (v := v14_0_1) (l := (t17_2 : List (Int)))) hS14_1) ?_
      refine Nrm.block ?_
      refine Nrm.seq ?_
      refine Tri.reg (l := [0, 1, 2]) rfl ?_
      refine F.q rfl rfl rfl (wanted_none rfl) (r_move rfl) ?_
      refine F.q rfl rfl rfl (wanted_none rfl) (r_add rfl rfl) ?_
      refine F.q rfl rfl rfl (wanted_none rfl) (r_assign rfl) ?_
      refine F.nil ?_
      refine Nrm.round ?_
      refine Rnd.only [0, 1, 5] rfl ?_
      refine Rnd.pick [0] rfl rfl ?_
      exact ih_1 _ _ ⟨(x0 : List (List Int)).set (x5).toNat t17_2, t17_1, w64 (x5 + 1), hE_1, (len_set hl_x0), rfl, rfl⟩
    · replace hE_1 := if_ff g_1 hE_1
      refine Tri.exit ?_
      refine Exi.then ?_
      refine Exi.then ?_
      refine Exi.same ?_
      cases hE_1
      refine Nrm.seq ?_
      refine Tri.seq ?_
      refine Tri.reg (l := [0, 1]) rfl ?_
      refine F.q rfl rfl rfl (wanted_none rfl) (r_move rfl) ?_
      refine F.q rfl rfl rfl (wanted_none rfl) (r_assign rfl) ?_
      refine F.nil ?_
      refine Nrm.seq ?_
      refine Tri.ret ?_
      cases h
      exact Rtn.body (.tmp rfl .nil) (fun w hw => ⟨_, _, rfl, ⟨rfl, hl_x0, rfl⟩, Sep.pick (is := [0]) rfl rfl hw⟩)

end Go.Proofs

/- loop.example/g01158/laws.markWorlds -/
namespace Go.Proofs
open Go Go.Ga
set_option linter.unusedVariables false
set_option maxRecDepth 100000
set_option maxHeartbeats 4000000
def laws_markWorlds.f (k : Nat) (a0_0 : List (Int × List (Int × Int × Int) × List Int)) (a0_1 : List (List Int)) (a1 : Int) : Option (Int × (List (Int × List (Int × Int × Int) × List Int)) × (List (List Int))) := (laws_markMazeS.f k a0_0 a1).bind fun (t8_1, t8_2) => (laws_markIntSS.f k a0_1 t8_1).bind fun (t12_1, t12_2) => some (t12_1, t8_2, t12_2)

theorem laws_markWorlds.ok {k : Nat}  {a0_0 : List (Int × List (Int × Int × Int) × List Int)} {a0_1 : List (List Int)} {a1 : Int} {r0 : Int} {r1 : List (Int × List (Int × Int × Int) × List Int)} {r2 : List (List Int)} (h : laws_markWorlds.f k a0_0 a0_1 a1 = some (r0, r1, r2)) (w : World) {va0_0 : Value} {Sa0_0 : Nat → Prop} (hl_va0_0 : SlLen va0_0 a0_0.length) {va0_1 : Value} {Sa0_1 : Nat → Prop} (hl_va0_1 : SlLen va0_1 a0_1.length) (hw0 : Sep w (footM [R.sl Sa0_0 va0_0 a0_0, R.sl Sa0_1 va0_1 a0_1]) [R.sl Sa0_0 va0_0 a0_0, R.sl Sa0_1 va0_1 a0_1] w) :
    Calls Try.prog 73 ([.agg ([va0_0, va0_1].toArray), .int .i64 a1] : List Value).toArray w (PostM (footM [R.sl Sa0_0 va0_0 a0_0, R.sl Sa0_1 va0_1 a0_1]) (fun u ns => u = .int .i64 r0 ∧ SlLen va0_0 r1.length ∧ SlLen va0_1 r2.length ∧ ns = [R.sl Sa0_0 va0_0 r1, R.sl Sa0_1 va0_1 r2]) w) := by
  unfold laws_markWorlds.f at h
  refine Calls.of_tri (N := 14) Try.func73 rfl rfl rfl hw0 ?_
  refine Tri.seq ?_
  refine Tri.reg (l := [0, 1]) rfl ?_
  refine F.m rfl rfl rfl (wanted_none rfl) (m_boxG rfl rfl) ?_
  rintro _ _ ⟨b2_1, rfl, rfl⟩
  refine F.q rfl rfl rfl (wanted_none rfl) (r_assign rfl) ?_
  refine F.nil ?_
  refine Nrm.seq ?_
  refine Tri.seq ?_
  obtain ⟨⟨t8_1, t8_2⟩, h8, h⟩ := bind_some h
  refine Tri.reg (l := [0, 1, 2, 3, 4]) rfl ?_
  refine F.q rfl rfl rfl (wanted_none rfl) (r_fieldAddr tf70_0 rfl) ?_
  refine F.q rfl rfl rfl (wanted_none rfl) (r_load ta68 rfl (fun w hw => cell_1 (box_cells (i := 0) rfl w hw) rfl)) ?_
  refine F.q rfl rfl rfl (wanted_none rfl) (r_move rfl) ?_
  refine F.ef rfl rfl rfl (wanted_none rfl) (d_callM (xs := _) (cs := [R.sl Sa0_0 va0_0 (a0_0 : List (Int × List (Int × Int × Int) × List Int))]) (rest := [R.box b2_1 70 [va0_0, va0_1], R.sl Sa0_1 va0_1 (a0_1 : List (List Int))]) [1] [0, 2] rfl ok128 rfl rfl rfl rfl (fun w hw => laws_markMazeS.ok h8 w hl_va0_0 (Sep.sub hw))) ?_
  rintro _ _ ⟨_, ⟨rfl, hl_t8_2, rfl⟩, rfl⟩
  refine F.q rfl rfl rfl (wanted_none rfl) (r_assign rfl) ?_
  refine F.nil ?_
  refine Nrm.seq ?_
  refine Tri.seq ?_
  obtain ⟨⟨t12_1, t12_2⟩, h12, h⟩ := bind_some h
  refine Tri.reg (l := [0, 1, 2, 3, 4]) rfl ?_
  refine F.q rfl rfl rfl (wanted_none rfl) (r_fieldAddr tf70_1 rfl) ?_
  refine F.q rfl rfl rfl (wanted_none rfl) (r_load ta63 rfl (fun w hw => cell_1 (box_cells (i := 1) rfl w hw) rfl)) ?_
  refine F.q rfl rfl rfl (wanted_none rfl) (r_move rfl) ?_
  refine F.ef rfl rfl rfl (wanted_none rfl) (d_callM (xs := _) (cs := [R.sl Sa0_1 va0_1 (a0_1 : List (List Int))]) (rest := [R.sl Sa0_0 va0_0 (t8_2 : List (Int × List (Int × Int × Int) × List Int)), R.box b2_1 70 [va0_0, va0_1]]) [2] [0, 1] rfl ok129 rfl rfl rfl rfl (fun w hw => laws_markIntSS.ok h12 w hl_va0_1 (Sep.sub hw))) ?_
  rintro _ _ ⟨_, ⟨rfl, hl_t12_2, rfl⟩, rfl⟩
  refine F.q rfl rfl rfl (wanted_none rfl) (r_assign rfl) ?_
  refine F.nil ?_
  refine Nrm.seq ?_
  refine Tri.seq ?_
  refine Tri.reg (l := [0, 1]) rfl ?_
  refine F.q rfl rfl rfl (wanted_none rfl) (r_move rfl) ?_
  refine F.q rfl rfl rfl (wanted_none rfl) (r_assign rfl) ?_
  refine F.nil ?_
  refine Nrm.seq ?_
  refine Tri.ret ?_
  cases h
  exact Rtn.body (.tmp rfl .nil) (fun w hw => ⟨_, _, rfl, ⟨rfl, hl_t8_2, hl_t12_2, rfl⟩, Sep.pick (is := [1, 0]) rfl rfl hw⟩)

end Go.Proofs

/- loop.example/g01158/laws.heldIntS -/

namespace Go.Proofs
open Go Go.Ga
set_option linter.unusedVariables false
set_option maxRecDepth 100000
set_option maxHeartbeats 4000000
def laws_heldIntS.l0 (k : Nat) (a0 : List Int) : Nat → Int → Int → Option ((Int) ⊕ (Int))
  | 0, _, _ => none
  | n + 1, x1, x5 => (if (decide (x5 < (a0.length : Int))) = true then (rdl a0 x5).bind fun t14 => (if (t14 != x1) = true then some (Sum.inr (-1)) else laws_heldIntS.l0 k a0 n (w64 (x1 + 1)) (w64 (x5 + 1))) else some (Sum.inl x1))

def laws_heldIntS.f (k : Nat) (a0 : List Int) (a1 : Int) : Option (Int) := (laws_heldIntS.l0 k a0 k a1 0).bind fun s => Lr s some fun x1 => some x1

theorem laws_heldIntS.ok {k : Nat}  {a0 : List Int} {a1 : Int} {r0 : Int} (h : laws_heldIntS.f k a0 a1 = some r0) (w : World) {va0 : Value} (hr_a0 : Rd w va0 a0) :
    Calls Try.prog 95 ([va0, .int .i64 a1] : List Value).toArray w (fun e w' => e = .returned (.int .i64 r0) ∧ Ext w w') := by
  unfold laws_heldIntS.f at h
  have hl_va0 := hr_a0.len
  refine Calls.of_tri (N := 21) Try.func95 rfl rfl rfl (Sep.nil (M := noM)) ?_
  refine Tri.seq ?_
  refine Tri.reg (l := [0]) rfl ?_
  refine F.q rfl rfl rfl (wanted_none rfl) (r_assign rfl) ?_
  refine F.nil ?_
  refine Nrm.seq ?_
  refine Tri.seq ?_
  refine Tri.seq ?_
  refine Tri.reg (l := [0]) rfl ?_
  refine F.q rfl rfl rfl (wanted_none rfl) (r_assign rfl) ?_
  refine F.nil ?_
  refine Nrm.seq ?_
  obtain ⟨s0, hE_1, h⟩ := bind_some h
  refine Tri.block ?_
  refine Tri.only [0, 1, 5] rfl ?_
  refine Tri.pick [] rfl rfl ?_
  refine Tri.rounds (fun n e' C' => ∃ (x1' : Int) (x5' : Int), laws_heldIntS.l0 k a0 n x1' x5' = some s0 ∧ e' = [(0, va0), (1, .int .i64 x1'), (5, .int .i64 x5')] ∧ C' = Sep w noM []) k ?_ ?_ ?_
  · exact ⟨a1, 0, hE_1, rfl, rfl⟩
  · rintro _ _ ⟨_, _, hE_1, _⟩
    rw [laws_heldIntS.l0.eq_1] at hE_1; cases hE_1
  · rintro n_1 _ _ ⟨x1, x5, hE_1, rfl, rfl⟩ ih_1
    rw [laws_heldIntS.l0.eq_2] at hE_1
    refine Tri.seq ?_
    refine Tri.seq ?_
    refine Tri.reg (l := [0, 1, 2, 3]) rfl ?_
    refine F.q rfl rfl rfl (wanted_none rfl) (r_move rfl) ?_
    refine F.q rfl rfl rfl (wanted_none rfl) (r_move rfl) ?_
    refine F.q rfl rfl rfl (wanted_none rfl) (r_len Try.underlying30 rfl hl_va0) ?_
    refine F.q rfl rfl rfl (wanted_none rfl) (r_lss rfl rfl) ?_
    refine F.nil ?_
    refine Nrm.seq ?_
    refine Tri.cond (b := decide (x5 < (a0.length : Int))) rfl (fun g_1 => ?_) (fun g_1 => ?_)
    · replace hE_1 := if_tt g_1 hE_1
      refine Tri.skip ?_
      refine Nrm.seq ?_
      refine Tri.seq ?_
      refine Tri.block ?_
      refine Tri.seq ?_
      refine Tri.seq ?_
      obtain ⟨t14, h14, hE_1⟩ := bind_some hE_1
      refine Tri.reg (l := [0, 1, 2, 3, 4, 5]) rfl ?_
      refine F.q rfl rfl rfl (wanted_none rfl) (r_move rfl) ?_
      refine F.q rfl rfl rfl (wanted_none rfl) (r_move rfl) ?_
      refine F.q rfl rfl rfl (wanted_none rfl) (r_indexAddrS Try.underlying30 ti3 rfl hl_va0 rfl (rdl_some h14).1 (rdl_some h14).2.1) ?_
      refine F.q rfl rfl rfl (wanted_none rfl) (r_load ta3 rfl (fun w hw => cell_0 (Rd.flat ((fun _ hw => hr_a0.sep hw) w hw) (rdl_some h14).2.2) rfl)) ?_
      refine F.q rfl rfl rfl (wanted_none rfl) (r_move rfl) ?_
      refine F.q rfl rfl rfl (wanted_none rfl) (r_neq rfl rfl) ?_
      refine F.nil ?_
      refine Nrm.seq ?_
      refine Tri.cond (b := t14 != x1) rfl (fun g_2 => ?_) (fun g_2 => ?_)
      · replace hE_1 := if_tt g_2 hE_1
        refine Tri.seq ?_
        refine Tri.reg (l := [0]) rfl ?_
        refine F.q rfl rfl rfl (wanted_none rfl) (r_assign rfl) ?_
        refine F.nil ?_
        refine Nrm.seq ?_
        refine Tri.ret ?_
        refine Rtn.then ?_
        refine Rtn.block ?_
        refine Rtn.then ?_
        refine Rtn.then ?_
        refine Rtn.block ?_
        refine Rtn.then ?_
        cases hE_1
        replace h := Lr_inr h
        cases h
        exact Rtn.body (.tmp rfl .nil) (fun w hw => ⟨rfl, hw.ext⟩)
      · replace hE_1 := if_ff g_2 hE_1
        refine Tri.skip ?_
        refine Nrm.seq ?_
        refine Tri.reg (l := [0, 1, 2]) rfl ?_
        refine F.q rfl rfl rfl (wanted_none rfl) (r_move rfl) ?_
        refine F.q rfl rfl rfl (wanted_none rfl) (r_add rfl rfl) ?_
        refine F.q rfl rfl rfl (wanted_none rfl) (r_assign rfl) ?_
        refine F.nil ?_
        refine Nrm.block ?_
        refine Nrm.seq ?_
        refine Tri.reg (l := [0, 1, 2]) rfl ?_
        refine F.q rfl rfl rfl (wanted_none rfl) (r_move rfl) ?_
        refine F.q rfl rfl rfl (wanted_none rfl) (r_add rfl rfl) ?_
        refine F.q rfl rfl rfl (wanted_none rfl) (r_assign rfl) ?_
        refine F.nil ?_
        refine Nrm.round ?_
        refine Rnd.only [0, 1, 5] rfl ?_
        refine Rnd.pick [] rfl rfl ?_
        exact ih_1 _ _ ⟨w64 (x1 + 1), w64 (x5 + 1), hE_1, rfl, rfl⟩
    · replace hE_1 := if_ff g_1 hE_1
      refine Tri.exit ?_
      refine Exi.then ?_
      refine Exi.then ?_
      refine Exi.same ?_
      cases hE_1
      replace h := Lr_inl h
      refine Nrm.seq ?_
      refine Tri.seq ?_
      refine Tri.reg (l := [0, 1]) rfl ?_
      refine F.q rfl rfl rfl (wanted_none rfl) (r_move rfl) ?_
      refine F.q rfl rfl rfl (wanted_none rfl) (r_assign rfl) ?_
      refine F.nil ?_
      refine Nrm.seq ?_
      refine Tri.ret ?_
      cases h
      exact Rtn.body (.tmp rfl .nil) (fun w hw => ⟨rfl, hw.ext⟩)

end Go.Proofs

/- loop.example/g01158/laws.heldIntA3S -/

namespace Go.Proofs
open Go Go.Ga
set_option linter.unusedVariables false
set_option maxRecDepth 100000
set_option maxHeartbeats 4000000
def laws_heldIntA3S.l1 (k : Nat) (a0 : List (Int × Int × Int)) (x5 : Int) : Nat → Int → Int → Option ((Int) ⊕ (Int))
  | 0, _, _ => none
  | n + 1, x1r, x6 => (if (decide (x6 < 3)) = true then (rdl a0 x5).bind fun t20 => (rdl [t20.1, t20.2.1, t20.2.2] x6).bind fun t21 => (if (t21 != x1r) = true then some (Sum.inr (-1)) else laws_heldIntA3S.l1 k a0 x5 n (w64 (x1r + 1)) (w64 (x6 + 1))) else some (Sum.inl x1r))

def laws_heldIntA3S.l0 (k : Nat) (a0 : List (Int × Int × Int)) : Nat → Int → Int → Option ((Int) ⊕ (Int))
  | 0, _, _ => none
  | n + 1, x1, x5 => (if (decide (x5 < (a0.length : Int))) = true then (laws_heldIntA3S.l1 k a0 x5 k x1 0).bind fun s => Lr s (fun r => some (Sum.inr r)) fun x1r => laws_heldIntA3S.l0 k a0 n x1r (w64 (x5 + 1)) else some (Sum.inl x1))

def laws_heldIntA3S.f (k : Nat) (a0 : List (Int × Int × Int)) (a1 : Int) : Option (Int) := (laws_heldIntA3S.l0 k a0 k a1 0).bind fun s => Lr s some fun x1 => some x1

theorem laws_heldIntA3S.ok {k : Nat}  {a0 : List (Int × Int × Int)} {a1 : Int} {r0 : Int} (h : laws_heldIntA3S.f k a0 a1 = some r0) (w : World) {va0 : Value} (hr_a0 : Rd w va0 a0) :
    Calls Try.prog 153 ([va0, .int .i64 a1] : List Value).toArray w (fun e w' => e = .returned (.int .i64 r0) ∧ Ext w w') := by
  unfold laws_heldIntA3S.f at h
  have hl_va0 := hr_a0.len
  refine Calls.of_tri (N := 28) Try.func153 rfl rfl rfl (Sep.nil (M := noM)) ?_
  refine Tri.seq ?_
  refine Tri.reg (l := [0]) rfl ?_
  refine F.q rfl rfl rfl (wanted_none rfl) (r_assign rfl) ?_
  refine F.nil ?_
  refine Nrm.seq ?_
  refine Tri.seq ?_
  refine Tri.seq ?_
  refine Tri.reg (l := [0]) rfl ?_
  refine F.q rfl rfl rfl (wanted_none rfl) (r_assign rfl) ?_
  refine F.nil ?_
  refine Nrm.seq ?_
  obtain ⟨s0, hE_1, h⟩ := bind_some h
  refine Tri.block ?_
  refine Tri.only [0, 1, 5] rfl ?_
  refine Tri.pick [] rfl rfl ?_
  refine Tri.rounds (fun n e' C' => ∃ (x1' : Int) (x5' : Int), laws_heldIntA3S.l0 k a0 n x1' x5' = some s0 ∧ e' = [(0, va0), (1, .int .i64 x1'), (5, .int .i64 x5')] ∧ C' = Sep w noM []) k ?_ ?_ ?_
  · exact ⟨a1, 0, hE_1, rfl, rfl⟩
  · rintro _ _ ⟨_, _, hE_1, _⟩
    rw [laws_heldIntA3S.l0.eq_1] at hE_1; cases hE_1
  · rintro n_1 _ _ ⟨x1, x5, hE_1, rfl, rfl⟩ ih_1
    rw [laws_heldIntA3S.l0.eq_2] at hE_1
    refine Tri.seq ?_
    refine Tri.seq ?_
    refine Tri.reg (l := [0, 1, 2, 3]) rfl ?_
    refine F.q rfl rfl rfl (wanted_none rfl) (r_move rfl) ?_
    refine F.q rfl rfl rfl (wanted_none rfl) (r_move rfl) ?_
    refine F.q rfl rfl rfl (wanted_none rfl) (r_len Try.underlying29 rfl hl_va0) ?_
    refine F.q rfl rfl rfl (wanted_none rfl) (r_lss rfl rfl) ?_
    refine F.nil ?_
    refine Nrm.seq ?_
    refine Tri.cond (b := decide (x5 < (a0.length : Int))) rfl (fun g_1 => ?_) (fun g_1 => ?_)
    · replace hE_1 := if_tt g_1 hE_1
      refine Tri.skip ?_
      refine Nrm.seq ?_
      refine Tri.seq ?_
      refine Tri.block ?_
      refine Tri.seq ?_
      refine Tri.reg (l := [0]) rfl ?_
      refine F.q rfl rfl rfl (wanted_none rfl) (r_assign rfl) ?_
      refine F.nil ?_
      refine Nrm.seq ?_
      obtain ⟨s1, hE_2, hE_1⟩ := bind_some hE_1
      refine Tri.block ?_
      refine Tri.only [0, 1, 5, 6] rfl ?_
      refine Tri.pick [] rfl rfl ?_
      refine Tri.rounds (fun n e' C' => ∃ (x1r' : Int) (x6' : Int), laws_heldIntA3S.l1 k a0 x5 n x1r' x6' = some s1 ∧ e' = [(0, va0), (1, .int .i64 x1r'), (5, .int .i64 x5), (6, .int .i64 x6')] ∧ C' = Sep w noM []) k ?_ ?_ ?_
      · exact ⟨x1, 0, hE_2, rfl, rfl⟩
      · rintro _ _ ⟨_, _, hE_2, _⟩
        rw [laws_heldIntA3S.l1.eq_1] at hE_2; cases hE_2
      · rintro n_2 _ _ ⟨x1r, x6, hE_2, rfl, rfl⟩ ih_2
        rw [laws_heldIntA3S.l1.eq_2] at hE_2
        refine Tri.seq ?_
        refine Tri.seq ?_
        refine Tri.reg (l := [0, 1]) rfl ?_
        refine F.q rfl rfl rfl (wanted_none rfl) (r_move rfl) ?_
        refine F.q rfl rfl rfl (wanted_none rfl) (r_lss rfl rfl) ?_
        refine F.nil ?_
        refine Nrm.seq ?_
        refine Tri.cond (b := decide (x6 < 3)) rfl (fun g_2 => ?_) (fun g_2 => ?_)
        · replace hE_2 := if_tt g_2 hE_2
          refine Tri.skip ?_
          refine Nrm.seq ?_
          refine Tri.seq ?_
          refine Tri.block ?_
          refine Tri.seq ?_
          refine Tri.seq ?_
          obtain ⟨t20, h20, hE_2⟩ := bind_some hE_2
          obtain ⟨t21, h21, hE_2⟩ := bind_some hE_2
          refine Tri.reg (l := [0, 1, 2, 3, 4, 5, 6, 7]) rfl ?_
          refine F.q rfl rfl rfl (wanted_none rfl) (r_move rfl) ?_
          refine F.q rfl rfl rfl (wanted_none rfl) (r_move rfl) ?_
          refine F.q rfl rfl rfl (wanted_none rfl) (r_move rfl) ?_
          refine F.q rfl rfl rfl (wanted_none rfl) (r_indexAddrS Try.underlying29 ti145 rfl hl_va0 rfl (rdl_some h20).1 (rdl_some h20).2.1) ?_
          refine F.q rfl rfl rfl (wanted_none rfl) (r_indexAddrA Try.underlying145 ti3 rfl rfl (rdl_some h21).1 (rdl_some h21).2.1) ?_
          refine F.q rfl rfl rfl (wanted_none rfl) (r_load ta3 rfl (fun w hw => cell_dynB (Rd.flat ((fun _ hw => hr_a0.sep hw) w hw) (rdl_some h20).2.2) rfl h21)) ?_
          refine F.q rfl rfl rfl (wanted_none rfl) (r_move rfl) ?_
          refine F.q rfl rfl rfl (wanted_none rfl) (r_neq rfl rfl) ?_
          refine F.nil ?_
          refine Nrm.seq ?_
          refine Tri.cond (b := t21 != x1r) rfl (fun g_3 => ?_) (fun g_3 => ?_)
          · replace hE_2 := if_tt g_3 hE_2
            refine Tri.seq ?_
            refine Tri.reg (l := [0]) rfl ?_
            refine F.q rfl rfl rfl (wanted_none rfl) (r_assign rfl) ?_
            refine F.nil ?_
            refine Nrm.seq ?_
            refine Tri.ret ?_
            refine Rtn.then ?_
            refine Rtn.block ?_
            refine Rtn.then ?_
            refine Rtn.then ?_
            refine Rtn.block ?_
            refine Rtn.block ?_
            refine Rtn.then ?_
            refine Rtn.then ?_
            refine Rtn.block ?_
            refine Rtn.then ?_
            cases hE_2
            replace hE_1 := Lr_inr hE_1
            cases hE_1
            replace h := Lr_inr h
            cases h
            exact Rtn.body (.tmp rfl .nil) (fun w hw => ⟨rfl, hw.ext⟩)
          · replace hE_2 := if_ff g_3 hE_2
            refine Tri.skip ?_
            refine Nrm.seq ?_
            refine Tri.reg (l := [0, 1, 2]) rfl ?_
            refine F.q rfl rfl rfl (wanted_none rfl) (r_move rfl) ?_
            refine F.q rfl rfl rfl (wanted_none rfl) (r_add rfl rfl) ?_
            refine F.q rfl rfl rfl (wanted_none rfl) (r_assign rfl) ?_
            refine F.nil ?_
            refine Nrm.block ?_
            refine Nrm.seq ?_
            refine Tri.reg (l := [0, 1, 2]) rfl ?_
            refine F.q rfl rfl rfl (wanted_none rfl) (r_move rfl) ?_
            refine F.q rfl rfl rfl (wanted_none rfl) (r_add rfl rfl) ?_
            refine F.q rfl rfl rfl (wanted_none rfl) (r_assign rfl) ?_
            refine F.nil ?_
            refine Nrm.round ?_
            refine Rnd.only [0, 1, 5, 6] rfl ?_
            refine Rnd.pick [] rfl rfl ?_
            exact ih_2 _ _ ⟨w64 (x1r + 1), w64 (x6 + 1), hE_2, rfl, rfl⟩
        · replace hE_2 := if_ff g_2 hE_2
          refine Tri.exit ?_
          refine Exi.then ?_
          refine Exi.then ?_
          refine Exi.same ?_
          cases hE_2
          replace hE_1 := Lr_inl hE_1
          refine Nrm.block ?_
          refine Nrm.seq ?_
          refine Tri.reg (l := [0, 1, 2]) rfl ?_
          refine F.q rfl rfl rfl (wanted_none rfl) (r_move rfl) ?_
          refine F.q rfl rfl rfl (wanted_none rfl) (r_add rfl rfl) ?_
          refine F.q rfl rfl rfl (wanted_none rfl) (r_assign rfl) ?_
          refine F.nil ?_
          refine Nrm.round ?_
          refine Rnd.only [0, 1, 5] rfl ?_
          refine Rnd.pick [] rfl rfl ?_
          exact ih_1 _ _ ⟨x1r, w64 (x5 + 1), hE_1, rfl, rfl⟩
    · replace hE_1 := if_ff g_1 hE_1
      refine Tri.exit ?_
      refine Exi.then ?_
      refine Exi.then ?_
      refine Exi.same ?_
      cases hE_1
      replace h := Lr_inl h
      refine Nrm.seq ?_
      refine Tri.seq ?_
      refine Tri.reg (l := [0, 1]) rfl ?_
      refine F.q rfl rfl rfl (wanted_none rfl) (r_move rfl) ?_
      refine F.q rfl rfl rfl (wanted_none rfl) (r_assign rfl) ?_
      refine F.nil ?_
      refine Nrm.seq ?_
      refine Tri.ret ?_
      cases h
      exact Rtn.body (.tmp rfl .nil) (fun w hw => ⟨rfl, hw.ext⟩)

end Go.Proofs

/- loop.example/g01158/laws.heldMazeS -/
namespace Go.Proofs
open Go Go.Ga
set_option linter.unusedVariables false
set_option maxRecDepth 100000
set_option maxHeartbeats 4000000
def laws_heldMazeS.l0 (k : Nat) (a0 : List (Int × List (Int × Int × Int) × List Int)) : Nat → Int → Int → Option ((Int) ⊕ (Int))
  | 0, _, _ => none
  | n + 1, x1, x5 => (if (decide (x5 < (a0.length : Int))) = true then (rdl a0 x5).bind fun t14 => (if (t14.1 != x1) = true then some (Sum.inr (-1)) else (rdl a0 x5).bind fun t23 => (laws_heldIntA3S.f k t23.2.1 (w64 (x1 + 1))).bind fun t27 => (if (decide (t27 < 0)) = true then some (Sum.inr (-1)) else (rdl a0 x5).bind fun t32 => (laws_heldIntS.f k t32.2.2 t27).bind fun t36 => (if (decide (t36 < 0)) = true then some (Sum.inr (-1)) else laws_heldMazeS.l0 k a0 n t36 (w64 (x5 + 1))))) else some (Sum.inl x1))

def laws_heldMazeS.f (k : Nat) (a0 : List (Int × List (Int × Int × Int) × List Int)) (a1 : Int) : Option (Int) := (laws_heldMazeS.l0 k a0 k a1 0).bind fun s => Lr s some fun x1 => some x1

theorem laws_heldMazeS.ok {k : Nat}  {a0 : List (Int × List (Int × Int × Int) × List Int)} {a1 : Int} {r0 : Int} (h : laws_heldMazeS.f k a0 a1 = some r0) (w : World) {va0 : Value} (hr_a0 : Rd w va0 a0) :
    Calls Try.prog 130 ([va0, .int .i64 a1] : List Value).toArray w (fun e w' => e = .returned (.int .i64 r0) ∧ Ext w w') := by
  unfold laws_heldMazeS.f at h
  have hl_va0 := hr_a0.len
  refine Calls.of_tri (N := 40) Try.func130 rfl rfl rfl (Sep.nil (M := noM)) ?_
  refine Tri.seq ?_
  refine Tri.reg (l := [0]) rfl ?_
  refine F.q rfl rfl rfl (wanted_none rfl) (r_assign rfl) ?_
  refine F.nil ?_
  refine Nrm.seq ?_
  refine Tri.seq ?_
  refine Tri.seq ?_
  refine Tri.reg (l := [0]) rfl ?_
  refine F.q rfl rfl rfl (wanted_none rfl) (r_assign rfl) ?_
  refine F.nil ?_
  refine Nrm.seq ?_
  obtain ⟨s0, hE_1, h⟩ := bind_some h
  refine Tri.block ?_
  refine Tri.only [0, 1, 5] rfl ?_
  refine Tri.pick [] rfl rfl ?_
  refine Tri.rounds (fun n e' C' => ∃ (x1' : Int) (x5' : Int), laws_heldMazeS.l0 k a0 n x1' x5' = some s0 ∧ e' = [(0, va0), (1, .int .i64 x1'), (5, .int .i64 x5')] ∧ C' = Sep w noM []) k ?_ ?_ ?_
  · exact ⟨a1, 0, hE_1, rfl, rfl⟩
  · rintro _ _ ⟨_, _, hE_1, _⟩
    rw [laws_heldMazeS.l0.eq_1] at hE_1; cases hE_1
  · rintro n_1 _ _ ⟨x1, x5, hE_1, rfl, rfl⟩ ih_1
    rw [laws_heldMazeS.l0.eq_2] at hE_1
    refine Tri.seq ?_
    refine Tri.seq ?_
    refine Tri.reg (l := [0, 1, 2, 3]) rfl ?_
    refine F.q rfl rfl rfl (wanted_none rfl) (r_move rfl) ?_
    refine F.q rfl rfl rfl (wanted_none rfl) (r_move rfl) ?_
    refine F.q rfl rfl rfl (wanted_none rfl) (r_len Try.underlying68 rfl hl_va0) ?_
    refine F.q rfl rfl rfl (wanted_none rfl) (r_lss rfl rfl) ?_
    refine F.nil ?_
    refine Nrm.seq ?_
    refine Tri.cond (b := decide (x5 < (a0.length : Int))) rfl (fun g_1 => ?_) (fun g_1 => ?_)
    · replace hE_1 := if_tt g_1 hE_1
      refine Tri.skip ?_
      refine Nrm.seq ?_
      refine Tri.seq ?_
      refine Tri.block ?_
      refine Tri.seq ?_
      refine Tri.seq ?_
      obtain ⟨t14, h14, hE_1⟩ := bind_some hE_1
      obtain ⟨_, hc14, hp14⟩ := Rd.elem hr_a0 (rdl_some h14).2.2
      obtain ⟨v14_1, v14_2, rfl, hr_v14_1, hr_v14_2⟩ := op37 hp14
      have hl_v14_1 := hr_v14_1.len
      have hl_v14_2 := hr_v14_2.len
      refine Tri.reg (l := [0, 1, 2, 3, 4, 5, 6]) rfl ?_
      refine F.q rfl rfl rfl (wanted_none rfl) (r_move rfl) ?_
      refine F.q rfl rfl rfl (wanted_none rfl) (r_move rfl) ?_
      refine F.q rfl rfl rfl (wanted_none rfl) (r_indexAddrS Try.underlying68 ti37 rfl hl_va0 rfl (rdl_some h14).1 (rdl_some h14).2.1) ?_
      refine F.q rfl rfl rfl (wanted_none rfl) (r_fieldAddr tf37_0 rfl) ?_
      refine F.q rfl rfl rfl (wanted_none rfl) (r_load ta3 rfl (fun w hw => cell_1 (hc14.sep hw) rfl)) ?_
      refine F.q rfl rfl rfl (wanted_none rfl) (r_move rfl) ?_
      refine F.q rfl rfl rfl (wanted_none rfl) (r_neq rfl rfl) ?_
      refine F.nil ?_
      refine Nrm.seq ?_
      refine Tri.cond (b := t14.1 != x1) rfl (fun g_2 => ?_) (fun g_2 => ?_)
      · replace hE_1 := if_tt g_2 hE_1
        refine Tri.seq ?_
        refine Tri.reg (l := [0]) rfl ?_
        refine F.q rfl rfl rfl (wanted_none rfl) (r_assign rfl) ?_
        refine F.nil ?_
        refine Nrm.seq ?_
        refine Tri.ret ?_
        refine Rtn.then ?_
        refine Rtn.block ?_
        refine Rtn.then ?_
        refine Rtn.then ?_
        refine Rtn.block ?_
        refine Rtn.then ?_
        cases hE_1
        replace h := Lr_inr h
        cases h
        exact Rtn.body (.tmp rfl .nil) (fun w hw => ⟨rfl, hw.ext⟩)
      · replace hE_1 := if_ff g_2 hE_1
        refine Tri.skip ?_
        refine Nrm.seq ?_
        refine Tri.seq ?_
        refine Tri.reg (l := [0, 1, 2]) rfl ?_
        refine F.q rfl rfl rfl (wanted_none rfl) (r_move rfl) ?_
        refine F.q rfl rfl rfl (wanted_none rfl) (r_add rfl rfl) ?_
        refine F.q rfl rfl rfl (wanted_none rfl) (r_assign rfl) ?_
        refine F.nil ?_
        refine Nrm.seq ?_
        refine Tri.seq ?_
        obtain ⟨t23, h23, hE_1⟩ := bind_some hE_1
        obtain ⟨_, hc23, hp23⟩ := Rd.elem hr_a0 (rdl_some h23).2.2
        obtain ⟨v23_1, v23_2, rfl, hr_v23_1, hr_v23_2⟩ := op37 hp23
        have hl_v23_1 := hr_v23_1.len
        have hl_v23_2 := hr_v23_2.len
        obtain ⟨t27, h27, hE_1⟩ := bind_some hE_1
        refine Tri.reg (l := [0, 1, 2, 3, 4, 5, 6, 7]) rfl ?_
        refine F.q rfl rfl rfl (wanted_none rfl) (r_move rfl) ?_
        refine F.q rfl rfl rfl (wanted_none rfl) (r_move rfl) ?_
        refine F.q rfl rfl rfl (wanted_none rfl) (r_indexAddrS Try.underlying68 ti37 rfl hl_va0 rfl (rdl_some h23).1 (rdl_some h23).2.1) ?_
        refine F.q rfl rfl rfl (wanted_none rfl) (r_fieldAddr tf37_1 rfl) ?_
        refine F.q rfl rfl rfl (wanted_none rfl) (r_load ta29 rfl (fun w hw => cell_1 (hc23.sep hw) rfl)) ?_
        refine F.q rfl rfl rfl (wanted_none rfl) (r_move rfl) ?_
        refine F.qc rfl rfl rfl (wanted_none rfl) (q_callF (xs := _) rfl ok153 rfl rfl (fun w hw => laws_heldIntA3S.ok h27 w ((fun _ hw => hr_v23_1.sep hw) w hw))) ?_
        refine F.q rfl rfl rfl (wanted_none rfl) (r_assign rfl) ?_
        refine F.nil ?_
        refine Nrm.seq ?_
        refine Tri.seq ?_
        refine Tri.seq ?_
        refine Tri.reg (l := [0, 1]) rfl ?_
        refine F.q rfl rfl rfl (wanted_none rfl) (r_move rfl) ?_
        refine F.q rfl rfl rfl (wanted_none rfl) (r_lss rfl rfl) ?_
        refine F.nil ?_
        refine Nrm.seq ?_
        refine Tri.cond (b := decide (t27 < 0)) rfl (fun g_3 => ?_) (fun g_3 => ?_)
        · replace hE_1 := if_tt g_3 hE_1
          refine Tri.seq ?_
          refine Tri.reg (l := [0]) rfl ?_
          refine F.q rfl rfl rfl (wanted_none rfl) (r_assign rfl) ?_
          refine F.nil ?_
          refine Nrm.seq ?_
          refine Tri.ret ?_
          refine Rtn.then ?_
          refine Rtn.block ?_
          refine Rtn.then ?_
          refine Rtn.then ?_
          refine Rtn.block ?_
          refine Rtn.then ?_
          cases hE_1
          replace h := Lr_inr h
          cases h
          exact Rtn.body (.tmp rfl .nil) (fun w hw => ⟨rfl, hw.ext⟩)
        · replace hE_1 := if_ff g_3 hE_1
          refine Tri.skip ?_
          refine Nrm.seq ?_
          refine Tri.seq ?_
          obtain ⟨t32, h32, hE_1⟩ := bind_some hE_1
          obtain ⟨_, hc32, hp32⟩ := Rd.elem hr_a0 (rdl_some h32).2.2
          obtain ⟨v32_1, v32_2, rfl, hr_v32_1, hr_v32_2⟩ := op37 hp32
          have hl_v32_1 := hr_v32_1.len
          have hl_v32_2 := hr_v32_2.len
          obtain ⟨t36, h36, hE_1⟩ := bind_some hE_1
          refine Tri.reg (l := [0, 1, 2, 3, 4, 5, 6, 7]) rfl ?_
          refine F.q rfl rfl rfl (wanted_none rfl) (r_move rfl) ?_
          refine F.q rfl rfl rfl (wanted_none rfl) (r_move rfl) ?_
          refine F.q rfl rfl rfl (wanted_none rfl) (r_indexAddrS Try.underlying68 ti37 rfl hl_va0 rfl (rdl_some h32).1 (rdl_some h32).2.1) ?_
          refine F.q rfl rfl rfl (wanted_none rfl) (r_fieldAddr tf37_2 rfl) ?_
          refine F.q rfl rfl rfl (wanted_none rfl) (r_load ta30 rfl (fun w hw => cell_1 (hc32.sep hw) rfl)) ?_
          refine F.q rfl rfl rfl (wanted_none rfl) (r_move rfl) ?_
          refine F.qc rfl rfl rfl (wanted_none rfl) (q_callF (xs := _) rfl ok95 rfl rfl (fun w hw => laws_heldIntS.ok h36 w ((fun _ hw => hr_v32_2.sep hw) w hw))) ?_
          refine F.q rfl rfl rfl (wanted_none rfl) (r_assign rfl) ?_
          refine F.nil ?_
          refine Nrm.seq ?_
          refine Tri.seq ?_
          refine Tri.reg (l := [0, 1]) rfl ?_
          refine F.q rfl rfl rfl (wanted_none rfl) (r_move rfl) ?_
          refine F.q rfl rfl rfl (wanted_none rfl) (r_lss rfl rfl) ?_
          refine F.nil ?_
          refine Nrm.seq ?_
          refine Tri.cond (b := decide (t36 < 0)) rfl (fun g_4 => ?_) (fun g_4 => ?_)
          · replace hE_1 := if_tt g_4 hE_1
            refine Tri.seq ?_
            refine Tri.reg (l := [0]) rfl ?_
            refine F.q rfl rfl rfl (wanted_none rfl) (r_assign rfl) ?_
            refine F.nil ?_
            refine Nrm.seq ?_
            refine Tri.ret ?_
            refine Rtn.block ?_
            refine Rtn.then ?_
            refine Rtn.then ?_
            refine Rtn.block ?_
            refine Rtn.then ?_
            cases hE_1
            replace h := Lr_inr h
            cases h
            exact Rtn.body (.tmp rfl .nil) (fun w hw => ⟨rfl, hw.ext⟩)
          · replace hE_1 := if_ff g_4 hE_1
            refine Tri.skip ?_
            refine Nrm.block ?_
            refine Nrm.seq ?_
            refine Tri.reg (l := [0, 1, 2]) rfl ?_
            refine F.q rfl rfl rfl (wanted_none rfl) (r_move rfl) ?_
            refine F.q rfl rfl rfl (wanted_none rfl) (r_add rfl rfl) ?_
            refine F.q rfl rfl rfl (wanted_none rfl) (r_assign rfl) ?_
            refine F.nil ?_
            refine Nrm.round ?_
            refine Rnd.only [0, 1, 5] rfl ?_
            refine Rnd.pick [] rfl rfl ?_
            exact ih_1 _ _ ⟨t36, w64 (x5 + 1), hE_1, rfl, rfl⟩
    · replace hE_1 := if_ff g_1 hE_1
      refine Tri.exit ?_
      refine Exi.then ?_
      refine Exi.then ?_
      refine Exi.same ?_
      cases hE_1
      replace h := Lr_inl h
      refine Nrm.seq ?_
      refine Tri.seq ?_
      refine Tri.reg (l := [0, 1]) rfl ?_
      refine F.q rfl rfl rfl (wanted_none rfl) (r_move rfl) ?_
      refine F.q rfl rfl rfl (wanted_none rfl) (r_assign rfl) ?_
      refine F.nil ?_
      refine Nrm.seq ?_
      refine Tri.ret ?_
      cases h
      exact Rtn.body (.tmp rfl .nil) (fun w hw => ⟨rfl, hw.ext⟩)

end Go.Proofs

/- loop.example/g01158/laws.heldIntSS -/
namespace Go.Proofs
open Go Go.Ga
set_option linter.unusedVariables false
set_option maxRecDepth 100000
set_option maxHeartbeats 4000000
def laws_heldIntSS.l0 (k : Nat) (a0 : List (List Int)) : Nat → Int → Int → Option ((Int) ⊕ (Int))
  | 0, _, _ => none
  | n + 1, x1, x5 => (if (decide (x5 < (a0.length : Int))) = true then (rdl a0 x5).bind fun t14 => (laws_heldIntS.f k t14 x1).bind fun t17 => (if (decide (t17 < 0)) = true then some (Sum.inr (-1)) else laws_heldIntSS.l0 k a0 n t17 (w64 (x5 + 1))) else some (Sum.inl x1))

def laws_heldIntSS.f (k : Nat) (a0 : List (List Int)) (a1 : Int) : Option (Int) := (laws_heldIntSS.l0 k a0 k a1 0).bind fun s => Lr s some fun x1 => some x1

theorem laws_heldIntSS.ok {k : Nat}  {a0 : List (List Int)} {a1 : Int} {r0 : Int} (h : laws_heldIntSS.f k a0 a1 = some r0) (w : World) {va0 : Value} (hr_a0 : Rd w va0 a0) :
    Calls Try.prog 131 ([va0, .int .i64 a1] : List Value).toArray w (fun e w' => e = .returned (.int .i64 r0) ∧ Ext w w') := by
  unfold laws_heldIntSS.f at h
  have hl_va0 := hr_a0.len
  refine Calls.of_tri (N := 21) Try.func131 rfl rfl rfl (Sep.nil (M := noM)) ?_
  refine Tri.seq ?_
  refine Tri.reg (l := [0]) rfl ?_
  refine F.q rfl rfl rfl (wanted_none rfl) (r_assign rfl) ?_
  refine F.nil ?_
  refine Nrm.seq ?_
  refine Tri.seq ?_
  refine Tri.seq ?_
  refine Tri.reg (l := [0]) rfl ?_
  refine F.q rfl rfl rfl (wanted_none rfl) (r_assign rfl) ?_
  refine F.nil ?_
  refine Nrm.seq ?_
  obtain ⟨s0, hE_1, h⟩ := bind_some h
  refine Tri.block ?_
  refine Tri.only [0, 1, 5] rfl ?_
  refine Tri.pick [] rfl rfl ?_
  refine Tri.rounds (fun n e' C' => ∃ (x1' : Int) (x5' : Int), laws_heldIntSS.l0 k a0 n x1' x5' = some s0 ∧ e' = [(0, va0), (1, .int .i64 x1'), (5, .int .i64 x5')] ∧ C' = Sep w noM []) k ?_ ?_ ?_
  · exact ⟨a1, 0, hE_1, rfl, rfl⟩
  · rintro _ _ ⟨_, _, hE_1, _⟩
    rw [laws_heldIntSS.l0.eq_1] at hE_1; cases hE_1
  · rintro n_1 _ _ ⟨x1, x5, hE_1, rfl, rfl⟩ ih_1
    rw [laws_heldIntSS.l0.eq_2] at hE_1
    refine Tri.seq ?_
    refine Tri.seq ?_
    refine Tri.reg (l := [0, 1, 2, 3]) rfl ?_
    refine F.q rfl rfl rfl (wanted_none rfl) (r_move rfl) ?_
    refine F.q rfl rfl rfl (wanted_none rfl) (r_move rfl) ?_
    refine F.q rfl rfl rfl (wanted_none rfl) (r_len Try.underlying63 rfl hl_va0) ?_
    refine F.q rfl rfl rfl (wanted_none rfl) (r_lss rfl rfl) ?_
    refine F.nil ?_
    refine Nrm.seq ?_
    refine Tri.cond (b := decide (x5 < (a0.length : Int))) rfl (fun g_1 => ?_) (fun g_1 => ?_)
    · replace hE_1 := if_tt g_1 hE_1
      refine Tri.skip ?_
      refine Nrm.seq ?_
      refine Tri.seq ?_
      refine Tri.block ?_
      refine Tri.seq ?_
      obtain ⟨t14, h14, hE_1⟩ := bind_some hE_1
      obtain ⟨_, hc14, hp14⟩ := Rd.elem hr_a0 (rdl_some h14).2.2
      obtain ⟨v14_0, rfl, hr_v14_0⟩ := op30 hp14
      have hl_v14_0 := hr_v14_0.len
      obtain ⟨t17, h17, hE_1⟩ := bind_some hE_1
      refine Tri.reg (l := [0, 1, 2, 3, 4, 5, 6]) rfl ?_
      refine F.q rfl rfl rfl (wanted_none rfl) (r_move rfl) ?_
      refine F.q rfl rfl rfl (wanted_none rfl) (r_move rfl) ?_
      refine F.q rfl rfl rfl (wanted_none rfl) (r_indexAddrS Try.underlying63 ti30 rfl hl_va0 rfl (rdl_some h14).1 (rdl_some h14).2.1) ?_
      refine F.q rfl rfl rfl (wanted_none rfl) (r_load ta30 rfl (fun w hw => cell_0 (hc14.sep hw) rfl)) ?_
      refine F.q rfl rfl rfl (wanted_none rfl) (r_move rfl) ?_
      refine F.qc rfl rfl rfl (wanted_none rfl) (q_callF (xs := _) rfl ok95 rfl rfl (fun w hw => laws_heldIntS.ok h17 w ((fun _ hw => hr_v14_0.sep hw) w hw))) ?_
      refine F.q rfl rfl rfl (wanted_none rfl) (r_assign rfl) ?_
      refine F.nil ?_
      refine Nrm.seq ?_
      refine Tri.seq ?_
      refine Tri.reg (l := [0, 1]) rfl ?_
      refine F.q rfl rfl rfl (wanted_none rfl) (r_move rfl) ?_
      refine F.q rfl rfl rfl (wanted_none rfl) (r_lss rfl rfl) ?_
      refine F.nil ?_
      refine Nrm.seq ?_
      refine Tri.cond (b := decide (t17 < 0)) rfl (fun g_2 => ?_) (fun g_2 => ?_)
      · replace hE_1 := if_tt g_2 hE_1
        refine Tri.seq ?_
        refine Tri.reg (l := [0]) rfl ?_
        refine F.q rfl rfl rfl (wanted_none rfl) (r_assign rfl) ?_
        refine F.nil ?_
        refine Nrm.seq ?_
        refine Tri.ret ?_
        refine Rtn.block ?_
        refine Rtn.then ?_
        refine Rtn.then ?_
        refine Rtn.block ?_
        refine Rtn.then ?_
        cases hE_1
        replace h := Lr_inr h
        cases h
        exact Rtn.body (.tmp rfl .nil) (fun w hw => ⟨rfl, hw.ext⟩)
      · replace hE_1 := if_ff g_2 hE_1
        refine Tri.skip ?_
        refine Nrm.block ?_
        refine Nrm.seq ?_
        refine Tri.reg (l := [0, 1, 2]) rfl ?_
        refine F.q rfl rfl rfl (wanted_none rfl) (r_move rfl) ?_
        refine F.q rfl rfl rfl (wanted_none rfl) (r_add rfl rfl) ?_
        refine F.q rfl rfl rfl (wanted_none rfl) (r_assign rfl) ?_
        refine F.nil ?_
        refine Nrm.round ?_
        refine Rnd.only [0, 1, 5] rfl ?_
        refine Rnd.pick [] rfl rfl ?_
        exact ih_1 _ _ ⟨t17, w64 (x5 + 1), hE_1, rfl, rfl⟩
    · replace hE_1 := if_ff g_1 hE_1
      refine Tri.exit ?_
      refine Exi.then ?_
      refine Exi.then ?_
      refine Exi.same ?_
      cases hE_1
      replace h := Lr_inl h
      refine Nrm.seq ?_
      refine Tri.seq ?_
      refine Tri.reg (l := [0, 1]) rfl ?_
      refine F.q rfl rfl rfl (wanted_none rfl) (r_move rfl) ?_
      refine F.q rfl rfl rfl (wanted_none rfl) (r_assign rfl) ?_
      refine F.nil ?_
      refine Nrm.seq ?_
      refine Tri.ret ?_
      cases h
      exact Rtn.body (.tmp rfl .nil) (fun w hw => ⟨rfl, hw.ext⟩)

end Go.Proofs

/- loop.example/g01158/laws.heldWorlds -/
namespace Go.Proofs
open Go Go.Ga
set_option linter.unusedVariables false
set_option maxRecDepth 100000
set_option maxHeartbeats 4000000
def laws_heldWorlds.f (k : Nat) (a0_0 : List (Int × List (Int × Int × Int) × List Int)) (a0_1 : List (List Int)) (a1 : Int) : Option (Int) := (laws_heldMazeS.f k a0_0 a1).bind fun t8 => (if (decide (t8 < 0)) = true then some (-1) else (laws_heldIntSS.f k a0_1 t8).bind fun t14 => (if (decide (t14 < 0)) = true then some (-1) else some t14))

theorem laws_heldWorlds.ok {k : Nat}  {a0_0 : List (Int × List (Int × Int × Int) × List Int)} {a0_1 : List (List Int)} {a1 : Int} {r0 : Int} (h : laws_heldWorlds.f k a0_0 a0_1 a1 = some r0) (w : World) {va0_0 : Value} {va0_1 : Value} (hr_a0_0 : Rd w va0_0 a0_0) (hr_a0_1 : Rd w va0_1 a0_1) :
    Calls Try.prog 74 ([.agg ([va0_0, va0_1].toArray), .int .i64 a1] : List Value).toArray w (fun e w' => e = .returned (.int .i64 r0) ∧ Ext w w') := by
  unfold laws_heldWorlds.f at h
  have hl_va0_0 := hr_a0_0.len
  have hl_va0_1 := hr_a0_1.len
  refine Calls.of_tri (N := 18) Try.func74 rfl rfl rfl (Sep.nil (M := noM)) ?_
  refine Tri.seq ?_
  refine Tri.reg (l := [0, 1]) rfl ?_
  refine F.m rfl rfl rfl (wanted_none rfl) (m_boxG rfl rfl) ?_
  rintro _ _ ⟨b2_1, rfl, rfl⟩
  refine F.q rfl rfl rfl (wanted_none rfl) (r_assign rfl) ?_
  refine F.nil ?_
  refine Nrm.seq ?_
  refine Tri.seq ?_
  obtain ⟨t8, h8, h⟩ := bind_some h
  refine Tri.reg (l := [0, 1, 2, 3, 4]) rfl ?_
  refine F.q rfl rfl rfl (wanted_none rfl) (r_fieldAddr tf70_0 rfl) ?_
  refine F.q rfl rfl rfl (wanted_none rfl) (r_load ta68 rfl (fun w hw => cell_1 (box_cells (i := 0) rfl w hw) rfl)) ?_
  refine F.q rfl rfl rfl (wanted_none rfl) (r_move rfl) ?_
  refine F.qc rfl rfl rfl (wanted_none rfl) (q_callF (xs := _) rfl ok130 rfl rfl (fun w hw => laws_heldMazeS.ok h8 w ((fun _ hw => hr_a0_0.sep hw) w hw))) ?_
  refine F.q rfl rfl rfl (wanted_none rfl) (r_assign rfl) ?_
  refine F.nil ?_
  refine Nrm.seq ?_
  refine Tri.seq ?_
  refine Tri.seq ?_
  refine Tri.reg (l := [0, 1]) rfl ?_
  refine F.q rfl rfl rfl (wanted_none rfl) (r_move rfl) ?_
  refine F.q rfl rfl rfl (wanted_none rfl) (r_lss rfl rfl) ?_
  refine F.nil ?_
  refine Nrm.seq ?_
  refine Tri.cond (b := decide (t8 < 0)) rfl (fun g_1 => ?_) (fun g_1 => ?_)
  · replace h := if_tt g_1 h
    refine Tri.seq ?_
    refine Tri.reg (l := [0]) rfl ?_
    refine F.q rfl rfl rfl (wanted_none rfl) (r_assign rfl) ?_
    refine F.nil ?_
    refine Nrm.seq ?_
    refine Tri.ret ?_
    refine Rtn.then ?_
    cases h
    exact Rtn.body (.tmp rfl .nil) (fun w hw => ⟨rfl, hw.ext⟩)
  · replace h := if_ff g_1 h
    refine Tri.skip ?_
    refine Nrm.seq ?_
    refine Tri.seq ?_
    obtain ⟨t14, h14, h⟩ := bind_some h
    refine Tri.reg (l := [0, 1, 2, 3, 4]) rfl ?_
    refine F.q rfl rfl rfl (wanted_none rfl) (r_fieldAddr tf70_1 rfl) ?_
    refine F.q rfl rfl rfl (wanted_none rfl) (r_load ta63 rfl (fun w hw => cell_1 (box_cells (i := 0) rfl w hw) rfl)) ?_
    refine F.q rfl rfl rfl (wanted_none rfl) (r_move rfl) ?_
    refine F.qc rfl rfl rfl (wanted_none rfl) (q_callF (xs := _) rfl ok131 rfl rfl (fun w hw => laws_heldIntSS.ok h14 w ((fun _ hw => hr_a0_1.sep hw) w hw))) ?_
    refine F.q rfl rfl rfl (wanted_none rfl) (r_assign rfl) ?_
    refine F.nil ?_
    refine Nrm.seq ?_
    refine Tri.seq ?_
    refine Tri.seq ?_
    refine Tri.reg (l := [0, 1]) rfl ?_
    refine F.q rfl rfl rfl (wanted_none rfl) (r_move rfl) ?_
    refine F.q rfl rfl rfl (wanted_none rfl) (r_lss rfl rfl) ?_
    refine F.nil ?_
    refine Nrm.seq ?_
    refine Tri.cond (b := decide (t14 < 0)) rfl (fun g_2 => ?_) (fun g_2 => ?_)
    · replace h := if_tt g_2 h
      refine Tri.seq ?_
      refine Tri.reg (l := [0]) rfl ?_
      refine F.q rfl rfl rfl (wanted_none rfl) (r_assign rfl) ?_
      refine F.nil ?_
      refine Nrm.seq ?_
      refine Tri.ret ?_
      refine Rtn.then ?_
      cases h
      exact Rtn.body (.tmp rfl .nil) (fun w hw => ⟨rfl, hw.ext⟩)
    · replace h := if_ff g_2 h
      refine Tri.skip ?_
      refine Nrm.seq ?_
      refine Tri.seq ?_
      refine Tri.reg (l := [0, 1]) rfl ?_
      refine F.q rfl rfl rfl (wanted_none rfl) (r_move rfl) ?_
      refine F.q rfl rfl rfl (wanted_none rfl) (r_assign rfl) ?_
      refine F.nil ?_
      refine Nrm.seq ?_
      refine Tri.ret ?_
      cases h
      exact Rtn.body (.tmp rfl .nil) (fun w hw => ⟨rfl, hw.ext⟩)

end Go.Proofs

/- loop.example/g01158/laws.FnExactAloneWorlds -/
namespace Go.Proofs
open Go Go.Ga
set_option linter.unusedVariables false
set_option maxRecDepth 100000
set_option maxHeartbeats 4000000
def laws_FnExactAloneWorlds.f (k : Nat) (a0_0 : Int) (a0_1 : List (Int × Int × Int)) (a0_2 : List Int) : Option (Bool) := (laws_szMaze.f k a0_0 a0_1 a0_2 1048576).bind fun t16 => (if (decide (t16 < 0)) = true then some true else (laws_toMaze.f k a0_0 a0_1 a0_2).bind fun (t21_1, t21_2, t21_3) => (spec_AloneWorlds.f k t21_1 t21_2 t21_3).bind fun (t22_1, t22_2, t22_3) => (laws_toMaze.f k a0_0 a0_1 a0_2).bind fun (t26_1, t26_2, t26_3) => (impl_AloneWorlds.f k t26_1 t26_2 t26_3).bind fun (t29_1, t29_2, t29_3) => ((laws_eqWorlds.f k t29_1 t29_2 t22_1 t22_2).bind fun t34 => (if (!t34) = true then some true else some (t29_3 != t22_3))).bind fun y40 => (if y40 = true then some false else (laws_toMaze.f k a0_0 a0_1 a0_2).bind fun (t43_1, t43_2, t43_3) => (laws_eqMaze.f k t26_1 t26_2 t26_3 t43_1 t43_2 t43_3).bind fun t44 => (if (!t44) = true then some false else (laws_markMaze.f k t26_1 t26_2 t26_3 1).bind fun (t48_1, t48_2, t48_3) => ((if (decide (t48_1 < 0)) = true then some true else (laws_eqWorlds.f k t29_1 t29_2 t22_1 t22_2).bind fun t54 => (if (!t54) = true then some true else some (t29_3 != t22_3)))).bind fun y61 => (if y61 = true then some false else (laws_markWorlds.f k t29_1 t29_2 1).bind fun (t64_1, t64_2, t64_3) => (laws_heldWorlds.f k t64_2 t64_3 1).bind fun t67 => (if (decide (t67 < 0)) = true then some false else (if (t67 != t64_1) = true then some false else (laws_toMaze.f k a0_0 a0_1 a0_2).bind fun (t75_1, t75_2, t75_3) => (impl_AloneWorlds.f k t75_1 t75_2 t75_3).bind fun (t76_1, t76_2, t76_3) => ((laws_eqWorlds.f k t76_1 t76_2 t22_1 t22_2).bind fun t81 => (if (!t81) = true then some true else some (t76_3 != t22_3))).bind fun y87 => (if y87 = true then some false else (laws_heldWorlds.f k t64_2 t64_3 1).bind fun t90 => (if (decide (t90 < 0)) = true then some false else (if (t90 != t64_1) = true then some false else some true)))))))))

theorem laws_FnExactAloneWorlds.ok {k : Nat}  {a0_0 : Int} {a0_1 : List (Int × Int × Int)} {a0_2 : List Int} {r0 : Bool} (h : laws_FnExactAloneWorlds.f k a0_0 a0_1 a0_2 = some r0) (w : World) {va0_1 : Value} {va0_2 : Value} (hr_a0_1 : Rd w va0_1 a0_1) (hr_a0_2 : Rd w va0_2 a0_2) :
    Calls Try.prog 13 ([.agg ([.int .i64 a0_0, va0_1, va0_2].toArray)] : List Value).toArray w (fun e w' => e = .returned (.bool r0) ∧ Ext w w') := by
  unfold laws_FnExactAloneWorlds.f at h
  have hl_va0_1 := hr_a0_1.len
  have hl_va0_2 := hr_a0_2.len
  refine Calls.of_tri (N := 96) Try.func13 rfl rfl rfl (Sep.nil (M := noM)) ?_
  refine Tri.seq ?_
  refine Tri.reg (l := [0, 1]) rfl ?_
  refine F.m rfl rfl rfl (wanted_none rfl) (m_boxG rfl rfl) ?_
  rintro _ _ ⟨b1_1, rfl, rfl⟩
  refine F.q rfl rfl rfl (wanted_none rfl) (r_assign rfl) ?_
  refine F.nil ?_
  refine Nrm.seq ?_
  refine Tri.seq ?_
  refine Tri.reg (l := [0]) rfl ?_
  refine F.q rfl rfl rfl (wanted_none rfl) (r_assign rfl) ?_
  refine F.nil ?_
  refine Nrm.seq ?_
  refine Tri.seq ?_
  obtain ⟨t16, h16, h⟩ := bind_some h
  refine Tri.reg (l := [0, 1, 2, 3]) rfl ?_
  refine F.q rfl rfl rfl (wanted_none rfl) (r_loadA ta32 ti32 rfl rfl (fun w hw => (box_cells (i := 0) rfl w hw))) ?_
  refine F.q rfl rfl rfl (wanted_none rfl) (r_move rfl) ?_
  refine F.qc rfl rfl rfl (wanted_none rfl) (q_callF (xs := _) rfl ok29 rfl rfl (fun w hw => laws_szMaze.ok h16 w ((fun _ hw => hr_a0_1.sep hw) w hw) ((fun _ hw => hr_a0_2.sep hw) w hw))) ?_
  refine F.q rfl rfl rfl (wanted_none rfl) (r_assign rfl) ?_
  refine F.nil ?_
  refine Nrm.seq ?_
  refine Tri.seq ?_
  refine Tri.seq ?_
  refine Tri.reg (l := [0, 1]) rfl ?_
  refine F.q rfl rfl rfl (wanted_none rfl) (r_move rfl) ?_
  refine F.q rfl rfl rfl (wanted_none rfl) (r_lss rfl rfl) ?_
  refine F.nil ?_
  refine Nrm.seq ?_
  refine Tri.cond (b := decide (t16 < 0)) rfl (fun g_1 => ?_) (fun g_1 => ?_)
  · replace h := if_tt g_1 h
    refine Tri.seq ?_
    refine Tri.reg (l := [0]) rfl ?_
    refine F.q rfl rfl rfl (wanted_none rfl) (r_assign rfl) ?_
    refine F.nil ?_
    refine Nrm.seq ?_
    refine Tri.ret ?_
    refine Rtn.then ?_
    cases h
    exact Rtn.body (.tmp rfl .nil) (fun w hw => ⟨rfl, hw.ext⟩)
  · replace h := if_ff g_1 h
    refine Tri.skip ?_
    refine Nrm.seq ?_
    refine Tri.seq ?_
    obtain ⟨⟨t21_1, t21_2, t21_3⟩, h21, h⟩ := bind_some h
    obtain ⟨⟨t22_1, t22_2, t22_3⟩, h22, h⟩ := bind_some h
    refine Tri.reg (l := [0, 1, 2, 3, 4, 5, 6, 7, 8]) rfl ?_
    refine F.q rfl rfl rfl (wanted_none rfl) (r_loadA ta32 ti32 rfl rfl (fun w hw => (box_cells (i := 0) rfl w hw))) ?_
    refine F.m rfl rfl rfl (wanted_none rfl) (m_callF (xs := _) rfl ok31 rfl rfl (fun w hw => laws_toMaze.ok h21 w ((fun _ hw => hr_a0_1.sep hw) w hw) ((fun _ hw => hr_a0_2.sep hw) w hw))) ?_
    rintro _ _ ⟨_, ⟨v21_1, S21_1, v21_2, S21_2, rfl, hl_v21_1, hl_v21_2, rfl⟩, rfl⟩
    refine F.m rfl rfl rfl (wanted_none rfl) (m_callF (xs := _) rfl ok71 rfl rfl (fun w hw => spec_AloneWorlds.ok h22 w ((rd_sl (i := 0) rfl) w hw) ((rd_sl (i := 1) rfl) w hw))) ?_
    rintro _ _ ⟨_, ⟨v22_1, S22_1, v22_2, S22_2, rfl, hl_v22_1, hl_v22_2, rfl⟩, rfl⟩
    refine F.q rfl rfl rfl (wanted_none rfl) (r_move rfl) ?_
    refine F.q rfl rfl rfl (wanted_none rfl) (r_extract rfl rfl) ?_
    refine F.q rfl rfl rfl (wanted_none rfl) (r_extract rfl rfl) ?_
    refine F.m rfl rfl rfl (wanted_none rfl) (m_alloc ti70) ?_
    rintro _ _ ⟨b4_1, rfl, rfl⟩
    refine F.ef0 rfl rfl (wanted_none rfl) (d_storeG0 (i := 0) (cs2 := [v22_1, v22_2]) ti70 rfl rfl rfl rfl rfl (Nat.le_of_ble_eq_true rfl) (lf_cons (sl_leaf hl_v22_1) (lf_cons (sl_leaf hl_v22_2) lf_nil))) ?_
    rintro _ _ ⟨rfl, rfl⟩
    refine F.q rfl rfl rfl (wanted_none rfl) (r_assign rfl) ?_
    refine F.nil ?_
    refine Nrm.seq ?_
    refine Tri.seq ?_
    obtain ⟨⟨t26_1, t26_2, t26_3⟩, h26, h⟩ := bind_some h
    refine Tri.reg (l := [0, 1, 2, 3]) rfl ?_
    refine F.q rfl rfl rfl (wanted_none rfl) (r_loadA ta32 ti32 rfl rfl (fun w hw => (box_cells (i := 5) rfl w hw))) ?_
    refine F.m rfl rfl rfl (wanted_none rfl) (m_callF (xs := _) rfl ok31 rfl rfl (fun w hw => laws_toMaze.ok h26 w ((fun _ hw => hr_a0_1.sep hw) w hw) ((fun _ hw => hr_a0_2.sep hw) w hw))) ?_
    rintro _ _ ⟨_, ⟨v26_1, S26_1, v26_2, S26_2, rfl, hl_v26_1, hl_v26_2, rfl⟩, rfl⟩
    refine F.m rfl rfl rfl (wanted_none rfl) (m_alloc ti37) ?_
    rintro _ _ ⟨b6_1, rfl, rfl⟩
    refine F.ef0 rfl rfl (wanted_none rfl) (d_storeG0 (i := 0) (cs2 := [.int .i64 t26_1, v26_1, v26_2]) ti37 rfl rfl rfl rfl rfl (Nat.le_of_ble_eq_true rfl) (lf_cons rfl (lf_cons (sl_leaf hl_v26_1) (lf_cons (sl_leaf hl_v26_2) lf_nil)))) ?_
    rintro _ _ ⟨rfl, rfl⟩
    refine F.nil ?_
    refine Nrm.seq ?_
    refine Tri.seq ?_
    obtain ⟨⟨t29_1, t29_2, t29_3⟩, h29, h⟩ := bind_some h
    refine Tri.reg (l := [0, 1, 2, 3, 4, 5, 6, 7]) rfl ?_
    refine F.q rfl rfl rfl (wanted_none rfl) (r_loadA ta37 ti37 rfl rfl (fun w hw => (box_cells (i := 0) rfl w hw))) ?_
    refine F.m rfl rfl rfl (wanted_none rfl) (m_callF (xs := _) rfl ok72 rfl rfl (fun w hw => impl_AloneWorlds.ok h29 w ((rd_sl (i := 1) rfl) w hw) ((rd_sl (i := 2) rfl) w hw))) ?_
    rintro _ _ ⟨_, ⟨v29_1, S29_1, v29_2, S29_2, rfl, hl_v29_1, hl_v29_2, rfl⟩, rfl⟩
    refine F.q rfl rfl rfl (wanted_none rfl) (r_move rfl) ?_
    refine F.q rfl rfl rfl (wanted_none rfl) (r_extract rfl rfl) ?_
    refine F.q rfl rfl rfl (wanted_none rfl) (r_extract rfl rfl) ?_
    refine F.m rfl rfl rfl (wanted_none rfl) (m_alloc ti70) ?_
    rintro _ _ ⟨b7_1, rfl, rfl⟩
    refine F.ef0 rfl rfl (wanted_none rfl) (d_storeG0 (i := 0) (cs2 := [v29_1, v29_2]) ti70 rfl rfl rfl rfl rfl (Nat.le_of_ble_eq_true rfl) (lf_cons (sl_leaf hl_v29_1) (lf_cons (sl_leaf hl_v29_2) lf_nil))) ?_
    rintro _ _ ⟨rfl, rfl⟩
    refine F.q rfl rfl rfl (wanted_none rfl) (r_assign rfl) ?_
    refine F.nil ?_
    refine Nrm.seq ?_
    refine Tri.seq ?_
    refine Tri.seq ?_
    obtain ⟨y40, hE_1, h⟩ := bind_some h
    refine Tri.cut (fun e' C' => e' = [(1, .pointer (some ⟨b1_1, 0, none⟩)), (4, .pointer (some ⟨b4_1, 0, none⟩)), (5, .bool t22_3), (6, .pointer (some ⟨b6_1, 0, none⟩)), (7, .pointer (some ⟨b7_1, 0, none⟩)), (8, .bool t29_3), (40, .bool y40)] ∧ C' = Sep w noM [R.box b7_1 70 [v29_1, v29_2], R.box b6_1 37 [.int .i64 t26_1, v26_1, v26_2], R.box b4_1 70 [v22_1, v22_2], R.box b1_1 32 [.int .i64 a0_0, va0_1, va0_2], R.sl S22_1 v22_1 (t22_1 : List (Int × List (Int × Int × Int) × List Int)), R.sl S22_2 v22_2 (t22_2 : List (List Int)), R.sl S26_1 v26_1 (t26_2 : List (Int × Int × Int)), R.sl S26_2 v26_2 (t26_3 : List (Int)), R.sl S29_1 v29_1 (t29_1 : List (Int × List (Int × Int × Int) × List Int)), R.sl S29_2 v29_2 (t29_2 : List (List Int))]) ?_ (fun hj_1 => ?_)
    · rintro _ _ ⟨rfl, rfl⟩
      refine Nrm.seq ?_
      refine Tri.cond (b := y40) rfl (fun g_2 => ?_) (fun g_2 => ?_)
      · replace h := if_tt g_2 h
        refine Tri.seq ?_
        refine Tri.reg (l := [0]) rfl ?_
        refine F.q rfl rfl rfl (wanted_none rfl) (r_assign rfl) ?_
        refine F.nil ?_
        refine Nrm.seq ?_
        refine Tri.ret ?_
        refine Rtn.then ?_
        cases h
        exact Rtn.body (.tmp rfl .nil) (fun w hw => ⟨rfl, hw.ext⟩)
      · replace h := if_ff g_2 h
        refine Tri.skip ?_
        refine Nrm.seq ?_
        refine Tri.seq ?_
        refine Tri.seq ?_
        obtain ⟨⟨t43_1, t43_2, t43_3⟩, h43, h⟩ := bind_some h
        obtain ⟨t44, h44, h⟩ := bind_some h
        refine Tri.drawA mixedT Sep.up [(0, true), (1, true), (2, false), (3, true), (4, true)] [] (by kernel_rfl) ?_
        refine S.q rfl rfl rfl (wanted_none rfl) (r_loadA ta37 ti37 rfl rfl (fun w hw => (box_cells (i := 1) rfl w hw))) ?_
        refine S.q rfl rfl rfl (wanted_none rfl) (r_loadA ta32 ti32 rfl rfl (fun w hw => (box_cells (i := 3) rfl w hw))) ?_
        refine S.m rfl rfl rfl (wanted_none rfl) (m_callF (xs := _) rfl ok31 rfl rfl (fun w hw => laws_toMaze.ok h43 w ((fun _ hw => hr_a0_1.sep hw) w hw) ((fun _ hw => hr_a0_2.sep hw) w hw))) ?_
        rintro _ _ ⟨_, ⟨v43_3, S43_3, v43_4, S43_4, rfl, hl_v43_3, hl_v43_4, rfl⟩, rfl⟩
        refine S.qc rfl rfl rfl (wanted_none rfl) (q_callF (xs := _) rfl ok33 rfl rfl (fun w hw => laws_eqMaze.ok h44 w ((rd_sl (i := 8) rfl) w hw) ((rd_sl (i := 9) rfl) w hw) ((rd_sl (i := 0) rfl) w hw) ((rd_sl (i := 1) rfl) w hw))) ?_
        refine S.q rfl rfl rfl (wanted_none rfl) (r_not rfl) ?_
        refine S.nil ?_
        refine F.nil ?_
        refine Nrm.seq ?_
        refine Tri.cond (b := !t44) rfl (fun g_3 => ?_) (fun g_3 => ?_)
        · replace h := if_tt g_3 h
          refine Tri.seq ?_
          refine Tri.reg (l := [0]) rfl ?_
          refine F.q rfl rfl rfl (wanted_none rfl) (r_assign rfl) ?_
          refine F.nil ?_
          refine Nrm.seq ?_
          refine Tri.ret ?_
          refine Rtn.then ?_
          cases h
          exact Rtn.body (.tmp rfl .nil) (fun w hw => ⟨rfl, hw.ext⟩)
        · replace h := if_ff g_3 h
          refine Tri.skip ?_
          refine Nrm.seq ?_
          refine Tri.seq ?_
          refine Tri.reg (l := [0]) rfl ?_
          refine F.q rfl rfl rfl (wanted_none rfl) (r_assign rfl) ?_
          refine F.nil ?_
          refine Nrm.seq ?_
          refine Tri.seq ?_
          obtain ⟨⟨t48_1, t48_2, t48_3⟩, h48, h⟩ := bind_some h
          refine Tri.reg (l := [0, 1, 2, 3]) rfl ?_
          refine F.q rfl rfl rfl (wanted_none rfl) (r_loadA ta37 ti37 rfl rfl (fun w hw => (box_cells (i := 3) rfl w hw))) ?_
          refine F.q rfl rfl rfl (wanted_none rfl) (r_move rfl) ?_
          refine F.ef rfl rfl rfl (wanted_none rfl) (d_callM (xs := _) (cs := [R.sl S26_1 v26_1 (t26_2 : List (Int × Int × Int)), R.sl S26_2 v26_2 (t26_3 : List (Int))]) (rest := [R.sl S43_3 v43_3 (t43_2 : List (Int × Int × Int)), R.sl S43_4 v43_4 (t43_3 : List (Int)), R.box b7_1 70 [v29_1, v29_2], R.box b6_1 37 [.int .i64 t26_1, v26_1, v26_2], R.box b4_1 70 [v22_1, v22_2], R.box b1_1 32 [.int .i64 a0_0, va0_1, va0_2], R.sl S22_1 v22_1 (t22_1 : List (Int × List (Int × Int × Int) × List Int)), R.sl S22_2 v22_2 (t22_2 : List (List Int)), R.sl S29_1 v29_1 (t29_1 : List (Int × List (Int × Int × Int) × List Int)), R.sl S29_2 v29_2 (t29_2 : List (List Int))]) [8, 9] [0, 1, 2, 3, 4, 5, 6, 7, 10, 11] rfl ok34 rfl rfl rfl rfl (fun w hw => laws_markMaze.ok h48 w hl_v26_1 hl_v26_2 (Sep.sub hw))) ?_
          rintro _ _ ⟨_, ⟨rfl, hl_t48_2, hl_t48_3, rfl⟩, rfl⟩
          refine F.q rfl rfl rfl (wanted_none rfl) (r_assign rfl) ?_
          refine F.nil ?_
          refine Nrm.seq ?_
          refine Tri.seq ?_
          refine Tri.seq ?_
          obtain ⟨y61, hE_2, h⟩ := bind_some h
          refine Tri.cut (fun e' C' => e' = [(1, .pointer (some ⟨b1_1, 0, none⟩)), (4, .pointer (some ⟨b4_1, 0, none⟩)), (5, .bool t22_3), (7, .pointer (some ⟨b7_1, 0, none⟩)), (61, .bool y61)] ∧ C' = Sep w noM [R.box b7_1 70 [v29_1, v29_2], R.box b4_1 70 [v22_1, v22_2], R.box b1_1 32 [.int .i64 a0_0, va0_1, va0_2], R.sl S22_1 v22_1 (t22_1 : List (Int × List (Int × Int × Int) × List Int)), R.sl S22_2 v22_2 (t22_2 : List (List Int)), R.sl S29_1 v29_1 (t29_1 : List (Int × List (Int × Int × Int) × List Int)), R.sl S29_2 v29_2 (t29_2 : List (List Int))]) ?_ (fun hj_2 => ?_)
          · rintro _ _ ⟨rfl, rfl⟩
            refine Nrm.seq ?_
            refine Tri.cond (b := y61) rfl (fun g_4 => ?_) (fun g_4 => ?_)
            · replace h := if_tt g_4 h
              refine Tri.seq ?_
              refine Tri.reg (l := [0]) rfl ?_
              refine F.q rfl rfl rfl (wanted_none rfl) (r_assign rfl) ?_
              refine F.nil ?_
              refine Nrm.seq ?_
              refine Tri.ret ?_
              refine Rtn.then ?_
              cases h
              exact Rtn.body (.tmp rfl .nil) (fun w hw => ⟨rfl, hw.ext⟩)
            · replace h := if_ff g_4 h
              refine Tri.skip ?_
              refine Nrm.seq ?_
              refine Tri.seq ?_
              refine Tri.reg (l := [0]) rfl ?_
              refine F.q rfl rfl rfl (wanted_none rfl) (r_assign rfl) ?_
              refine F.nil ?_
              refine Nrm.seq ?_
              refine Tri.seq ?_
              obtain ⟨⟨t64_1, t64_2, t64_3⟩, h64, h⟩ := bind_some h
              refine Tri.reg (l := [0, 1, 2, 3]) rfl ?_
              refine F.q rfl rfl rfl (wanted_none rfl) (r_loadA ta70 ti70 rfl rfl (fun w hw => (box_cells (i := 0) rfl w hw))) ?_
              refine F.q rfl rfl rfl (wanted_none rfl) (r_move rfl) ?_
              refine F.ef rfl rfl rfl (wanted_none rfl) (d_callM (xs := _) (cs := [R.sl S29_1 v29_1 (t29_1 : List (Int × List (Int × Int × Int) × List Int)), R.sl S29_2 v29_2 (t29_2 : List (List Int))]) (rest := [R.box b7_1 70 [v29_1, v29_2], R.box b4_1 70 [v22_1, v22_2], R.box b1_1 32 [.int .i64 a0_0, va0_1, va0_2], R.sl S22_1 v22_1 (t22_1 : List (Int × List (Int × Int × Int) × List Int)), R.sl S22_2 v22_2 (t22_2 : List (List Int))]) [5, 6] [0, 1, 2, 3, 4] rfl ok73 rfl rfl rfl rfl (fun w hw => laws_markWorlds.ok h64 w hl_v29_1 hl_v29_2 (Sep.sub hw))) ?_
              rintro _ _ ⟨_, ⟨rfl, hl_t64_2, hl_t64_3, rfl⟩, rfl⟩
              refine F.q rfl rfl rfl (wanted_none rfl) (r_assign rfl) ?_
              refine F.nil ?_
              refine Nrm.seq ?_
              refine Tri.seq ?_
              refine Tri.reg (l := [0]) rfl ?_
              refine F.q rfl rfl rfl (wanted_none rfl) (r_assign rfl) ?_
              refine F.nil ?_
              refine Nrm.seq ?_
              refine Tri.seq ?_
              obtain ⟨t67, h67, h⟩ := bind_some h
              refine Tri.reg (l := [0, 1, 2, 3]) rfl ?_
              refine F.q rfl rfl rfl (wanted_none rfl) (r_loadA ta70 ti70 rfl rfl (fun w hw => (box_cells (i := 2) rfl w hw))) ?_
              refine F.q rfl rfl rfl (wanted_none rfl) (r_move rfl) ?_
              refine F.qc rfl rfl rfl (wanted_none rfl) (q_callF (xs := _) rfl ok74 rfl rfl (fun w hw => laws_heldWorlds.ok h67 w ((rd_sl (i := 0) rfl) w hw) ((rd_sl (i := 1) rfl) w hw))) ?_
              refine F.q rfl rfl rfl (wanted_none rfl) (r_assign rfl) ?_
              refine F.nil ?_
              refine Nrm.seq ?_
              refine Tri.seq ?_
              refine Tri.seq ?_
              refine Tri.reg (l := [0, 1]) rfl ?_
              refine F.q rfl rfl rfl (wanted_none rfl) (r_move rfl) ?_
              refine F.q rfl rfl rfl (wanted_none rfl) (r_lss rfl rfl) ?_
              refine F.nil ?_
              refine Nrm.seq ?_
              refine Tri.cond (b := decide (t67 < 0)) rfl (fun g_5 => ?_) (fun g_5 => ?_)
              · replace h := if_tt g_5 h
                refine Tri.seq ?_
                refine Tri.reg (l := [0]) rfl ?_
                refine F.q rfl rfl rfl (wanted_none rfl) (r_assign rfl) ?_
                refine F.nil ?_
                refine Nrm.seq ?_
                refine Tri.ret ?_
                refine Rtn.then ?_
                cases h
                exact Rtn.body (.tmp rfl .nil) (fun w hw => ⟨rfl, hw.ext⟩)
              · replace h := if_ff g_5 h
                refine Tri.skip ?_
                refine Nrm.seq ?_
                refine Tri.seq ?_
                refine Tri.seq ?_
                refine Tri.reg (l := [0, 1, 2]) rfl ?_
                refine F.q rfl rfl rfl (wanted_none rfl) (r_move rfl) ?_
                refine F.q rfl rfl rfl (wanted_none rfl) (r_move rfl) ?_
                refine F.q rfl rfl rfl (wanted_none rfl) (r_neq rfl rfl) ?_
                refine F.nil ?_
                refine Nrm.seq ?_
                refine Tri.cond (b := t67 != t64_1) rfl (fun g_6 => ?_) (fun g_6 => ?_)
                · replace h := if_tt g_6 h
                  refine Tri.seq ?_
                  refine Tri.reg (l := [0]) rfl ?_
                  refine F.q rfl rfl rfl (wanted_none rfl) (r_assign rfl) ?_
                  refine F.nil ?_
                  refine Nrm.seq ?_
                  refine Tri.ret ?_
                  refine Rtn.then ?_
                  cases h
                  exact Rtn.body (.tmp rfl .nil) (fun w hw => ⟨rfl, hw.ext⟩)
                · replace h := if_ff g_6 h
                  refine Tri.skip ?_
                  refine Nrm.seq ?_
                  refine Tri.seq ?_
                  obtain ⟨⟨t75_1, t75_2, t75_3⟩, h75, h⟩ := bind_some h
                  obtain ⟨⟨t76_1, t76_2, t76_3⟩, h76, h⟩ := bind_some h
                  refine Tri.reg (l := [0, 1, 2, 3, 4, 5, 6, 7, 8]) rfl ?_
                  refine F.q rfl rfl rfl (wanted_none rfl) (r_loadA ta32 ti32 rfl rfl (fun w hw => (box_cells (i := 4) rfl w hw))) ?_
                  refine F.m rfl rfl rfl (wanted_none rfl) (m_callF (xs := _) rfl ok31 rfl rfl (fun w hw => laws_toMaze.ok h75 w ((fun _ hw => hr_a0_1.sep hw) w hw) ((fun _ hw => hr_a0_2.sep hw) w hw))) ?_
                  rintro _ _ ⟨_, ⟨v75_1, S75_1, v75_2, S75_2, rfl, hl_v75_1, hl_v75_2, rfl⟩, rfl⟩
                  refine F.m rfl rfl rfl (wanted_none rfl) (m_callF (xs := _) rfl ok72 rfl rfl (fun w hw => impl_AloneWorlds.ok h76 w ((rd_sl (i := 0) rfl) w hw) ((rd_sl (i := 1) rfl) w hw))) ?_
                  rintro _ _ ⟨_, ⟨v76_1, S76_1, v76_2, S76_2, rfl, hl_v76_1, hl_v76_2, rfl⟩, rfl⟩
                  refine F.q rfl rfl rfl (wanted_none rfl) (r_move rfl) ?_
                  refine F.q rfl rfl rfl (wanted_none rfl) (r_extract rfl rfl) ?_
                  refine F.q rfl rfl rfl (wanted_none rfl) (r_extract rfl rfl) ?_
                  refine F.m rfl rfl rfl (wanted_none rfl) (m_alloc ti70) ?_
                  rintro _ _ ⟨b12_1, rfl, rfl⟩
                  refine F.ef0 rfl rfl (wanted_none rfl) (d_storeG0 (i := 0) (cs2 := [v76_1, v76_2]) ti70 rfl rfl rfl rfl rfl (Nat.le_of_ble_eq_true rfl) (lf_cons (sl_leaf hl_v76_1) (lf_cons (sl_leaf hl_v76_2) lf_nil))) ?_
                  rintro _ _ ⟨rfl, rfl⟩
                  refine F.q rfl rfl rfl (wanted_none rfl) (r_assign rfl) ?_
                  refine F.nil ?_
                  refine Nrm.seq ?_
                  refine Tri.seq ?_
                  refine Tri.seq ?_
                  obtain ⟨y87, hE_3, h⟩ := bind_some h
                  refine Tri.cut (fun e' C' => e' = [(7, .pointer (some ⟨b7_1, 0, none⟩)), (10, .int .i64 t64_1), (87, .bool y87)] ∧ C' = Sep w noM [R.box b7_1 70 [v29_1, v29_2], R.sl S29_1 v29_1 (t64_2 : List (Int × List (Int × Int × Int) × List Int)), R.sl S29_2 v29_2 (t64_3 : List (List Int))]) ?_ (fun hj_3 => ?_)
                  · rintro _ _ ⟨rfl, rfl⟩
                    refine Nrm.seq ?_
                    refine Tri.cond (b := y87) rfl (fun g_7 => ?_) (fun g_7 => ?_)
                    · replace h := if_tt g_7 h
                      refine Tri.seq ?_
                      refine Tri.reg (l := [0]) rfl ?_
                      refine F.q rfl rfl rfl (wanted_none rfl) (r_assign rfl) ?_
                      refine F.nil ?_
                      refine Nrm.seq ?_
                      refine Tri.ret ?_
                      refine Rtn.then ?_
                      cases h
                      exact Rtn.body (.tmp rfl .nil) (fun w hw => ⟨rfl, hw.ext⟩)
                    · replace h := if_ff g_7 h
                      refine Tri.skip ?_
                      refine Nrm.seq ?_
                      refine Tri.seq ?_
                      refine Tri.reg (l := [0]) rfl ?_
                      refine F.q rfl rfl rfl (wanted_none rfl) (r_assign rfl) ?_
                      refine F.nil ?_
                      refine Nrm.seq ?_
                      refine Tri.seq ?_
                      obtain ⟨t90, h90, h⟩ := bind_some h
                      refine Tri.reg (l := [0, 1, 2, 3]) rfl ?_
                      refine F.q rfl rfl rfl (wanted_none rfl) (r_loadA ta70 ti70 rfl rfl (fun w hw => (box_cells (i := 0) rfl w hw))) ?_
                      refine F.q rfl rfl rfl (wanted_none rfl) (r_move rfl) ?_
                      refine F.qc rfl rfl rfl (wanted_none rfl) (q_callF (xs := _) rfl ok74 rfl rfl (fun w hw => laws_heldWorlds.ok h90 w ((rd_sl (i := 1) rfl) w hw) ((rd_sl (i := 2) rfl) w hw))) ?_
                      refine F.q rfl rfl rfl (wanted_none rfl) (r_assign rfl) ?_
                      refine F.nil ?_
                      refine Nrm.seq ?_
                      refine Tri.seq ?_
                      refine Tri.seq ?_
                      refine Tri.reg (l := [0, 1]) rfl ?_
                      refine F.q rfl rfl rfl (wanted_none rfl) (r_move rfl) ?_
                      refine F.q rfl rfl rfl (wanted_none rfl) (r_lss rfl rfl) ?_
                      refine F.nil ?_
                      refine Nrm.seq ?_
                      refine Tri.cond (b := decide (t90 < 0)) rfl (fun g_8 => ?_) (fun g_8 => ?_)
                      · replace h := if_tt g_8 h
                        refine Tri.seq ?_
                        refine Tri.reg (l := [0]) rfl ?_
                        refine F.q rfl rfl rfl (wanted_none rfl) (r_assign rfl) ?_
                        refine F.nil ?_
                        refine Nrm.seq ?_
                        refine Tri.ret ?_
                        refine Rtn.then ?_
                        cases h
                        exact Rtn.body (.tmp rfl .nil) (fun w hw => ⟨rfl, hw.ext⟩)
                      · replace h := if_ff g_8 h
                        refine Tri.skip ?_
                        refine Nrm.seq ?_
                        refine Tri.seq ?_
                        refine Tri.seq ?_
                        refine Tri.reg (l := [0, 1, 2]) rfl ?_
                        refine F.q rfl rfl rfl (wanted_none rfl) (r_move rfl) ?_
                        refine F.q rfl rfl rfl (wanted_none rfl) (r_move rfl) ?_
                        refine F.q rfl rfl rfl (wanted_none rfl) (r_neq rfl rfl) ?_
                        refine F.nil ?_
                        refine Nrm.seq ?_
                        refine Tri.cond (b := t90 != t64_1) rfl (fun g_9 => ?_) (fun g_9 => ?_)
                        · replace h := if_tt g_9 h
                          refine Tri.seq ?_
                          refine Tri.reg (l := [0]) rfl ?_
                          refine F.q rfl rfl rfl (wanted_none rfl) (r_assign rfl) ?_
                          refine F.nil ?_
                          refine Nrm.seq ?_
                          refine Tri.ret ?_
                          refine Rtn.then ?_
                          cases h
                          exact Rtn.body (.tmp rfl .nil) (fun w hw => ⟨rfl, hw.ext⟩)
                        · replace h := if_ff g_9 h
                          refine Tri.skip ?_
                          refine Nrm.seq ?_
                          refine Tri.seq ?_
                          refine Tri.reg (l := [0]) rfl ?_
                          refine F.q rfl rfl rfl (wanted_none rfl) (r_assign rfl) ?_
                          refine F.nil ?_
                          refine Nrm.seq ?_
                          refine Tri.ret ?_
                          cases h
                          exact Rtn.body (.tmp rfl .nil) (fun w hw => ⟨rfl, hw.ext⟩)
                  · obtain ⟨t81, h81, hE_3⟩ := bind_some hE_3
                    rcases Bool.eq_false_or_eq_true (!t81) with g83 | g83
                    · replace hE_3 := if_tt g83 hE_3
                      refine Tri.reg (l := [0, 1, 2, 3, 4, 5, 6, 7, 8]) rfl ?_
                      refine F.q rfl rfl rfl (wanted_none rfl) (r_loadA ta70 ti70 rfl rfl (fun w hw => (box_cells (i := 0) rfl w hw))) ?_
                      refine F.q rfl rfl rfl (wanted_none rfl) (r_loadA ta70 ti70 rfl rfl (fun w hw => (box_cells (i := 8) rfl w hw))) ?_
                      refine F.qc rfl rfl rfl (wanted_none rfl) (q_callF (xs := _) rfl ok43 rfl rfl (fun w hw => laws_eqWorlds.ok h81 w ((rd_sl (i := 1) rfl) w hw) ((rd_sl (i := 2) rfl) w hw) ((rd_sl (i := 10) rfl) w hw) ((rd_sl (i := 11) rfl) w hw))) ?_
                      refine F.q rfl rfl rfl (wanted_none rfl) (r_not rfl) ?_
                      refine F.q rfl rfl rfl (wanted_none rfl) (r_move rfl) ?_
                      refine F.sk rfl rfl rfl (wf rfl rfl rfl g83) ?_
                      refine F.sk rfl rfl rfl (wf rfl rfl rfl g83) ?_
                      refine F.sk rfl rfl rfl (wf rfl rfl rfl g83) ?_
                      refine F.q rfl rfl rfl (wanted_none rfl) (r_pick rfl rfl g83) ?_
                      refine F.nil ?_
                      cases hE_3
                      refine Nrm.only [7, 10, 87] rfl ?_
                      refine Nrm.pick [7, 5, 6] rfl rfl ?_
                      exact hj_3 _ _ ⟨rfl, rfl⟩
                    · replace hE_3 := if_ff g83 hE_3
                      refine Tri.reg (l := [0, 1, 2, 3, 4, 5, 6, 7, 8]) rfl ?_
                      refine F.q rfl rfl rfl (wanted_none rfl) (r_loadA ta70 ti70 rfl rfl (fun w hw => (box_cells (i := 0) rfl w hw))) ?_
                      refine F.q rfl rfl rfl (wanted_none rfl) (r_loadA ta70 ti70 rfl rfl (fun w hw => (box_cells (i := 8) rfl w hw))) ?_
                      refine F.qc rfl rfl rfl (wanted_none rfl) (q_callF (xs := _) rfl ok43 rfl rfl (fun w hw => laws_eqWorlds.ok h81 w ((rd_sl (i := 1) rfl) w hw) ((rd_sl (i := 2) rfl) w hw) ((rd_sl (i := 10) rfl) w hw) ((rd_sl (i := 11) rfl) w hw))) ?_
                      refine F.q rfl rfl rfl (wanted_none rfl) (r_not rfl) ?_
                      refine F.q rfl rfl rfl (wanted_none rfl) (r_move rfl) ?_
                      refine F.q rfl rfl rfl (wg rfl rfl rfl g83) (r_move rfl) ?_
                      refine F.q rfl rfl rfl (wg rfl rfl rfl g83) (r_move rfl) ?_
                      refine F.q rfl rfl rfl (wg rfl rfl rfl g83) (r_neqB Try.underlying4 rfl rfl) ?_
                      refine F.q rfl rfl rfl (wanted_none rfl) (r_pickf rfl rfl g83) ?_
                      refine F.nil ?_
                      cases hE_3
                      refine Nrm.only [7, 10, 87] rfl ?_
                      refine Nrm.pick [7, 5, 6] rfl rfl ?_
                      exact hj_3 _ _ ⟨rfl, rfl⟩
          · rcases Bool.eq_false_or_eq_true (decide (t48_1 < 0)) with g51 | g51
            · replace hE_2 := if_tt g51 hE_2
              refine Tri.reg (l := [0, 1, 2, 3, 4, 5, 6, 7, 8, 9, 10, 11, 12]) rfl ?_
              refine F.q rfl rfl rfl (wanted_none rfl) (r_move rfl) ?_
              refine F.q rfl rfl rfl (wanted_none rfl) (r_lss rfl rfl) ?_
              refine F.q rfl rfl rfl (wanted_none rfl) (r_move rfl) ?_
              refine F.sk rfl rfl rfl (wf rfl rfl rfl g51) ?_
              refine F.sk rfl rfl rfl (wf rfl rfl rfl g51) ?_
              refine F.sk rfl rfl rfl (wf rfl rfl rfl g51) ?_
              refine F.sk rfl rfl rfl (wf rfl rfl rfl g51) ?_
              refine F.q rfl rfl rfl (wanted_none rfl) (r_pick rfl rfl g51) ?_
              refine F.q rfl rfl rfl (wanted_none rfl) (r_move rfl) ?_
              refine F.sk rfl rfl rfl (wf rfl rfl rfl rfl) ?_
              refine F.sk rfl rfl rfl (wf rfl rfl rfl rfl) ?_
              refine F.sk rfl rfl rfl (wf rfl rfl rfl rfl) ?_
              refine F.q rfl rfl rfl (wanted_none rfl) (r_pick rfl rfl rfl) ?_
              refine F.nil ?_
              cases hE_2
              refine Nrm.only [1, 4, 5, 7, 61] rfl ?_
              refine Nrm.pick [4, 6, 7, 8, 9, 10, 11] rfl rfl ?_
              exact hj_2 _ _ ⟨rfl, rfl⟩
            · replace hE_2 := if_ff g51 hE_2
              obtain ⟨t54, h54, hE_2⟩ := bind_some hE_2
              rcases Bool.eq_false_or_eq_true (!t54) with g57 | g57
              · replace hE_2 := if_tt g57 hE_2
                refine Tri.reg (l := [0, 1, 2, 3, 4, 5, 6, 7, 8, 9, 10, 11, 12]) rfl ?_
                refine F.q rfl rfl rfl (wanted_none rfl) (r_move rfl) ?_
                refine F.q rfl rfl rfl (wanted_none rfl) (r_lss rfl rfl) ?_
                refine F.q rfl rfl rfl (wanted_none rfl) (r_move rfl) ?_
                refine F.q rfl rfl rfl (wg rfl rfl rfl g51) (r_loadA ta70 ti70 rfl rfl (fun w hw => (box_cells (i := 4) rfl w hw))) ?_
                refine F.q rfl rfl rfl (wg rfl rfl rfl g51) (r_loadA ta70 ti70 rfl rfl (fun w hw => (box_cells (i := 6) rfl w hw))) ?_
                refine F.qc rfl rfl rfl (wg rfl rfl rfl g51) (q_callF (xs := _) rfl ok43 rfl rfl (fun w hw => laws_eqWorlds.ok h54 w ((rd_sl (i := 10) rfl) w hw) ((rd_sl (i := 11) rfl) w hw) ((rd_sl (i := 8) rfl) w hw) ((rd_sl (i := 9) rfl) w hw))) ?_
                refine F.q rfl rfl rfl (wg rfl rfl rfl g51) (r_not rfl) ?_
                refine F.q rfl rfl rfl (wanted_none rfl) (r_pickf rfl rfl g51) ?_
                refine F.q rfl rfl rfl (wanted_none rfl) (r_move rfl) ?_
                refine F.sk rfl rfl rfl (wf rfl rfl rfl g57) ?_
                refine F.sk rfl rfl rfl (wf rfl rfl rfl g57) ?_
                refine F.sk rfl rfl rfl (wf rfl rfl rfl g57) ?_
                refine F.q rfl rfl rfl (wanted_none rfl) (r_pick rfl rfl g57) ?_
                refine F.nil ?_
                cases hE_2
                refine Nrm.only [1, 4, 5, 7, 61] rfl ?_
                refine Nrm.pick [4, 6, 7, 8, 9, 10, 11] rfl rfl ?_
                exact hj_2 _ _ ⟨rfl, rfl⟩
              · replace hE_2 := if_ff g57 hE_2
                refine Tri.reg (l := [0, 1, 2, 3, 4, 5, 6, 7, 8, 9, 10, 11, 12]) rfl ?_
                refine F.q rfl rfl rfl (wanted_none rfl) (r_move rfl) ?_
                refine F.q rfl rfl rfl (wanted_none rfl) (r_lss rfl rfl) ?_
                refine F.q rfl rfl rfl (wanted_none rfl) (r_move rfl) ?_
                refine F.q rfl rfl rfl (wg rfl rfl rfl g51) (r_loadA ta70 ti70 rfl rfl (fun w hw => (box_cells (i := 4) rfl w hw))) ?_
                refine F.q rfl rfl rfl (wg rfl rfl rfl g51) (r_loadA ta70 ti70 rfl rfl (fun w hw => (box_cells (i := 6) rfl w hw))) ?_
                refine F.qc rfl rfl rfl (wg rfl rfl rfl g51) (q_callF (xs := _) rfl ok43 rfl rfl (fun w hw => laws_eqWorlds.ok h54 w ((rd_sl (i := 10) rfl) w hw) ((rd_sl (i := 11) rfl) w hw) ((rd_sl (i := 8) rfl) w hw) ((rd_sl (i := 9) rfl) w hw))) ?_
                refine F.q rfl rfl rfl (wg rfl rfl rfl g51) (r_not rfl) ?_
                refine F.q rfl rfl rfl (wanted_none rfl) (r_pickf rfl rfl g51) ?_
                refine F.q rfl rfl rfl (wanted_none rfl) (r_move rfl) ?_
                refine F.q rfl rfl rfl (wg rfl rfl rfl g57) (r_move rfl) ?_
                refine F.q rfl rfl rfl (wg rfl rfl rfl g57) (r_move rfl) ?_
                refine F.q rfl rfl rfl (wg rfl rfl rfl g57) (r_neqB Try.underlying4 rfl rfl) ?_
                refine F.q rfl rfl rfl (wanted_none rfl) (r_pickf rfl rfl g57) ?_
                refine F.nil ?_
                cases hE_2
                refine Nrm.only [1, 4, 5, 7, 61] rfl ?_
                refine Nrm.pick [4, 6, 7, 8, 9, 10, 11] rfl rfl ?_
                exact hj_2 _ _ ⟨rfl, rfl⟩
    · obtain ⟨t34, h34, hE_1⟩ := bind_some hE_1
      rcases Bool.eq_false_or_eq_true (!t34) with g36 | g36
      · replace hE_1 := if_tt g36 hE_1
        refine Tri.reg (l := [0, 1, 2, 3, 4, 5, 6, 7, 8]) rfl ?_
        refine F.q rfl rfl rfl (wanted_none rfl) (r_loadA ta70 ti70 rfl rfl (fun w hw => (box_cells (i := 0) rfl w hw))) ?_
        refine F.q rfl rfl rfl (wanted_none rfl) (r_loadA ta70 ti70 rfl rfl (fun w hw => (box_cells (i := 6) rfl w hw))) ?_
        refine F.qc rfl rfl rfl (wanted_none rfl) (q_callF (xs := _) rfl ok43 rfl rfl (fun w hw => laws_eqWorlds.ok h34 w ((rd_sl (i := 1) rfl) w hw) ((rd_sl (i := 2) rfl) w hw) ((rd_sl (i := 7) rfl) w hw) ((rd_sl (i := 8) rfl) w hw))) ?_
        refine F.q rfl rfl rfl (wanted_none rfl) (r_not rfl) ?_
        refine F.q rfl rfl rfl (wanted_none rfl) (r_move rfl) ?_
        refine F.sk rfl rfl rfl (wf rfl rfl rfl g36) ?_
        refine F.sk rfl rfl rfl (wf rfl rfl rfl g36) ?_
        refine F.sk rfl rfl rfl (wf rfl rfl rfl g36) ?_
        refine F.q rfl rfl rfl (wanted_none rfl) (r_pick rfl rfl g36) ?_
        refine F.nil ?_
        cases hE_1
        refine Nrm.only [1, 4, 5, 6, 7, 8, 40] rfl ?_
        refine Nrm.pick [0, 3, 6, 11, 7, 8, 4, 5, 1, 2] rfl rfl ?_
        exact hj_1 _ _ ⟨rfl, rfl⟩
      · replace hE_1 := if_ff g36 hE_1
        refine Tri.reg (l := [0, 1, 2, 3, 4, 5, 6, 7, 8]) rfl ?_
        refine F.q rfl rfl rfl (wanted_none rfl) (r_loadA ta70 ti70 rfl rfl (fun w hw => (box_cells (i := 0) rfl w hw))) ?_
        refine F.q rfl rfl rfl (wanted_none rfl) (r_loadA ta70 ti70 rfl rfl (fun w hw => (box_cells (i := 6) rfl w hw))) ?_
        refine F.qc rfl rfl rfl (wanted_none rfl) (q_callF (xs := _) rfl ok43 rfl rfl (fun w hw => laws_eqWorlds.ok h34 w ((rd_sl (i := 1) rfl) w hw) ((rd_sl (i := 2) rfl) w hw) ((rd_sl (i := 7) rfl) w hw) ((rd_sl (i := 8) rfl) w hw))) ?_
        refine F.q rfl rfl rfl (wanted_none rfl) (r_not rfl) ?_
        refine F.q rfl rfl rfl (wanted_none rfl) (r_move rfl) ?_
        refine F.q rfl rfl rfl (wg rfl rfl rfl g36) (r_move rfl) ?_
        refine F.q rfl rfl rfl (wg rfl rfl rfl g36) (r_move rfl) ?_
        refine F.q rfl rfl rfl (wg rfl rfl rfl g36) (r_neqB Try.underlying4 rfl rfl) ?_
        refine F.q rfl rfl rfl (wanted_none rfl) (r_pickf rfl rfl g36) ?_
        refine F.nil ?_
        cases hE_1
        refine Nrm.only [1, 4, 5, 6, 7, 8, 40] rfl ?_
        refine Nrm.pick [0, 3, 6, 11, 7, 8, 4, 5, 1, 2] rfl rfl ?_
        exact hj_1 _ _ ⟨rfl, rfl⟩

end Go.Proofs
