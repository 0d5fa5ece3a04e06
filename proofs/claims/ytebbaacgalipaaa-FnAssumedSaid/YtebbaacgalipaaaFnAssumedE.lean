/- A part of the proof of FnAssumed: what the functions of the program compute, walked on the model. No condition. -/
import Derived.Test.YtebbaacgalipaaaFnAssumedC
import Derived.Test.YtebbaacgalipaaaFnAssumedD
set_option linter.unusedSimpArgs false
/- slices.Equal[[]int,int] -/

namespace Go.Proofs
open Go Go.Ga
set_option linter.unusedVariables false
set_option maxRecDepth 100000
set_option maxHeartbeats 4000000
def slices_Equal_int_int.l0 (k : Nat) (a0 : List Int) (a1 : List Int) : Nat → Int → Option ((Unit) ⊕ (Bool))
 | 0, _ => none
 | n + 1, x13 => (if (decide (x13 < (a0.length : Int))) = true then (rdl a0 x13).bind fun t18 => (rdl a1 x13).bind fun t22 => (if (t18 != t22) = true then some (Sum.inr false) else slices_Equal_int_int.l0 k a0 a1 n (w64 (x13 + 1))) else some (Sum.inl ()))

def slices_Equal_int_int.f (k : Nat) (a0 : List Int) (a1 : List Int) : Option (Bool) := (if ((a0.length : Int) != (a1.length : Int)) = true then some false else (slices_Equal_int_int.l0 k a0 a1 k 0).bind fun s => Lr s some fun _ => some true)

theorem slices_Equal_int_int.ok {k : Nat}  {a0 : List Int} {a1 : List Int} {r0 : Bool} (h : slices_Equal_int_int.f k a0 a1 = some r0) (w : World) {va0 : Value} {va1 : Value} (hr_a0 : Rd w va0 a0) (hr_a1 : Rd w va1 a1) :
  Calls Try.prog 173 ([va0, va1] : List Value).toArray w (fun e w' => e = .returned (.bool r0) ∧ Ext w w') := by
 unfold slices_Equal_int_int.f at h
 have hl_va0 := hr_a0.len
 have hl_va1 := hr_a1.len
 refine Calls.of_tri (N := 26) Try.func173 rfl rfl rfl (Sep.nil (M := noM)) ?_
 refine Tri.seq ?_
 refine Tri.reg (l := [0]) rfl ?_
 refine F.q rfl rfl rfl (wanted_none rfl) (r_assign rfl) ?_
 refine F.nil ?_
 refine Nrm.seq ?_
 refine Tri.seq ?_
 refine Tri.seq ?_
 refine Tri.reg (l := [0, 1, 2, 3, 4]) rfl ?_
 refine F.q rfl rfl rfl (wanted_none rfl) (r_move rfl) ?_
 refine F.q rfl rfl rfl (wanted_none rfl) (r_len Try.underlying25 rfl hl_va0) ?_
 refine F.q rfl rfl rfl (wanted_none rfl) (r_move rfl) ?_
 refine F.q rfl rfl rfl (wanted_none rfl) (r_len Try.underlying25 rfl hl_va1) ?_
 refine F.q rfl rfl rfl (wanted_none rfl) (r_neq rfl rfl) ?_
 refine F.nil ?_
 refine Nrm.seq ?_
 refine Tri.cond (b := (a0.length : Int) != (a1.length : Int)) rfl (fun g_1 => ?_) (fun g_1 => ?_)
 ·replace h := if_tt g_1 h
  refine Tri.seq ?_
  refine Tri.reg (l := [0]) rfl ?_
  refine F.q rfl rfl rfl (wanted_none rfl) (r_assign rfl) ?_
  refine F.nil ?_
  refine Nrm.seq ?_
  refine Tri.ret ?_
  refine Rtn.then ?_
  cases h
  exact Rtn.body (.tmp rfl .nil) (fun w hw => ⟨rfl, hw.ext⟩)
 ·replace h := if_ff g_1 h
  refine Tri.skip ?_
  refine Nrm.seq ?_
  refine Tri.seq ?_
  refine Tri.seq ?_
  refine Tri.reg (l := [0, 1, 2]) rfl ?_
  refine F.q rfl rfl rfl (wanted_none rfl) (r_move rfl) ?_
  refine F.q rfl rfl rfl (wanted_none rfl) (r_len Try.underlying25 rfl hl_va0) ?_
  refine F.q rfl rfl rfl (wanted_none rfl) (r_move rfl) ?_
  refine F.nil ?_
  refine Nrm.seq ?_
  obtain ⟨s0, hE_1, h⟩ := bind_some h
  refine Tri.block ?_
  refine Tri.only [0, 1, 12, 13] rfl ?_
  refine Tri.pick [] rfl rfl ?_
  refine Tri.rounds (fun n e' C' => ∃ (x13' : Int), slices_Equal_int_int.l0 k a0 a1 n x13' = some s0 ∧ e' = [(0, va0), (1, va1), (12, .int .i64 (a0.length : Int)), (13, .int .i64 x13')] ∧ C' = Sep w noM []) k ?_ ?_ ?_
  ·exact ⟨0, hE_1, rfl, rfl⟩
  ·rintro _ _ ⟨_, hE_1, _⟩
   rw [slices_Equal_int_int.l0.eq_1] at hE_1; cases hE_1
  ·rintro n_1 _ _ ⟨x13, hE_1, rfl, rfl⟩ ih_1
   rw [slices_Equal_int_int.l0.eq_2] at hE_1
   refine Tri.seq ?_
   refine Tri.reg (l := [0]) rfl ?_
   refine F.q rfl rfl rfl (wanted_none rfl) (r_lss rfl rfl) ?_
   refine F.nil ?_
   refine Nrm.seq ?_
   refine Tri.seq ?_
   refine Tri.cond (b := decide (x13 < (a0.length : Int))) rfl (fun g_2 => ?_) (fun g_2 => ?_)
   ·replace hE_1 := if_tt g_2 hE_1
    refine Tri.skip ?_
    refine Nrm.seq ?_
    refine Tri.seq ?_
    refine Tri.block ?_
    refine Tri.seq ?_
    refine Tri.reg (l := [0, 1]) rfl ?_
    refine F.q rfl rfl rfl (wanted_none rfl) (r_move rfl) ?_
    refine F.q rfl rfl rfl (wanted_none rfl) (r_assign rfl) ?_
    refine F.nil ?_
    refine Nrm.seq ?_
    refine Tri.seq ?_
    obtain ⟨t18, h18, hE_1⟩ := bind_some hE_1
    obtain ⟨t22, h22, hE_1⟩ := bind_some hE_1
    refine Tri.drawA mixedT Sep.up [(0, true), (1, true), (2, true), (3, true), (4, true), (5, true), (6, true), (7, true), (8, true)] [] (by kernel_rfl) ?_
    refine S.q rfl rfl rfl (wanted_none rfl) (r_move rfl) ?_
    refine S.q rfl rfl rfl (wanted_none rfl) (r_move rfl) ?_
    refine S.q rfl rfl rfl (wanted_none rfl) (r_indexAddrS Try.underlying25 ti3 rfl hl_va0 rfl (rdl_some h18).1 (rdl_some h18).2.1) ?_
    refine S.q rfl rfl rfl (wanted_none rfl) (r_load ta3 rfl (fun w hw => cell_0 (Rd.flat ((fun _ hw => hr_a0.sep hw) w hw) (rdl_some h18).2.2) rfl)) ?_
    refine S.q rfl rfl rfl (wanted_none rfl) (r_move rfl) ?_
    refine S.q rfl rfl rfl (wanted_none rfl) (r_move rfl) ?_
    refine S.q rfl rfl rfl (wanted_none rfl) (r_indexAddrS Try.underlying25 ti3 rfl hl_va1 rfl (rdl_some h22).1 (rdl_some h22).2.1) ?_
    refine S.q rfl rfl rfl (wanted_none rfl) (r_load ta3 rfl (fun w hw => cell_0 (Rd.flat ((fun _ hw => hr_a1.sep hw) w hw) (rdl_some h22).2.2) rfl)) ?_
    refine S.q rfl rfl rfl (wanted_none rfl) (r_neq rfl rfl) ?_
    refine S.nil ?_
    refine F.nil ?_
    refine Nrm.seq ?_
    refine Tri.cond (b := t18 != t22) rfl (fun g_3 => ?_) (fun g_3 => ?_)
    ·replace hE_1 := if_tt g_3 hE_1
     refine Tri.seq ?_
     refine Tri.reg (l := [0]) rfl ?_
     refine F.q rfl rfl rfl (wanted_none rfl) (r_assign rfl) ?_
     refine F.nil ?_
     refine Nrm.seq ?_
     refine Tri.ret ?_
     refine Rtn.block ?_
     refine Rtn.then ?_
     refine Rtn.then ?_
     refine Rtn.block ?_
     refine Rtn.then ?_
     cases hE_1
     replace h := Lr_inr h
     cases h
     exact Rtn.body (.tmp rfl .nil) (fun w hw => ⟨rfl, hw.ext⟩)
    ·replace hE_1 := if_ff g_3 hE_1
     refine Tri.skip ?_
     refine Nrm.block ?_
     refine Nrm.seq ?_
     refine Tri.reg (l := [0, 1]) rfl ?_
     refine F.q rfl rfl rfl (wanted_none rfl) (r_add rfl rfl) ?_
     refine F.q rfl rfl rfl (wanted_none rfl) (r_move rfl) ?_
     refine F.nil ?_
     refine Nrm.round ?_
     refine Rnd.only [0, 1, 12, 13] rfl ?_
     refine Rnd.pick [] rfl rfl ?_
     exact ih_1 _ _ ⟨w64 (x13 + 1), hE_1, rfl, rfl⟩
   ·replace hE_1 := if_ff g_2 hE_1
    refine Tri.exit ?_
    refine Exi.then ?_
    refine Exi.then ?_
    refine Exi.same ?_
    cases hE_1
    replace h := Lr_inl h
    refine Nrm.seq ?_
    refine Tri.seq ?_
    refine Tri.reg (l := [0]) rfl ?_
    refine F.q rfl rfl rfl (wanted_none rfl) (r_assign rfl) ?_
    refine F.nil ?_
    refine Nrm.seq ?_
    refine Tri.ret ?_
    cases h
    exact Rtn.body (.tmp rfl .nil) (fun w hw => ⟨rfl, hw.ext⟩)

end Go.Proofs

/- loop.example/g01158/impl.filled$1 -/

namespace Go.Proofs
open Go Go.Ga
set_option linter.unusedVariables false
set_option maxRecDepth 100000
set_option maxHeartbeats 4000000
def impl_filled_1.f (k : Nat) (a0 : Int) : Option (Bool) := some (decide (a0 < 0))

theorem impl_filled_1.ok {k : Nat}  {a0 : Int} {r0 : Bool} (h : impl_filled_1.f k a0 = some r0) (w : World) :
  Calls Try.prog 174 ([.int .i64 a0] : List Value).toArray w (fun e w' => e = .returned (.bool r0) ∧ Ext w w') := by
 unfold impl_filled_1.f at h
 refine Calls.of_tri (N := 5) Try.func174 rfl rfl rfl (Sep.nil (M := noM)) ?_
 refine Tri.seq ?_
 refine Tri.reg (l := [0]) rfl ?_
 refine F.q rfl rfl rfl (wanted_none rfl) (r_assign rfl) ?_
 refine F.nil ?_
 refine Nrm.seq ?_
 refine Tri.seq ?_
 refine Tri.reg (l := [0, 1, 2]) rfl ?_
 refine F.q rfl rfl rfl (wanted_none rfl) (r_move rfl) ?_
 refine F.q rfl rfl rfl (wanted_none rfl) (r_lss rfl rfl) ?_
 refine F.q rfl rfl rfl (wanted_none rfl) (r_assign rfl) ?_
 refine F.nil ?_
 refine Nrm.seq ?_
 refine Tri.ret ?_
 cases h
 exact Rtn.body (.tmp rfl .nil) (fun w hw => ⟨rfl, hw.ext⟩)

end Go.Proofs

/- loop.example/g01158/impl.filled -/
namespace Go.Proofs
open Go Go.Ga
set_option linter.unusedVariables false
set_option maxRecDepth 100000
set_option maxHeartbeats 4000000
def impl_filled.l0 (k : Nat) (a3 : List Int) (a4 : List Int) (t25 : List Int) (yb14_2_0 : Int) (yb14_2_1 : List (Int × Int × Int)) : Nat → Int → (List (Int)) → Int → (List (Int)) → Option ((List (Int)))
 | 0, _, _, _, _ => none
 | n + 1, x2, x15, x52, xq14_2_2 => (if (decide (x52 < (a3.length : Int))) = true then (rdl a3 x52).bind fun t55 => if ¬ t55 < 0 then (impl_atLast.f k yb14_2_0 yb14_2_1 xq14_2_2 (bclr x2 (shl 1 t55))).bind fun (t63_1, t63_2) => (impl_members.f k t63_2).bind fun t65 => (rdl a4 x52).bind fun t69 => if ¬ (t65.length : Int) = 0 then (rdl t65 (rem t69 (t65.length : Int))).bind fun t74 => (rdl xq14_2_2 t74).bind fun t79 => if ¬ t55 < 0 then (rdl xq14_2_2 t74).bind fun t84 => (slices_Index_int_int.f k t25 t55).bind fun t88 => (rdl x15 t88).bind fun t90 => impl_filled.l0 k a3 a4 t25 yb14_2_0 yb14_2_1 n (bclr x2 (shl 1 t55)) (x15.set t88.toNat t74) (w64 (x52 + 1)) (xq14_2_2.set t74.toNat (bor t79 (shl 1 t55))) else none else none else none else some x15)

def impl_filled.f (k : Nat) (a0_0 : Int) (a0_1 : List (Int × Int × Int)) (a0_2 : List Int) (a1 : Int) (a2 : Int) (a3 : List Int) (a4 : List Int) : Option ((List Int) × Bool) := (impl_asked.f k a0_0 a0_1 a0_2 a1).bind fun t22 => (if (!t22) = true then some ([], false) else (impl_members.f k a1).bind fun t25 => (slices_Clone_int_int.f k a3).bind fun t27 => (slices_Sort_int_int.f k t27).bind fun t29 => ((slices_Equal_int_int.f k t29 t25).bind fun t32 => (if (!t32) = true then some true else (if ((a4.length : Int) != (a3.length : Int)) = true then some true else (slices_ContainsFunc_int_int.f k a4 (fun z0 => impl_filled_1.f k z0)).bind fun t43 => some t43))).bind fun y44 => (if y44 = true then some ([], false) else ((impl_laid.f k a0_0 a0_1 a0_2 [] []).bind fun (t46_1, t46_2, t46_3) => if 0 ≤ (t25.length : Int) ∧ (t25.length : Int) < 1099511627776 then some (List.replicate ((t25.length : Int)).toNat (0 : Int), t46_1, t46_2, t46_3) else none).bind fun (y15, yb14_2_0, yb14_2_1, yb14_2_2) => (impl_filled.l0 k a3 a4 t25 yb14_2_0 yb14_2_1 k a2 y15 0 yb14_2_2).bind fun x15 => some (x15, true)))

theorem impl_filled.ok {k : Nat}  {a0_0 : Int} {a0_1 : List (Int × Int × Int)} {a0_2 : List Int} {a1 : Int} {a2 : Int} {a3 : List Int} {a4 : List Int} {r0 : List Int} {r1 : Bool} (h : impl_filled.f k a0_0 a0_1 a0_2 a1 a2 a3 a4 = some (r0, r1)) (w : World) {va0_1 : Value} {va0_2 : Value} {va3 : Value} {va4 : Value} (hr_a0_1 : Rd w va0_1 a0_1) (hr_a0_2 : Rd w va0_2 a0_2) (hr_a3 : Rd w va3 a3) (hr_a4 : Rd w va4 a4) :
  Calls Try.prog 106 ([.agg ([.int .i64 a0_0, va0_1, va0_2].toArray), .int .i64 a1, .int .i64 a2, va3, va4] : List Value).toArray w (Post (fun u ns => ∃ (ur0 : Value) (Sr0 : Nat → Prop), u = .tuple #[ur0, .bool r1] ∧ SlLen ur0 r0.length ∧ ns = [R.sl Sr0 ur0 r0]) w) := by
 unfold impl_filled.f at h
 have hl_va0_1 := hr_a0_1.len
 have hl_va0_2 := hr_a0_2.len
 have hl_va3 := hr_a3.len
 have hl_va4 := hr_a4.len
 refine Calls.of_tri (N := 93) Try.func106 rfl rfl rfl (Sep.nil (M := noM)) ?_
 refine Tri.seq ?_
 refine Tri.reg (l := [0, 1, 2]) rfl ?_
 refine F.m rfl rfl rfl (wanted_none rfl) (m_boxG rfl rfl) ?_
 rintro _ _ ⟨b5_1, rfl, rfl⟩
 refine F.q rfl rfl rfl (wanted_none rfl) (r_assign rfl) ?_
 refine F.q rfl rfl rfl (wanted_none rfl) (r_assign rfl) ?_
 refine F.nil ?_
 refine Nrm.seq ?_
 refine Tri.seq ?_
 refine Tri.seq ?_
 obtain ⟨t22, h22, h⟩ := bind_some h
 refine Tri.reg (l := [0, 1, 2, 3]) rfl ?_
 refine F.q rfl rfl rfl (wanted_none rfl) (r_loadA ta27 ti27 rfl rfl (fun w hw => (box_cells (i := 0) rfl w hw))) ?_
 refine F.q rfl rfl rfl (wanted_none rfl) (r_move rfl) ?_
 refine F.qc rfl rfl rfl (wanted_none rfl) (q_callF (xs := _) rfl ok102 rfl rfl (fun w hw => impl_asked.ok h22 w ((fun _ hw => hr_a0_1.sep hw) w hw) ((fun _ hw => hr_a0_2.sep hw) w hw))) ?_
 refine F.q rfl rfl rfl (wanted_none rfl) (r_not rfl) ?_
 refine F.nil ?_
 refine Nrm.seq ?_
 refine Tri.cond (b := !t22) rfl (fun g_1 => ?_) (fun g_1 => ?_)
 ·replace h := if_tt g_1 h
  refine Tri.seq ?_
  refine Tri.reg (l := [0, 1]) rfl ?_
  refine F.q rfl rfl rfl (wanted_none rfl) (r_assign rfl) ?_
  refine F.q rfl rfl rfl (wanted_none rfl) (r_assign rfl) ?_
  refine F.nil ?_
  refine Nrm.seq ?_
  refine Tri.ret ?_
  refine Rtn.then ?_
  cases h
  exact Rtn.body (.tmp rfl (.tmp rfl .nil)) (fun w hw => ⟨_, _, rfl, ⟨.slice none 0 0, fun _ => False, rfl, len_nil, rfl⟩, Sep.pick (is := [0]) rfl rfl hw.pushNil⟩)
 ·replace h := if_ff g_1 h
  refine Tri.skip ?_
  refine Nrm.seq ?_
  refine Tri.seq ?_
  obtain ⟨t25, h25, h⟩ := bind_some h
  refine Tri.reg (l := [0, 1, 2]) rfl ?_
  refine F.q rfl rfl rfl (wanted_none rfl) (r_move rfl) ?_
  refine F.m rfl rfl rfl (wanted_none rfl) (m_callF (xs := _) rfl ok98 rfl rfl (fun w hw => impl_members.ok h25 w )) ?_
  rintro v25_1 _ ⟨_, ⟨S25_1, hl_v25_1, rfl⟩, rfl⟩
  refine F.q rfl rfl rfl (wanted_none rfl) (r_assign rfl) ?_
  refine F.nil ?_
  refine Nrm.seq ?_
  refine Tri.seq ?_
  obtain ⟨t27, h27, h⟩ := bind_some h
  refine Tri.reg (l := [0, 1, 2]) rfl ?_
  refine F.q rfl rfl rfl (wanted_none rfl) (r_move rfl) ?_
  refine F.m rfl rfl rfl (wanted_none rfl) (m_callF (xs := _) rfl ok171 rfl rfl (fun w hw => slices_Clone_int_int.ok h27 w ((fun _ hw => hr_a3.sep hw) w hw))) ?_
  rintro v27_1 _ ⟨_, ⟨S27_1, hl_v27_1, rfl⟩, rfl⟩
  refine F.q rfl rfl rfl (wanted_none rfl) (r_assign rfl) ?_
  refine F.nil ?_
  refine Nrm.seq ?_
  refine Tri.seq ?_
  obtain ⟨t29, h29, h⟩ := bind_some h
  refine Tri.reg (l := [0, 1]) rfl ?_
  refine F.q rfl rfl rfl (wanted_none rfl) (r_move rfl) ?_
  refine F.ef rfl rfl rfl (wanted_none rfl) (d_callM (xs := _) (cs := [R.sl S27_1 v27_1 (t27 : List (Int))]) (rest := [R.sl S25_1 v25_1 (t25 : List (Int)), R.box b5_1 27 [.int .i64 a0_0, va0_1, va0_2]]) [0] [1, 2] rfl ok172 rfl rfl rfl rfl (fun w hw => slices_Sort_int_int.ok h29 w hl_v27_1 (Sep.sub hw))) ?_
  rintro _ _ ⟨_, ⟨rfl, hl_t29, rfl⟩, rfl⟩
  refine F.nil ?_
  refine Nrm.seq ?_
  refine Tri.seq ?_
  refine Tri.seq ?_
  obtain ⟨y44, hE_1, h⟩ := bind_some h
  refine Tri.cut (fun e' C' => e' = [(2, .int .i64 a2), (3, va3), (4, va4), (5, .pointer (some ⟨b5_1, 0, none⟩)), (12, v25_1), (44, .bool y44)] ∧ C' = Sep w noM [R.box b5_1 27 [.int .i64 a0_0, va0_1, va0_2], R.sl S25_1 v25_1 (t25 : List (Int))]) ?_ (fun hj_1 => ?_)
  ·rintro _ _ ⟨rfl, rfl⟩
   refine Nrm.seq ?_
   refine Tri.cond (b := y44) rfl (fun g_2 => ?_) (fun g_2 => ?_)
   ·replace h := if_tt g_2 h
    refine Tri.seq ?_
    refine Tri.reg (l := [0, 1]) rfl ?_
    refine F.q rfl rfl rfl (wanted_none rfl) (r_assign rfl) ?_
    refine F.q rfl rfl rfl (wanted_none rfl) (r_assign rfl) ?_
    refine F.nil ?_
    refine Nrm.seq ?_
    refine Tri.ret ?_
    refine Rtn.then ?_
    cases h
    exact Rtn.body (.tmp rfl (.tmp rfl .nil)) (fun w hw => ⟨_, _, rfl, ⟨.slice none 0 0, fun _ => False, rfl, len_nil, rfl⟩, Sep.pick (is := [0]) rfl rfl hw.pushNil⟩)
   ·replace h := if_ff g_2 h
    refine Tri.skip ?_
    refine Nrm.seq ?_
    refine Tri.seq ?_
    obtain ⟨⟨y15, yb14_2_0, yb14_2_1, yb14_2_2⟩, hE_2, h⟩ := bind_some h
    refine Tri.cut (fun e' C' => ∃ (v15_1 : Value) (S15_1 : Nat → Prop) (vb14_2_1_1 : Value) (Sb14_2_1_1 : Nat → Prop) (vb14_2_2_1 : Value) (Sb14_2_2_1 : Nat → Prop) (b14_2 : Nat), SlLen v15_1 (y15).length ∧ SlLen vb14_2_1_1 (yb14_2_1).length ∧ SlLen vb14_2_2_1 (yb14_2_2).length ∧ e' = [(2, .int .i64 a2), (3, va3), (4, va4), (12, v25_1), (14, .pointer (some ⟨b14_2, 0, none⟩)), (15, v15_1)] ∧ C' = Sep w noM [R.box b14_2 27 [.int .i64 yb14_2_0, vb14_2_1_1, vb14_2_2_1], R.sl S15_1 v15_1 (y15 : List (Int)), R.sl Sb14_2_1_1 vb14_2_1_1 (yb14_2_1 : List (Int × Int × Int)), R.sl Sb14_2_2_1 vb14_2_2_1 (yb14_2_2 : List (Int)), R.sl S25_1 v25_1 (t25 : List (Int))]) ?_ (fun hj_2 => ?_)
    ·rintro _ _ ⟨v15_1, S15_1, vb14_2_1_1, Sb14_2_1_1, vb14_2_2_1, Sb14_2_2_1, b14_2, hl_v15_1, hl_vb14_2_1_1, hl_vb14_2_2_1, rfl, rfl⟩
     refine Nrm.seq ?_
     refine Tri.seq ?_
     refine Tri.seq ?_
     refine Tri.reg (l := [0, 1, 2]) rfl ?_
     refine F.q rfl rfl rfl (wanted_none rfl) (r_move rfl) ?_
     refine F.q rfl rfl rfl (wanted_none rfl) (r_len Try.underlying25 rfl hl_va3) ?_
     refine F.q rfl rfl rfl (wanted_none rfl) (r_move rfl) ?_
     refine F.nil ?_
     refine Nrm.seq ?_
     obtain ⟨x15, hE_3, h⟩ := bind_some h
     refine Tri.block ?_
     refine Tri.only [2, 4, 12, 14, 15, 50, 51, 52] rfl ?_
     refine Tri.pick [0, 1, 2, 3, 4] rfl rfl ?_
     refine Tri.rounds (fun n e' C' => ∃ (x2' : Int) (x15' : List (Int)) (x52' : Int) (xq14_2_2' : List (Int)), impl_filled.l0 k a3 a4 t25 yb14_2_0 yb14_2_1 n x2' x15' x52' xq14_2_2' = some x15 ∧ SlLen v15_1 (x15').length ∧ SlLen vb14_2_2_1 (xq14_2_2').length ∧ e' = [(2, .int .i64 x2'), (4, va4), (12, v25_1), (14, .pointer (some ⟨b14_2, 0, none⟩)), (15, v15_1), (50, va3), (51, .int .i64 (a3.length : Int)), (52, .int .i64 x52')] ∧ C' = Sep w noM [R.box b14_2 27 [.int .i64 yb14_2_0, vb14_2_1_1, vb14_2_2_1], R.sl S15_1 v15_1 (x15' : List (Int)), R.sl Sb14_2_1_1 vb14_2_1_1 (yb14_2_1 : List (Int × Int × Int)), R.sl Sb14_2_2_1 vb14_2_2_1 (xq14_2_2' : List (Int)), R.sl S25_1 v25_1 (t25 : List (Int))]) k ?_ ?_ ?_
     ·exact ⟨a2, y15, 0, yb14_2_2, hE_3, hl_v15_1, hl_vb14_2_2_1, rfl, rfl⟩
     ·rintro _ _ ⟨_, _, _, _, hE_3, _⟩
      rw [impl_filled.l0.eq_1] at hE_3; cases hE_3
     ·rintro n_1 _ _ ⟨x2, x15, x52, xq14_2_2, hE_3, hl_x15, hl_xq14_2_2, rfl, rfl⟩ ih_1
      rw [impl_filled.l0.eq_2] at hE_3
      refine Tri.seq ?_
      refine Tri.reg (l := [0]) rfl ?_
      refine F.q rfl rfl rfl (wanted_none rfl) (r_lss rfl rfl) ?_
      refine F.nil ?_
      refine Nrm.seq ?_
      refine Tri.seq ?_
      refine Tri.cond (b := decide (x52 < (a3.length : Int))) rfl (fun g_3 => ?_) (fun g_3 => ?_)
      ·replace hE_3 := if_tt g_3 hE_3
       refine Tri.skip ?_
       refine Nrm.seq ?_
       refine Tri.seq ?_
       refine Tri.block ?_
       refine Tri.seq ?_
       obtain ⟨t55, h55, hE_3⟩ := bind_some hE_3
       refine Tri.reg (l := [0, 1, 2, 3, 4]) rfl ?_
       refine F.q rfl rfl rfl (wanted_none rfl) (r_move rfl) ?_
       refine F.q rfl rfl rfl (wanted_none rfl) (r_indexAddrS Try.underlying25 ti3 rfl hl_va3 rfl (rdl_some h55).1 (rdl_some h55).2.1) ?_
       refine F.q rfl rfl rfl (wanted_none rfl) (r_load ta3 rfl (fun w hw => cell_0 (Rd.flat ((fun _ hw => hr_a3.sep hw) w hw) (rdl_some h55).2.2) rfl)) ?_
       refine F.q rfl rfl rfl (wanted_none rfl) (r_assign rfl) ?_
       refine F.q rfl rfl rfl (wanted_none rfl) (r_assign rfl) ?_
       refine F.nil ?_
       refine Nrm.seq ?_
       refine Tri.seq ?_
       obtain ⟨hs59, hE_3⟩ := ck hE_3
       refine Tri.reg (l := [0, 1, 2, 3, 4]) rfl ?_
       refine F.q rfl rfl rfl (wanted_none rfl) (r_move rfl) ?_
       refine F.q rfl rfl rfl (wanted_none rfl) (r_move rfl) ?_
       refine F.q rfl rfl rfl (wanted_none rfl) (r_shl rfl rfl hs59) ?_
       refine F.q rfl rfl rfl (wanted_none rfl) (r_andNot rfl rfl) ?_
       refine F.q rfl rfl rfl (wanted_none rfl) (r_assign rfl) ?_
       refine F.nil ?_
       refine Nrm.seq ?_
       refine Tri.seq ?_
       obtain ⟨⟨t63_1, t63_2⟩, h63, hE_3⟩ := bind_some hE_3
       obtain ⟨t65, h65, hE_3⟩ := bind_some hE_3
       refine Tri.reg (l := [0, 1, 2, 3, 4, 5]) rfl ?_
       refine F.q rfl rfl rfl (wanted_none rfl) (r_loadA ta27 ti27 rfl rfl (fun w hw => (box_cells (i := 0) rfl w hw))) ?_
       refine F.q rfl rfl rfl (wanted_none rfl) (r_move rfl) ?_
       refine F.qc rfl rfl rfl (wanted_none rfl) (q_callF (xs := _) rfl ok111 rfl rfl (fun w hw => impl_atLast.ok h63 w ((rd_sl (i := 2) rfl) w hw) ((rd_sl (i := 3) rfl) w hw))) ?_
       refine F.q rfl rfl rfl (wanted_none rfl) (r_field Try.underlying117 rfl ta3 rfl rfl) ?_
       refine F.m rfl rfl rfl (wanted_none rfl) (m_callF (xs := _) rfl ok98 rfl rfl (fun w hw => impl_members.ok h65 w )) ?_
       rintro v65_1 _ ⟨_, ⟨S65_1, hl_v65_1, rfl⟩, rfl⟩
       refine F.q rfl rfl rfl (wanted_none rfl) (r_assign rfl) ?_
       refine F.nil ?_
       refine Nrm.seq ?_
       refine Tri.seq ?_
       obtain ⟨t69, h69, hE_3⟩ := bind_some hE_3
       obtain ⟨hs73, hE_3⟩ := ck hE_3
       obtain ⟨t74, h74, hE_3⟩ := bind_some hE_3
       refine Tri.reg (l := [0, 1, 2, 3, 4, 5, 6, 7, 8, 9, 10]) rfl ?_
       iterate 3 refine F.q rfl rfl rfl (wanted_none rfl) (r_move rfl) ?_
       refine F.q rfl rfl rfl (wanted_none rfl) (r_indexAddrS Try.underlying25 ti3 rfl hl_va4 rfl (rdl_some h69).1 (rdl_some h69).2.1) ?_
       refine F.q rfl rfl rfl (wanted_none rfl) (r_load ta3 rfl (fun w hw => cell_0 (Rd.flat ((fun _ hw => hr_a4.sep hw) w hw) (rdl_some h69).2.2) rfl)) ?_
       refine F.q rfl rfl rfl (wanted_none rfl) (r_move rfl) ?_
       refine F.q rfl rfl rfl (wanted_none rfl) (r_len Try.underlying25 rfl hl_v65_1) ?_
       refine F.q rfl rfl rfl (wanted_none rfl) (r_rem rfl rfl hs73) ?_
       refine F.q rfl rfl rfl (wanted_none rfl) (r_indexAddrS Try.underlying25 ti3 rfl hl_v65_1 rfl (rdl_some h74).1 (rdl_some h74).2.1) ?_
       refine F.q rfl rfl rfl (wanted_none rfl) (r_load ta3 rfl (fun w hw => cell_0 (Rd.flat ((rd_sl (i := 0) rfl) w hw) (rdl_some h74).2.2) rfl)) ?_
       refine F.q rfl rfl rfl (wanted_none rfl) (r_assign rfl) ?_
       refine F.nil ?_
       refine Nrm.seq ?_
       refine Tri.seq ?_
       obtain ⟨t79, h79, hE_3⟩ := bind_some hE_3
       obtain ⟨hs82, hE_3⟩ := ck hE_3
       obtain ⟨t84, h84, hE_3⟩ := bind_some hE_3
       refine Tri.drawA mixedT Sep.up [(0, true), (1, true), (2, true), (3, true), (4, true), (5, true), (6, true), (7, true), (8, true)] [9] (by kernel_rfl) ?_
       refine S.q rfl rfl rfl (wanted_none rfl) (r_fieldAddr tf27_2 rfl) ?_
       refine S.q rfl rfl rfl (wanted_none rfl) (r_load ta25 rfl (fun w hw => cell_1 (box_cells (i := 1) rfl w hw) rfl)) ?_
       refine S.q rfl rfl rfl (wanted_none rfl) (r_move rfl) ?_
       refine S.q rfl rfl rfl (wanted_none rfl) (r_indexAddrS Try.underlying25 ti3 rfl hl_xq14_2_2 rfl (rdl_some h79).1 (rdl_some h79).2.1) ?_
       refine S.q rfl rfl rfl (wanted_none rfl) (r_load ta3 rfl (fun w hw => cell_0 (Rd.flat ((rd_sl (i := 4) rfl) w hw) (rdl_some h79).2.2) rfl)) ?_
       refine S.q rfl rfl rfl (wanted_none rfl) (r_move rfl) ?_
       refine S.q rfl rfl rfl (wanted_none rfl) (r_shl rfl rfl hs82) ?_
       refine S.q rfl rfl rfl (wanted_none rfl) (r_or rfl rfl) ?_
       refine S.q rfl rfl rfl (wanted_none rfl) (r_indexAddrS Try.underlying25 ti3 rfl hl_xq14_2_2 rfl (rdl_some h84).1 (rdl_some h84).2.1) ?_
       refine S.nil ?_
       refine F.ef0 rfl rfl (wanted_none rfl) (d_storeE (i := 4) (x1 := bor t79 (shl 1 t55)) ti3 rfl rfl rfl (rdl_some h84) rfl) ?_
       rintro _ _ ⟨rfl, rfl⟩
       refine F.nil ?_
       refine Nrm.seq ?_
       obtain ⟨t88, h88, hE_3⟩ := bind_some hE_3
       obtain ⟨t90, h90, hE_3⟩ := bind_some hE_3
       refine Tri.reg (l := [0, 1, 2, 3, 4, 5, 6]) rfl ?_
       iterate 3 refine F.q rfl rfl rfl (wanted_none rfl) (r_move rfl) ?_
       refine F.qc rfl rfl rfl (wanted_none rfl) (q_callF (xs := _) rfl ok97 rfl rfl (fun w hw => slices_Index_int_int.ok h88 w ((rd_sl (i := 5) rfl) w hw))) ?_
       refine F.q rfl rfl rfl (wanted_none rfl) (r_move rfl) ?_
       refine F.q rfl rfl rfl (wanted_none rfl) (r_indexAddrS Try.underlying25 ti3 rfl hl_x15 rfl (rdl_some h90).1 (rdl_some h90).2.1) ?_
       refine F.ef0 rfl rfl (wanted_none rfl) (d_storeE (i := 2) (x1 := t74) ti3 rfl rfl rfl (rdl_some h90) rfl) ?_
       rintro _ _ ⟨rfl, rfl⟩
       refine F.nil ?_
       refine Nrm.block ?_
       refine Nrm.seq ?_
       refine Tri.reg (l := [0, 1]) rfl ?_
       refine F.q rfl rfl rfl (wanted_none rfl) (r_add rfl rfl) ?_
       refine F.q rfl rfl rfl (wanted_none rfl) (r_move rfl) ?_
       refine F.nil ?_
       refine Nrm.round ?_
       refine Rnd.only [2, 4, 12, 14, 15, 50, 51, 52] rfl ?_
       refine Rnd.pick [1, 2, 3, 4, 5] rfl rfl ?_
       exact ih_1 _ _ ⟨bclr x2 (shl 1 t55), x15.set t88.toNat t74, w64 (x52 + 1), xq14_2_2.set t74.toNat (bor t79 (shl 1 t55)), hE_3, (len_set hl_x15), (len_set hl_xq14_2_2), rfl, rfl⟩
      ·replace hE_3 := if_ff g_3 hE_3
       refine Tri.exit ?_
       refine Exi.then ?_
       refine Exi.then ?_
       refine Exi.same ?_
       cases hE_3
       refine Nrm.seq ?_
       refine Tri.seq ?_
       refine Tri.reg (l := [0, 1, 2]) rfl ?_
       refine F.q rfl rfl rfl (wanted_none rfl) (r_move rfl) ?_
       refine F.q rfl rfl rfl (wanted_none rfl) (r_assign rfl) ?_
       refine F.q rfl rfl rfl (wanted_none rfl) (r_assign rfl) ?_
       refine F.nil ?_
       refine Nrm.seq ?_
       refine Tri.ret ?_
       cases h
       exact Rtn.body (.tmp rfl (.tmp rfl .nil)) (fun w hw => ⟨_, _, rfl, ⟨v15_1, S15_1, rfl, hl_x15, rfl⟩, Sep.pick (is := [1]) rfl rfl hw⟩)
    ·obtain ⟨⟨t46_1, t46_2, t46_3⟩, h46, hE_2⟩ := bind_some hE_2
     obtain ⟨hm49, hE_2⟩ := ck hE_2
     refine Tri.drawT mixedT Sep.up [0, 2, 3, 1, 4, 5, 6] [7] (.q 0 (.q 2 (.q 3 (.alt 1 (.alt 4 (.alt 5 (.alt 6 .nil .stop) .stop) (.alt 5 (.alt 4 (.alt 6 .nil .stop) (.alt 6 (.alt 4 .nil .stop) .stop)) .stop)) (.alt 4 (.alt 1 (.alt 5 (.alt 6 .nil .stop) .stop) (.alt 5 (.alt 1 (.alt 6 .nil .stop) .stop) .stop)) (.alt 5 (.alt 1 (.alt 4 (.alt 6 .nil .stop) (.alt 6 (.alt 4 .nil .stop) .stop)) (.alt 4 (.alt 1 (.alt 6 .nil .stop) .stop) .stop)) .stop)))))) (by kernel_rfl) ?_
     refine T.q rfl rfl rfl (wanted_none rfl) (r_loadA ta27 ti27 rfl rfl (fun w hw => (box_cells (i := 0) rfl w hw))) ?_
     refine T.q rfl rfl rfl (wanted_none rfl) (r_move rfl) ?_
     refine T.q rfl rfl rfl (wanted_none rfl) (r_len Try.underlying25 rfl hl_v25_1) ?_
     refine T.ef rfl rfl rfl (wanted_none rfl) (Makes.does (m_callF (xs := _) rfl ok110 rfl rfl (fun w hw => impl_laid.ok h46 w ((fun _ hw => hr_a0_1.sep hw) w hw) ((fun _ hw => hr_a0_2.sep hw) w hw) ((fun _ _ => rd_nil) w hw) ((fun _ _ => rd_nil) w hw)))) (by rintro _ _ ⟨_, ⟨v46_3, S46_3, v46_4, S46_4, rfl, hl_v46_3, hl_v46_4, rfl⟩, rfl⟩; exact upd rfl [2, 3] rfl rfl) ?_ ?_
     ·rintro _ _ ⟨_, ⟨v46_3, S46_3, v46_4, S46_4, rfl, hl_v46_3, hl_v46_4, rfl⟩, rfl⟩
      refine T.ef rfl rfl rfl (wanted_none rfl) (Makes.does (m_make (x0 := (0 : Int)) Try.underlying25 ti3 rfl rfl rfl hm49.1 hm49.2 (by decide))) (by rintro v49_2 _ ⟨S49_2, hl_v49_2, rfl⟩; exact upd rfl [3, 4] rfl rfl) ?_ ?_
      ·rintro v49_2 _ ⟨S49_2, hl_v49_2, rfl⟩
       refine T.ef rfl rfl rfl (wanted_none rfl) (Makes.does (m_alloc ti27)) (by rintro _ _ ⟨b14_3, rfl, rfl⟩; exact upd rfl [4, 5] rfl rfl) ?_ ?_
       ·rintro _ _ ⟨b14_3, rfl, rfl⟩
        refine T.ef0 rfl rfl (wanted_none rfl) (d_storeG0 (i := 0) (cs2 := [.int .i64 t46_1, v46_3, v46_4]) ti27 rfl rfl rfl rfl rfl (Nat.le_of_ble_eq_true rfl) (lf_cons rfl (lf_cons (sl_leaf hl_v46_3) (lf_cons (sl_leaf hl_v46_4) lf_nil)))) (by rintro _ _ ⟨rfl, rfl⟩; exact upd rfl [4, 5] rfl rfl) ?_ ?_
        ·rintro _ _ ⟨rfl, rfl⟩
         refine T.nil ?_
         refine F.q rfl rfl rfl (wanted_none rfl) (r_assign rfl) ?_
         refine F.nil ?_
         cases hE_2
         refine Nrm.only [2, 3, 4, 12, 14, 15] rfl ?_
         refine Nrm.pick [0, 1, 2, 3, 5] rfl rfl ?_
         exact hj_2 _ _ ⟨v49_2, S49_2, v46_3, S46_3, v46_4, S46_4, b14_3, hl_v49_2, hl_v46_3, hl_v46_4, rfl, rfl⟩
        exact T.stop
       exact T.stop
      ·refine T.ef rfl rfl rfl (wanted_none rfl) (Makes.does (m_alloc ti27)) (by rintro _ _ ⟨b14_4, rfl, rfl⟩; exact upd rfl [3, 4] rfl rfl) ?_ ?_
       ·rintro _ _ ⟨b14_4, rfl, rfl⟩
        refine T.ef rfl rfl rfl (wanted_none rfl) (Makes.does (m_make (x0 := (0 : Int)) Try.underlying25 ti3 rfl rfl rfl hm49.1 hm49.2 (by decide))) (by rintro v49_3 _ ⟨S49_3, hl_v49_3, rfl⟩; exact upd rfl [4, 5] rfl rfl) ?_ ?_
        ·rintro v49_3 _ ⟨S49_3, hl_v49_3, rfl⟩
         refine T.ef0 rfl rfl (wanted_none rfl) (d_storeG0 (i := 1) (cs2 := [.int .i64 t46_1, v46_3, v46_4]) ti27 rfl rfl rfl rfl rfl (Nat.le_of_ble_eq_true rfl) (lf_cons rfl (lf_cons (sl_leaf hl_v46_3) (lf_cons (sl_leaf hl_v46_4) lf_nil)))) (by rintro _ _ ⟨rfl, rfl⟩; exact upd rfl [4, 5] rfl rfl) ?_ ?_
         ·rintro _ _ ⟨rfl, rfl⟩
          refine T.nil ?_
          refine F.q rfl rfl rfl (wanted_none rfl) (r_assign rfl) ?_
          refine F.nil ?_
          cases hE_2
          refine Nrm.only [2, 3, 4, 12, 14, 15] rfl ?_
          refine Nrm.pick [1, 0, 2, 3, 5] rfl rfl ?_
          exact hj_2 _ _ ⟨v49_3, S49_3, v46_3, S46_3, v46_4, S46_4, b14_4, hl_v49_3, hl_v46_3, hl_v46_4, rfl, rfl⟩
         exact T.stop
        ·refine T.ef0 rfl rfl (wanted_none rfl) (d_storeG0 (i := 0) (cs2 := [.int .i64 t46_1, v46_3, v46_4]) ti27 rfl rfl rfl rfl rfl (Nat.le_of_ble_eq_true rfl) (lf_cons rfl (lf_cons (sl_leaf hl_v46_3) (lf_cons (sl_leaf hl_v46_4) lf_nil)))) (by rintro _ _ ⟨rfl, rfl⟩; exact upd rfl [3, 4] rfl rfl) ?_ ?_
         ·rintro _ _ ⟨rfl, rfl⟩
          refine T.ef rfl rfl rfl (wanted_none rfl) (Makes.does (m_make (x0 := (0 : Int)) Try.underlying25 ti3 rfl rfl rfl hm49.1 hm49.2 (by decide))) (by rintro v49_4 _ ⟨S49_4, hl_v49_4, rfl⟩; exact upd rfl [4, 5] rfl rfl) ?_ ?_
          ·rintro v49_4 _ ⟨S49_4, hl_v49_4, rfl⟩
           refine T.nil ?_
           refine F.q rfl rfl rfl (wanted_none rfl) (r_assign rfl) ?_
           refine F.nil ?_
           cases hE_2
           refine Nrm.only [2, 3, 4, 12, 14, 15] rfl ?_
           refine Nrm.pick [1, 0, 2, 3, 5] rfl rfl ?_
           exact hj_2 _ _ ⟨v49_4, S49_4, v46_3, S46_3, v46_4, S46_4, b14_4, hl_v49_4, hl_v46_3, hl_v46_4, rfl, rfl⟩
          exact T.stop
         exact T.stop
       exact T.stop
     ·refine T.ef rfl rfl rfl (wanted_none rfl) (Makes.does (m_make (x0 := (0 : Int)) Try.underlying25 ti3 rfl rfl rfl hm49.1 hm49.2 (by decide))) (by rintro v49_5 _ ⟨S49_5, hl_v49_5, rfl⟩; exact upd rfl [1, 2] rfl rfl) ?_ ?_
      ·rintro v49_5 _ ⟨S49_5, hl_v49_5, rfl⟩
       refine T.ef rfl rfl rfl (wanted_none rfl) (Makes.does (m_callF (xs := _) rfl ok110 rfl rfl (fun w hw => impl_laid.ok h46 w ((fun _ hw => hr_a0_1.sep hw) w hw) ((fun _ hw => hr_a0_2.sep hw) w hw) ((fun _ _ => rd_nil) w hw) ((fun _ _ => rd_nil) w hw)))) (by rintro _ _ ⟨_, ⟨v46_5, S46_5, v46_6, S46_6, rfl, hl_v46_5, hl_v46_6, rfl⟩, rfl⟩; exact upd rfl [3, 4] rfl rfl) ?_ ?_
       ·rintro _ _ ⟨_, ⟨v46_5, S46_5, v46_6, S46_6, rfl, hl_v46_5, hl_v46_6, rfl⟩, rfl⟩
        refine T.ef rfl rfl rfl (wanted_none rfl) (Makes.does (m_alloc ti27)) (by rintro _ _ ⟨b14_5, rfl, rfl⟩; exact upd rfl [4, 5] rfl rfl) ?_ ?_
        ·rintro _ _ ⟨b14_5, rfl, rfl⟩
         refine T.ef0 rfl rfl (wanted_none rfl) (d_storeG0 (i := 0) (cs2 := [.int .i64 t46_1, v46_5, v46_6]) ti27 rfl rfl rfl rfl rfl (Nat.le_of_ble_eq_true rfl) (lf_cons rfl (lf_cons (sl_leaf hl_v46_5) (lf_cons (sl_leaf hl_v46_6) lf_nil)))) (by rintro _ _ ⟨rfl, rfl⟩; exact upd rfl [4, 5] rfl rfl) ?_ ?_
         ·rintro _ _ ⟨rfl, rfl⟩
          refine T.nil ?_
          refine F.q rfl rfl rfl (wanted_none rfl) (r_assign rfl) ?_
          refine F.nil ?_
          cases hE_2
          refine Nrm.only [2, 3, 4, 12, 14, 15] rfl ?_
          refine Nrm.pick [0, 3, 1, 2, 5] rfl rfl ?_
          exact hj_2 _ _ ⟨v49_5, S49_5, v46_5, S46_5, v46_6, S46_6, b14_5, hl_v49_5, hl_v46_5, hl_v46_6, rfl, rfl⟩
         exact T.stop
        exact T.stop
       ·refine T.ef rfl rfl rfl (wanted_none rfl) (Makes.does (m_alloc ti27)) (by rintro _ _ ⟨b14_6, rfl, rfl⟩; exact upd rfl [2, 3] rfl rfl) ?_ ?_
        ·rintro _ _ ⟨b14_6, rfl, rfl⟩
         refine T.ef rfl rfl rfl (wanted_none rfl) (Makes.does (m_callF (xs := _) rfl ok110 rfl rfl (fun w hw => impl_laid.ok h46 w ((fun _ hw => hr_a0_1.sep hw) w hw) ((fun _ hw => hr_a0_2.sep hw) w hw) ((fun _ _ => rd_nil) w hw) ((fun _ _ => rd_nil) w hw)))) (by rintro _ _ ⟨_, ⟨v46_7, S46_7, v46_8, S46_8, rfl, hl_v46_7, hl_v46_8, rfl⟩, rfl⟩; exact upd rfl [4, 5] rfl rfl) ?_ ?_
         ·rintro _ _ ⟨_, ⟨v46_7, S46_7, v46_8, S46_8, rfl, hl_v46_7, hl_v46_8, rfl⟩, rfl⟩
          refine T.ef0 rfl rfl (wanted_none rfl) (d_storeG0 (i := 2) (cs2 := [.int .i64 t46_1, v46_7, v46_8]) ti27 rfl rfl rfl rfl rfl (Nat.le_of_ble_eq_true rfl) (lf_cons rfl (lf_cons (sl_leaf hl_v46_7) (lf_cons (sl_leaf hl_v46_8) lf_nil)))) (by rintro _ _ ⟨rfl, rfl⟩; exact upd rfl [4, 5] rfl rfl) ?_ ?_
          ·rintro _ _ ⟨rfl, rfl⟩
           refine T.nil ?_
           refine F.q rfl rfl rfl (wanted_none rfl) (r_assign rfl) ?_
           refine F.nil ?_
           cases hE_2
           refine Nrm.only [2, 3, 4, 12, 14, 15] rfl ?_
           refine Nrm.pick [2, 3, 0, 1, 5] rfl rfl ?_
           exact hj_2 _ _ ⟨v49_5, S49_5, v46_7, S46_7, v46_8, S46_8, b14_6, hl_v49_5, hl_v46_7, hl_v46_8, rfl, rfl⟩
          exact T.stop
         exact T.stop
        exact T.stop
      ·refine T.ef rfl rfl rfl (wanted_none rfl) (Makes.does (m_alloc ti27)) (by rintro _ _ ⟨b14_7, rfl, rfl⟩; exact upd rfl [1, 2] rfl rfl) ?_ ?_
       ·rintro _ _ ⟨b14_7, rfl, rfl⟩
        refine T.ef rfl rfl rfl (wanted_none rfl) (Makes.does (m_callF (xs := _) rfl ok110 rfl rfl (fun w hw => impl_laid.ok h46 w ((fun _ hw => hr_a0_1.sep hw) w hw) ((fun _ hw => hr_a0_2.sep hw) w hw) ((fun _ _ => rd_nil) w hw) ((fun _ _ => rd_nil) w hw)))) (by rintro _ _ ⟨_, ⟨v46_9, S46_9, v46_10, S46_10, rfl, hl_v46_9, hl_v46_10, rfl⟩, rfl⟩; exact upd rfl [3, 4] rfl rfl) ?_ ?_
        ·rintro _ _ ⟨_, ⟨v46_9, S46_9, v46_10, S46_10, rfl, hl_v46_9, hl_v46_10, rfl⟩, rfl⟩
         refine T.ef rfl rfl rfl (wanted_none rfl) (Makes.does (m_make (x0 := (0 : Int)) Try.underlying25 ti3 rfl rfl rfl hm49.1 hm49.2 (by decide))) (by rintro v49_6 _ ⟨S49_6, hl_v49_6, rfl⟩; exact upd rfl [4, 5] rfl rfl) ?_ ?_
         ·rintro v49_6 _ ⟨S49_6, hl_v49_6, rfl⟩
          refine T.ef0 rfl rfl (wanted_none rfl) (d_storeG0 (i := 3) (cs2 := [.int .i64 t46_1, v46_9, v46_10]) ti27 rfl rfl rfl rfl rfl (Nat.le_of_ble_eq_true rfl) (lf_cons rfl (lf_cons (sl_leaf hl_v46_9) (lf_cons (sl_leaf hl_v46_10) lf_nil)))) (by rintro _ _ ⟨rfl, rfl⟩; exact upd rfl [4, 5] rfl rfl) ?_ ?_
          ·rintro _ _ ⟨rfl, rfl⟩
           refine T.nil ?_
           refine F.q rfl rfl rfl (wanted_none rfl) (r_assign rfl) ?_
           refine F.nil ?_
           cases hE_2
           refine Nrm.only [2, 3, 4, 12, 14, 15] rfl ?_
           refine Nrm.pick [3, 0, 1, 2, 5] rfl rfl ?_
           exact hj_2 _ _ ⟨v49_6, S49_6, v46_9, S46_9, v46_10, S46_10, b14_7, hl_v49_6, hl_v46_9, hl_v46_10, rfl, rfl⟩
          exact T.stop
         ·refine T.ef0 rfl rfl (wanted_none rfl) (d_storeG0 (i := 2) (cs2 := [.int .i64 t46_1, v46_9, v46_10]) ti27 rfl rfl rfl rfl rfl (Nat.le_of_ble_eq_true rfl) (lf_cons rfl (lf_cons (sl_leaf hl_v46_9) (lf_cons (sl_leaf hl_v46_10) lf_nil)))) (by rintro _ _ ⟨rfl, rfl⟩; exact upd rfl [3, 4] rfl rfl) ?_ ?_
          ·rintro _ _ ⟨rfl, rfl⟩
           refine T.ef rfl rfl rfl (wanted_none rfl) (Makes.does (m_make (x0 := (0 : Int)) Try.underlying25 ti3 rfl rfl rfl hm49.1 hm49.2 (by decide))) (by rintro v49_7 _ ⟨S49_7, hl_v49_7, rfl⟩; exact upd rfl [4, 5] rfl rfl) ?_ ?_
           ·rintro v49_7 _ ⟨S49_7, hl_v49_7, rfl⟩
            refine T.nil ?_
            refine F.q rfl rfl rfl (wanted_none rfl) (r_assign rfl) ?_
            refine F.nil ?_
            cases hE_2
            refine Nrm.only [2, 3, 4, 12, 14, 15] rfl ?_
            refine Nrm.pick [3, 0, 1, 2, 5] rfl rfl ?_
            exact hj_2 _ _ ⟨v49_7, S49_7, v46_9, S46_9, v46_10, S46_10, b14_7, hl_v49_7, hl_v46_9, hl_v46_10, rfl, rfl⟩
           exact T.stop
          exact T.stop
        ·refine T.ef rfl rfl rfl (wanted_none rfl) (Makes.does (m_make (x0 := (0 : Int)) Try.underlying25 ti3 rfl rfl rfl hm49.1 hm49.2 (by decide))) (by rintro v49_8 _ ⟨S49_8, hl_v49_8, rfl⟩; exact upd rfl [2, 3] rfl rfl) ?_ ?_
         ·rintro v49_8 _ ⟨S49_8, hl_v49_8, rfl⟩
          refine T.ef rfl rfl rfl (wanted_none rfl) (Makes.does (m_callF (xs := _) rfl ok110 rfl rfl (fun w hw => impl_laid.ok h46 w ((fun _ hw => hr_a0_1.sep hw) w hw) ((fun _ hw => hr_a0_2.sep hw) w hw) ((fun _ _ => rd_nil) w hw) ((fun _ _ => rd_nil) w hw)))) (by rintro _ _ ⟨_, ⟨v46_11, S46_11, v46_12, S46_12, rfl, hl_v46_11, hl_v46_12, rfl⟩, rfl⟩; exact upd rfl [4, 5] rfl rfl) ?_ ?_
          ·rintro _ _ ⟨_, ⟨v46_11, S46_11, v46_12, S46_12, rfl, hl_v46_11, hl_v46_12, rfl⟩, rfl⟩
           refine T.ef0 rfl rfl (wanted_none rfl) (d_storeG0 (i := 3) (cs2 := [.int .i64 t46_1, v46_11, v46_12]) ti27 rfl rfl rfl rfl rfl (Nat.le_of_ble_eq_true rfl) (lf_cons rfl (lf_cons (sl_leaf hl_v46_11) (lf_cons (sl_leaf hl_v46_12) lf_nil)))) (by rintro _ _ ⟨rfl, rfl⟩; exact upd rfl [4, 5] rfl rfl) ?_ ?_
           ·rintro _ _ ⟨rfl, rfl⟩
            refine T.nil ?_
            refine F.q rfl rfl rfl (wanted_none rfl) (r_assign rfl) ?_
            refine F.nil ?_
            cases hE_2
            refine Nrm.only [2, 3, 4, 12, 14, 15] rfl ?_
            refine Nrm.pick [3, 2, 0, 1, 5] rfl rfl ?_
            exact hj_2 _ _ ⟨v49_8, S49_8, v46_11, S46_11, v46_12, S46_12, b14_7, hl_v49_8, hl_v46_11, hl_v46_12, rfl, rfl⟩
           exact T.stop
          exact T.stop
         exact T.stop
       exact T.stop
  ·obtain ⟨t32, h32, hE_1⟩ := bind_some hE_1
   rcases Bool.eq_false_or_eq_true (!t32) with g34 | g34
   ·replace hE_1 := if_tt g34 hE_1
    refine Tri.reg (l := [0, 1, 2, 3, 4, 5, 6, 7, 8, 9, 10, 11, 12, 13, 14]) rfl ?_
    refine F.q rfl rfl rfl (wanted_none rfl) (r_move rfl) ?_
    refine F.q rfl rfl rfl (wanted_none rfl) (r_move rfl) ?_
    refine F.qc rfl rfl rfl (wanted_none rfl) (q_callF (xs := _) rfl ok173 rfl rfl (fun w hw => slices_Equal_int_int.ok h32 w ((rd_sl (i := 0) rfl) w hw) ((rd_sl (i := 1) rfl) w hw))) ?_
    refine F.q rfl rfl rfl (wanted_none rfl) (r_not rfl) ?_
    refine F.q rfl rfl rfl (wanted_none rfl) (r_move rfl) ?_
    iterate 5 refine F.sk rfl rfl rfl (wf rfl rfl rfl g34) ?_
    refine F.q rfl rfl rfl (wanted_none rfl) (r_pick rfl rfl g34) ?_
    refine F.q rfl rfl rfl (wanted_none rfl) (r_move rfl) ?_
    refine F.sk rfl rfl rfl (wf rfl rfl rfl rfl) ?_
    refine F.sk rfl rfl rfl (wf rfl rfl rfl rfl) ?_
    refine F.q rfl rfl rfl (wanted_none rfl) (r_pick rfl rfl rfl) ?_
    refine F.nil ?_
    cases hE_1
    refine Nrm.only [2, 3, 4, 5, 12, 44] rfl ?_
    refine Nrm.pick [2, 1] rfl rfl ?_
    exact hj_1 _ _ ⟨rfl, rfl⟩
   ·replace hE_1 := if_ff g34 hE_1
    rcases Bool.eq_false_or_eq_true ((a4.length : Int) != (a3.length : Int)) with g41 | g41
    ·replace hE_1 := if_tt g41 hE_1
     refine Tri.reg (l := [0, 1, 2, 3, 4, 5, 6, 7, 8, 9, 10, 11, 12, 13, 14]) rfl ?_
     refine F.q rfl rfl rfl (wanted_none rfl) (r_move rfl) ?_
     refine F.q rfl rfl rfl (wanted_none rfl) (r_move rfl) ?_
     refine F.qc rfl rfl rfl (wanted_none rfl) (q_callF (xs := _) rfl ok173 rfl rfl (fun w hw => slices_Equal_int_int.ok h32 w ((rd_sl (i := 0) rfl) w hw) ((rd_sl (i := 1) rfl) w hw))) ?_
     refine F.q rfl rfl rfl (wanted_none rfl) (r_not rfl) ?_
     refine F.q rfl rfl rfl (wanted_none rfl) (r_move rfl) ?_
     refine F.q rfl rfl rfl (wg rfl rfl rfl g34) (r_move rfl) ?_
     refine F.q rfl rfl rfl (wg rfl rfl rfl g34) (r_len Try.underlying25 rfl hl_va4) ?_
     refine F.q rfl rfl rfl (wg rfl rfl rfl g34) (r_move rfl) ?_
     refine F.q rfl rfl rfl (wg rfl rfl rfl g34) (r_len Try.underlying25 rfl hl_va3) ?_
     refine F.q rfl rfl rfl (wg rfl rfl rfl g34) (r_neq rfl rfl) ?_
     refine F.q rfl rfl rfl (wanted_none rfl) (r_pickf rfl rfl g34) ?_
     refine F.q rfl rfl rfl (wanted_none rfl) (r_move rfl) ?_
     refine F.sk rfl rfl rfl (wf rfl rfl rfl g41) ?_
     refine F.sk rfl rfl rfl (wf rfl rfl rfl g41) ?_
     refine F.q rfl rfl rfl (wanted_none rfl) (r_pick rfl rfl g41) ?_
     refine F.nil ?_
     cases hE_1
     refine Nrm.only [2, 3, 4, 5, 12, 44] rfl ?_
     refine Nrm.pick [2, 1] rfl rfl ?_
     exact hj_1 _ _ ⟨rfl, rfl⟩
    ·replace hE_1 := if_ff g41 hE_1
     obtain ⟨t43, h43, hE_1⟩ := bind_some hE_1
     refine Tri.reg (l := [0, 1, 2, 3, 4, 5, 6, 7, 8, 9, 10, 11, 12, 13, 14]) rfl ?_
     refine F.q rfl rfl rfl (wanted_none rfl) (r_move rfl) ?_
     refine F.q rfl rfl rfl (wanted_none rfl) (r_move rfl) ?_
     refine F.qc rfl rfl rfl (wanted_none rfl) (q_callF (xs := _) rfl ok173 rfl rfl (fun w hw => slices_Equal_int_int.ok h32 w ((rd_sl (i := 0) rfl) w hw) ((rd_sl (i := 1) rfl) w hw))) ?_
     refine F.q rfl rfl rfl (wanted_none rfl) (r_not rfl) ?_
     refine F.q rfl rfl rfl (wanted_none rfl) (r_move rfl) ?_
     refine F.q rfl rfl rfl (wg rfl rfl rfl g34) (r_move rfl) ?_
     refine F.q rfl rfl rfl (wg rfl rfl rfl g34) (r_len Try.underlying25 rfl hl_va4) ?_
     refine F.q rfl rfl rfl (wg rfl rfl rfl g34) (r_move rfl) ?_
     refine F.q rfl rfl rfl (wg rfl rfl rfl g34) (r_len Try.underlying25 rfl hl_va3) ?_
     refine F.q rfl rfl rfl (wg rfl rfl rfl g34) (r_neq rfl rfl) ?_
     refine F.q rfl rfl rfl (wanted_none rfl) (r_pickf rfl rfl g34) ?_
     refine F.q rfl rfl rfl (wanted_none rfl) (r_move rfl) ?_
     refine F.q rfl rfl rfl (wg rfl rfl rfl g41) (r_move rfl) ?_
     refine F.qc rfl rfl rfl (wg rfl rfl rfl g41) (q_callF (xs := _) rfl ok150 rfl rfl (fun w hw => slices_ContainsFunc_int_int.ok h43 w ((fun _ hw => hr_a4.sep hw) w hw) ok174 (fun w2 he2 z0 y2 hy2 => impl_filled_1.ok hy2 w2 ))) ?_
     refine F.q rfl rfl rfl (wanted_none rfl) (r_pickf rfl rfl g41) ?_
     refine F.nil ?_
     cases hE_1
     refine Nrm.only [2, 3, 4, 5, 12, 44] rfl ?_
     refine Nrm.pick [2, 1] rfl rfl ?_
     exact hj_1 _ _ ⟨rfl, rfl⟩

end Go.Proofs

/- loop.example/g01158/impl.AssumedFilling -/
namespace Go.Proofs
open Go Go.Ga
set_option linter.unusedVariables false
set_option maxRecDepth 100000
set_option maxHeartbeats 4000000
def impl_AssumedFilling.f (k : Nat) (a0_0 : Int) (a0_1 : List (Int × Int × Int)) (a0_2 : List Int) (a1 : Int) (a2 : List Int) (a3 : List Int) : Option ((List Int) × Bool) := (impl_filled.f k a0_0 a0_1 a0_2 a1 a1 a2 a3).bind fun (t15_1, t15_2) => some (t15_1, t15_2)

theorem impl_AssumedFilling.ok {k : Nat}  {a0_0 : Int} {a0_1 : List (Int × Int × Int)} {a0_2 : List Int} {a1 : Int} {a2 : List Int} {a3 : List Int} {r0 : List Int} {r1 : Bool} (h : impl_AssumedFilling.f k a0_0 a0_1 a0_2 a1 a2 a3 = some (r0, r1)) (w : World) {va0_1 : Value} {va0_2 : Value} {va2 : Value} {va3 : Value} (hr_a0_1 : Rd w va0_1 a0_1) (hr_a0_2 : Rd w va0_2 a0_2) (hr_a2 : Rd w va2 a2) (hr_a3 : Rd w va3 a3) :
  Calls Try.prog 26 ([.agg ([.int .i64 a0_0, va0_1, va0_2].toArray), .int .i64 a1, va2, va3] : List Value).toArray w (Post (fun u ns => ∃ (ur0 : Value) (Sr0 : Nat → Prop), u = .tuple #[ur0, .bool r1] ∧ SlLen ur0 r0.length ∧ ns = [R.sl Sr0 ur0 r0]) w) := by
 unfold impl_AssumedFilling.f at h
 have hl_va0_1 := hr_a0_1.len
 have hl_va0_2 := hr_a0_2.len
 have hl_va2 := hr_a2.len
 have hl_va3 := hr_a3.len
 refine Calls.of_tri (N := 18) Try.func26 rfl rfl rfl (Sep.nil (M := noM)) ?_
 refine Tri.seq ?_
 refine Tri.reg (l := [0, 1, 2]) rfl ?_
 refine F.m rfl rfl rfl (wanted_none rfl) (m_boxG rfl rfl) ?_
 rintro _ _ ⟨b4_1, rfl, rfl⟩
 refine F.q rfl rfl rfl (wanted_none rfl) (r_assign rfl) ?_
 refine F.q rfl rfl rfl (wanted_none rfl) (r_assign rfl) ?_
 refine F.nil ?_
 refine Nrm.seq ?_
 refine Tri.seq ?_
 obtain ⟨⟨t15_1, t15_2⟩, h15, h⟩ := bind_some h
 refine Tri.reg (l := [0, 1, 2, 3, 4, 5, 6, 7, 8, 9]) rfl ?_
 refine F.q rfl rfl rfl (wanted_none rfl) (r_loadA ta27 ti27 rfl rfl (fun w hw => (box_cells (i := 0) rfl w hw))) ?_
 iterate 4 refine F.q rfl rfl rfl (wanted_none rfl) (r_move rfl) ?_
 refine F.m rfl rfl rfl (wanted_none rfl) (m_callF (xs := _) rfl ok106 rfl rfl (fun w hw => impl_filled.ok h15 w ((fun _ hw => hr_a0_1.sep hw) w hw) ((fun _ hw => hr_a0_2.sep hw) w hw) ((fun _ hw => hr_a2.sep hw) w hw) ((fun _ hw => hr_a3.sep hw) w hw))) ?_
 rintro _ _ ⟨_, ⟨v15_1, S15_1, rfl, hl_v15_1, rfl⟩, rfl⟩
 refine F.q rfl rfl rfl (wanted_none rfl) (r_extract rfl rfl) ?_
 refine F.q rfl rfl rfl (wanted_none rfl) (r_extract rfl rfl) ?_
 refine F.q rfl rfl rfl (wanted_none rfl) (r_assign rfl) ?_
 refine F.q rfl rfl rfl (wanted_none rfl) (r_assign rfl) ?_
 refine F.nil ?_
 refine Nrm.seq ?_
 refine Tri.ret ?_
 cases h
 exact Rtn.body (.tmp rfl (.tmp rfl .nil)) (fun w hw => ⟨_, _, rfl, ⟨v15_1, S15_1, rfl, hl_v15_1, rfl⟩, Sep.pick (is := [0]) rfl rfl hw⟩)

end Go.Proofs

/- loop.example/g01158/spec.l2Maze -/
namespace Go.Proofs
open Go Go.Ga
set_option linter.unusedVariables false
set_option maxRecDepth 100000
set_option maxHeartbeats 4000000
def spec_l2Maze.l1 (k : Nat) (a0_0 : Int) (a0_2 : List Int) : Nat → Int → Option ((Unit) ⊕ (Bool))
 | 0, _ => none
 | n + 1, x5 => (if (decide (x5 < a0_0)) = true then (rdl a0_2 x5).bind fun t85 => (spec_l2Set.f k t85).bind fun t87 => (if (!t87) = true then some (Sum.inr false) else spec_l2Maze.l1 k a0_0 a0_2 n (w64 (x5 + 1))) else some (Sum.inl ()))

def spec_l2Maze.l0 (k : Nat) (a0_0 : Int) (a0_1 : List (Int × Int × Int)) : Nat → Int → Option ((Unit) ⊕ (Bool))
 | 0, _ => none
 | n + 1, x3 => (if (decide (x3 < (a0_1.length : Int))) = true then (rdl a0_1 x3).bind fun t34 => ((spec_l1In.f k t34.1 0 (w64 (a0_0 - 1))).bind fun t41 => (if (!t41) = true then some true else (spec_l1In.f k t34.2.1 (w64 (t34.1 + 1)) (w64 (a0_0 - 1))).bind fun t52 => (if (!t52) = true then some true else (spec_l2Set.f k t34.2.2).bind fun t58 => (if (!t58) = true then some true else (if (decide (x3 > 0)) = true then (rdl a0_1 (w64 (x3 - 1))).bind fun t69 => (spec_l2Before.f k t69.1 t69.2.1 t69.2.2 t34.1 t34.2.1 t34.2.2).bind fun t72 => some (!t72) else some false))))).bind fun y75 => (if y75 = true then some (Sum.inr false) else spec_l2Maze.l0 k a0_0 a0_1 n (w64 (x3 + 1))) else some (Sum.inl ()))

def spec_l2Maze.f (k : Nat) (a0_0 : Int) (a0_1 : List (Int × Int × Int)) (a0_2 : List Int) : Option (Bool) := ((spec_l1In.f k a0_0 1 12).bind fun t8 => (if (!t8) = true then some true else (if (decide ((a0_1.length : Int) > 30)) = true then some true else some ((a0_2.length : Int) != a0_0)))).bind fun y23 => (if y23 = true then some false else (spec_l2Maze.l0 k a0_0 a0_1 k 0).bind fun s => Lr s some fun _ => (spec_l2Maze.l1 k a0_0 a0_2 k 0).bind fun s => Lr s some fun _ => some true)

theorem spec_l2Maze.ok {k : Nat}  {a0_0 : Int} {a0_1 : List (Int × Int × Int)} {a0_2 : List Int} {r0 : Bool} (h : spec_l2Maze.f k a0_0 a0_1 a0_2 = some r0) (w : World) {va0_1 : Value} {va0_2 : Value} (hr_a0_1 : Rd w va0_1 a0_1) (hr_a0_2 : Rd w va0_2 a0_2) :
  Calls Try.prog 184 ([.agg ([.int .i64 a0_0, va0_1, va0_2].toArray)] : List Value).toArray w (fun e w' => e = .returned (.bool r0) ∧ Ext w w') := by
 unfold spec_l2Maze.f at h
 have hl_va0_1 := hr_a0_1.len
 have hl_va0_2 := hr_a0_2.len
 refine Calls.of_tri (N := 89) Try.func184 rfl rfl rfl (Sep.nil (M := noM)) ?_
 refine Tri.seq ?_
 refine Tri.reg (l := [0, 1]) rfl ?_
 refine F.m rfl rfl rfl (wanted_none rfl) (m_boxG rfl rfl) ?_
 rintro _ _ ⟨b1_1, rfl, rfl⟩
 refine F.q rfl rfl rfl (wanted_none rfl) (r_assign rfl) ?_
 refine F.nil ?_
 refine Nrm.seq ?_
 refine Tri.seq ?_
 refine Tri.seq ?_
 obtain ⟨y23, hE_1, h⟩ := bind_some h
 refine Tri.cut (fun e' C' => e' = [(1, .pointer (some ⟨b1_1, 0, none⟩)), (23, .bool y23)] ∧ C' = Sep w noM [R.box b1_1 27 [.int .i64 a0_0, va0_1, va0_2]]) ?_ (fun hj_1 => ?_)
 ·rintro _ _ ⟨rfl, rfl⟩
  refine Nrm.seq ?_
  refine Tri.cond (b := y23) rfl (fun g_1 => ?_) (fun g_1 => ?_)
  ·replace h := if_tt g_1 h
   refine Tri.seq ?_
   refine Tri.reg (l := [0]) rfl ?_
   refine F.q rfl rfl rfl (wanted_none rfl) (r_assign rfl) ?_
   refine F.nil ?_
   refine Nrm.seq ?_
   refine Tri.ret ?_
   refine Rtn.then ?_
   cases h
   exact Rtn.body (.tmp rfl .nil) (fun w hw => ⟨rfl, hw.ext⟩)
  ·replace h := if_ff g_1 h
   refine Tri.skip ?_
   refine Nrm.seq ?_
   refine Tri.seq ?_
   refine Tri.seq ?_
   refine Tri.reg (l := [0]) rfl ?_
   refine F.q rfl rfl rfl (wanted_none rfl) (r_assign rfl) ?_
   refine F.nil ?_
   refine Nrm.seq ?_
   obtain ⟨s0, hE_2, h⟩ := bind_some h
   refine Tri.block ?_
   refine Tri.only [1, 3] rfl ?_
   refine Tri.pick [0] rfl rfl ?_
   refine Tri.rounds (fun n e' C' => ∃ (x3' : Int), spec_l2Maze.l0 k a0_0 a0_1 n x3' = some s0 ∧ e' = [(1, .pointer (some ⟨b1_1, 0, none⟩)), (3, .int .i64 x3')] ∧ C' = Sep w noM [R.box b1_1 27 [.int .i64 a0_0, va0_1, va0_2]]) k ?_ ?_ ?_
   ·exact ⟨0, hE_2, rfl, rfl⟩
   ·rintro _ _ ⟨_, hE_2, _⟩
    rw [spec_l2Maze.l0.eq_1] at hE_2; cases hE_2
   ·rintro n_1 _ _ ⟨x3, hE_2, rfl, rfl⟩ ih_1
    rw [spec_l2Maze.l0.eq_2] at hE_2
    refine Tri.seq ?_
    refine Tri.seq ?_
    refine Tri.reg (l := [0, 1, 2, 3, 4]) rfl ?_
    refine F.q rfl rfl rfl (wanted_none rfl) (r_move rfl) ?_
    refine F.q rfl rfl rfl (wanted_none rfl) (r_fieldAddr tf27_1 rfl) ?_
    refine F.q rfl rfl rfl (wanted_none rfl) (r_load ta24 rfl (fun w hw => cell_1 (box_cells (i := 0) rfl w hw) rfl)) ?_
    refine F.q rfl rfl rfl (wanted_none rfl) (r_len Try.underlying24 rfl hl_va0_1) ?_
    refine F.q rfl rfl rfl (wanted_none rfl) (r_lss rfl rfl) ?_
    refine F.nil ?_
    refine Nrm.seq ?_
    refine Tri.cond (b := decide (x3 < (a0_1.length : Int))) rfl (fun g_2 => ?_) (fun g_2 => ?_)
    ·replace hE_2 := if_tt g_2 hE_2
     refine Tri.skip ?_
     refine Nrm.seq ?_
     refine Tri.seq ?_
     refine Tri.block ?_
     refine Tri.seq ?_
     obtain ⟨t34, h34, hE_2⟩ := bind_some hE_2
     refine Tri.reg (l := [0, 1, 2, 3, 4, 5, 6]) rfl ?_
     refine F.q rfl rfl rfl (wanted_none rfl) (r_fieldAddr tf27_1 rfl) ?_
     refine F.q rfl rfl rfl (wanted_none rfl) (r_load ta24 rfl (fun w hw => cell_1 (box_cells (i := 0) rfl w hw) rfl)) ?_
     refine F.q rfl rfl rfl (wanted_none rfl) (r_move rfl) ?_
     refine F.q rfl rfl rfl (wanted_none rfl) (r_indexAddrS Try.underlying24 ti121 rfl hl_va0_1 rfl (rdl_some h34).1 (rdl_some h34).2.1) ?_
     refine F.q rfl rfl rfl (wanted_none rfl) (r_loadA ta121 ti121 rfl rfl (fun w hw => (Rd.flat ((fun _ hw => hr_a0_1.sep hw) w hw) (rdl_some h34).2.2))) ?_
     refine F.m rfl rfl rfl (wanted_none rfl) (m_alloc ti121) ?_
     rintro _ _ ⟨b4_1, rfl, rfl⟩
     refine F.ef0 rfl rfl (wanted_none rfl) (d_storeG0 (i := 0) (cs2 := [.int .i64 t34.1, .int .i64 t34.2.1, .int .i64 t34.2.2]) ti121 rfl rfl rfl rfl rfl (Nat.le_of_ble_eq_true rfl) (lf_cons rfl (lf_cons rfl (lf_cons rfl lf_nil)))) ?_
     rintro _ _ ⟨rfl, rfl⟩
     refine F.nil ?_
     refine Nrm.seq ?_
     refine Tri.seq ?_
     obtain ⟨y75, hE_3, hE_2⟩ := bind_some hE_2
     refine Tri.cut (fun e' C' => e' = [(1, .pointer (some ⟨b1_1, 0, none⟩)), (3, .int .i64 x3), (75, .bool y75)] ∧ C' = Sep w noM [R.box b1_1 27 [.int .i64 a0_0, va0_1, va0_2]]) ?_ (fun hj_2 => ?_)
     ·rintro _ _ ⟨rfl, rfl⟩
      refine Nrm.seq ?_
      refine Tri.cond (b := y75) rfl (fun g_3 => ?_) (fun g_3 => ?_)
      ·replace hE_2 := if_tt g_3 hE_2
       refine Tri.seq ?_
       refine Tri.reg (l := [0]) rfl ?_
       refine F.q rfl rfl rfl (wanted_none rfl) (r_assign rfl) ?_
       refine F.nil ?_
       refine Nrm.seq ?_
       refine Tri.ret ?_
       refine Rtn.block ?_
       refine Rtn.then ?_
       refine Rtn.then ?_
       refine Rtn.block ?_
       refine Rtn.then ?_
       cases hE_2
       replace h := Lr_inr h
       cases h
       exact Rtn.body (.tmp rfl .nil) (fun w hw => ⟨rfl, hw.ext⟩)
      ·replace hE_2 := if_ff g_3 hE_2
       refine Tri.skip ?_
       refine Nrm.block ?_
       refine Nrm.seq ?_
       refine Tri.reg (l := [0, 1, 2]) rfl ?_
       refine F.q rfl rfl rfl (wanted_none rfl) (r_move rfl) ?_
       refine F.q rfl rfl rfl (wanted_none rfl) (r_add rfl rfl) ?_
       refine F.q rfl rfl rfl (wanted_none rfl) (r_assign rfl) ?_
       refine F.nil ?_
       refine Nrm.round ?_
       refine Rnd.only [1, 3] rfl ?_
       refine Rnd.pick [0] rfl rfl ?_
       exact ih_1 _ _ ⟨w64 (x3 + 1), hE_2, rfl, rfl⟩
     ·obtain ⟨t41, h41, hE_3⟩ := bind_some hE_3
      rcases Bool.eq_false_or_eq_true (!t41) with g43 | g43
      ·replace hE_3 := if_tt g43 hE_3
       refine Tri.drawA mixedT Sep.up [(0, true), (1, true), (2, true), (3, true), (4, true), (5, true), (6, true), (7, true), (8, true), (9, true), (10, true), (11, true), (12, true), (13, true), (14, true), (15, true), (16, true), (17, true), (18, true), (19, true), (20, true), (21, true), (22, true), (23, true), (24, true), (25, true), (26, true), (27, true), (28, true), (29, true), (30, true), (31, true), (32, true), (33, true), (34, true), (35, true), (36, true), (37, true), (38, true), (39, true)] [] (by kernel_rfl) ?_
       refine S.q rfl rfl rfl (wanted_none rfl) (r_indexAddrA Try.underlying121 ti3 rfl rfl (by decide) (by decide)) ?_
       refine S.q rfl rfl rfl (wanted_none rfl) (r_load ta3 rfl (fun w hw => cell_1 (box_cells (i := 0) rfl w hw) rfl)) ?_
       refine S.q rfl rfl rfl (wanted_none rfl) (r_fieldAddr tf27_0 rfl) ?_
       refine S.q rfl rfl rfl (wanted_none rfl) (r_load ta3 rfl (fun w hw => cell_1 (box_cells (i := 1) rfl w hw) rfl)) ?_
       refine S.q rfl rfl rfl (wanted_none rfl) (r_sub rfl rfl) ?_
       refine S.qc rfl rfl rfl (wanted_none rfl) (q_callF (xs := _) rfl ok105 rfl rfl (fun w hw => spec_l1In.ok h41 w )) ?_
       refine S.q rfl rfl rfl (wanted_none rfl) (r_not rfl) ?_
       refine S.q rfl rfl rfl (wanted_none rfl) (r_move rfl) ?_
       iterate 10 refine S.sk rfl rfl rfl (wf rfl rfl rfl g43) ?_
       refine S.q rfl rfl rfl (wanted_none rfl) (r_pick rfl rfl g43) ?_
       refine S.q rfl rfl rfl (wanted_none rfl) (r_move rfl) ?_
       iterate 4 refine S.sk rfl rfl rfl (wf rfl rfl rfl rfl) ?_
       refine S.q rfl rfl rfl (wanted_none rfl) (r_pick rfl rfl rfl) ?_
       refine S.q rfl rfl rfl (wanted_none rfl) (r_move rfl) ?_
       iterate 3 refine S.sk rfl rfl rfl (wf rfl rfl rfl rfl) ?_
       iterate 9 refine S.sk rfl rfl rfl (wanted_undef rfl rfl rfl) ?_
       refine S.sk rfl rfl rfl (wf rfl rfl rfl rfl) ?_
       refine S.q rfl rfl rfl (wanted_none rfl) (r_pick rfl rfl rfl) ?_
       refine S.nil ?_
       refine F.nil ?_
       cases hE_3
       refine Nrm.only [1, 3, 75] rfl ?_
       refine Nrm.pick [1] rfl rfl ?_
       exact hj_2 _ _ ⟨rfl, rfl⟩
      ·replace hE_3 := if_ff g43 hE_3
       obtain ⟨t52, h52, hE_3⟩ := bind_some hE_3
       rcases Bool.eq_false_or_eq_true (!t52) with g55 | g55
       ·replace hE_3 := if_tt g55 hE_3
        refine Tri.drawA mixedT Sep.up [(0, true), (1, true), (2, true), (3, true), (4, true), (5, true), (6, true), (7, true), (8, true), (9, true), (10, true), (11, true), (12, true), (13, true), (14, true), (15, true), (16, true), (17, true), (18, true), (19, true), (20, true), (21, true), (22, true), (23, true), (24, true), (25, true), (26, true), (27, true), (28, true), (29, true), (30, true), (31, true), (32, true), (33, true), (34, true), (35, true), (36, true), (37, true), (38, true), (39, true)] [] (by kernel_rfl) ?_
        refine S.q rfl rfl rfl (wanted_none rfl) (r_indexAddrA Try.underlying121 ti3 rfl rfl (by decide) (by decide)) ?_
        refine S.q rfl rfl rfl (wanted_none rfl) (r_load ta3 rfl (fun w hw => cell_1 (box_cells (i := 0) rfl w hw) rfl)) ?_
        refine S.q rfl rfl rfl (wanted_none rfl) (r_fieldAddr tf27_0 rfl) ?_
        refine S.q rfl rfl rfl (wanted_none rfl) (r_load ta3 rfl (fun w hw => cell_1 (box_cells (i := 1) rfl w hw) rfl)) ?_
        refine S.q rfl rfl rfl (wanted_none rfl) (r_sub rfl rfl) ?_
        refine S.qc rfl rfl rfl (wanted_none rfl) (q_callF (xs := _) rfl ok105 rfl rfl (fun w hw => spec_l1In.ok h41 w )) ?_
        refine S.q rfl rfl rfl (wanted_none rfl) (r_not rfl) ?_
        refine S.q rfl rfl rfl (wanted_none rfl) (r_move rfl) ?_
        refine S.q rfl rfl rfl (wg rfl rfl rfl g43) (r_indexAddrA Try.underlying121 ti3 rfl rfl (by decide) (by decide)) ?_
        refine S.q rfl rfl rfl (wg rfl rfl rfl g43) (r_load ta3 rfl (fun w hw => cell_1 (box_cells (i := 0) rfl w hw) rfl)) ?_
        refine S.q rfl rfl rfl (wg rfl rfl rfl g43) (r_indexAddrA Try.underlying121 ti3 rfl rfl (by decide) (by decide)) ?_
        refine S.q rfl rfl rfl (wg rfl rfl rfl g43) (r_load ta3 rfl (fun w hw => cell_1 (box_cells (i := 0) rfl w hw) rfl)) ?_
        refine S.q rfl rfl rfl (wg rfl rfl rfl g43) (r_add rfl rfl) ?_
        refine S.q rfl rfl rfl (wg rfl rfl rfl g43) (r_fieldAddr tf27_0 rfl) ?_
        refine S.q rfl rfl rfl (wg rfl rfl rfl g43) (r_load ta3 rfl (fun w hw => cell_1 (box_cells (i := 1) rfl w hw) rfl)) ?_
        refine S.q rfl rfl rfl (wg rfl rfl rfl g43) (r_sub rfl rfl) ?_
        refine S.qc rfl rfl rfl (wg rfl rfl rfl g43) (q_callF (xs := _) rfl ok105 rfl rfl (fun w hw => spec_l1In.ok h52 w )) ?_
        refine S.q rfl rfl rfl (wg rfl rfl rfl g43) (r_not rfl) ?_
        refine S.q rfl rfl rfl (wanted_none rfl) (r_pickf rfl rfl g43) ?_
        refine S.q rfl rfl rfl (wanted_none rfl) (r_move rfl) ?_
        iterate 4 refine S.sk rfl rfl rfl (wf rfl rfl rfl g55) ?_
        refine S.q rfl rfl rfl (wanted_none rfl) (r_pick rfl rfl g55) ?_
        refine S.q rfl rfl rfl (wanted_none rfl) (r_move rfl) ?_
        iterate 3 refine S.sk rfl rfl rfl (wf rfl rfl rfl rfl) ?_
        iterate 9 refine S.sk rfl rfl rfl (wanted_undef rfl rfl rfl) ?_
        refine S.sk rfl rfl rfl (wf rfl rfl rfl rfl) ?_
        refine S.q rfl rfl rfl (wanted_none rfl) (r_pick rfl rfl rfl) ?_
        refine S.nil ?_
        refine F.nil ?_
        cases hE_3
        refine Nrm.only [1, 3, 75] rfl ?_
        refine Nrm.pick [1] rfl rfl ?_
        exact hj_2 _ _ ⟨rfl, rfl⟩
       ·replace hE_3 := if_ff g55 hE_3
        obtain ⟨t58, h58, hE_3⟩ := bind_some hE_3
        rcases Bool.eq_false_or_eq_true (!t58) with g61 | g61
        ·replace hE_3 := if_tt g61 hE_3
         refine Tri.drawA mixedT Sep.up [(0, true), (1, true), (2, true), (3, true), (4, true), (5, true), (6, true), (7, true), (8, true), (9, true), (10, true), (11, true), (12, true), (13, true), (14, true), (15, true), (16, true), (17, true), (18, true), (19, true), (20, true), (21, true), (22, true), (23, true), (24, true), (25, true), (26, true), (27, true), (28, true), (29, true), (30, true), (31, true), (32, true), (33, true), (34, true), (35, true), (36, true), (37, true), (38, true), (39, true)] [] (by kernel_rfl) ?_
         refine S.q rfl rfl rfl (wanted_none rfl) (r_indexAddrA Try.underlying121 ti3 rfl rfl (by decide) (by decide)) ?_
         refine S.q rfl rfl rfl (wanted_none rfl) (r_load ta3 rfl (fun w hw => cell_1 (box_cells (i := 0) rfl w hw) rfl)) ?_
         refine S.q rfl rfl rfl (wanted_none rfl) (r_fieldAddr tf27_0 rfl) ?_
         refine S.q rfl rfl rfl (wanted_none rfl) (r_load ta3 rfl (fun w hw => cell_1 (box_cells (i := 1) rfl w hw) rfl)) ?_
         refine S.q rfl rfl rfl (wanted_none rfl) (r_sub rfl rfl) ?_
         refine S.qc rfl rfl rfl (wanted_none rfl) (q_callF (xs := _) rfl ok105 rfl rfl (fun w hw => spec_l1In.ok h41 w )) ?_
         refine S.q rfl rfl rfl (wanted_none rfl) (r_not rfl) ?_
         refine S.q rfl rfl rfl (wanted_none rfl) (r_move rfl) ?_
         refine S.q rfl rfl rfl (wg rfl rfl rfl g43) (r_indexAddrA Try.underlying121 ti3 rfl rfl (by decide) (by decide)) ?_
         refine S.q rfl rfl rfl (wg rfl rfl rfl g43) (r_load ta3 rfl (fun w hw => cell_1 (box_cells (i := 0) rfl w hw) rfl)) ?_
         refine S.q rfl rfl rfl (wg rfl rfl rfl g43) (r_indexAddrA Try.underlying121 ti3 rfl rfl (by decide) (by decide)) ?_
         refine S.q rfl rfl rfl (wg rfl rfl rfl g43) (r_load ta3 rfl (fun w hw => cell_1 (box_cells (i := 0) rfl w hw) rfl)) ?_
         refine S.q rfl rfl rfl (wg rfl rfl rfl g43) (r_add rfl rfl) ?_
         refine S.q rfl rfl rfl (wg rfl rfl rfl g43) (r_fieldAddr tf27_0 rfl) ?_
         refine S.q rfl rfl rfl (wg rfl rfl rfl g43) (r_load ta3 rfl (fun w hw => cell_1 (box_cells (i := 1) rfl w hw) rfl)) ?_
         refine S.q rfl rfl rfl (wg rfl rfl rfl g43) (r_sub rfl rfl) ?_
         refine S.qc rfl rfl rfl (wg rfl rfl rfl g43) (q_callF (xs := _) rfl ok105 rfl rfl (fun w hw => spec_l1In.ok h52 w )) ?_
         refine S.q rfl rfl rfl (wg rfl rfl rfl g43) (r_not rfl) ?_
         refine S.q rfl rfl rfl (wanted_none rfl) (r_pickf rfl rfl g43) ?_
         refine S.q rfl rfl rfl (wanted_none rfl) (r_move rfl) ?_
         refine S.q rfl rfl rfl (wg rfl rfl rfl g55) (r_indexAddrA Try.underlying121 ti3 rfl rfl (by decide) (by decide)) ?_
         refine S.q rfl rfl rfl (wg rfl rfl rfl g55) (r_load ta3 rfl (fun w hw => cell_1 (box_cells (i := 0) rfl w hw) rfl)) ?_
         refine S.qc rfl rfl rfl (wg rfl rfl rfl g55) (q_callF (xs := _) rfl ok92 rfl rfl (fun w hw => spec_l2Set.ok h58 w )) ?_
         refine S.q rfl rfl rfl (wg rfl rfl rfl g55) (r_not rfl) ?_
         refine S.q rfl rfl rfl (wanted_none rfl) (r_pickf rfl rfl g55) ?_
         refine S.q rfl rfl rfl (wanted_none rfl) (r_move rfl) ?_
         iterate 3 refine S.sk rfl rfl rfl (wf rfl rfl rfl g61) ?_
         iterate 9 refine S.sk rfl rfl rfl (wanted_undef rfl rfl rfl) ?_
         refine S.sk rfl rfl rfl (wf rfl rfl rfl g61) ?_
         refine S.q rfl rfl rfl (wanted_none rfl) (r_pick rfl rfl g61) ?_
         refine S.nil ?_
         refine F.nil ?_
         cases hE_3
         refine Nrm.only [1, 3, 75] rfl ?_
         refine Nrm.pick [1] rfl rfl ?_
         exact hj_2 _ _ ⟨rfl, rfl⟩
        ·replace hE_3 := if_ff g61 hE_3
         rcases Bool.eq_false_or_eq_true (decide (x3 > 0)) with g64 | g64
         ·replace hE_3 := if_tt g64 hE_3
          obtain ⟨t69, h69, hE_3⟩ := bind_some hE_3
          obtain ⟨t72, h72, hE_3⟩ := bind_some hE_3
          refine Tri.drawA mixedT Sep.up [(0, true), (1, true), (2, true), (3, true), (4, true), (5, true), (6, true), (7, true), (8, true), (9, true), (10, true), (11, true), (12, true), (13, true), (14, true), (15, true), (16, true), (17, true), (18, true), (19, true), (20, true), (21, true), (22, true), (23, true), (24, true), (25, true), (26, true), (27, true), (28, true), (29, true), (30, true), (31, true), (32, true), (33, true), (34, true), (35, true), (36, true), (37, true), (38, true), (39, true)] [] (by kernel_rfl) ?_
          refine S.q rfl rfl rfl (wanted_none rfl) (r_indexAddrA Try.underlying121 ti3 rfl rfl (by decide) (by decide)) ?_
          refine S.q rfl rfl rfl (wanted_none rfl) (r_load ta3 rfl (fun w hw => cell_1 (box_cells (i := 0) rfl w hw) rfl)) ?_
          refine S.q rfl rfl rfl (wanted_none rfl) (r_fieldAddr tf27_0 rfl) ?_
          refine S.q rfl rfl rfl (wanted_none rfl) (r_load ta3 rfl (fun w hw => cell_1 (box_cells (i := 1) rfl w hw) rfl)) ?_
          refine S.q rfl rfl rfl (wanted_none rfl) (r_sub rfl rfl) ?_
          refine S.qc rfl rfl rfl (wanted_none rfl) (q_callF (xs := _) rfl ok105 rfl rfl (fun w hw => spec_l1In.ok h41 w )) ?_
          refine S.q rfl rfl rfl (wanted_none rfl) (r_not rfl) ?_
          refine S.q rfl rfl rfl (wanted_none rfl) (r_move rfl) ?_
          refine S.q rfl rfl rfl (wg rfl rfl rfl g43) (r_indexAddrA Try.underlying121 ti3 rfl rfl (by decide) (by decide)) ?_
          refine S.q rfl rfl rfl (wg rfl rfl rfl g43) (r_load ta3 rfl (fun w hw => cell_1 (box_cells (i := 0) rfl w hw) rfl)) ?_
          refine S.q rfl rfl rfl (wg rfl rfl rfl g43) (r_indexAddrA Try.underlying121 ti3 rfl rfl (by decide) (by decide)) ?_
          refine S.q rfl rfl rfl (wg rfl rfl rfl g43) (r_load ta3 rfl (fun w hw => cell_1 (box_cells (i := 0) rfl w hw) rfl)) ?_
          refine S.q rfl rfl rfl (wg rfl rfl rfl g43) (r_add rfl rfl) ?_
          refine S.q rfl rfl rfl (wg rfl rfl rfl g43) (r_fieldAddr tf27_0 rfl) ?_
          refine S.q rfl rfl rfl (wg rfl rfl rfl g43) (r_load ta3 rfl (fun w hw => cell_1 (box_cells (i := 1) rfl w hw) rfl)) ?_
          refine S.q rfl rfl rfl (wg rfl rfl rfl g43) (r_sub rfl rfl) ?_
          refine S.qc rfl rfl rfl (wg rfl rfl rfl g43) (q_callF (xs := _) rfl ok105 rfl rfl (fun w hw => spec_l1In.ok h52 w )) ?_
          refine S.q rfl rfl rfl (wg rfl rfl rfl g43) (r_not rfl) ?_
          refine S.q rfl rfl rfl (wanted_none rfl) (r_pickf rfl rfl g43) ?_
          refine S.q rfl rfl rfl (wanted_none rfl) (r_move rfl) ?_
          refine S.q rfl rfl rfl (wg rfl rfl rfl g55) (r_indexAddrA Try.underlying121 ti3 rfl rfl (by decide) (by decide)) ?_
          refine S.q rfl rfl rfl (wg rfl rfl rfl g55) (r_load ta3 rfl (fun w hw => cell_1 (box_cells (i := 0) rfl w hw) rfl)) ?_
          refine S.qc rfl rfl rfl (wg rfl rfl rfl g55) (q_callF (xs := _) rfl ok92 rfl rfl (fun w hw => spec_l2Set.ok h58 w )) ?_
          refine S.q rfl rfl rfl (wg rfl rfl rfl g55) (r_not rfl) ?_
          refine S.q rfl rfl rfl (wanted_none rfl) (r_pickf rfl rfl g55) ?_
          refine S.q rfl rfl rfl (wanted_none rfl) (r_move rfl) ?_
          refine S.q rfl rfl rfl (wg rfl rfl rfl g61) (r_move rfl) ?_
          refine S.q rfl rfl rfl (wg rfl rfl rfl g61) (r_gtr rfl rfl) ?_
          refine S.q rfl rfl rfl (wg rfl rfl rfl g61) (r_move rfl) ?_
          refine S.q rfl rfl rfl (wg rfl rfl rfl g64) (r_fieldAddr tf27_1 rfl) ?_
          refine S.q rfl rfl rfl (wg rfl rfl rfl g64) (r_load ta24 rfl (fun w hw => cell_1 (box_cells (i := 1) rfl w hw) rfl)) ?_
          refine S.q rfl rfl rfl (wg rfl rfl rfl g64) (r_move rfl) ?_
          refine S.q rfl rfl rfl (wg rfl rfl rfl g64) (r_sub rfl rfl) ?_
          refine S.q rfl rfl rfl (wg rfl rfl rfl g64) (r_indexAddrS Try.underlying24 ti121 rfl hl_va0_1 rfl (rdl_some h69).1 (rdl_some h69).2.1) ?_
          refine S.q rfl rfl rfl (wg rfl rfl rfl g64) (r_loadA ta121 ti121 rfl rfl (fun w hw => (Rd.flat ((fun _ hw => hr_a0_1.sep hw) w hw) (rdl_some h69).2.2))) ?_
          refine S.q rfl rfl rfl (wg rfl rfl rfl g64) (r_loadA ta121 ti121 rfl rfl (fun w hw => (box_cells (i := 0) rfl w hw))) ?_
          refine S.qc rfl rfl rfl (wg rfl rfl rfl g64) (q_callF (xs := _) rfl ok213 rfl rfl (fun w hw => spec_l2Before.ok h72 w )) ?_
          refine S.q rfl rfl rfl (wg rfl rfl rfl g64) (r_not rfl) ?_
          refine S.q rfl rfl rfl (wg rfl rfl rfl g61) (r_pick rfl rfl g64) ?_
          refine S.q rfl rfl rfl (wanted_none rfl) (r_pickf rfl rfl g61) ?_
          refine S.nil ?_
          refine F.nil ?_
          cases hE_3
          refine Nrm.only [1, 3, 75] rfl ?_
          refine Nrm.pick [1] rfl rfl ?_
          exact hj_2 _ _ ⟨rfl, rfl⟩
         ·replace hE_3 := if_ff g64 hE_3
          refine Tri.drawA mixedT Sep.up [(0, true), (1, true), (2, true), (3, true), (4, true), (5, true), (6, true), (7, true), (8, true), (9, true), (10, true), (11, true), (12, true), (13, true), (14, true), (15, true), (16, true), (17, true), (18, true), (19, true), (20, true), (21, true), (22, true), (23, true), (24, true), (25, true), (26, true), (27, true), (28, true), (29, true), (30, true), (31, true), (32, true), (33, true), (34, true), (35, true), (36, true), (37, true), (38, true), (39, true)] [] (by kernel_rfl) ?_
          refine S.q rfl rfl rfl (wanted_none rfl) (r_indexAddrA Try.underlying121 ti3 rfl rfl (by decide) (by decide)) ?_
          refine S.q rfl rfl rfl (wanted_none rfl) (r_load ta3 rfl (fun w hw => cell_1 (box_cells (i := 0) rfl w hw) rfl)) ?_
          refine S.q rfl rfl rfl (wanted_none rfl) (r_fieldAddr tf27_0 rfl) ?_
          refine S.q rfl rfl rfl (wanted_none rfl) (r_load ta3 rfl (fun w hw => cell_1 (box_cells (i := 1) rfl w hw) rfl)) ?_
          refine S.q rfl rfl rfl (wanted_none rfl) (r_sub rfl rfl) ?_
          refine S.qc rfl rfl rfl (wanted_none rfl) (q_callF (xs := _) rfl ok105 rfl rfl (fun w hw => spec_l1In.ok h41 w )) ?_
          refine S.q rfl rfl rfl (wanted_none rfl) (r_not rfl) ?_
          refine S.q rfl rfl rfl (wanted_none rfl) (r_move rfl) ?_
          refine S.q rfl rfl rfl (wg rfl rfl rfl g43) (r_indexAddrA Try.underlying121 ti3 rfl rfl (by decide) (by decide)) ?_
          refine S.q rfl rfl rfl (wg rfl rfl rfl g43) (r_load ta3 rfl (fun w hw => cell_1 (box_cells (i := 0) rfl w hw) rfl)) ?_
          refine S.q rfl rfl rfl (wg rfl rfl rfl g43) (r_indexAddrA Try.underlying121 ti3 rfl rfl (by decide) (by decide)) ?_
          refine S.q rfl rfl rfl (wg rfl rfl rfl g43) (r_load ta3 rfl (fun w hw => cell_1 (box_cells (i := 0) rfl w hw) rfl)) ?_
          refine S.q rfl rfl rfl (wg rfl rfl rfl g43) (r_add rfl rfl) ?_
          refine S.q rfl rfl rfl (wg rfl rfl rfl g43) (r_fieldAddr tf27_0 rfl) ?_
          refine S.q rfl rfl rfl (wg rfl rfl rfl g43) (r_load ta3 rfl (fun w hw => cell_1 (box_cells (i := 1) rfl w hw) rfl)) ?_
          refine S.q rfl rfl rfl (wg rfl rfl rfl g43) (r_sub rfl rfl) ?_
          refine S.qc rfl rfl rfl (wg rfl rfl rfl g43) (q_callF (xs := _) rfl ok105 rfl rfl (fun w hw => spec_l1In.ok h52 w )) ?_
          refine S.q rfl rfl rfl (wg rfl rfl rfl g43) (r_not rfl) ?_
          refine S.q rfl rfl rfl (wanted_none rfl) (r_pickf rfl rfl g43) ?_
          refine S.q rfl rfl rfl (wanted_none rfl) (r_move rfl) ?_
          refine S.q rfl rfl rfl (wg rfl rfl rfl g55) (r_indexAddrA Try.underlying121 ti3 rfl rfl (by decide) (by decide)) ?_
          refine S.q rfl rfl rfl (wg rfl rfl rfl g55) (r_load ta3 rfl (fun w hw => cell_1 (box_cells (i := 0) rfl w hw) rfl)) ?_
          refine S.qc rfl rfl rfl (wg rfl rfl rfl g55) (q_callF (xs := _) rfl ok92 rfl rfl (fun w hw => spec_l2Set.ok h58 w )) ?_
          refine S.q rfl rfl rfl (wg rfl rfl rfl g55) (r_not rfl) ?_
          refine S.q rfl rfl rfl (wanted_none rfl) (r_pickf rfl rfl g55) ?_
          refine S.q rfl rfl rfl (wanted_none rfl) (r_move rfl) ?_
          refine S.q rfl rfl rfl (wg rfl rfl rfl g61) (r_move rfl) ?_
          refine S.q rfl rfl rfl (wg rfl rfl rfl g61) (r_gtr rfl rfl) ?_
          refine S.q rfl rfl rfl (wg rfl rfl rfl g61) (r_move rfl) ?_
          iterate 9 refine S.sk rfl rfl rfl (wf rfl rfl rfl g64) ?_
          refine S.q rfl rfl rfl (wg rfl rfl rfl g61) (r_pickf rfl rfl g64) ?_
          refine S.q rfl rfl rfl (wanted_none rfl) (r_pickf rfl rfl g61) ?_
          refine S.nil ?_
          refine F.nil ?_
          cases hE_3
          refine Nrm.only [1, 3, 75] rfl ?_
          refine Nrm.pick [1] rfl rfl ?_
          exact hj_2 _ _ ⟨rfl, rfl⟩
    ·replace hE_2 := if_ff g_2 hE_2
     refine Tri.exit ?_
     refine Exi.then ?_
     refine Exi.then ?_
     refine Exi.same ?_
     cases hE_2
     replace h := Lr_inl h
     refine Nrm.seq ?_
     refine Tri.seq ?_
     refine Tri.seq ?_
     refine Tri.reg (l := [0]) rfl ?_
     refine F.q rfl rfl rfl (wanted_none rfl) (r_assign rfl) ?_
     refine F.nil ?_
     refine Nrm.seq ?_
     obtain ⟨s1, hE_4, h⟩ := bind_some h
     refine Tri.block ?_
     refine Tri.only [1, 5] rfl ?_
     refine Tri.pick [0] rfl rfl ?_
     refine Tri.rounds (fun n e' C' => ∃ (x5' : Int), spec_l2Maze.l1 k a0_0 a0_2 n x5' = some s1 ∧ e' = [(1, .pointer (some ⟨b1_1, 0, none⟩)), (5, .int .i64 x5')] ∧ C' = Sep w noM [R.box b1_1 27 [.int .i64 a0_0, va0_1, va0_2]]) k ?_ ?_ ?_
     ·exact ⟨0, hE_4, rfl, rfl⟩
     ·rintro _ _ ⟨_, hE_4, _⟩
      rw [spec_l2Maze.l1.eq_1] at hE_4; cases hE_4
     ·rintro n_2 _ _ ⟨x5, hE_4, rfl, rfl⟩ ih_2
      rw [spec_l2Maze.l1.eq_2] at hE_4
      refine Tri.seq ?_
      refine Tri.seq ?_
      refine Tri.reg (l := [0, 1, 2, 3]) rfl ?_
      refine F.q rfl rfl rfl (wanted_none rfl) (r_move rfl) ?_
      refine F.q rfl rfl rfl (wanted_none rfl) (r_fieldAddr tf27_0 rfl) ?_
      refine F.q rfl rfl rfl (wanted_none rfl) (r_load ta3 rfl (fun w hw => cell_1 (box_cells (i := 0) rfl w hw) rfl)) ?_
      refine F.q rfl rfl rfl (wanted_none rfl) (r_lss rfl rfl) ?_
      refine F.nil ?_
      refine Nrm.seq ?_
      refine Tri.cond (b := decide (x5 < a0_0)) rfl (fun g_4 => ?_) (fun g_4 => ?_)
      ·replace hE_4 := if_tt g_4 hE_4
       refine Tri.skip ?_
       refine Nrm.seq ?_
       refine Tri.seq ?_
       refine Tri.block ?_
       refine Tri.seq ?_
       obtain ⟨t85, h85, hE_4⟩ := bind_some hE_4
       obtain ⟨t87, h87, hE_4⟩ := bind_some hE_4
       refine Tri.reg (l := [0, 1, 2, 3, 4, 5, 6]) rfl ?_
       refine F.q rfl rfl rfl (wanted_none rfl) (r_fieldAddr tf27_2 rfl) ?_
       refine F.q rfl rfl rfl (wanted_none rfl) (r_load ta25 rfl (fun w hw => cell_1 (box_cells (i := 0) rfl w hw) rfl)) ?_
       refine F.q rfl rfl rfl (wanted_none rfl) (r_move rfl) ?_
       refine F.q rfl rfl rfl (wanted_none rfl) (r_indexAddrS Try.underlying25 ti3 rfl hl_va0_2 rfl (rdl_some h85).1 (rdl_some h85).2.1) ?_
       refine F.q rfl rfl rfl (wanted_none rfl) (r_load ta3 rfl (fun w hw => cell_0 (Rd.flat ((fun _ hw => hr_a0_2.sep hw) w hw) (rdl_some h85).2.2) rfl)) ?_
       refine F.qc rfl rfl rfl (wanted_none rfl) (q_callF (xs := _) rfl ok92 rfl rfl (fun w hw => spec_l2Set.ok h87 w )) ?_
       refine F.q rfl rfl rfl (wanted_none rfl) (r_not rfl) ?_
       refine F.nil ?_
       refine Nrm.seq ?_
       refine Tri.cond (b := !t87) rfl (fun g_5 => ?_) (fun g_5 => ?_)
       ·replace hE_4 := if_tt g_5 hE_4
        refine Tri.seq ?_
        refine Tri.reg (l := [0]) rfl ?_
        refine F.q rfl rfl rfl (wanted_none rfl) (r_assign rfl) ?_
        refine F.nil ?_
        refine Nrm.seq ?_
        refine Tri.ret ?_
        refine Rtn.block ?_
        refine Rtn.then ?_
        refine Rtn.then ?_
        refine Rtn.block ?_
        refine Rtn.then ?_
        cases hE_4
        replace h := Lr_inr h
        cases h
        exact Rtn.body (.tmp rfl .nil) (fun w hw => ⟨rfl, hw.ext⟩)
       ·replace hE_4 := if_ff g_5 hE_4
        refine Tri.skip ?_
        refine Nrm.block ?_
        refine Nrm.seq ?_
        refine Tri.reg (l := [0, 1, 2]) rfl ?_
        refine F.q rfl rfl rfl (wanted_none rfl) (r_move rfl) ?_
        refine F.q rfl rfl rfl (wanted_none rfl) (r_add rfl rfl) ?_
        refine F.q rfl rfl rfl (wanted_none rfl) (r_assign rfl) ?_
        refine F.nil ?_
        refine Nrm.round ?_
        refine Rnd.only [1, 5] rfl ?_
        refine Rnd.pick [0] rfl rfl ?_
        exact ih_2 _ _ ⟨w64 (x5 + 1), hE_4, rfl, rfl⟩
      ·replace hE_4 := if_ff g_4 hE_4
       refine Tri.exit ?_
       refine Exi.then ?_
       refine Exi.then ?_
       refine Exi.same ?_
       cases hE_4
       replace h := Lr_inl h
       refine Nrm.seq ?_
       refine Tri.seq ?_
       refine Tri.reg (l := [0]) rfl ?_
       refine F.q rfl rfl rfl (wanted_none rfl) (r_assign rfl) ?_
       refine F.nil ?_
       refine Nrm.seq ?_
       refine Tri.ret ?_
       cases h
       exact Rtn.body (.tmp rfl .nil) (fun w hw => ⟨rfl, hw.ext⟩)
 ·obtain ⟨t8, h8, hE_1⟩ := bind_some hE_1
  rcases Bool.eq_false_or_eq_true (!t8) with g10 | g10
  ·replace hE_1 := if_tt g10 hE_1
   refine Tri.reg (l := [0, 1, 2, 3, 4, 5, 6, 7, 8, 9, 10, 11, 12, 13, 14, 15, 16, 17]) rfl ?_
   refine F.q rfl rfl rfl (wanted_none rfl) (r_fieldAddr tf27_0 rfl) ?_
   refine F.q rfl rfl rfl (wanted_none rfl) (r_load ta3 rfl (fun w hw => cell_1 (box_cells (i := 0) rfl w hw) rfl)) ?_
   refine F.qc rfl rfl rfl (wanted_none rfl) (q_callF (xs := _) rfl ok105 rfl rfl (fun w hw => spec_l1In.ok h8 w )) ?_
   refine F.q rfl rfl rfl (wanted_none rfl) (r_not rfl) ?_
   refine F.q rfl rfl rfl (wanted_none rfl) (r_move rfl) ?_
   iterate 4 refine F.sk rfl rfl rfl (wf rfl rfl rfl g10) ?_
   refine F.q rfl rfl rfl (wanted_none rfl) (r_pick rfl rfl g10) ?_
   refine F.q rfl rfl rfl (wanted_none rfl) (r_move rfl) ?_
   iterate 6 refine F.sk rfl rfl rfl (wf rfl rfl rfl rfl) ?_
   refine F.q rfl rfl rfl (wanted_none rfl) (r_pick rfl rfl rfl) ?_
   refine F.nil ?_
   cases hE_1
   refine Nrm.only [1, 23] rfl ?_
   refine Nrm.pick [0] rfl rfl ?_
   exact hj_1 _ _ ⟨rfl, rfl⟩
  ·replace hE_1 := if_ff g10 hE_1
   rcases Bool.eq_false_or_eq_true (decide ((a0_1.length : Int) > 30)) with g16 | g16
   ·replace hE_1 := if_tt g16 hE_1
    refine Tri.reg (l := [0, 1, 2, 3, 4, 5, 6, 7, 8, 9, 10, 11, 12, 13, 14, 15, 16, 17]) rfl ?_
    refine F.q rfl rfl rfl (wanted_none rfl) (r_fieldAddr tf27_0 rfl) ?_
    refine F.q rfl rfl rfl (wanted_none rfl) (r_load ta3 rfl (fun w hw => cell_1 (box_cells (i := 0) rfl w hw) rfl)) ?_
    refine F.qc rfl rfl rfl (wanted_none rfl) (q_callF (xs := _) rfl ok105 rfl rfl (fun w hw => spec_l1In.ok h8 w )) ?_
    refine F.q rfl rfl rfl (wanted_none rfl) (r_not rfl) ?_
    refine F.q rfl rfl rfl (wanted_none rfl) (r_move rfl) ?_
    refine F.q rfl rfl rfl (wg rfl rfl rfl g10) (r_fieldAddr tf27_1 rfl) ?_
    refine F.q rfl rfl rfl (wg rfl rfl rfl g10) (r_load ta24 rfl (fun w hw => cell_1 (box_cells (i := 0) rfl w hw) rfl)) ?_
    refine F.q rfl rfl rfl (wg rfl rfl rfl g10) (r_len Try.underlying24 rfl hl_va0_1) ?_
    refine F.q rfl rfl rfl (wg rfl rfl rfl g10) (r_gtr rfl rfl) ?_
    refine F.q rfl rfl rfl (wanted_none rfl) (r_pickf rfl rfl g10) ?_
    refine F.q rfl rfl rfl (wanted_none rfl) (r_move rfl) ?_
    iterate 6 refine F.sk rfl rfl rfl (wf rfl rfl rfl g16) ?_
    refine F.q rfl rfl rfl (wanted_none rfl) (r_pick rfl rfl g16) ?_
    refine F.nil ?_
    cases hE_1
    refine Nrm.only [1, 23] rfl ?_
    refine Nrm.pick [0] rfl rfl ?_
    exact hj_1 _ _ ⟨rfl, rfl⟩
   ·replace hE_1 := if_ff g16 hE_1
    refine Tri.reg (l := [0, 1, 2, 3, 4, 5, 6, 7, 8, 9, 10, 11, 12, 13, 14, 15, 16, 17]) rfl ?_
    refine F.q rfl rfl rfl (wanted_none rfl) (r_fieldAddr tf27_0 rfl) ?_
    refine F.q rfl rfl rfl (wanted_none rfl) (r_load ta3 rfl (fun w hw => cell_1 (box_cells (i := 0) rfl w hw) rfl)) ?_
    refine F.qc rfl rfl rfl (wanted_none rfl) (q_callF (xs := _) rfl ok105 rfl rfl (fun w hw => spec_l1In.ok h8 w )) ?_
    refine F.q rfl rfl rfl (wanted_none rfl) (r_not rfl) ?_
    refine F.q rfl rfl rfl (wanted_none rfl) (r_move rfl) ?_
    refine F.q rfl rfl rfl (wg rfl rfl rfl g10) (r_fieldAddr tf27_1 rfl) ?_
    refine F.q rfl rfl rfl (wg rfl rfl rfl g10) (r_load ta24 rfl (fun w hw => cell_1 (box_cells (i := 0) rfl w hw) rfl)) ?_
    refine F.q rfl rfl rfl (wg rfl rfl rfl g10) (r_len Try.underlying24 rfl hl_va0_1) ?_
    refine F.q rfl rfl rfl (wg rfl rfl rfl g10) (r_gtr rfl rfl) ?_
    refine F.q rfl rfl rfl (wanted_none rfl) (r_pickf rfl rfl g10) ?_
    refine F.q rfl rfl rfl (wanted_none rfl) (r_move rfl) ?_
    refine F.q rfl rfl rfl (wg rfl rfl rfl g16) (r_fieldAddr tf27_2 rfl) ?_
    refine F.q rfl rfl rfl (wg rfl rfl rfl g16) (r_load ta25 rfl (fun w hw => cell_1 (box_cells (i := 0) rfl w hw) rfl)) ?_
    refine F.q rfl rfl rfl (wg rfl rfl rfl g16) (r_len Try.underlying25 rfl hl_va0_2) ?_
    refine F.q rfl rfl rfl (wg rfl rfl rfl g16) (r_fieldAddr tf27_0 rfl) ?_
    refine F.q rfl rfl rfl (wg rfl rfl rfl g16) (r_load ta3 rfl (fun w hw => cell_1 (box_cells (i := 0) rfl w hw) rfl)) ?_
    refine F.q rfl rfl rfl (wg rfl rfl rfl g16) (r_neq rfl rfl) ?_
    refine F.q rfl rfl rfl (wanted_none rfl) (r_pickf rfl rfl g16) ?_
    refine F.nil ?_
    cases hE_1
    refine Nrm.only [1, 23] rfl ?_
    refine Nrm.pick [0] rfl rfl ?_
    exact hj_1 _ _ ⟨rfl, rfl⟩

end Go.Proofs

/- loop.example/g01158/spec.l9Ask -/
namespace Go.Proofs
open Go Go.Ga
set_option linter.unusedVariables false
set_option maxRecDepth 100000
set_option maxHeartbeats 4000000
def spec_l9Ask.f (k : Nat) (a0_0 : Int) (a0_1 : List (Int × Int × Int)) (a0_2 : List Int) (a1 : Int) : Option (Bool) := ((spec_l2Maze.f k a0_0 a0_1 a0_2).bind fun t6 => (if t6 = true then (spec_l2Set.f k a1).bind fun t9 => some t9 else some false)).bind fun y4 => some y4

theorem spec_l9Ask.ok {k : Nat}  {a0_0 : Int} {a0_1 : List (Int × Int × Int)} {a0_2 : List Int} {a1 : Int} {r0 : Bool} (h : spec_l9Ask.f k a0_0 a0_1 a0_2 a1 = some r0) (w : World) {va0_1 : Value} {va0_2 : Value} (hr_a0_1 : Rd w va0_1 a0_1) (hr_a0_2 : Rd w va0_2 a0_2) :
  Calls Try.prog 117 ([.agg ([.int .i64 a0_0, va0_1, va0_2].toArray), .int .i64 a1] : List Value).toArray w (fun e w' => e = .returned (.bool r0) ∧ Ext w w') := by
 unfold spec_l9Ask.f at h
 have hl_va0_1 := hr_a0_1.len
 have hl_va0_2 := hr_a0_2.len
 refine Calls.of_tri (N := 11) Try.func117 rfl rfl rfl (Sep.nil (M := noM)) ?_
 refine Tri.seq ?_
 refine Tri.reg (l := [0, 1]) rfl ?_
 refine F.m rfl rfl rfl (wanted_none rfl) (m_boxG rfl rfl) ?_
 rintro _ _ ⟨b2_1, rfl, rfl⟩
 refine F.q rfl rfl rfl (wanted_none rfl) (r_assign rfl) ?_
 refine F.nil ?_
 refine Nrm.seq ?_
 refine Tri.seq ?_
 obtain ⟨y4, hE_1, h⟩ := bind_some h
 refine Tri.cut (fun e' C' => e' = [(4, .bool y4)] ∧ C' = Sep w noM []) ?_ (fun hj_1 => ?_)
 ·rintro _ _ ⟨rfl, rfl⟩
  refine Nrm.seq ?_
  refine Tri.ret ?_
  cases h
  exact Rtn.body (.tmp rfl .nil) (fun w hw => ⟨rfl, hw.ext⟩)
 ·obtain ⟨t6, h6, hE_1⟩ := bind_some hE_1
  rcases Bool.eq_false_or_eq_true (t6) with g7 | g7
  ·replace hE_1 := if_tt g7 hE_1
   obtain ⟨t9, h9, hE_1⟩ := bind_some hE_1
   refine Tri.reg (l := [0, 1, 2, 3, 4, 5, 6]) rfl ?_
   refine F.q rfl rfl rfl (wanted_none rfl) (r_loadA ta27 ti27 rfl rfl (fun w hw => (box_cells (i := 0) rfl w hw))) ?_
   refine F.qc rfl rfl rfl (wanted_none rfl) (q_callF (xs := _) rfl ok184 rfl rfl (fun w hw => spec_l2Maze.ok h6 w ((fun _ hw => hr_a0_1.sep hw) w hw) ((fun _ hw => hr_a0_2.sep hw) w hw))) ?_
   refine F.q rfl rfl rfl (wanted_none rfl) (r_move rfl) ?_
   refine F.q rfl rfl rfl (wg rfl rfl rfl g7) (r_move rfl) ?_
   refine F.qc rfl rfl rfl (wg rfl rfl rfl g7) (q_callF (xs := _) rfl ok92 rfl rfl (fun w hw => spec_l2Set.ok h9 w )) ?_
   refine F.q rfl rfl rfl (wanted_none rfl) (r_pick rfl rfl g7) ?_
   refine F.q rfl rfl rfl (wanted_none rfl) (r_assign rfl) ?_
   refine F.nil ?_
   cases hE_1
   refine Nrm.only [4] rfl ?_
   refine Nrm.pick [] rfl rfl ?_
   exact hj_1 _ _ ⟨rfl, rfl⟩
  ·replace hE_1 := if_ff g7 hE_1
   refine Tri.reg (l := [0, 1, 2, 3, 4, 5, 6]) rfl ?_
   refine F.q rfl rfl rfl (wanted_none rfl) (r_loadA ta27 ti27 rfl rfl (fun w hw => (box_cells (i := 0) rfl w hw))) ?_
   refine F.qc rfl rfl rfl (wanted_none rfl) (q_callF (xs := _) rfl ok184 rfl rfl (fun w hw => spec_l2Maze.ok h6 w ((fun _ hw => hr_a0_1.sep hw) w hw) ((fun _ hw => hr_a0_2.sep hw) w hw))) ?_
   refine F.q rfl rfl rfl (wanted_none rfl) (r_move rfl) ?_
   refine F.sk rfl rfl rfl (wf rfl rfl rfl g7) ?_
   refine F.sk rfl rfl rfl (wf rfl rfl rfl g7) ?_
   refine F.q rfl rfl rfl (wanted_none rfl) (r_pickf rfl rfl g7) ?_
   refine F.q rfl rfl rfl (wanted_none rfl) (r_assign rfl) ?_
   refine F.nil ?_
   cases hE_1
   refine Nrm.only [4] rfl ?_
   refine Nrm.pick [] rfl rfl ?_
   exact hj_1 _ _ ⟨rfl, rfl⟩

end Go.Proofs

/- loop.example/g01158/spec.l9Order -/
namespace Go.Proofs
open Go Go.Ga
set_option linter.unusedVariables false
set_option maxRecDepth 100000
set_option maxHeartbeats 4000000
def spec_l9Order.l0 (k : Nat) (a1 : List Int) : Nat → Int → Int → Option ((Int) ⊕ (Bool))
 | 0, _, _ => none
 | n + 1, x5, x6 => (if (decide (x6 < (a1.length : Int))) = true then (rdl a1 x6).bind fun t15 => (spec_l1In.f k t15 0 5).bind fun t17 => (if (!t17) = true then some (Sum.inr false) else (rdl a1 x6).bind fun t22 => if ¬ t22 < 0 then spec_l9Order.l0 k a1 n (bor x5 (shl 1 t22)) (w64 (x6 + 1)) else none) else some (Sum.inl x5))

def spec_l9Order.f (k : Nat) (a0 : Int) (a1 : List Int) : Option (Bool) := (spec_l9Order.l0 k a1 k 0 0).bind fun s => Lr s some fun x5 => ((spec_l2Many.f k a0).bind fun t29 => (if ((a1.length : Int) == t29) = true then some (x5 == a0) else some false)).bind fun y4 => some y4

theorem spec_l9Order.ok {k : Nat}  {a0 : Int} {a1 : List Int} {r0 : Bool} (h : spec_l9Order.f k a0 a1 = some r0) (w : World) {va1 : Value} (hr_a1 : Rd w va1 a1) :
  Calls Try.prog 175 ([.int .i64 a0, va1] : List Value).toArray w (fun e w' => e = .returned (.bool r0) ∧ Ext w w') := by
 unfold spec_l9Order.f at h
 have hl_va1 := hr_a1.len
 refine Calls.of_tri (N := 36) Try.func175 rfl rfl rfl (Sep.nil (M := noM)) ?_
 refine Tri.seq ?_
 refine Tri.reg (l := [0]) rfl ?_
 refine F.q rfl rfl rfl (wanted_none rfl) (r_assign rfl) ?_
 refine F.nil ?_
 refine Nrm.seq ?_
 refine Tri.seq ?_
 refine Tri.reg (l := [0]) rfl ?_
 refine F.q rfl rfl rfl (wanted_none rfl) (r_assign rfl) ?_
 refine F.nil ?_
 refine Nrm.seq ?_
 refine Tri.seq ?_
 refine Tri.seq ?_
 refine Tri.reg (l := [0]) rfl ?_
 refine F.q rfl rfl rfl (wanted_none rfl) (r_assign rfl) ?_
 refine F.nil ?_
 refine Nrm.seq ?_
 obtain ⟨s0, hE_1, h⟩ := bind_some h
 refine Tri.block ?_
 refine Tri.only [0, 1, 5, 6] rfl ?_
 refine Tri.pick [] rfl rfl ?_
 refine Tri.rounds (fun n e' C' => ∃ (x5' : Int) (x6' : Int), spec_l9Order.l0 k a1 n x5' x6' = some s0 ∧ e' = [(0, .int .i64 a0), (1, va1), (5, .int .i64 x5'), (6, .int .i64 x6')] ∧ C' = Sep w noM []) k ?_ ?_ ?_
 ·exact ⟨0, 0, hE_1, rfl, rfl⟩
 ·rintro _ _ ⟨_, _, hE_1, _⟩
  rw [spec_l9Order.l0.eq_1] at hE_1; cases hE_1
 ·rintro n_1 _ _ ⟨x5, x6, hE_1, rfl, rfl⟩ ih_1
  rw [spec_l9Order.l0.eq_2] at hE_1
  refine Tri.seq ?_
  refine Tri.seq ?_
  refine Tri.reg (l := [0, 1, 2, 3]) rfl ?_
  refine F.q rfl rfl rfl (wanted_none rfl) (r_move rfl) ?_
  refine F.q rfl rfl rfl (wanted_none rfl) (r_move rfl) ?_
  refine F.q rfl rfl rfl (wanted_none rfl) (r_len Try.underlying25 rfl hl_va1) ?_
  refine F.q rfl rfl rfl (wanted_none rfl) (r_lss rfl rfl) ?_
  refine F.nil ?_
  refine Nrm.seq ?_
  refine Tri.cond (b := decide (x6 < (a1.length : Int))) rfl (fun g_1 => ?_) (fun g_1 => ?_)
  ·replace hE_1 := if_tt g_1 hE_1
   refine Tri.skip ?_
   refine Nrm.seq ?_
   refine Tri.seq ?_
   refine Tri.block ?_
   refine Tri.seq ?_
   refine Tri.seq ?_
   obtain ⟨t15, h15, hE_1⟩ := bind_some hE_1
   obtain ⟨t17, h17, hE_1⟩ := bind_some hE_1
   refine Tri.reg (l := [0, 1, 2, 3, 4, 5]) rfl ?_
   refine F.q rfl rfl rfl (wanted_none rfl) (r_move rfl) ?_
   refine F.q rfl rfl rfl (wanted_none rfl) (r_move rfl) ?_
   refine F.q rfl rfl rfl (wanted_none rfl) (r_indexAddrS Try.underlying25 ti3 rfl hl_va1 rfl (rdl_some h15).1 (rdl_some h15).2.1) ?_
   refine F.q rfl rfl rfl (wanted_none rfl) (r_load ta3 rfl (fun w hw => cell_0 (Rd.flat ((fun _ hw => hr_a1.sep hw) w hw) (rdl_some h15).2.2) rfl)) ?_
   refine F.qc rfl rfl rfl (wanted_none rfl) (q_callF (xs := _) rfl ok105 rfl rfl (fun w hw => spec_l1In.ok h17 w )) ?_
   refine F.q rfl rfl rfl (wanted_none rfl) (r_not rfl) ?_
   refine F.nil ?_
   refine Nrm.seq ?_
   refine Tri.cond (b := !t17) rfl (fun g_2 => ?_) (fun g_2 => ?_)
   ·replace hE_1 := if_tt g_2 hE_1
    refine Tri.seq ?_
    refine Tri.reg (l := [0]) rfl ?_
    refine F.q rfl rfl rfl (wanted_none rfl) (r_assign rfl) ?_
    refine F.nil ?_
    refine Nrm.seq ?_
    refine Tri.ret ?_
    refine Rtn.then ?_
    refine Rtn.block ?_
    refine Rtn.then ?_
    refine Rtn.then ?_
    refine Rtn.block ?_
    refine Rtn.then ?_
    cases hE_1
    replace h := Lr_inr h
    cases h
    exact Rtn.body (.tmp rfl .nil) (fun w hw => ⟨rfl, hw.ext⟩)
   ·replace hE_1 := if_ff g_2 hE_1
    refine Tri.skip ?_
    refine Nrm.seq ?_
    obtain ⟨t22, h22, hE_1⟩ := bind_some hE_1
    obtain ⟨hs24, hE_1⟩ := ck hE_1
    refine Tri.reg (l := [0, 1, 2, 3, 4, 5, 6, 7]) rfl ?_
    iterate 3 refine F.q rfl rfl rfl (wanted_none rfl) (r_move rfl) ?_
    refine F.q rfl rfl rfl (wanted_none rfl) (r_indexAddrS Try.underlying25 ti3 rfl hl_va1 rfl (rdl_some h22).1 (rdl_some h22).2.1) ?_
    refine F.q rfl rfl rfl (wanted_none rfl) (r_load ta3 rfl (fun w hw => cell_0 (Rd.flat ((fun _ hw => hr_a1.sep hw) w hw) (rdl_some h22).2.2) rfl)) ?_
    refine F.q rfl rfl rfl (wanted_none rfl) (r_shl rfl rfl hs24) ?_
    refine F.q rfl rfl rfl (wanted_none rfl) (r_or rfl rfl) ?_
    refine F.q rfl rfl rfl (wanted_none rfl) (r_assign rfl) ?_
    refine F.nil ?_
    refine Nrm.block ?_
    refine Nrm.seq ?_
    refine Tri.reg (l := [0, 1, 2]) rfl ?_
    refine F.q rfl rfl rfl (wanted_none rfl) (r_move rfl) ?_
    refine F.q rfl rfl rfl (wanted_none rfl) (r_add rfl rfl) ?_
    refine F.q rfl rfl rfl (wanted_none rfl) (r_assign rfl) ?_
    refine F.nil ?_
    refine Nrm.round ?_
    refine Rnd.only [0, 1, 5, 6] rfl ?_
    refine Rnd.pick [] rfl rfl ?_
    exact ih_1 _ _ ⟨bor x5 (shl 1 t22), w64 (x6 + 1), hE_1, rfl, rfl⟩
  ·replace hE_1 := if_ff g_1 hE_1
   refine Tri.exit ?_
   refine Exi.then ?_
   refine Exi.then ?_
   refine Exi.same ?_
   cases hE_1
   replace h := Lr_inl h
   refine Nrm.seq ?_
   refine Tri.seq ?_
   obtain ⟨y4, hE_2, h⟩ := bind_some h
   refine Tri.cut (fun e' C' => e' = [(4, .bool y4)] ∧ C' = Sep w noM []) ?_ (fun hj_1 => ?_)
   ·rintro _ _ ⟨rfl, rfl⟩
    refine Nrm.seq ?_
    refine Tri.ret ?_
    cases h
    exact Rtn.body (.tmp rfl .nil) (fun w hw => ⟨rfl, hw.ext⟩)
   ·obtain ⟨t29, h29, hE_2⟩ := bind_some hE_2
    rcases Bool.eq_false_or_eq_true ((a1.length : Int) == t29) with g31 | g31
    ·replace hE_2 := if_tt g31 hE_2
     refine Tri.reg (l := [0, 1, 2, 3, 4, 5, 6, 7, 8, 9, 10]) rfl ?_
     refine F.q rfl rfl rfl (wanted_none rfl) (r_move rfl) ?_
     refine F.q rfl rfl rfl (wanted_none rfl) (r_len Try.underlying25 rfl hl_va1) ?_
     refine F.q rfl rfl rfl (wanted_none rfl) (r_move rfl) ?_
     refine F.qc rfl rfl rfl (wanted_none rfl) (q_callF (xs := _) rfl ok119 rfl rfl (fun w hw => spec_l2Many.ok h29 w )) ?_
     refine F.q rfl rfl rfl (wanted_none rfl) (r_eql rfl rfl) ?_
     refine F.q rfl rfl rfl (wanted_none rfl) (r_move rfl) ?_
     refine F.q rfl rfl rfl (wg rfl rfl rfl g31) (r_move rfl) ?_
     refine F.q rfl rfl rfl (wg rfl rfl rfl g31) (r_move rfl) ?_
     refine F.q rfl rfl rfl (wg rfl rfl rfl g31) (r_eql rfl rfl) ?_
     refine F.q rfl rfl rfl (wanted_none rfl) (r_pick rfl rfl g31) ?_
     refine F.q rfl rfl rfl (wanted_none rfl) (r_assign rfl) ?_
     refine F.nil ?_
     cases hE_2
     refine Nrm.only [4] rfl ?_
     refine Nrm.pick [] rfl rfl ?_
     exact hj_1 _ _ ⟨rfl, rfl⟩
    ·replace hE_2 := if_ff g31 hE_2
     refine Tri.reg (l := [0, 1, 2, 3, 4, 5, 6, 7, 8, 9, 10]) rfl ?_
     refine F.q rfl rfl rfl (wanted_none rfl) (r_move rfl) ?_
     refine F.q rfl rfl rfl (wanted_none rfl) (r_len Try.underlying25 rfl hl_va1) ?_
     refine F.q rfl rfl rfl (wanted_none rfl) (r_move rfl) ?_
     refine F.qc rfl rfl rfl (wanted_none rfl) (q_callF (xs := _) rfl ok119 rfl rfl (fun w hw => spec_l2Many.ok h29 w )) ?_
     refine F.q rfl rfl rfl (wanted_none rfl) (r_eql rfl rfl) ?_
     refine F.q rfl rfl rfl (wanted_none rfl) (r_move rfl) ?_
     iterate 3 refine F.sk rfl rfl rfl (wf rfl rfl rfl g31) ?_
     refine F.q rfl rfl rfl (wanted_none rfl) (r_pickf rfl rfl g31) ?_
     refine F.q rfl rfl rfl (wanted_none rfl) (r_assign rfl) ?_
     refine F.nil ?_
     cases hE_2
     refine Nrm.only [4] rfl ?_
     refine Nrm.pick [] rfl rfl ?_
     exact hj_1 _ _ ⟨rfl, rfl⟩

end Go.Proofs

/- loop.example/g01158/spec.l9Choices -/

namespace Go.Proofs
open Go Go.Ga
set_option linter.unusedVariables false
set_option maxRecDepth 100000
set_option maxHeartbeats 4000000
def spec_l9Choices.l0 (k : Nat) (a0 : List Int) : Nat → Int → Option ((Unit) ⊕ (Bool))
 | 0, _ => none
 | n + 1, x5 => (if (decide (x5 < (a0.length : Int))) = true then (rdl a0 x5).bind fun t14 => (if (decide (t14 < 0)) = true then some (Sum.inr false) else spec_l9Choices.l0 k a0 n (w64 (x5 + 1))) else some (Sum.inl ()))

def spec_l9Choices.f (k : Nat) (a0 : List Int) (a1 : Int) : Option (Bool) := (spec_l9Choices.l0 k a0 k 0).bind fun s => Lr s some fun _ => some ((a0.length : Int) == a1)

theorem spec_l9Choices.ok {k : Nat}  {a0 : List Int} {a1 : Int} {r0 : Bool} (h : spec_l9Choices.f k a0 a1 = some r0) (w : World) {va0 : Value} (hr_a0 : Rd w va0 a0) :
  Calls Try.prog 176 ([va0, .int .i64 a1] : List Value).toArray w (fun e w' => e = .returned (.bool r0) ∧ Ext w w') := by
 unfold spec_l9Choices.f at h
 have hl_va0 := hr_a0.len
 refine Calls.of_tri (N := 21) Try.func176 rfl rfl rfl (Sep.nil (M := noM)) ?_
 refine Tri.seq ?_
 refine Tri.reg (l := [0]) rfl ?_
 refine F.q rfl rfl rfl (wanted_none rfl) (r_assign rfl) ?_
 refine F.nil ?_
 refine Nrm.seq ?_
 refine Tri.seq ?_
 refine Tri.seq ?_
 refine Tri.reg (l := [0]) rfl ?_
 refine F.q rfl rfl rfl (wanted_none rfl) (r_assign rfl) ?_
 refine F.nil ?_
 refine Nrm.seq ?_
 obtain ⟨s0, hE_1, h⟩ := bind_some h
 refine Tri.block ?_
 refine Tri.only [0, 1, 5] rfl ?_
 refine Tri.pick [] rfl rfl ?_
 refine Tri.rounds (fun n e' C' => ∃ (x5' : Int), spec_l9Choices.l0 k a0 n x5' = some s0 ∧ e' = [(0, va0), (1, .int .i64 a1), (5, .int .i64 x5')] ∧ C' = Sep w noM []) k ?_ ?_ ?_
 ·exact ⟨0, hE_1, rfl, rfl⟩
 ·rintro _ _ ⟨_, hE_1, _⟩
  rw [spec_l9Choices.l0.eq_1] at hE_1; cases hE_1
 ·rintro n_1 _ _ ⟨x5, hE_1, rfl, rfl⟩ ih_1
  rw [spec_l9Choices.l0.eq_2] at hE_1
  refine Tri.seq ?_
  refine Tri.seq ?_
  refine Tri.reg (l := [0, 1, 2, 3]) rfl ?_
  refine F.q rfl rfl rfl (wanted_none rfl) (r_move rfl) ?_
  refine F.q rfl rfl rfl (wanted_none rfl) (r_move rfl) ?_
  refine F.q rfl rfl rfl (wanted_none rfl) (r_len Try.underlying25 rfl hl_va0) ?_
  refine F.q rfl rfl rfl (wanted_none rfl) (r_lss rfl rfl) ?_
  refine F.nil ?_
  refine Nrm.seq ?_
  refine Tri.cond (b := decide (x5 < (a0.length : Int))) rfl (fun g_1 => ?_) (fun g_1 => ?_)
  ·replace hE_1 := if_tt g_1 hE_1
   refine Tri.skip ?_
   refine Nrm.seq ?_
   refine Tri.seq ?_
   refine Tri.block ?_
   refine Tri.seq ?_
   obtain ⟨t14, h14, hE_1⟩ := bind_some hE_1
   refine Tri.reg (l := [0, 1, 2, 3, 4]) rfl ?_
   refine F.q rfl rfl rfl (wanted_none rfl) (r_move rfl) ?_
   refine F.q rfl rfl rfl (wanted_none rfl) (r_move rfl) ?_
   refine F.q rfl rfl rfl (wanted_none rfl) (r_indexAddrS Try.underlying25 ti3 rfl hl_va0 rfl (rdl_some h14).1 (rdl_some h14).2.1) ?_
   refine F.q rfl rfl rfl (wanted_none rfl) (r_load ta3 rfl (fun w hw => cell_0 (Rd.flat ((fun _ hw => hr_a0.sep hw) w hw) (rdl_some h14).2.2) rfl)) ?_
   refine F.q rfl rfl rfl (wanted_none rfl) (r_lss rfl rfl) ?_
   refine F.nil ?_
   refine Nrm.seq ?_
   refine Tri.cond (b := decide (t14 < 0)) rfl (fun g_2 => ?_) (fun g_2 => ?_)
   ·replace hE_1 := if_tt g_2 hE_1
    refine Tri.seq ?_
    refine Tri.reg (l := [0]) rfl ?_
    refine F.q rfl rfl rfl (wanted_none rfl) (r_assign rfl) ?_
    refine F.nil ?_
    refine Nrm.seq ?_
    refine Tri.ret ?_
    refine Rtn.block ?_
    refine Rtn.then ?_
    refine Rtn.then ?_
    refine Rtn.block ?_
    refine Rtn.then ?_
    cases hE_1
    replace h := Lr_inr h
    cases h
    exact Rtn.body (.tmp rfl .nil) (fun w hw => ⟨rfl, hw.ext⟩)
   ·replace hE_1 := if_ff g_2 hE_1
    refine Tri.skip ?_
    refine Nrm.block ?_
    refine Nrm.seq ?_
    refine Tri.reg (l := [0, 1, 2]) rfl ?_
    refine F.q rfl rfl rfl (wanted_none rfl) (r_move rfl) ?_
    refine F.q rfl rfl rfl (wanted_none rfl) (r_add rfl rfl) ?_
    refine F.q rfl rfl rfl (wanted_none rfl) (r_assign rfl) ?_
    refine F.nil ?_
    refine Nrm.round ?_
    refine Rnd.only [0, 1, 5] rfl ?_
    refine Rnd.pick [] rfl rfl ?_
    exact ih_1 _ _ ⟨w64 (x5 + 1), hE_1, rfl, rfl⟩
  ·replace hE_1 := if_ff g_1 hE_1
   refine Tri.exit ?_
   refine Exi.then ?_
   refine Exi.then ?_
   refine Exi.same ?_
   cases hE_1
   replace h := Lr_inl h
   refine Nrm.seq ?_
   refine Tri.seq ?_
   refine Tri.reg (l := [0, 1, 2, 3, 4]) rfl ?_
   refine F.q rfl rfl rfl (wanted_none rfl) (r_move rfl) ?_
   refine F.q rfl rfl rfl (wanted_none rfl) (r_len Try.underlying25 rfl hl_va0) ?_
   refine F.q rfl rfl rfl (wanted_none rfl) (r_move rfl) ?_
   refine F.q rfl rfl rfl (wanted_none rfl) (r_eql rfl rfl) ?_
   refine F.q rfl rfl rfl (wanted_none rfl) (r_assign rfl) ?_
   refine F.nil ?_
   refine Nrm.seq ?_
   refine Tri.ret ?_
   cases h
   exact Rtn.body (.tmp rfl .nil) (fun w hw => ⟨rfl, hw.ext⟩)

end Go.Proofs

/- loop.example/g01158/spec.l9Makes -/
namespace Go.Proofs
open Go Go.Ga
set_option linter.unusedVariables false
set_option maxRecDepth 100000
set_option maxHeartbeats 4000000
def spec_l9Makes.f (k : Nat) (a0_0 : Int) (a0_1 : List (Int × Int × Int)) (a0_2 : List Int) (a1 : Int) (a2 : List Int) (a3 : List Int) : Option (Bool) := ((spec_l9Ask.f k a0_0 a0_1 a0_2 a1).bind fun t11 => (if t11 = true then (spec_l9Order.f k a1 a2).bind fun t15 => (if t15 = true then (spec_l9Choices.f k a3 (a2.length : Int)).bind fun t21 => some t21 else some false) else some false)).bind fun y8 => some y8

theorem spec_l9Makes.ok {k : Nat}  {a0_0 : Int} {a0_1 : List (Int × Int × Int)} {a0_2 : List Int} {a1 : Int} {a2 : List Int} {a3 : List Int} {r0 : Bool} (h : spec_l9Makes.f k a0_0 a0_1 a0_2 a1 a2 a3 = some r0) (w : World) {va0_1 : Value} {va0_2 : Value} {va2 : Value} {va3 : Value} (hr_a0_1 : Rd w va0_1 a0_1) (hr_a0_2 : Rd w va0_2 a0_2) (hr_a2 : Rd w va2 a2) (hr_a3 : Rd w va3 a3) :
  Calls Try.prog 107 ([.agg ([.int .i64 a0_0, va0_1, va0_2].toArray), .int .i64 a1, va2, va3] : List Value).toArray w (fun e w' => e = .returned (.bool r0) ∧ Ext w w') := by
 unfold spec_l9Makes.f at h
 have hl_va0_1 := hr_a0_1.len
 have hl_va0_2 := hr_a0_2.len
 have hl_va2 := hr_a2.len
 have hl_va3 := hr_a3.len
 refine Calls.of_tri (N := 23) Try.func107 rfl rfl rfl (Sep.nil (M := noM)) ?_
 refine Tri.seq ?_
 refine Tri.reg (l := [0, 1]) rfl ?_
 refine F.m rfl rfl rfl (wanted_none rfl) (m_boxG rfl rfl) ?_
 rintro _ _ ⟨b4_1, rfl, rfl⟩
 refine F.q rfl rfl rfl (wanted_none rfl) (r_assign rfl) ?_
 refine F.nil ?_
 refine Nrm.seq ?_
 refine Tri.seq ?_
 obtain ⟨y8, hE_1, h⟩ := bind_some h
 refine Tri.cut (fun e' C' => e' = [(8, .bool y8)] ∧ C' = Sep w noM []) ?_ (fun hj_1 => ?_)
 ·rintro _ _ ⟨rfl, rfl⟩
  refine Nrm.seq ?_
  refine Tri.ret ?_
  cases h
  exact Rtn.body (.tmp rfl .nil) (fun w hw => ⟨rfl, hw.ext⟩)
 ·obtain ⟨t11, h11, hE_1⟩ := bind_some hE_1
  rcases Bool.eq_false_or_eq_true (t11) with g12 | g12
  ·replace hE_1 := if_tt g12 hE_1
   obtain ⟨t15, h15, hE_1⟩ := bind_some hE_1
   rcases Bool.eq_false_or_eq_true (t15) with g17 | g17
   ·replace hE_1 := if_tt g17 hE_1
    obtain ⟨t21, h21, hE_1⟩ := bind_some hE_1
    refine Tri.reg (l := [0, 1, 2, 3, 4, 5, 6, 7, 8, 9, 10, 11, 12, 13, 14]) rfl ?_
    refine F.q rfl rfl rfl (wanted_none rfl) (r_loadA ta27 ti27 rfl rfl (fun w hw => (box_cells (i := 0) rfl w hw))) ?_
    refine F.q rfl rfl rfl (wanted_none rfl) (r_move rfl) ?_
    refine F.qc rfl rfl rfl (wanted_none rfl) (q_callF (xs := _) rfl ok117 rfl rfl (fun w hw => spec_l9Ask.ok h11 w ((fun _ hw => hr_a0_1.sep hw) w hw) ((fun _ hw => hr_a0_2.sep hw) w hw))) ?_
    refine F.q rfl rfl rfl (wanted_none rfl) (r_move rfl) ?_
    refine F.q rfl rfl rfl (wg rfl rfl rfl g12) (r_move rfl) ?_
    refine F.q rfl rfl rfl (wg rfl rfl rfl g12) (r_move rfl) ?_
    refine F.qc rfl rfl rfl (wg rfl rfl rfl g12) (q_callF (xs := _) rfl ok175 rfl rfl (fun w hw => spec_l9Order.ok h15 w ((fun _ hw => hr_a2.sep hw) w hw))) ?_
    refine F.q rfl rfl rfl (wanted_none rfl) (r_pick rfl rfl g12) ?_
    refine F.q rfl rfl rfl (wanted_none rfl) (r_move rfl) ?_
    refine F.q rfl rfl rfl (wg rfl rfl rfl g17) (r_move rfl) ?_
    refine F.q rfl rfl rfl (wg rfl rfl rfl g17) (r_move rfl) ?_
    refine F.q rfl rfl rfl (wg rfl rfl rfl g17) (r_len Try.underlying25 rfl hl_va2) ?_
    refine F.qc rfl rfl rfl (wg rfl rfl rfl g17) (q_callF (xs := _) rfl ok176 rfl rfl (fun w hw => spec_l9Choices.ok h21 w ((fun _ hw => hr_a3.sep hw) w hw))) ?_
    refine F.q rfl rfl rfl (wanted_none rfl) (r_pick rfl rfl g17) ?_
    refine F.q rfl rfl rfl (wanted_none rfl) (r_assign rfl) ?_
    refine F.nil ?_
    cases hE_1
    refine Nrm.only [8] rfl ?_
    refine Nrm.pick [] rfl rfl ?_
    exact hj_1 _ _ ⟨rfl, rfl⟩
   ·replace hE_1 := if_ff g17 hE_1
    refine Tri.reg (l := [0, 1, 2, 3, 4, 5, 6, 7, 8, 9, 10, 11, 12, 13, 14]) rfl ?_
    refine F.q rfl rfl rfl (wanted_none rfl) (r_loadA ta27 ti27 rfl rfl (fun w hw => (box_cells (i := 0) rfl w hw))) ?_
    refine F.q rfl rfl rfl (wanted_none rfl) (r_move rfl) ?_
    refine F.qc rfl rfl rfl (wanted_none rfl) (q_callF (xs := _) rfl ok117 rfl rfl (fun w hw => spec_l9Ask.ok h11 w ((fun _ hw => hr_a0_1.sep hw) w hw) ((fun _ hw => hr_a0_2.sep hw) w hw))) ?_
    refine F.q rfl rfl rfl (wanted_none rfl) (r_move rfl) ?_
    refine F.q rfl rfl rfl (wg rfl rfl rfl g12) (r_move rfl) ?_
    refine F.q rfl rfl rfl (wg rfl rfl rfl g12) (r_move rfl) ?_
    refine F.qc rfl rfl rfl (wg rfl rfl rfl g12) (q_callF (xs := _) rfl ok175 rfl rfl (fun w hw => spec_l9Order.ok h15 w ((fun _ hw => hr_a2.sep hw) w hw))) ?_
    refine F.q rfl rfl rfl (wanted_none rfl) (r_pick rfl rfl g12) ?_
    refine F.q rfl rfl rfl (wanted_none rfl) (r_move rfl) ?_
    iterate 4 refine F.sk rfl rfl rfl (wf rfl rfl rfl g17) ?_
    refine F.q rfl rfl rfl (wanted_none rfl) (r_pickf rfl rfl g17) ?_
    refine F.q rfl rfl rfl (wanted_none rfl) (r_assign rfl) ?_
    refine F.nil ?_
    cases hE_1
    refine Nrm.only [8] rfl ?_
    refine Nrm.pick [] rfl rfl ?_
    exact hj_1 _ _ ⟨rfl, rfl⟩
  ·replace hE_1 := if_ff g12 hE_1
   refine Tri.reg (l := [0, 1, 2, 3, 4, 5, 6, 7, 8, 9, 10, 11, 12, 13, 14]) rfl ?_
   refine F.q rfl rfl rfl (wanted_none rfl) (r_loadA ta27 ti27 rfl rfl (fun w hw => (box_cells (i := 0) rfl w hw))) ?_
   refine F.q rfl rfl rfl (wanted_none rfl) (r_move rfl) ?_
   refine F.qc rfl rfl rfl (wanted_none rfl) (q_callF (xs := _) rfl ok117 rfl rfl (fun w hw => spec_l9Ask.ok h11 w ((fun _ hw => hr_a0_1.sep hw) w hw) ((fun _ hw => hr_a0_2.sep hw) w hw))) ?_
   refine F.q rfl rfl rfl (wanted_none rfl) (r_move rfl) ?_
   iterate 3 refine F.sk rfl rfl rfl (wf rfl rfl rfl g12) ?_
   refine F.q rfl rfl rfl (wanted_none rfl) (r_pickf rfl rfl g12) ?_
   refine F.q rfl rfl rfl (wanted_none rfl) (r_move rfl) ?_
   iterate 4 refine F.sk rfl rfl rfl (wf rfl rfl rfl rfl) ?_
   refine F.q rfl rfl rfl (wanted_none rfl) (r_pickf rfl rfl rfl) ?_
   refine F.q rfl rfl rfl (wanted_none rfl) (r_assign rfl) ?_
   refine F.nil ?_
   cases hE_1
   refine Nrm.only [8] rfl ?_
   refine Nrm.pick [] rfl rfl ?_
   exact hj_1 _ _ ⟨rfl, rfl⟩

end Go.Proofs

/- loop.example/g01158/spec.l9Place -/

namespace Go.Proofs
open Go Go.Ga
set_option linter.unusedVariables false
set_option maxRecDepth 100000
set_option maxHeartbeats 4000000
def spec_l9Place.l0 (k : Nat) (a0 : List Int) (a1 : Int) : Nat → Int → Option (Int)
 | 0, _ => none
 | n + 1, x5 => (rdl a0 x5).bind fun t8 => (if (t8 != a1) = true then spec_l9Place.l0 k a0 a1 n (w64 (x5 + 1)) else some x5)

def spec_l9Place.f (k : Nat) (a0 : List Int) (a1 : Int) : Option (Int) := (spec_l9Place.l0 k a0 a1 k 0).bind fun x5 => some x5

theorem spec_l9Place.ok {k : Nat}  {a0 : List Int} {a1 : Int} {r0 : Int} (h : spec_l9Place.f k a0 a1 = some r0) (w : World) {va0 : Value} (hr_a0 : Rd w va0 a0) :
  Calls Try.prog 100 ([va0, .int .i64 a1] : List Value).toArray w (fun e w' => e = .returned (.int .i64 r0) ∧ Ext w w') := by
 unfold spec_l9Place.f at h
 have hl_va0 := hr_a0.len
 refine Calls.of_tri (N := 15) Try.func100 rfl rfl rfl (Sep.nil (M := noM)) ?_
 refine Tri.seq ?_
 refine Tri.reg (l := [0]) rfl ?_
 refine F.q rfl rfl rfl (wanted_none rfl) (r_assign rfl) ?_
 refine F.nil ?_
 refine Nrm.seq ?_
 refine Tri.seq ?_
 refine Tri.reg (l := [0]) rfl ?_
 refine F.q rfl rfl rfl (wanted_none rfl) (r_assign rfl) ?_
 refine F.nil ?_
 refine Nrm.seq ?_
 refine Tri.seq ?_
 obtain ⟨x5, hE_1, h⟩ := bind_some h
 refine Tri.block ?_
 refine Tri.only [0, 1, 5] rfl ?_
 refine Tri.pick [] rfl rfl ?_
 refine Tri.rounds (fun n e' C' => ∃ (x5' : Int), spec_l9Place.l0 k a0 a1 n x5' = some x5 ∧ e' = [(0, va0), (1, .int .i64 a1), (5, .int .i64 x5')] ∧ C' = Sep w noM []) k ?_ ?_ ?_
 ·exact ⟨0, hE_1, rfl, rfl⟩
 ·rintro _ _ ⟨_, hE_1, _⟩
  rw [spec_l9Place.l0.eq_1] at hE_1; cases hE_1
 ·rintro n_1 _ _ ⟨x5, hE_1, rfl, rfl⟩ ih_1
  rw [spec_l9Place.l0.eq_2] at hE_1
  refine Tri.seq ?_
  refine Tri.seq ?_
  obtain ⟨t8, h8, hE_1⟩ := bind_some hE_1
  refine Tri.reg (l := [0, 1, 2, 3, 4, 5]) rfl ?_
  refine F.q rfl rfl rfl (wanted_none rfl) (r_move rfl) ?_
  refine F.q rfl rfl rfl (wanted_none rfl) (r_move rfl) ?_
  refine F.q rfl rfl rfl (wanted_none rfl) (r_indexAddrS Try.underlying25 ti3 rfl hl_va0 rfl (rdl_some h8).1 (rdl_some h8).2.1) ?_
  refine F.q rfl rfl rfl (wanted_none rfl) (r_load ta3 rfl (fun w hw => cell_0 (Rd.flat ((fun _ hw => hr_a0.sep hw) w hw) (rdl_some h8).2.2) rfl)) ?_
  refine F.q rfl rfl rfl (wanted_none rfl) (r_move rfl) ?_
  refine F.q rfl rfl rfl (wanted_none rfl) (r_neq rfl rfl) ?_
  refine F.nil ?_
  refine Nrm.seq ?_
  refine Tri.cond (b := t8 != a1) rfl (fun g_1 => ?_) (fun g_1 => ?_)
  ·replace hE_1 := if_tt g_1 hE_1
   refine Tri.skip ?_
   refine Nrm.seq ?_
   refine Tri.block ?_
   refine Tri.reg (l := [0, 1, 2]) rfl ?_
   refine F.q rfl rfl rfl (wanted_none rfl) (r_move rfl) ?_
   refine F.q rfl rfl rfl (wanted_none rfl) (r_add rfl rfl) ?_
   refine F.q rfl rfl rfl (wanted_none rfl) (r_assign rfl) ?_
   refine F.nil ?_
   refine Nrm.block ?_
   refine Nrm.round ?_
   refine Rnd.only [0, 1, 5] rfl ?_
   refine Rnd.pick [] rfl rfl ?_
   exact ih_1 _ _ ⟨w64 (x5 + 1), hE_1, rfl, rfl⟩
  ·replace hE_1 := if_ff g_1 hE_1
   refine Tri.exit ?_
   refine Exi.then ?_
   refine Exi.then ?_
   refine Exi.same ?_
   cases hE_1
   refine Nrm.seq ?_
   refine Tri.seq ?_
   refine Tri.reg (l := [0, 1]) rfl ?_
   refine F.q rfl rfl rfl (wanted_none rfl) (r_move rfl) ?_
   refine F.q rfl rfl rfl (wanted_none rfl) (r_assign rfl) ?_
   refine F.nil ?_
   refine Nrm.seq ?_
   refine Tri.ret ?_
   cases h
   exact Rtn.body (.tmp rfl .nil) (fun w hw => ⟨rfl, hw.ext⟩)

end Go.Proofs

/- loop.example/g01158/spec.l1Own -/

namespace Go.Proofs
open Go Go.Ga
set_option linter.unusedVariables false
set_option maxRecDepth 100000
set_option maxHeartbeats 4000000
def spec_l1Own.f (k : Nat) (a0 : List Int) : Option ((List Int)) := if (([] : List (Int)) ++ a0).length < 1099511627776 then some (([] : List (Int)) ++ a0) else none

theorem spec_l1Own.ok {k : Nat}  {a0 : List Int} {r0 : List Int} (h : spec_l1Own.f k a0 = some r0) (w : World) {va0 : Value} (hr_a0 : Rd w va0 a0) :
  Calls Try.prog 183 ([va0] : List Value).toArray w (Post (fun u ns => ∃ (Sr0 : Nat → Prop), SlLen u r0.length ∧ ns = [R.sl Sr0 u r0]) w) := by
 unfold spec_l1Own.f at h
 have hl_va0 := hr_a0.len
 refine Calls.of_tri (N := 6) Try.func183 rfl rfl rfl (Sep.nil (M := noM)) ?_
 refine Tri.seq ?_
 refine Tri.reg (l := [0]) rfl ?_
 refine F.q rfl rfl rfl (wanted_none rfl) (r_assign rfl) ?_
 refine F.nil ?_
 refine Nrm.seq ?_
 refine Tri.seq ?_
 obtain ⟨hs5, h⟩ := ck h
 refine Tri.reg (l := [0, 1, 2, 3]) rfl ?_
 refine F.m rfl rfl rfl (wanted_none rfl) (m_build0 (α := Int) Try.underlying25 ti3) ?_
 rintro v3_1 _ ⟨S3_1, hl_v3_1, rfl⟩
 refine F.q rfl rfl rfl (wanted_none rfl) (r_move rfl) ?_
 refine F.ef rfl rfl rfl (wanted_none rfl) (d_append (i := 0) Try.underlying25 Try.underlying25 ti3 rfl (by decide) rfl rfl rfl (fun _ hw => hr_a0.sep hw) hs5) ?_
 rintro v5_1 _ ⟨S5_1, rfl, hl_v5_1⟩
 refine F.q rfl rfl rfl (wanted_none rfl) (r_assign rfl) ?_
 refine F.nil ?_
 refine Nrm.seq ?_
 refine Tri.ret ?_
 cases h
 exact Rtn.body (.tmp rfl .nil) (fun w hw => ⟨_, _, rfl, ⟨S5_1, hl_v5_1, rfl⟩, Sep.pick (is := [0]) rfl rfl hw⟩)

end Go.Proofs

/- loop.example/g01158/spec.l2Own -/
namespace Go.Proofs
open Go Go.Ga
set_option linter.unusedVariables false
set_option maxRecDepth 100000
set_option maxHeartbeats 4000000
def spec_l2Own.f (k : Nat) (a0_0 : Int) (a0_1 : List (Int × Int × Int)) (a0_2 : List Int) : Option (Int × (List (Int × Int × Int)) × (List Int)) := if (([] : List (Int × Int × Int)) ++ a0_1).length < 1099511627776 then (spec_l1Own.f k a0_2).bind fun t11 => some (a0_0, ([] : List (Int × Int × Int)) ++ a0_1, t11) else none

theorem spec_l2Own.ok {k : Nat}  {a0_0 : Int} {a0_1 : List (Int × Int × Int)} {a0_2 : List Int} {r0 : Int} {r1 : List (Int × Int × Int)} {r2 : List Int} (h : spec_l2Own.f k a0_0 a0_1 a0_2 = some (r0, r1, r2)) (w : World) {va0_1 : Value} {va0_2 : Value} (hr_a0_1 : Rd w va0_1 a0_1) (hr_a0_2 : Rd w va0_2 a0_2) :
  Calls Try.prog 182 ([.agg ([.int .i64 a0_0, va0_1, va0_2].toArray)] : List Value).toArray w (Post (fun u ns => ∃ (ur1 : Value) (Sr1 : Nat → Prop) (ur2 : Value) (Sr2 : Nat → Prop), u = .agg [.int .i64 r0, ur1, ur2].toArray ∧ SlLen ur1 r1.length ∧ SlLen ur2 r2.length ∧ ns = [R.sl Sr1 ur1 r1, R.sl Sr2 ur2 r2]) w) := by
 unfold spec_l2Own.f at h
 have hl_va0_1 := hr_a0_1.len
 have hl_va0_2 := hr_a0_2.len
 refine Calls.of_tri (N := 13) Try.func182 rfl rfl rfl (Sep.nil (M := noM)) ?_
 refine Tri.seq ?_
 refine Tri.reg (l := [0, 1]) rfl ?_
 refine F.m rfl rfl rfl (wanted_none rfl) (m_boxG rfl rfl) ?_
 rintro _ _ ⟨b1_1, rfl, rfl⟩
 refine F.m rfl rfl rfl (wanted_none rfl) (m_alloc ti27) ?_
 rintro _ _ ⟨b2_1, rfl, rfl⟩
 refine F.nil ?_
 refine Nrm.seq ?_
 refine Tri.seq ?_
 obtain ⟨hs8, h⟩ := ck h
 obtain ⟨t11, h11, h⟩ := bind_some h
 refine Tri.drawB mixedT Sep.up [(0, true), (1, true), (3, true), (4, true), (6, true), (7, true), (2, false), (5, false), (8, false)] [9, 10] (by kernel_rfl) ?_
 refine B.q rfl rfl rfl (wanted_none rfl) (r_fieldAddr tf27_0 rfl) ?_
 refine B.q rfl rfl rfl (wanted_none rfl) (r_load ta3 rfl (fun w hw => cell_1 (box_cells (i := 1) rfl w hw) rfl)) ?_
 refine B.q rfl rfl rfl (wanted_none rfl) (r_fieldAddr tf27_1 rfl) ?_
 refine B.q rfl rfl rfl (wanted_none rfl) (r_load ta24 rfl (fun w hw => cell_1 (box_cells (i := 1) rfl w hw) rfl)) ?_
 refine B.q rfl rfl rfl (wanted_none rfl) (r_fieldAddr tf27_2 rfl) ?_
 refine B.q rfl rfl rfl (wanted_none rfl) (r_load ta25 rfl (fun w hw => cell_1 (box_cells (i := 1) rfl w hw) rfl)) ?_
 refine B.ef rfl rfl rfl (wanted_none rfl) (Makes.does (m_build0 (α := Int × Int × Int) Try.underlying24 ti121)) (by rintro v5_2 _ ⟨S5_2, hl_v5_2, rfl⟩; exact upd rfl [1, 2] rfl rfl) ?_
 rintro v5_2 _ ⟨S5_2, hl_v5_2, rfl⟩
 refine B.ef rfl rfl rfl (wanted_none rfl) (d_append (i := 0) Try.underlying24 Try.underlying24 ti121 rfl (by decide) rfl rfl rfl (fun _ hw => hr_a0_1.sep hw) hs8) (by rintro v8_2 _ ⟨S8_2, rfl, hl_v8_2⟩; exact upd rfl [1, 2] rfl rfl) ?_
 rintro v8_2 _ ⟨S8_2, rfl, hl_v8_2⟩
 refine B.ef rfl rfl rfl (wanted_none rfl) (Makes.does (m_callF (xs := _) rfl ok183 rfl rfl (fun w hw => spec_l1Own.ok h11 w ((fun _ hw => hr_a0_2.sep hw) w hw)))) (by rintro v11_2 _ ⟨_, ⟨S11_2, hl_v11_2, rfl⟩, rfl⟩; exact upd rfl [2, 3] rfl rfl) ?_
 rintro v11_2 _ ⟨_, ⟨S11_2, hl_v11_2, rfl⟩, rfl⟩
 refine B.nil ?_
 refine F.q rfl rfl rfl (wanted_none rfl) (r_build (pl := [(0, 1), (1, 1), (2, 1)]) (qs := [(0, [.int .i64 a0_0]), (1, [v8_2]), (2, [v11_2])]) (cs := [.int .i64 a0_0, v8_2, v11_2]) (by kernel_rfl) ti27 rfl (.cons rfl rfl (Nat.le_of_ble_eq_true rfl) (.cons (sl_cells hl_v8_2) rfl (Nat.le_of_ble_eq_true rfl) (.cons (sl_cells hl_v11_2) rfl (Nat.le_of_ble_eq_true rfl) .nil))) rfl rfl) ?_
 refine F.ef0 rfl rfl (wanted_none rfl) (d_storeG0 (i := 2) (cs2 := [.int .i64 a0_0, v8_2, v11_2]) ti27 rfl rfl rfl rfl rfl (Nat.le_of_ble_eq_true rfl) (lf_cons rfl (lf_cons (sl_leaf hl_v8_2) (lf_cons (sl_leaf hl_v11_2) lf_nil)))) ?_
 rintro _ _ ⟨rfl, rfl⟩
 refine F.nil ?_
 refine Nrm.seq ?_
 refine Tri.ret ?_
 cases h
 exact Rtn.body (.cell rfl ta27 ti27 rfl (fun _ hw => box_cells (i := 2) rfl _ hw) .nil) (fun w hw => ⟨_, _, rfl, ⟨v8_2, S8_2, v11_2, S11_2, rfl, hl_v8_2, hl_v11_2, rfl⟩, Sep.pick (is := [1, 0]) rfl rfl hw⟩)

end Go.Proofs

/- loop.example/g01158/spec.l9Lay -/
namespace Go.Proofs
open Go Go.Ga
set_option linter.unusedVariables false
set_option maxRecDepth 100000
set_option maxHeartbeats 4000000
def spec_l9Lay.l1 (k : Nat) (a1 : List Int) (a2 : List Int) : Nat → Int → (List (Int)) → Option ((List (Int)))
 | 0, _, _ => none
 | n + 1, x9, xq7_1_2r => (if (decide (x9 < (a2.length : Int))) = true then (rdl a2 x9).bind fun t32 => (rdl a2 x9).bind fun t38 => (rdl xq7_1_2r t38).bind fun t40 => (rdl a1 x9).bind fun t44 => if ¬ t44 < 0 then (rdl xq7_1_2r t32).bind fun t48 => spec_l9Lay.l1 k a1 a2 n (w64 (x9 + 1)) (xq7_1_2r.set t32.toNat (bor t40 (shl 1 t44))) else none else some xq7_1_2r)

def spec_l9Lay.l0 (k : Nat) (a0_0 : Int) : Nat → Int → (List (Int)) → Option ((List (Int)))
 | 0, _, _ => none
 | n + 1, x8, xq7_1_2 => (if (decide (x8 < a0_0)) = true then (rdl xq7_1_2 x8).bind fun t21 => spec_l9Lay.l0 k a0_0 n (w64 (x8 + 1)) (xq7_1_2.set x8.toNat 0) else some xq7_1_2)

def spec_l9Lay.f (k : Nat) (a0_0 : Int) (a0_1 : List (Int × Int × Int)) (a0_2 : List Int) (a1 : List Int) (a2 : List Int) : Option (Int × (List (Int × Int × Int)) × (List Int)) := (spec_l2Own.f k a0_0 a0_1 a0_2).bind fun (t11_1, t11_2, t11_3) => (spec_l9Lay.l0 k a0_0 k 0 t11_3).bind fun xq7_1_2 => (spec_l9Lay.l1 k a1 a2 k 0 xq7_1_2).bind fun xq7_1_2r => some (t11_1, t11_2, xq7_1_2r)

theorem spec_l9Lay.ok {k : Nat}  {a0_0 : Int} {a0_1 : List (Int × Int × Int)} {a0_2 : List Int} {a1 : List Int} {a2 : List Int} {r0 : Int} {r1 : List (Int × Int × Int)} {r2 : List Int} (h : spec_l9Lay.f k a0_0 a0_1 a0_2 a1 a2 = some (r0, r1, r2)) (w : World) {va0_1 : Value} {va0_2 : Value} {va1 : Value} {va2 : Value} (hr_a0_1 : Rd w va0_1 a0_1) (hr_a0_2 : Rd w va0_2 a0_2) (hr_a1 : Rd w va1 a1) (hr_a2 : Rd w va2 a2) :
  Calls Try.prog 114 ([.agg ([.int .i64 a0_0, va0_1, va0_2].toArray), va1, va2] : List Value).toArray w (Post (fun u ns => ∃ (ur1 : Value) (Sr1 : Nat → Prop) (ur2 : Value) (Sr2 : Nat → Prop), u = .agg [.int .i64 r0, ur1, ur2].toArray ∧ SlLen ur1 r1.length ∧ SlLen ur2 r2.length ∧ ns = [R.sl Sr1 ur1 r1, R.sl Sr2 ur2 r2]) w) := by
 unfold spec_l9Lay.f at h
 have hl_va0_1 := hr_a0_1.len
 have hl_va0_2 := hr_a0_2.len
 have hl_va1 := hr_a1.len
 have hl_va2 := hr_a2.len
 refine Calls.of_tri (N := 50) Try.func114 rfl rfl rfl (Sep.nil (M := noM)) ?_
 refine Tri.seq ?_
 refine Tri.reg (l := [0, 1]) rfl ?_
 refine F.m rfl rfl rfl (wanted_none rfl) (m_boxG rfl rfl) ?_
 rintro _ _ ⟨b3_1, rfl, rfl⟩
 refine F.m rfl rfl rfl (wanted_none rfl) (m_alloc ti27) ?_
 rintro _ _ ⟨b6_1, rfl, rfl⟩
 refine F.nil ?_
 refine Nrm.seq ?_
 refine Tri.seq ?_
 obtain ⟨⟨t11_1, t11_2, t11_3⟩, h11, h⟩ := bind_some h
 refine Tri.reg (l := [0, 1, 2, 3]) rfl ?_
 refine F.q rfl rfl rfl (wanted_none rfl) (r_loadA ta27 ti27 rfl rfl (fun w hw => (box_cells (i := 1) rfl w hw))) ?_
 refine F.m rfl rfl rfl (wanted_none rfl) (m_callF (xs := _) rfl ok182 rfl rfl (fun w hw => spec_l2Own.ok h11 w ((fun _ hw => hr_a0_1.sep hw) w hw) ((fun _ hw => hr_a0_2.sep hw) w hw))) ?_
 rintro _ _ ⟨_, ⟨v11_1, S11_1, v11_2, S11_2, rfl, hl_v11_1, hl_v11_2, rfl⟩, rfl⟩
 refine F.m rfl rfl rfl (wanted_none rfl) (m_alloc ti27) ?_
 rintro _ _ ⟨b7_1, rfl, rfl⟩
 refine F.ef0 rfl rfl (wanted_none rfl) (d_storeG0 (i := 0) (cs2 := [.int .i64 t11_1, v11_1, v11_2]) ti27 rfl rfl rfl rfl rfl (Nat.le_of_ble_eq_true rfl) (lf_cons rfl (lf_cons (sl_leaf hl_v11_1) (lf_cons (sl_leaf hl_v11_2) lf_nil)))) ?_
 rintro _ _ ⟨rfl, rfl⟩
 refine F.nil ?_
 refine Nrm.seq ?_
 refine Tri.seq ?_
 refine Tri.seq ?_
 refine Tri.reg (l := [0]) rfl ?_
 refine F.q rfl rfl rfl (wanted_none rfl) (r_assign rfl) ?_
 refine F.nil ?_
 refine Nrm.seq ?_
 obtain ⟨xq7_1_2, hE_1, h⟩ := bind_some h
 refine Tri.block ?_
 refine Tri.only [1, 2, 3, 6, 7, 8] rfl ?_
 refine Tri.pick [0, 3, 4, 1, 2] rfl rfl ?_
 refine Tri.rounds (fun n e' C' => ∃ (x8' : Int) (xq7_1_2' : List (Int)), spec_l9Lay.l0 k a0_0 n x8' xq7_1_2' = some xq7_1_2 ∧ SlLen v11_2 (xq7_1_2').length ∧ e' = [(1, va1), (2, va2), (3, .pointer (some ⟨b3_1, 0, none⟩)), (6, .pointer (some ⟨b6_1, 0, none⟩)), (7, .pointer (some ⟨b7_1, 0, none⟩)), (8, .int .i64 x8')] ∧ C' = Sep w noM [R.box b7_1 27 [.int .i64 t11_1, v11_1, v11_2], R.box b6_1 27 [.int .i64 0, .slice none 0 0, .slice none 0 0], R.box b3_1 27 [.int .i64 a0_0, va0_1, va0_2], R.sl S11_1 v11_1 (t11_2 : List (Int × Int × Int)), R.sl S11_2 v11_2 (xq7_1_2' : List (Int))]) k ?_ ?_ ?_
 ·exact ⟨0, t11_3, hE_1, hl_v11_2, rfl, rfl⟩
 ·rintro _ _ ⟨_, _, hE_1, _⟩
  rw [spec_l9Lay.l0.eq_1] at hE_1; cases hE_1
 ·rintro n_1 _ _ ⟨x8, xq7_1_2, hE_1, hl_xq7_1_2, rfl, rfl⟩ ih_1
  rw [spec_l9Lay.l0.eq_2] at hE_1
  refine Tri.seq ?_
  refine Tri.seq ?_
  refine Tri.reg (l := [0, 1, 2, 3]) rfl ?_
  refine F.q rfl rfl rfl (wanted_none rfl) (r_move rfl) ?_
  refine F.q rfl rfl rfl (wanted_none rfl) (r_fieldAddr tf27_0 rfl) ?_
  refine F.q rfl rfl rfl (wanted_none rfl) (r_load ta3 rfl (fun w hw => cell_1 (box_cells (i := 2) rfl w hw) rfl)) ?_
  refine F.q rfl rfl rfl (wanted_none rfl) (r_lss rfl rfl) ?_
  refine F.nil ?_
  refine Nrm.seq ?_
  refine Tri.cond (b := decide (x8 < a0_0)) rfl (fun g_1 => ?_) (fun g_1 => ?_)
  ·replace hE_1 := if_tt g_1 hE_1
   refine Tri.skip ?_
   refine Nrm.seq ?_
   refine Tri.seq ?_
   refine Tri.block ?_
   obtain ⟨t21, h21, hE_1⟩ := bind_some hE_1
   refine Tri.reg (l := [0, 1, 2, 3, 4]) rfl ?_
   refine F.q rfl rfl rfl (wanted_none rfl) (r_fieldAddr tf27_2 rfl) ?_
   refine F.q rfl rfl rfl (wanted_none rfl) (r_load ta25 rfl (fun w hw => cell_1 (box_cells (i := 0) rfl w hw) rfl)) ?_
   refine F.q rfl rfl rfl (wanted_none rfl) (r_move rfl) ?_
   refine F.q rfl rfl rfl (wanted_none rfl) (r_indexAddrS Try.underlying25 ti3 rfl hl_xq7_1_2 rfl (rdl_some h21).1 (rdl_some h21).2.1) ?_
   refine F.ef0 rfl rfl (wanted_none rfl) (d_storeE (i := 4) (x1 := 0) ti3 rfl rfl rfl (rdl_some h21) rfl) ?_
   rintro _ _ ⟨rfl, rfl⟩
   refine F.nil ?_
   refine Nrm.block ?_
   refine Nrm.seq ?_
   refine Tri.reg (l := [0, 1, 2]) rfl ?_
   refine F.q rfl rfl rfl (wanted_none rfl) (r_move rfl) ?_
   refine F.q rfl rfl rfl (wanted_none rfl) (r_add rfl rfl) ?_
   refine F.q rfl rfl rfl (wanted_none rfl) (r_assign rfl) ?_
   refine F.nil ?_
   refine Nrm.round ?_
   refine Rnd.only [1, 2, 3, 6, 7, 8] rfl ?_
   refine Rnd.pick [0, 1, 2, 3, 4] rfl rfl ?_
   exact ih_1 _ _ ⟨w64 (x8 + 1), xq7_1_2.set x8.toNat 0, hE_1, (len_set hl_xq7_1_2), rfl, rfl⟩
  ·replace hE_1 := if_ff g_1 hE_1
   refine Tri.exit ?_
   refine Exi.then ?_
   refine Exi.then ?_
   refine Exi.same ?_
   cases hE_1
   refine Nrm.seq ?_
   refine Tri.seq ?_
   refine Tri.seq ?_
   refine Tri.reg (l := [0]) rfl ?_
   refine F.q rfl rfl rfl (wanted_none rfl) (r_assign rfl) ?_
   refine F.nil ?_
   refine Nrm.seq ?_
   obtain ⟨xq7_1_2r, hE_2, h⟩ := bind_some h
   refine Tri.block ?_
   refine Tri.only [1, 2, 6, 7, 9] rfl ?_
   refine Tri.pick [0, 1, 3, 4] rfl rfl ?_
   refine Tri.rounds (fun n e' C' => ∃ (x9' : Int) (xq7_1_2r' : List (Int)), spec_l9Lay.l1 k a1 a2 n x9' xq7_1_2r' = some xq7_1_2r ∧ SlLen v11_2 (xq7_1_2r').length ∧ e' = [(1, va1), (2, va2), (6, .pointer (some ⟨b6_1, 0, none⟩)), (7, .pointer (some ⟨b7_1, 0, none⟩)), (9, .int .i64 x9')] ∧ C' = Sep w noM [R.box b7_1 27 [.int .i64 t11_1, v11_1, v11_2], R.box b6_1 27 [.int .i64 0, .slice none 0 0, .slice none 0 0], R.sl S11_1 v11_1 (t11_2 : List (Int × Int × Int)), R.sl S11_2 v11_2 (xq7_1_2r' : List (Int))]) k ?_ ?_ ?_
   ·exact ⟨0, xq7_1_2, hE_2, hl_xq7_1_2, rfl, rfl⟩
   ·rintro _ _ ⟨_, _, hE_2, _⟩
    rw [spec_l9Lay.l1.eq_1] at hE_2; cases hE_2
   ·rintro n_2 _ _ ⟨x9, xq7_1_2r, hE_2, hl_xq7_1_2r, rfl, rfl⟩ ih_2
    rw [spec_l9Lay.l1.eq_2] at hE_2
    refine Tri.seq ?_
    refine Tri.seq ?_
    refine Tri.reg (l := [0, 1, 2, 3]) rfl ?_
    refine F.q rfl rfl rfl (wanted_none rfl) (r_move rfl) ?_
    refine F.q rfl rfl rfl (wanted_none rfl) (r_move rfl) ?_
    refine F.q rfl rfl rfl (wanted_none rfl) (r_len Try.underlying25 rfl hl_va2) ?_
    refine F.q rfl rfl rfl (wanted_none rfl) (r_lss rfl rfl) ?_
    refine F.nil ?_
    refine Nrm.seq ?_
    refine Tri.cond (b := decide (x9 < (a2.length : Int))) rfl (fun g_2 => ?_) (fun g_2 => ?_)
    ·replace hE_2 := if_tt g_2 hE_2
     refine Tri.skip ?_
     refine Nrm.seq ?_
     refine Tri.seq ?_
     refine Tri.block ?_
     obtain ⟨t32, h32, hE_2⟩ := bind_some hE_2
     obtain ⟨t38, h38, hE_2⟩ := bind_some hE_2
     obtain ⟨t40, h40, hE_2⟩ := bind_some hE_2
     obtain ⟨t44, h44, hE_2⟩ := bind_some hE_2
     obtain ⟨hs46, hE_2⟩ := ck hE_2
     obtain ⟨t48, h48, hE_2⟩ := bind_some hE_2
     refine Tri.drawA mixedT Sep.up [(0, true), (1, true), (2, true), (3, true), (4, true), (5, true), (6, true), (7, true), (8, true), (9, true), (10, true), (11, true), (12, true), (13, true), (14, true), (15, true), (16, true), (17, true), (18, true), (19, true), (20, true)] [21] (by kernel_rfl) ?_
     refine S.q rfl rfl rfl (wanted_none rfl) (r_fieldAddr tf27_2 rfl) ?_
     refine S.q rfl rfl rfl (wanted_none rfl) (r_load ta25 rfl (fun w hw => cell_1 (box_cells (i := 0) rfl w hw) rfl)) ?_
     refine S.q rfl rfl rfl (wanted_none rfl) (r_move rfl) ?_
     refine S.q rfl rfl rfl (wanted_none rfl) (r_move rfl) ?_
     refine S.q rfl rfl rfl (wanted_none rfl) (r_indexAddrS Try.underlying25 ti3 rfl hl_va2 rfl (rdl_some h32).1 (rdl_some h32).2.1) ?_
     refine S.q rfl rfl rfl (wanted_none rfl) (r_load ta3 rfl (fun w hw => cell_0 (Rd.flat ((fun _ hw => hr_a2.sep hw) w hw) (rdl_some h32).2.2) rfl)) ?_
     refine S.q rfl rfl rfl (wanted_none rfl) (r_fieldAddr tf27_2 rfl) ?_
     refine S.q rfl rfl rfl (wanted_none rfl) (r_load ta25 rfl (fun w hw => cell_1 (box_cells (i := 0) rfl w hw) rfl)) ?_
     refine S.q rfl rfl rfl (wanted_none rfl) (r_move rfl) ?_
     refine S.q rfl rfl rfl (wanted_none rfl) (r_move rfl) ?_
     refine S.q rfl rfl rfl (wanted_none rfl) (r_indexAddrS Try.underlying25 ti3 rfl hl_va2 rfl (rdl_some h38).1 (rdl_some h38).2.1) ?_
     refine S.q rfl rfl rfl (wanted_none rfl) (r_load ta3 rfl (fun w hw => cell_0 (Rd.flat ((fun _ hw => hr_a2.sep hw) w hw) (rdl_some h38).2.2) rfl)) ?_
     refine S.q rfl rfl rfl (wanted_none rfl) (r_indexAddrS Try.underlying25 ti3 rfl hl_xq7_1_2r rfl (rdl_some h40).1 (rdl_some h40).2.1) ?_
     refine S.q rfl rfl rfl (wanted_none rfl) (r_load ta3 rfl (fun w hw => cell_0 (Rd.flat ((rd_sl (i := 3) rfl) w hw) (rdl_some h40).2.2) rfl)) ?_
     refine S.q rfl rfl rfl (wanted_none rfl) (r_move rfl) ?_
     refine S.q rfl rfl rfl (wanted_none rfl) (r_move rfl) ?_
     refine S.q rfl rfl rfl (wanted_none rfl) (r_indexAddrS Try.underlying25 ti3 rfl hl_va1 rfl (rdl_some h44).1 (rdl_some h44).2.1) ?_
     refine S.q rfl rfl rfl (wanted_none rfl) (r_load ta3 rfl (fun w hw => cell_0 (Rd.flat ((fun _ hw => hr_a1.sep hw) w hw) (rdl_some h44).2.2) rfl)) ?_
     refine S.q rfl rfl rfl (wanted_none rfl) (r_shl rfl rfl hs46) ?_
     refine S.q rfl rfl rfl (wanted_none rfl) (r_or rfl rfl) ?_
     refine S.q rfl rfl rfl (wanted_none rfl) (r_indexAddrS Try.underlying25 ti3 rfl hl_xq7_1_2r rfl (rdl_some h48).1 (rdl_some h48).2.1) ?_
     refine S.nil ?_
     refine F.ef0 rfl rfl (wanted_none rfl) (d_storeE (i := 3) (x1 := bor t40 (shl 1 t44)) ti3 rfl rfl rfl (rdl_some h48) rfl) ?_
     rintro _ _ ⟨rfl, rfl⟩
     refine F.nil ?_
     refine Nrm.block ?_
     refine Nrm.seq ?_
     refine Tri.reg (l := [0, 1, 2]) rfl ?_
     refine F.q rfl rfl rfl (wanted_none rfl) (r_move rfl) ?_
     refine F.q rfl rfl rfl (wanted_none rfl) (r_add rfl rfl) ?_
     refine F.q rfl rfl rfl (wanted_none rfl) (r_assign rfl) ?_
     refine F.nil ?_
     refine Nrm.round ?_
     refine Rnd.only [1, 2, 6, 7, 9] rfl ?_
     refine Rnd.pick [0, 1, 2, 3] rfl rfl ?_
     exact ih_2 _ _ ⟨w64 (x9 + 1), xq7_1_2r.set t32.toNat (bor t40 (shl 1 t44)), hE_2, (len_set hl_xq7_1_2r), rfl, rfl⟩
    ·replace hE_2 := if_ff g_2 hE_2
     refine Tri.exit ?_
     refine Exi.then ?_
     refine Exi.then ?_
     refine Exi.same ?_
     cases hE_2
     refine Nrm.seq ?_
     refine Tri.seq ?_
     refine Tri.reg (l := [0, 1]) rfl ?_
     refine F.q rfl rfl rfl (wanted_none rfl) (r_loadA ta27 ti27 rfl rfl (fun w hw => (box_cells (i := 0) rfl w hw))) ?_
     refine F.ef0 rfl rfl (wanted_none rfl) (d_storeG0 (i := 1) (cs2 := [.int .i64 t11_1, v11_1, v11_2]) ti27 rfl rfl rfl rfl rfl (Nat.le_of_ble_eq_true rfl) (lf_cons rfl (lf_cons (sl_leaf hl_v11_1) (lf_cons (sl_leaf hl_xq7_1_2r) lf_nil)))) ?_
     rintro _ _ ⟨rfl, rfl⟩
     refine F.nil ?_
     refine Nrm.seq ?_
     refine Tri.ret ?_
     cases h
     exact Rtn.body (.cell rfl ta27 ti27 rfl (fun _ hw => box_cells (i := 1) rfl _ hw) .nil) (fun w hw => ⟨_, _, rfl, ⟨v11_1, S11_1, v11_2, S11_2, rfl, hl_v11_1, hl_xq7_1_2r, rfl⟩, Sep.pick (is := [2, 3]) rfl rfl hw⟩)

end Go.Proofs

/- loop.example/g01158/spec.l1Has -/

namespace Go.Proofs
open Go Go.Ga
set_option linter.unusedVariables false
set_option maxRecDepth 100000
set_option maxHeartbeats 4000000
def spec_l1Has.l0 (k : Nat) (a0 : List Int) (a1 : Int) : Nat → Int → Option ((Unit) ⊕ (Bool))
 | 0, _ => none
 | n + 1, x5 => (if (decide (x5 < (a0.length : Int))) = true then (rdl a0 x5).bind fun t14 => (if (t14 == a1) = true then some (Sum.inr true) else spec_l1Has.l0 k a0 a1 n (w64 (x5 + 1))) else some (Sum.inl ()))

def spec_l1Has.f (k : Nat) (a0 : List Int) (a1 : Int) : Option (Bool) := (spec_l1Has.l0 k a0 a1 k 0).bind fun s => Lr s some fun _ => some false

theorem spec_l1Has.ok {k : Nat}  {a0 : List Int} {a1 : Int} {r0 : Bool} (h : spec_l1Has.f k a0 a1 = some r0) (w : World) {va0 : Value} (hr_a0 : Rd w va0 a0) :
  Calls Try.prog 99 ([va0, .int .i64 a1] : List Value).toArray w (fun e w' => e = .returned (.bool r0) ∧ Ext w w') := by
 unfold spec_l1Has.f at h
 have hl_va0 := hr_a0.len
 refine Calls.of_tri (N := 18) Try.func99 rfl rfl rfl (Sep.nil (M := noM)) ?_
 refine Tri.seq ?_
 refine Tri.reg (l := [0]) rfl ?_
 refine F.q rfl rfl rfl (wanted_none rfl) (r_assign rfl) ?_
 refine F.nil ?_
 refine Nrm.seq ?_
 refine Tri.seq ?_
 refine Tri.seq ?_
 refine Tri.reg (l := [0]) rfl ?_
 refine F.q rfl rfl rfl (wanted_none rfl) (r_assign rfl) ?_
 refine F.nil ?_
 refine Nrm.seq ?_
 obtain ⟨s0, hE_1, h⟩ := bind_some h
 refine Tri.block ?_
 refine Tri.only [0, 1, 5] rfl ?_
 refine Tri.pick [] rfl rfl ?_
 refine Tri.rounds (fun n e' C' => ∃ (x5' : Int), spec_l1Has.l0 k a0 a1 n x5' = some s0 ∧ e' = [(0, va0), (1, .int .i64 a1), (5, .int .i64 x5')] ∧ C' = Sep w noM []) k ?_ ?_ ?_
 ·exact ⟨0, hE_1, rfl, rfl⟩
 ·rintro _ _ ⟨_, hE_1, _⟩
  rw [spec_l1Has.l0.eq_1] at hE_1; cases hE_1
 ·rintro n_1 _ _ ⟨x5, hE_1, rfl, rfl⟩ ih_1
  rw [spec_l1Has.l0.eq_2] at hE_1
  refine Tri.seq ?_
  refine Tri.seq ?_
  refine Tri.reg (l := [0, 1, 2, 3]) rfl ?_
  refine F.q rfl rfl rfl (wanted_none rfl) (r_move rfl) ?_
  refine F.q rfl rfl rfl (wanted_none rfl) (r_move rfl) ?_
  refine F.q rfl rfl rfl (wanted_none rfl) (r_len Try.underlying25 rfl hl_va0) ?_
  refine F.q rfl rfl rfl (wanted_none rfl) (r_lss rfl rfl) ?_
  refine F.nil ?_
  refine Nrm.seq ?_
  refine Tri.cond (b := decide (x5 < (a0.length : Int))) rfl (fun g_1 => ?_) (fun g_1 => ?_)
  ·replace hE_1 := if_tt g_1 hE_1
   refine Tri.skip ?_
   refine Nrm.seq ?_
   refine Tri.seq ?_
   refine Tri.block ?_
   refine Tri.seq ?_
   obtain ⟨t14, h14, hE_1⟩ := bind_some hE_1
   refine Tri.reg (l := [0, 1, 2, 3, 4, 5]) rfl ?_
   refine F.q rfl rfl rfl (wanted_none rfl) (r_move rfl) ?_
   refine F.q rfl rfl rfl (wanted_none rfl) (r_move rfl) ?_
   refine F.q rfl rfl rfl (wanted_none rfl) (r_indexAddrS Try.underlying25 ti3 rfl hl_va0 rfl (rdl_some h14).1 (rdl_some h14).2.1) ?_
   refine F.q rfl rfl rfl (wanted_none rfl) (r_load ta3 rfl (fun w hw => cell_0 (Rd.flat ((fun _ hw => hr_a0.sep hw) w hw) (rdl_some h14).2.2) rfl)) ?_
   refine F.q rfl rfl rfl (wanted_none rfl) (r_move rfl) ?_
   refine F.q rfl rfl rfl (wanted_none rfl) (r_eql rfl rfl) ?_
   refine F.nil ?_
   refine Nrm.seq ?_
   refine Tri.cond (b := t14 == a1) rfl (fun g_2 => ?_) (fun g_2 => ?_)
   ·replace hE_1 := if_tt g_2 hE_1
    refine Tri.seq ?_
    refine Tri.reg (l := [0]) rfl ?_
    refine F.q rfl rfl rfl (wanted_none rfl) (r_assign rfl) ?_
    refine F.nil ?_
    refine Nrm.seq ?_
    refine Tri.ret ?_
    refine Rtn.block ?_
    refine Rtn.then ?_
    refine Rtn.then ?_
    refine Rtn.block ?_
    refine Rtn.then ?_
    cases hE_1
    replace h := Lr_inr h
    cases h
    exact Rtn.body (.tmp rfl .nil) (fun w hw => ⟨rfl, hw.ext⟩)
   ·replace hE_1 := if_ff g_2 hE_1
    refine Tri.skip ?_
    refine Nrm.block ?_
    refine Nrm.seq ?_
    refine Tri.reg (l := [0, 1, 2]) rfl ?_
    refine F.q rfl rfl rfl (wanted_none rfl) (r_move rfl) ?_
    refine F.q rfl rfl rfl (wanted_none rfl) (r_add rfl rfl) ?_
    refine F.q rfl rfl rfl (wanted_none rfl) (r_assign rfl) ?_
    refine F.nil ?_
    refine Nrm.round ?_
    refine Rnd.only [0, 1, 5] rfl ?_
    refine Rnd.pick [] rfl rfl ?_
    exact ih_1 _ _ ⟨w64 (x5 + 1), hE_1, rfl, rfl⟩
  ·replace hE_1 := if_ff g_1 hE_1
   refine Tri.exit ?_
   refine Exi.then ?_
   refine Exi.then ?_
   refine Exi.same ?_
   cases hE_1
   replace h := Lr_inl h
   refine Nrm.seq ?_
   refine Tri.seq ?_
   refine Tri.reg (l := [0]) rfl ?_
   refine F.q rfl rfl rfl (wanted_none rfl) (r_assign rfl) ?_
   refine F.nil ?_
   refine Nrm.seq ?_
   refine Tri.ret ?_
   cases h
   exact Rtn.body (.tmp rfl .nil) (fun w hw => ⟨rfl, hw.ext⟩)

end Go.Proofs

/- loop.example/g01158/spec.l2Has -/

namespace Go.Proofs
open Go Go.Ga
set_option linter.unusedVariables false
set_option maxRecDepth 100000
set_option maxHeartbeats 4000000
def spec_l2Has.f (k : Nat) (a0 : Int) (a1 : Int) : Option (Bool) := some ((band a0 a1) == a1)

theorem spec_l2Has.ok {k : Nat}  {a0 : Int} {a1 : Int} {r0 : Bool} (h : spec_l2Has.f k a0 a1 = some r0) (w : World) :
  Calls Try.prog 203 ([.int .i64 a0, .int .i64 a1] : List Value).toArray w (fun e w' => e = .returned (.bool r0) ∧ Ext w w') := by
 unfold spec_l2Has.f at h
 refine Calls.of_tri (N := 10) Try.func203 rfl rfl rfl (Sep.nil (M := noM)) ?_
 refine Tri.seq ?_
 refine Tri.reg (l := [0]) rfl ?_
 refine F.q rfl rfl rfl (wanted_none rfl) (r_assign rfl) ?_
 refine F.nil ?_
 refine Nrm.seq ?_
 refine Tri.seq ?_
 refine Tri.reg (l := [0, 1, 2, 3, 4, 5]) rfl ?_
 refine F.q rfl rfl rfl (wanted_none rfl) (r_move rfl) ?_
 refine F.q rfl rfl rfl (wanted_none rfl) (r_move rfl) ?_
 refine F.q rfl rfl rfl (wanted_none rfl) (r_and rfl rfl) ?_
 refine F.q rfl rfl rfl (wanted_none rfl) (r_move rfl) ?_
 refine F.q rfl rfl rfl (wanted_none rfl) (r_eql rfl rfl) ?_
 refine F.q rfl rfl rfl (wanted_none rfl) (r_assign rfl) ?_
 refine F.nil ?_
 refine Nrm.seq ?_
 refine Tri.ret ?_
 cases h
 exact Rtn.body (.tmp rfl .nil) (fun w hw => ⟨rfl, hw.ext⟩)

end Go.Proofs

/- loop.example/g01158/spec.l1Put -/

namespace Go.Proofs
open Go Go.Ga
set_option linter.unusedVariables false
set_option maxRecDepth 100000
set_option maxHeartbeats 4000000
def spec_l1Put.l0 (k : Nat) (a0 : List Int) (a1 : Int) : Nat → Int → Option (Int)
 | 0, _ => none
 | n + 1, x5 => ((if (decide (x5 < (a0.length : Int))) = true then (rdl a0 x5).bind fun t13 => some (decide (t13 < a1)) else some false)).bind fun y17 => (if y17 = true then spec_l1Put.l0 k a0 a1 n (w64 (x5 + 1)) else some x5)

def spec_l1Put.f (k : Nat) (a0 : List Int) (a1 : Int) : Option ((List Int)) := (spec_l1Put.l0 k a0 a1 k 0).bind fun x5 => ((if (decide (x5 < (a0.length : Int))) = true then (rdl a0 x5).bind fun t27 => some (t27 == a1) else some false)).bind fun y31 => (if y31 = true then some a0 else ((slc a0 0 x5).bind fun t36 => (slc a0 x5 (a0.length : Int)).bind fun t43 => if (([] : List (Int)) ++ t36).length < 1099511627776 then if ((([] : List (Int)) ++ t36) ++ ([a1] : List (Int))).length < 1099511627776 then if (((([] : List (Int)) ++ t36) ++ ([a1] : List (Int))) ++ t43).length < 1099511627776 then some (((([] : List (Int)) ++ t36) ++ ([a1] : List (Int))) ++ t43) else none else none else none).bind fun y4 => some y4)

theorem spec_l1Put.ok {k : Nat}  {a0 : List Int} {a1 : Int} {r0 : List Int} (h : spec_l1Put.f k a0 a1 = some r0) (w : World) {va0 : Value} {Sa0 : Nat → Prop} (hl_va0 : SlLen va0 a0.length) (hw0 : Sep w (footM [R.sl Sa0 va0 a0]) [R.sl Sa0 va0 a0] w) :
  Calls Try.prog 204 ([va0, .int .i64 a1] : List Value).toArray w (PostM (footM [R.sl Sa0 va0 a0]) (fun u ns => ∃ (Sr0 : Nat → Prop), SlLen u r0.length ∧ ns = [R.sl Sr0 u r0]) w) := by
 unfold spec_l1Put.f at h
 refine Calls.of_tri (N := 45) Try.func204 rfl rfl rfl hw0 ?_
 refine Tri.seq ?_
 refine Tri.reg (l := [0]) rfl ?_
 refine F.q rfl rfl rfl (wanted_none rfl) (r_assign rfl) ?_
 refine F.nil ?_
 refine Nrm.seq ?_
 refine Tri.seq ?_
 refine Tri.reg (l := [0]) rfl ?_
 refine F.q rfl rfl rfl (wanted_none rfl) (r_assign rfl) ?_
 refine F.nil ?_
 refine Nrm.seq ?_
 refine Tri.seq ?_
 obtain ⟨x5, hE_1, h⟩ := bind_some h
 refine Tri.block ?_
 refine Tri.only [0, 1, 5] rfl ?_
 refine Tri.pick [0] rfl rfl ?_
 refine Tri.rounds (fun n e' C' => ∃ (x5' : Int), spec_l1Put.l0 k a0 a1 n x5' = some x5 ∧ e' = [(0, va0), (1, .int .i64 a1), (5, .int .i64 x5')] ∧ C' = Sep w (footM [R.sl Sa0 va0 a0]) [R.sl Sa0 va0 (a0 : List (Int))]) k ?_ ?_ ?_
 ·exact ⟨0, hE_1, rfl, rfl⟩
 ·rintro _ _ ⟨_, hE_1, _⟩
  rw [spec_l1Put.l0.eq_1] at hE_1; cases hE_1
 ·rintro n_1 _ _ ⟨x5, hE_1, rfl, rfl⟩ ih_1
  rw [spec_l1Put.l0.eq_2] at hE_1
  refine Tri.seq ?_
  refine Tri.seq ?_
  obtain ⟨y17, hE_2, hE_1⟩ := bind_some hE_1
  refine Tri.cut (fun e' C' => e' = [(0, va0), (1, .int .i64 a1), (5, .int .i64 x5), (17, .bool y17)] ∧ C' = Sep w (footM [R.sl Sa0 va0 a0]) [R.sl Sa0 va0 (a0 : List (Int))]) ?_ (fun hj_1 => ?_)
  ·rintro _ _ ⟨rfl, rfl⟩
   refine Nrm.seq ?_
   refine Tri.cond (b := y17) rfl (fun g_1 => ?_) (fun g_1 => ?_)
   ·replace hE_1 := if_tt g_1 hE_1
    refine Tri.skip ?_
    refine Nrm.seq ?_
    refine Tri.block ?_
    refine Tri.reg (l := [0, 1, 2]) rfl ?_
    refine F.q rfl rfl rfl (wanted_none rfl) (r_move rfl) ?_
    refine F.q rfl rfl rfl (wanted_none rfl) (r_add rfl rfl) ?_
    refine F.q rfl rfl rfl (wanted_none rfl) (r_assign rfl) ?_
    refine F.nil ?_
    refine Nrm.block ?_
    refine Nrm.round ?_
    refine Rnd.only [0, 1, 5] rfl ?_
    refine Rnd.pick [0] rfl rfl ?_
    exact ih_1 _ _ ⟨w64 (x5 + 1), hE_1, rfl, rfl⟩
   ·replace hE_1 := if_ff g_1 hE_1
    refine Tri.exit ?_
    refine Exi.then ?_
    refine Exi.then ?_
    refine Exi.same ?_
    cases hE_1
    refine Nrm.seq ?_
    refine Tri.seq ?_
    refine Tri.seq ?_
    obtain ⟨y31, hE_3, h⟩ := bind_some h
    refine Tri.cut (fun e' C' => e' = [(0, va0), (1, .int .i64 a1), (5, .int .i64 x5), (31, .bool y31)] ∧ C' = Sep w (footM [R.sl Sa0 va0 a0]) [R.sl Sa0 va0 (a0 : List (Int))]) ?_ (fun hj_2 => ?_)
    ·rintro _ _ ⟨rfl, rfl⟩
     refine Nrm.seq ?_
     refine Tri.cond (b := y31) rfl (fun g_2 => ?_) (fun g_2 => ?_)
     ·replace h := if_tt g_2 h
      refine Tri.seq ?_
      refine Tri.reg (l := [0, 1]) rfl ?_
      refine F.q rfl rfl rfl (wanted_none rfl) (r_move rfl) ?_
      refine F.q rfl rfl rfl (wanted_none rfl) (r_assign rfl) ?_
      refine F.nil ?_
      refine Nrm.seq ?_
      refine Tri.ret ?_
      refine Rtn.then ?_
      cases h
      exact Rtn.body (.tmp rfl .nil) (fun w hw => ⟨_, _, rfl, ⟨Sa0, hl_va0, rfl⟩, Sep.pick (is := [0]) rfl rfl hw⟩)
     ·replace h := if_ff g_2 h
      refine Tri.skip ?_
      refine Nrm.seq ?_
      refine Tri.seq ?_
      obtain ⟨y4, hE_4, h⟩ := bind_some h
      refine Tri.cut (fun e' C' => ∃ (v4_1 : Value) (S4_1 : Nat → Prop), SlLen v4_1 (y4).length ∧ e' = [(4, v4_1)] ∧ C' = Sep w (footM [R.sl Sa0 va0 a0]) [R.sl S4_1 v4_1 (y4 : List (Int))]) ?_ (fun hj_3 => ?_)
      ·rintro _ _ ⟨v4_1, S4_1, hl_v4_1, rfl, rfl⟩
       refine Nrm.seq ?_
       refine Tri.ret ?_
       cases h
       exact Rtn.body (.tmp rfl .nil) (fun w hw => ⟨_, _, rfl, ⟨S4_1, hl_v4_1, rfl⟩, Sep.pick (is := [0]) rfl rfl hw⟩)
      ·obtain ⟨t36, h36, hE_4⟩ := bind_some hE_4
       obtain ⟨t43, h43, hE_4⟩ := bind_some hE_4
       obtain ⟨hs37, hE_4⟩ := ck hE_4
       obtain ⟨hs40, hE_4⟩ := ck hE_4
       obtain ⟨hs44, hE_4⟩ := ck hE_4
       refine Tri.drawT mixedT Sep.up [1, 2, 3, 5, 8, 9, 10, 0, 4, 6, 7] [11, 12] (.q 1 (.q 2 (.q 3 (.q 5 (.q 8 (.q 9 (.q 10 (.alt 0 (.alt 4 (.alt 6 (.alt 7 .nil .stop) .stop) (.alt 6 (.alt 4 (.alt 7 .nil .stop) .stop) .stop)) (.alt 6 (.alt 0 (.alt 4 (.alt 7 .nil .stop) .stop) .stop) .stop))))))))) (by kernel_rfl) ?_
       refine T.q rfl rfl rfl (wanted_none rfl) (r_move rfl) ?_
       refine T.q rfl rfl rfl (wanted_none rfl) (r_move rfl) ?_
       refine T.q rfl rfl rfl (wanted_none rfl) (r_sliceH Try.underlying25 ti3 rfl (rd_sl (i := 0) rfl) rfl h36) ?_
       iterate 3 refine T.q rfl rfl rfl (wanted_none rfl) (r_move rfl) ?_
       refine T.q rfl rfl rfl (wanted_none rfl) (r_sliceL Try.underlying25 ti3 rfl (rd_sl (i := 0) rfl) rfl h43) ?_
       refine T.ef rfl rfl rfl (wanted_none rfl) (Makes.does (m_build0 (α := Int) Try.underlying25 ti3)) (by rintro v33_2 _ ⟨S33_2, hl_v33_2, rfl⟩; exact upd rfl [1] rfl rfl) ?_ ?_
       ·rintro v33_2 _ ⟨S33_2, hl_v33_2, rfl⟩
        refine T.ef rfl rfl rfl (wanted_none rfl) (d_append (i := 0) Try.underlying25 Try.underlying25 ti3 rfl (by decide) rfl rfl rfl (fun w hw => rd_slc ((rd_sl (i := 1) rfl) w hw) h36) hs37) (by rintro v37_2 _ ⟨S37_2, rfl, hl_v37_2⟩; exact upd rfl [1] rfl rfl) ?_ ?_
        ·rintro v37_2 _ ⟨S37_2, rfl, hl_v37_2⟩
         refine T.ef rfl rfl rfl (wanted_none rfl) (Makes.does (m_buildF (l := ([a1] : List (Int))) Try.underlying25 ti3 rfl rfl rfl rfl rfl)) (by rintro v39_2 _ ⟨S39_2, hl_v39_2, rfl⟩; exact upd rfl [2] rfl rfl) ?_ ?_
         ·rintro v39_2 _ ⟨S39_2, hl_v39_2, rfl⟩
          refine T.ef rfl rfl rfl (wanted_none rfl) (d_append (i := 1) Try.underlying25 Try.underlying25 ti3 rfl (by decide) rfl rfl rfl (rd_sl (i := 0) rfl) hs40) (by rintro v40_2 _ ⟨S40_2, rfl, hl_v40_2⟩; exact upd rfl [2] rfl rfl) ?_ ?_
          ·rintro v40_2 _ ⟨S40_2, rfl, hl_v40_2⟩
           refine T.nil ?_
           refine F.ef rfl rfl rfl (wanted_none rfl) (d_append (i := 1) Try.underlying25 Try.underlying25 ti3 rfl (by decide) rfl rfl rfl (fun w hw => rd_slc ((rd_sl (i := 2) rfl) w hw) h43) hs44) ?_
           rintro v44_2 _ ⟨S44_2, rfl, hl_v44_2⟩
           refine F.q rfl rfl rfl (wanted_none rfl) (r_assign rfl) ?_
           refine F.nil ?_
           cases hE_4
           refine Nrm.only [4] rfl ?_
           refine Nrm.pick [1] rfl rfl ?_
           exact hj_3 _ _ ⟨v44_2, S44_2, hl_v44_2, rfl, rfl⟩
          exact T.stop
         exact T.stop
        ·refine T.ef rfl rfl rfl (wanted_none rfl) (Makes.does (m_buildF (l := ([a1] : List (Int))) Try.underlying25 ti3 rfl rfl rfl rfl rfl)) (by rintro v39_3 _ ⟨S39_3, hl_v39_3, rfl⟩; exact upd rfl [2] rfl rfl) ?_ ?_
         ·rintro v39_3 _ ⟨S39_3, hl_v39_3, rfl⟩
          refine T.ef rfl rfl rfl (wanted_none rfl) (d_append (i := 1) Try.underlying25 Try.underlying25 ti3 rfl (by decide) rfl rfl rfl (fun w hw => rd_slc ((rd_sl (i := 2) rfl) w hw) h36) hs37) (by rintro v37_3 _ ⟨S37_3, rfl, hl_v37_3⟩; exact upd rfl [2] rfl rfl) ?_ ?_
          ·rintro v37_3 _ ⟨S37_3, rfl, hl_v37_3⟩
           refine T.ef rfl rfl rfl (wanted_none rfl) (d_append (i := 1) Try.underlying25 Try.underlying25 ti3 rfl (by decide) rfl rfl rfl (rd_sl (i := 0) rfl) hs40) (by rintro v40_3 _ ⟨S40_3, rfl, hl_v40_3⟩; exact upd rfl [2] rfl rfl) ?_ ?_
           ·rintro v40_3 _ ⟨S40_3, rfl, hl_v40_3⟩
            refine T.nil ?_
            refine F.ef rfl rfl rfl (wanted_none rfl) (d_append (i := 1) Try.underlying25 Try.underlying25 ti3 rfl (by decide) rfl rfl rfl (fun w hw => rd_slc ((rd_sl (i := 2) rfl) w hw) h43) hs44) ?_
            rintro v44_3 _ ⟨S44_3, rfl, hl_v44_3⟩
            refine F.q rfl rfl rfl (wanted_none rfl) (r_assign rfl) ?_
            refine F.nil ?_
            cases hE_4
            refine Nrm.only [4] rfl ?_
            refine Nrm.pick [1] rfl rfl ?_
            exact hj_3 _ _ ⟨v44_3, S44_3, hl_v44_3, rfl, rfl⟩
           exact T.stop
          exact T.stop
         exact T.stop
       ·refine T.ef rfl rfl rfl (wanted_none rfl) (Makes.does (m_buildF (l := ([a1] : List (Int))) Try.underlying25 ti3 rfl rfl rfl rfl rfl)) (by rintro v39_4 _ ⟨S39_4, hl_v39_4, rfl⟩; exact upd rfl [1] rfl rfl) ?_ ?_
        ·rintro v39_4 _ ⟨S39_4, hl_v39_4, rfl⟩
         refine T.ef rfl rfl rfl (wanted_none rfl) (Makes.does (m_build0 (α := Int) Try.underlying25 ti3)) (by rintro v33_3 _ ⟨S33_3, hl_v33_3, rfl⟩; exact upd rfl [2] rfl rfl) ?_ ?_
         ·rintro v33_3 _ ⟨S33_3, hl_v33_3, rfl⟩
          refine T.ef rfl rfl rfl (wanted_none rfl) (d_append (i := 0) Try.underlying25 Try.underlying25 ti3 rfl (by decide) rfl rfl rfl (fun w hw => rd_slc ((rd_sl (i := 2) rfl) w hw) h36) hs37) (by rintro v37_4 _ ⟨S37_4, rfl, hl_v37_4⟩; exact upd rfl [2] rfl rfl) ?_ ?_
          ·rintro v37_4 _ ⟨S37_4, rfl, hl_v37_4⟩
           refine T.ef rfl rfl rfl (wanted_none rfl) (d_append (i := 0) Try.underlying25 Try.underlying25 ti3 rfl (by decide) rfl rfl rfl (rd_sl (i := 1) rfl) hs40) (by rintro v40_4 _ ⟨S40_4, rfl, hl_v40_4⟩; exact upd rfl [2] rfl rfl) ?_ ?_
           ·rintro v40_4 _ ⟨S40_4, rfl, hl_v40_4⟩
            refine T.nil ?_
            refine F.ef rfl rfl rfl (wanted_none rfl) (d_append (i := 0) Try.underlying25 Try.underlying25 ti3 rfl (by decide) rfl rfl rfl (fun w hw => rd_slc ((rd_sl (i := 2) rfl) w hw) h43) hs44) ?_
            rintro v44_4 _ ⟨S44_4, rfl, hl_v44_4⟩
            refine F.q rfl rfl rfl (wanted_none rfl) (r_assign rfl) ?_
            refine F.nil ?_
            cases hE_4
            refine Nrm.only [4] rfl ?_
            refine Nrm.pick [0] rfl rfl ?_
            exact hj_3 _ _ ⟨v44_4, S44_4, hl_v44_4, rfl, rfl⟩
           exact T.stop
          exact T.stop
         exact T.stop
        exact T.stop
    ·rcases Bool.eq_false_or_eq_true (decide (x5 < (a0.length : Int))) with g24 | g24
     ·replace hE_3 := if_tt g24 hE_3
      obtain ⟨t27, h27, hE_3⟩ := bind_some hE_3
      refine Tri.reg (l := [0, 1, 2, 3, 4, 5, 6, 7, 8, 9, 10, 11]) rfl ?_
      refine F.q rfl rfl rfl (wanted_none rfl) (r_move rfl) ?_
      refine F.q rfl rfl rfl (wanted_none rfl) (r_move rfl) ?_
      refine F.q rfl rfl rfl (wanted_none rfl) (r_len Try.underlying25 rfl hl_va0) ?_
      refine F.q rfl rfl rfl (wanted_none rfl) (r_lss rfl rfl) ?_
      refine F.q rfl rfl rfl (wanted_none rfl) (r_move rfl) ?_
      refine F.q rfl rfl rfl (wg rfl rfl rfl g24) (r_move rfl) ?_
      refine F.q rfl rfl rfl (wg rfl rfl rfl g24) (r_move rfl) ?_
      refine F.q rfl rfl rfl (wg rfl rfl rfl g24) (r_indexAddrS Try.underlying25 ti3 rfl hl_va0 rfl (rdl_some h27).1 (rdl_some h27).2.1) ?_
      refine F.q rfl rfl rfl (wg rfl rfl rfl g24) (r_load ta3 rfl (fun w hw => cell_0 (Rd.flat ((rd_sl (i := 0) rfl) w hw) (rdl_some h27).2.2) rfl)) ?_
      refine F.q rfl rfl rfl (wg rfl rfl rfl g24) (r_move rfl) ?_
      refine F.q rfl rfl rfl (wg rfl rfl rfl g24) (r_eql rfl rfl) ?_
      refine F.q rfl rfl rfl (wanted_none rfl) (r_pick rfl rfl g24) ?_
      refine F.nil ?_
      cases hE_3
      refine Nrm.only [0, 1, 5, 31] rfl ?_
      refine Nrm.pick [0] rfl rfl ?_
      exact hj_2 _ _ ⟨rfl, rfl⟩
     ·replace hE_3 := if_ff g24 hE_3
      refine Tri.reg (l := [0, 1, 2, 3, 4, 5, 6, 7, 8, 9, 10, 11]) rfl ?_
      refine F.q rfl rfl rfl (wanted_none rfl) (r_move rfl) ?_
      refine F.q rfl rfl rfl (wanted_none rfl) (r_move rfl) ?_
      refine F.q rfl rfl rfl (wanted_none rfl) (r_len Try.underlying25 rfl hl_va0) ?_
      refine F.q rfl rfl rfl (wanted_none rfl) (r_lss rfl rfl) ?_
      refine F.q rfl rfl rfl (wanted_none rfl) (r_move rfl) ?_
      iterate 6 refine F.sk rfl rfl rfl (wf rfl rfl rfl g24) ?_
      refine F.q rfl rfl rfl (wanted_none rfl) (r_pickf rfl rfl g24) ?_
      refine F.nil ?_
      cases hE_3
      refine Nrm.only [0, 1, 5, 31] rfl ?_
      refine Nrm.pick [0] rfl rfl ?_
      exact hj_2 _ _ ⟨rfl, rfl⟩
  ·rcases Bool.eq_false_or_eq_true (decide (x5 < (a0.length : Int))) with g10 | g10
   ·replace hE_2 := if_tt g10 hE_2
    obtain ⟨t13, h13, hE_2⟩ := bind_some hE_2
    refine Tri.reg (l := [0, 1, 2, 3, 4, 5, 6, 7, 8, 9, 10, 11]) rfl ?_
    refine F.q rfl rfl rfl (wanted_none rfl) (r_move rfl) ?_
    refine F.q rfl rfl rfl (wanted_none rfl) (r_move rfl) ?_
    refine F.q rfl rfl rfl (wanted_none rfl) (r_len Try.underlying25 rfl hl_va0) ?_
    refine F.q rfl rfl rfl (wanted_none rfl) (r_lss rfl rfl) ?_
    refine F.q rfl rfl rfl (wanted_none rfl) (r_move rfl) ?_
    refine F.q rfl rfl rfl (wg rfl rfl rfl g10) (r_move rfl) ?_
    refine F.q rfl rfl rfl (wg rfl rfl rfl g10) (r_move rfl) ?_
    refine F.q rfl rfl rfl (wg rfl rfl rfl g10) (r_indexAddrS Try.underlying25 ti3 rfl hl_va0 rfl (rdl_some h13).1 (rdl_some h13).2.1) ?_
    refine F.q rfl rfl rfl (wg rfl rfl rfl g10) (r_load ta3 rfl (fun w hw => cell_0 (Rd.flat ((rd_sl (i := 0) rfl) w hw) (rdl_some h13).2.2) rfl)) ?_
    refine F.q rfl rfl rfl (wg rfl rfl rfl g10) (r_move rfl) ?_
    refine F.q rfl rfl rfl (wg rfl rfl rfl g10) (r_lss rfl rfl) ?_
    refine F.q rfl rfl rfl (wanted_none rfl) (r_pick rfl rfl g10) ?_
    refine F.nil ?_
    cases hE_2
    refine Nrm.only [0, 1, 5, 17] rfl ?_
    refine Nrm.pick [0] rfl rfl ?_
    exact hj_1 _ _ ⟨rfl, rfl⟩
   ·replace hE_2 := if_ff g10 hE_2
    refine Tri.reg (l := [0, 1, 2, 3, 4, 5, 6, 7, 8, 9, 10, 11]) rfl ?_
    refine F.q rfl rfl rfl (wanted_none rfl) (r_move rfl) ?_
    refine F.q rfl rfl rfl (wanted_none rfl) (r_move rfl) ?_
    refine F.q rfl rfl rfl (wanted_none rfl) (r_len Try.underlying25 rfl hl_va0) ?_
    refine F.q rfl rfl rfl (wanted_none rfl) (r_lss rfl rfl) ?_
    refine F.q rfl rfl rfl (wanted_none rfl) (r_move rfl) ?_
    iterate 6 refine F.sk rfl rfl rfl (wf rfl rfl rfl g10) ?_
    refine F.q rfl rfl rfl (wanted_none rfl) (r_pickf rfl rfl g10) ?_
    refine F.nil ?_
    cases hE_2
    refine Nrm.only [0, 1, 5, 17] rfl ?_
    refine Nrm.pick [0] rfl rfl ?_
    exact hj_1 _ _ ⟨rfl, rfl⟩

end Go.Proofs

/- loop.example/g01158/spec.l2Reach -/
namespace Go.Proofs
open Go Go.Ga
set_option linter.unusedVariables false
set_option maxRecDepth 100000
set_option maxHeartbeats 4000000
def spec_l2Reach.l1 (k : Nat) (a0_1 : List (Int × Int × Int)) (a2 : Int) (x9 : Int) : Nat → (List (Int)) → (List (Int)) → Int → Option ((List (Int)) × (List (Int)))
 | 0, _, _, _ => none
 | n + 1, x7r, x8r, x10 => (if (decide (x10 < (a0_1.length : Int))) = true then ((rdl a0_1 x10).bind fun t33 => ((spec_l2Has.f k a2 t33.2.2).bind fun t38 => (if (!t38) = true then some true else (rdl x8r x9).bind fun t45 => (if (t33.1 != t45) = true then (rdl x8r x9).bind fun t53 => some (t33.2.1 != t53) else some false))).bind fun y57 => (if y57 = true then some (x7r, x8r) else (rdl x8r x9).bind fun t65 => (spec_l1Has.f k x7r (w64 ((w64 (t33.1 + t33.2.1)) - t65))).bind fun t70 => ((if (!t70) = true then (spec_l1Put.f k x7r (w64 ((w64 (t33.1 + t33.2.1)) - t65))).bind fun t74 => if (x8r ++ ([w64 ((w64 (t33.1 + t33.2.1)) - t65)] : List (Int))).length < 1099511627776 then some (t74, x8r ++ ([w64 ((w64 (t33.1 + t33.2.1)) - t65)] : List (Int))) else none else some (x7r, x8r))).bind fun (y7, y8) => some (y7, y8))).bind fun (y7, y8) => spec_l2Reach.l1 k a0_1 a2 x9 n y7 y8 (w64 (x10 + 1)) else some (x7r, x8r))

def spec_l2Reach.l0 (k : Nat) (a0_1 : List (Int × Int × Int)) (a2 : Int) : Nat → (List (Int)) → (List (Int)) → Int → Option ((List (Int)))
 | 0, _, _, _ => none
 | n + 1, x7, x8, x9 => (if (decide (x9 < (x8.length : Int))) = true then (spec_l2Reach.l1 k a0_1 a2 x9 k x7 x8 0).bind fun (x7r, x8r) => spec_l2Reach.l0 k a0_1 a2 n x7r x8r (w64 (x9 + 1)) else some x7)

def spec_l2Reach.f (k : Nat) (a0_0 : Int) (a0_1 : List (Int × Int × Int)) (a0_2 : List Int) (a1 : Int) (a2 : Int) : Option ((List Int)) := (spec_l2Reach.l0 k a0_1 a2 k ([a1] : List (Int)) ([a1] : List (Int)) 0).bind fun x7 => some x7

theorem spec_l2Reach.ok {k : Nat}  {a0_0 : Int} {a0_1 : List (Int × Int × Int)} {a0_2 : List Int} {a1 : Int} {a2 : Int} {r0 : List Int} (h : spec_l2Reach.f k a0_0 a0_1 a0_2 a1 a2 = some r0) (w : World) {va0_1 : Value} {va0_2 : Value} (hr_a0_1 : Rd w va0_1 a0_1) (hr_a0_2 : Rd w va0_2 a0_2) :
  Calls Try.prog 161 ([.agg ([.int .i64 a0_0, va0_1, va0_2].toArray), .int .i64 a1, .int .i64 a2] : List Value).toArray w (Post (fun u ns => ∃ (Sr0 : Nat → Prop), SlLen u r0.length ∧ ns = [R.sl Sr0 u r0]) w) := by
 unfold spec_l2Reach.f at h
 have hl_va0_1 := hr_a0_1.len
 have hl_va0_2 := hr_a0_2.len
 refine Calls.of_tri (N := 80) Try.func161 rfl rfl rfl (Sep.nil (M := noM)) ?_
 refine Tri.seq ?_
 refine Tri.reg (l := [0, 1]) rfl ?_
 refine F.m rfl rfl rfl (wanted_none rfl) (m_boxG rfl rfl) ?_
 rintro _ _ ⟨b3_1, rfl, rfl⟩
 refine F.q rfl rfl rfl (wanted_none rfl) (r_assign rfl) ?_
 refine F.nil ?_
 refine Nrm.seq ?_
 refine Tri.seq ?_
 refine Tri.reg (l := [0, 1, 2, 3, 4, 5]) rfl ?_
 refine F.q rfl rfl rfl (wanted_none rfl) (r_move rfl) ?_
 refine F.m rfl rfl rfl (wanted_none rfl) (m_buildF (l := ([a1] : List (Int))) Try.underlying25 ti3 rfl rfl rfl rfl rfl) ?_
 rintro v14_1 _ ⟨S14_1, hl_v14_1, rfl⟩
 refine F.q rfl rfl rfl (wanted_none rfl) (r_move rfl) ?_
 refine F.m rfl rfl rfl (wanted_none rfl) (m_buildF (l := ([a1] : List (Int))) Try.underlying25 ti3 rfl rfl rfl rfl rfl) ?_
 rintro v16_1 _ ⟨S16_1, hl_v16_1, rfl⟩
 refine F.q rfl rfl rfl (wanted_none rfl) (r_assign rfl) ?_
 refine F.q rfl rfl rfl (wanted_none rfl) (r_assign rfl) ?_
 refine F.nil ?_
 refine Nrm.seq ?_
 refine Tri.seq ?_
 refine Tri.seq ?_
 refine Tri.reg (l := [0]) rfl ?_
 refine F.q rfl rfl rfl (wanted_none rfl) (r_assign rfl) ?_
 refine F.nil ?_
 refine Nrm.seq ?_
 obtain ⟨x7, hE_1, h⟩ := bind_some h
 refine Tri.block ?_
 refine Tri.only [2, 3, 7, 8, 9] rfl ?_
 refine Tri.pick [2, 0, 1] rfl rfl ?_
 refine Tri.rounds (fun n e' C' => ∃ (x7' : List (Int)) (x8' : List (Int)) (x9' : Int) (w7 : Value) (T7 : Nat → Prop) (w8 : Value) (T8 : Nat → Prop), spec_l2Reach.l0 k a0_1 a2 n x7' x8' x9' = some x7 ∧ SlLen w7 (x7').length ∧ SlLen w8 (x8').length ∧ e' = [(2, .int .i64 a2), (3, .pointer (some ⟨b3_1, 0, none⟩)), (7, w7), (8, w8), (9, .int .i64 x9')] ∧ C' = Sep w noM [R.box b3_1 27 [.int .i64 a0_0, va0_1, va0_2], R.sl T8 w8 (x8' : List (Int)), R.sl T7 w7 (x7' : List (Int))]) k ?_ ?_ ?_
 ·exact ⟨([a1] : List (Int)), ([a1] : List (Int)), 0, v14_1, S14_1, v16_1, S16_1, hE_1, hl_v14_1, hl_v16_1, rfl, rfl⟩
 ·rintro _ _ ⟨_, _, _, _, _, _, _, hE_1, _⟩
  rw [spec_l2Reach.l0.eq_1] at hE_1; cases hE_1
 ·rintro n_1 _ _ ⟨x7, x8, x9, w7, T7, w8, T8, hE_1, hl_w7, hl_w8, rfl, rfl⟩ ih_1
  rw [spec_l2Reach.l0.eq_2] at hE_1
  refine Tri.seq ?_
  refine Tri.seq ?_
  refine Tri.reg (l := [0, 1, 2, 3]) rfl ?_
  refine F.q rfl rfl rfl (wanted_none rfl) (r_move rfl) ?_
  refine F.q rfl rfl rfl (wanted_none rfl) (r_move rfl) ?_
  refine F.q rfl rfl rfl (wanted_none rfl) (r_len Try.underlying25 rfl hl_w8) ?_
  refine F.q rfl rfl rfl (wanted_none rfl) (r_lss rfl rfl) ?_
  refine F.nil ?_
  refine Nrm.seq ?_
  refine Tri.cond (b := decide (x9 < (x8.length : Int))) rfl (fun g_1 => ?_) (fun g_1 => ?_)
  ·replace hE_1 := if_tt g_1 hE_1
   refine Tri.skip ?_
   refine Nrm.seq ?_
   refine Tri.seq ?_
   refine Tri.block ?_
   refine Tri.seq ?_
   refine Tri.reg (l := [0]) rfl ?_
   refine F.q rfl rfl rfl (wanted_none rfl) (r_assign rfl) ?_
   refine F.nil ?_
   refine Nrm.seq ?_
   obtain ⟨⟨x7r, x8r⟩, hE_2, hE_1⟩ := bind_some hE_1
   refine Tri.block ?_
   refine Tri.only [2, 3, 7, 8, 9, 10] rfl ?_
   refine Tri.pick [0, 1, 2] rfl rfl ?_
   refine Tri.rounds (fun n e' C' => ∃ (x7r' : List (Int)) (x8r' : List (Int)) (x10' : Int) (w7r : Value) (T7r : Nat → Prop) (w8r : Value) (T8r : Nat → Prop), spec_l2Reach.l1 k a0_1 a2 x9 n x7r' x8r' x10' = some (x7r, x8r) ∧ SlLen w7r (x7r').length ∧ SlLen w8r (x8r').length ∧ e' = [(2, .int .i64 a2), (3, .pointer (some ⟨b3_1, 0, none⟩)), (7, w7r), (8, w8r), (9, .int .i64 x9), (10, .int .i64 x10')] ∧ C' = Sep w noM [R.box b3_1 27 [.int .i64 a0_0, va0_1, va0_2], R.sl T8r w8r (x8r' : List (Int)), R.sl T7r w7r (x7r' : List (Int))]) k ?_ ?_ ?_
   ·exact ⟨x7, x8, 0, w7, T7, w8, T8, hE_2, hl_w7, hl_w8, rfl, rfl⟩
   ·rintro _ _ ⟨_, _, _, _, _, _, _, hE_2, _⟩
    rw [spec_l2Reach.l1.eq_1] at hE_2; cases hE_2
   ·rintro n_2 _ _ ⟨x7r, x8r, x10, w7r, T7r, w8r, T8r, hE_2, hl_w7r, hl_w8r, rfl, rfl⟩ ih_2
    rw [spec_l2Reach.l1.eq_2] at hE_2
    refine Tri.seq ?_
    refine Tri.seq ?_
    refine Tri.reg (l := [0, 1, 2, 3, 4]) rfl ?_
    refine F.q rfl rfl rfl (wanted_none rfl) (r_move rfl) ?_
    refine F.q rfl rfl rfl (wanted_none rfl) (r_fieldAddr tf27_1 rfl) ?_
    refine F.q rfl rfl rfl (wanted_none rfl) (r_load ta24 rfl (fun w hw => cell_1 (box_cells (i := 0) rfl w hw) rfl)) ?_
    refine F.q rfl rfl rfl (wanted_none rfl) (r_len Try.underlying24 rfl hl_va0_1) ?_
    refine F.q rfl rfl rfl (wanted_none rfl) (r_lss rfl rfl) ?_
    refine F.nil ?_
    refine Nrm.seq ?_
    refine Tri.cond (b := decide (x10 < (a0_1.length : Int))) rfl (fun g_2 => ?_) (fun g_2 => ?_)
    ·replace hE_2 := if_tt g_2 hE_2
     refine Tri.skip ?_
     refine Nrm.seq ?_
     refine Tri.seq ?_
     obtain ⟨⟨y7, y8⟩, hE_3, hE_2⟩ := bind_some hE_2
     refine Tri.cut (fun e' C' => ∃ (v7_1 : Value) (S7_1 : Nat → Prop) (v8_1 : Value) (S8_1 : Nat → Prop), SlLen v7_1 (y7).length ∧ SlLen v8_1 (y8).length ∧ e' = [(2, .int .i64 a2), (3, .pointer (some ⟨b3_1, 0, none⟩)), (7, v7_1), (8, v8_1), (9, .int .i64 x9), (10, .int .i64 x10)] ∧ C' = Sep w noM [R.box b3_1 27 [.int .i64 a0_0, va0_1, va0_2], R.sl S7_1 v7_1 (y7 : List (Int)), R.sl S8_1 v8_1 (y8 : List (Int))]) ?_ (fun hj_1 => ?_)
     ·rintro _ _ ⟨v7_1, S7_1, v8_1, S8_1, hl_v7_1, hl_v8_1, rfl, rfl⟩
      refine Nrm.seq ?_
      refine Tri.reg (l := [0, 1, 2]) rfl ?_
      refine F.q rfl rfl rfl (wanted_none rfl) (r_move rfl) ?_
      refine F.q rfl rfl rfl (wanted_none rfl) (r_add rfl rfl) ?_
      refine F.q rfl rfl rfl (wanted_none rfl) (r_assign rfl) ?_
      refine F.nil ?_
      refine Nrm.round ?_
      refine Rnd.only [2, 3, 7, 8, 9, 10] rfl ?_
      refine Rnd.pick [0, 2, 1] rfl rfl ?_
      exact ih_2 _ _ ⟨y7, y8, w64 (x10 + 1), v7_1, S7_1, v8_1, S8_1, hE_2, hl_v7_1, hl_v8_1, rfl, rfl⟩
     ·refine Tri.block ?_
      refine Tri.seq ?_
      obtain ⟨t33, h33, hE_3⟩ := bind_some hE_3
      refine Tri.reg (l := [0, 1, 2, 3, 4, 5, 6]) rfl ?_
      refine F.q rfl rfl rfl (wanted_none rfl) (r_fieldAddr tf27_1 rfl) ?_
      refine F.q rfl rfl rfl (wanted_none rfl) (r_load ta24 rfl (fun w hw => cell_1 (box_cells (i := 0) rfl w hw) rfl)) ?_
      refine F.q rfl rfl rfl (wanted_none rfl) (r_move rfl) ?_
      refine F.q rfl rfl rfl (wanted_none rfl) (r_indexAddrS Try.underlying24 ti121 rfl hl_va0_1 rfl (rdl_some h33).1 (rdl_some h33).2.1) ?_
      refine F.q rfl rfl rfl (wanted_none rfl) (r_loadA ta121 ti121 rfl rfl (fun w hw => (Rd.flat ((fun _ hw => hr_a0_1.sep hw) w hw) (rdl_some h33).2.2))) ?_
      refine F.m rfl rfl rfl (wanted_none rfl) (m_alloc ti121) ?_
      rintro _ _ ⟨b11_1, rfl, rfl⟩
      refine F.ef0 rfl rfl (wanted_none rfl) (d_storeG0 (i := 0) (cs2 := [.int .i64 t33.1, .int .i64 t33.2.1, .int .i64 t33.2.2]) ti121 rfl rfl rfl rfl rfl (Nat.le_of_ble_eq_true rfl) (lf_cons rfl (lf_cons rfl (lf_cons rfl lf_nil)))) ?_
      rintro _ _ ⟨rfl, rfl⟩
      refine F.nil ?_
      refine Nrm.seq ?_
      refine Tri.seq ?_
      refine Tri.seq ?_
      obtain ⟨y57, hE_4, hE_3⟩ := bind_some hE_3
      refine Tri.cut (fun e' C' => e' = [(2, .int .i64 a2), (3, .pointer (some ⟨b3_1, 0, none⟩)), (7, w7r), (8, w8r), (9, .int .i64 x9), (10, .int .i64 x10), (11, .pointer (some ⟨b11_1, 0, none⟩)), (57, .bool y57)] ∧ C' = Sep w noM [R.box b11_1 121 [.int .i64 t33.1, .int .i64 t33.2.1, .int .i64 t33.2.2], R.box b3_1 27 [.int .i64 a0_0, va0_1, va0_2], R.sl T7r w7r (x7r : List (Int)), R.sl T8r w8r (x8r : List (Int))]) ?_ (fun hj_2 => ?_)
      ·rintro _ _ ⟨rfl, rfl⟩
       refine Nrm.seq ?_
       refine Tri.cond (b := y57) rfl (fun g_3 => ?_) (fun g_3 => ?_)
       ·replace hE_3 := if_tt g_3 hE_3
        refine Tri.exit ?_
        refine Exi.then ?_
        refine Exi.same ?_
        cases hE_3
        refine Nrm.only [2, 3, 7, 8, 9, 10] rfl ?_
        refine Nrm.pick [1, 2, 3] rfl rfl ?_
        exact hj_1 _ _ ⟨w7r, T7r, w8r, T8r, hl_w7r, hl_w8r, rfl, rfl⟩
       ·replace hE_3 := if_ff g_3 hE_3
        refine Tri.skip ?_
        refine Nrm.seq ?_
        refine Tri.seq ?_
        obtain ⟨t65, h65, hE_3⟩ := bind_some hE_3
        refine Tri.drawA mixedT Sep.up [(0, true), (1, true), (2, true), (3, true), (4, true), (5, true), (6, true), (7, true), (8, true), (9, true), (10, true)] [] (by kernel_rfl) ?_
        refine S.q rfl rfl rfl (wanted_none rfl) (r_indexAddrA Try.underlying121 ti3 rfl rfl (by decide) (by decide)) ?_
        refine S.q rfl rfl rfl (wanted_none rfl) (r_load ta3 rfl (fun w hw => cell_1 (box_cells (i := 0) rfl w hw) rfl)) ?_
        refine S.q rfl rfl rfl (wanted_none rfl) (r_indexAddrA Try.underlying121 ti3 rfl rfl (by decide) (by decide)) ?_
        refine S.q rfl rfl rfl (wanted_none rfl) (r_load ta3 rfl (fun w hw => cell_1 (box_cells (i := 0) rfl w hw) rfl)) ?_
        refine S.q rfl rfl rfl (wanted_none rfl) (r_add rfl rfl) ?_
        refine S.q rfl rfl rfl (wanted_none rfl) (r_move rfl) ?_
        refine S.q rfl rfl rfl (wanted_none rfl) (r_move rfl) ?_
        refine S.q rfl rfl rfl (wanted_none rfl) (r_indexAddrS Try.underlying25 ti3 rfl hl_w8r rfl (rdl_some h65).1 (rdl_some h65).2.1) ?_
        refine S.q rfl rfl rfl (wanted_none rfl) (r_load ta3 rfl (fun w hw => cell_0 (Rd.flat ((rd_sl (i := 3) rfl) w hw) (rdl_some h65).2.2) rfl)) ?_
        refine S.q rfl rfl rfl (wanted_none rfl) (r_sub rfl rfl) ?_
        refine S.q rfl rfl rfl (wanted_none rfl) (r_assign rfl) ?_
        refine S.nil ?_
        refine F.nil ?_
        refine Nrm.seq ?_
        refine Tri.seq ?_
        obtain ⟨t70, h70, hE_3⟩ := bind_some hE_3
        refine Tri.reg (l := [0, 1, 2, 3]) rfl ?_
        refine F.q rfl rfl rfl (wanted_none rfl) (r_move rfl) ?_
        refine F.q rfl rfl rfl (wanted_none rfl) (r_move rfl) ?_
        refine F.qc rfl rfl rfl (wanted_none rfl) (q_callF (xs := _) rfl ok99 rfl rfl (fun w hw => spec_l1Has.ok h70 w ((rd_sl (i := 2) rfl) w hw))) ?_
        refine F.q rfl rfl rfl (wanted_none rfl) (r_not rfl) ?_
        refine F.nil ?_
        refine Nrm.seq ?_
        obtain ⟨⟨y7, y8⟩, hE_5, hE_3⟩ := bind_some hE_3
        refine Tri.cut (fun e' C' => ∃ (v7_2 : Value) (S7_2 : Nat → Prop) (v8_2 : Value) (S8_2 : Nat → Prop), SlLen v7_2 (y7).length ∧ SlLen v8_2 (y8).length ∧ e' = [(2, .int .i64 a2), (3, .pointer (some ⟨b3_1, 0, none⟩)), (7, v7_2), (8, v8_2), (9, .int .i64 x9), (10, .int .i64 x10)] ∧ C' = Sep w noM [R.box b3_1 27 [.int .i64 a0_0, va0_1, va0_2], R.sl S7_2 v7_2 (y7 : List (Int)), R.sl S8_2 v8_2 (y8 : List (Int))]) ?_ (fun hj_3 => ?_)
        ·rintro _ _ ⟨v7_2, S7_2, v8_2, S8_2, hl_v7_2, hl_v8_2, rfl, rfl⟩
         refine Nrm.block ?_
         cases hE_3
         refine Nrm.only [2, 3, 7, 8, 9, 10] rfl ?_
         refine Nrm.pick [0, 1, 2] rfl rfl ?_
         exact hj_1 _ _ ⟨v7_2, S7_2, v8_2, S8_2, hl_v7_2, hl_v8_2, rfl, rfl⟩
        ·refine Tri.cond (b := !t70) rfl (fun g_4 => ?_) (fun g_4 => ?_)
         ·replace hE_5 := if_tt g_4 hE_5
          refine Tri.seq ?_
          obtain ⟨t74, h74, hE_5⟩ := bind_some hE_5
          refine Tri.reg (l := [0, 1, 2, 3]) rfl ?_
          refine F.q rfl rfl rfl (wanted_none rfl) (r_move rfl) ?_
          refine F.q rfl rfl rfl (wanted_none rfl) (r_move rfl) ?_
          refine F.ef rfl rfl rfl (wanted_none rfl) (d_callM (xs := _) (cs := [R.sl T7r w7r (x7r : List (Int))]) (rest := [R.box b11_1 121 [.int .i64 t33.1, .int .i64 t33.2.1, .int .i64 t33.2.2], R.box b3_1 27 [.int .i64 a0_0, va0_1, va0_2], R.sl T8r w8r (x8r : List (Int))]) [2] [0, 1, 3] rfl ok204 rfl rfl rfl rfl (fun w hw => spec_l1Put.ok h74 w hl_w7r (Sep.sub hw))) ?_
          rintro v74_1 _ ⟨_, ⟨S74_1, hl_v74_1, rfl⟩, rfl⟩
          refine F.q rfl rfl rfl (wanted_none rfl) (r_assign rfl) ?_
          refine F.nil ?_
          refine Nrm.seq ?_
          obtain ⟨hs78, hE_5⟩ := ck hE_5
          refine Tri.reg (l := [0, 1, 2, 3, 4]) rfl ?_
          refine F.q rfl rfl rfl (wanted_none rfl) (r_move rfl) ?_
          refine F.q rfl rfl rfl (wanted_none rfl) (r_move rfl) ?_
          refine F.m rfl rfl rfl (wanted_none rfl) (m_buildF (l := ([w64 ((w64 (t33.1 + t33.2.1)) - t65)] : List (Int))) Try.underlying25 ti3 rfl rfl rfl rfl rfl) ?_
          rintro v77_1 _ ⟨S77_1, hl_v77_1, rfl⟩
          refine F.ef rfl rfl rfl (wanted_none rfl) (d_append (i := 4) Try.underlying25 Try.underlying25 ti3 rfl (by decide) rfl rfl rfl (rd_sl (i := 0) rfl) hs78) ?_
          rintro v78_1 _ ⟨S78_1, rfl, hl_v78_1⟩
          refine F.q rfl rfl rfl (wanted_none rfl) (r_assign rfl) ?_
          refine F.nil ?_
          cases hE_5
          refine Nrm.only [2, 3, 7, 8, 9, 10] rfl ?_
          refine Nrm.pick [3, 1, 4] rfl rfl ?_
          exact hj_3 _ _ ⟨v74_1, S74_1, v78_1, S78_1, hl_v74_1, hl_v78_1, rfl, rfl⟩
         ·replace hE_5 := if_ff g_4 hE_5
          refine Tri.skip ?_
          cases hE_5
          refine Nrm.only [2, 3, 7, 8, 9, 10] rfl ?_
          refine Nrm.pick [1, 2, 3] rfl rfl ?_
          exact hj_3 _ _ ⟨w7r, T7r, w8r, T8r, hl_w7r, hl_w8r, rfl, rfl⟩
      ·obtain ⟨t38, h38, hE_4⟩ := bind_some hE_4
       rcases Bool.eq_false_or_eq_true (!t38) with g40 | g40
       ·replace hE_4 := if_tt g40 hE_4
        refine Tri.drawA mixedT Sep.up [(0, true), (1, true), (2, true), (3, true), (4, true), (5, true), (6, true), (7, true), (8, true), (9, true), (10, true), (11, true), (12, true), (13, true), (14, true), (15, true), (16, true), (17, true), (18, true), (19, true), (20, true), (21, true), (22, true)] [] (by kernel_rfl) ?_
        refine S.q rfl rfl rfl (wanted_none rfl) (r_move rfl) ?_
        refine S.q rfl rfl rfl (wanted_none rfl) (r_indexAddrA Try.underlying121 ti3 rfl rfl (by decide) (by decide)) ?_
        refine S.q rfl rfl rfl (wanted_none rfl) (r_load ta3 rfl (fun w hw => cell_1 (box_cells (i := 0) rfl w hw) rfl)) ?_
        refine S.qc rfl rfl rfl (wanted_none rfl) (q_callF (xs := _) rfl ok203 rfl rfl (fun w hw => spec_l2Has.ok h38 w )) ?_
        refine S.q rfl rfl rfl (wanted_none rfl) (r_not rfl) ?_
        refine S.q rfl rfl rfl (wanted_none rfl) (r_move rfl) ?_
        iterate 8 refine S.sk rfl rfl rfl (wf rfl rfl rfl g40) ?_
        iterate 7 refine S.sk rfl rfl rfl (wanted_undef rfl rfl rfl) ?_
        refine S.sk rfl rfl rfl (wf rfl rfl rfl g40) ?_
        refine S.q rfl rfl rfl (wanted_none rfl) (r_pick rfl rfl g40) ?_
        refine S.nil ?_
        refine F.nil ?_
        cases hE_4
        refine Nrm.only [2, 3, 7, 8, 9, 10, 11, 57] rfl ?_
        refine Nrm.pick [0, 1, 3, 2] rfl rfl ?_
        exact hj_2 _ _ ⟨rfl, rfl⟩
       ·replace hE_4 := if_ff g40 hE_4
        obtain ⟨t45, h45, hE_4⟩ := bind_some hE_4
        rcases Bool.eq_false_or_eq_true (t33.1 != t45) with g48 | g48
        ·replace hE_4 := if_tt g48 hE_4
         obtain ⟨t53, h53, hE_4⟩ := bind_some hE_4
         refine Tri.drawA mixedT Sep.up [(0, true), (1, true), (2, true), (3, true), (4, true), (5, true), (6, true), (7, true), (8, true), (9, true), (10, true), (11, true), (12, true), (13, true), (14, true), (15, true), (16, true), (17, true), (18, true), (19, true), (20, true), (21, true), (22, true)] [] (by kernel_rfl) ?_
         refine S.q rfl rfl rfl (wanted_none rfl) (r_move rfl) ?_
         refine S.q rfl rfl rfl (wanted_none rfl) (r_indexAddrA Try.underlying121 ti3 rfl rfl (by decide) (by decide)) ?_
         refine S.q rfl rfl rfl (wanted_none rfl) (r_load ta3 rfl (fun w hw => cell_1 (box_cells (i := 0) rfl w hw) rfl)) ?_
         refine S.qc rfl rfl rfl (wanted_none rfl) (q_callF (xs := _) rfl ok203 rfl rfl (fun w hw => spec_l2Has.ok h38 w )) ?_
         refine S.q rfl rfl rfl (wanted_none rfl) (r_not rfl) ?_
         refine S.q rfl rfl rfl (wanted_none rfl) (r_move rfl) ?_
         refine S.q rfl rfl rfl (wg rfl rfl rfl g40) (r_indexAddrA Try.underlying121 ti3 rfl rfl (by decide) (by decide)) ?_
         refine S.q rfl rfl rfl (wg rfl rfl rfl g40) (r_load ta3 rfl (fun w hw => cell_1 (box_cells (i := 0) rfl w hw) rfl)) ?_
         refine S.q rfl rfl rfl (wg rfl rfl rfl g40) (r_move rfl) ?_
         refine S.q rfl rfl rfl (wg rfl rfl rfl g40) (r_move rfl) ?_
         refine S.q rfl rfl rfl (wg rfl rfl rfl g40) (r_indexAddrS Try.underlying25 ti3 rfl hl_w8r rfl (rdl_some h45).1 (rdl_some h45).2.1) ?_
         refine S.q rfl rfl rfl (wg rfl rfl rfl g40) (r_load ta3 rfl (fun w hw => cell_0 (Rd.flat ((rd_sl (i := 2) rfl) w hw) (rdl_some h45).2.2) rfl)) ?_
         refine S.q rfl rfl rfl (wg rfl rfl rfl g40) (r_neq rfl rfl) ?_
         refine S.q rfl rfl rfl (wg rfl rfl rfl g40) (r_move rfl) ?_
         refine S.q rfl rfl rfl (wg rfl rfl rfl g48) (r_indexAddrA Try.underlying121 ti3 rfl rfl (by decide) (by decide)) ?_
         refine S.q rfl rfl rfl (wg rfl rfl rfl g48) (r_load ta3 rfl (fun w hw => cell_1 (box_cells (i := 0) rfl w hw) rfl)) ?_
         refine S.q rfl rfl rfl (wg rfl rfl rfl g48) (r_move rfl) ?_
         refine S.q rfl rfl rfl (wg rfl rfl rfl g48) (r_move rfl) ?_
         refine S.q rfl rfl rfl (wg rfl rfl rfl g48) (r_indexAddrS Try.underlying25 ti3 rfl hl_w8r rfl (rdl_some h53).1 (rdl_some h53).2.1) ?_
         refine S.q rfl rfl rfl (wg rfl rfl rfl g48) (r_load ta3 rfl (fun w hw => cell_0 (Rd.flat ((rd_sl (i := 2) rfl) w hw) (rdl_some h53).2.2) rfl)) ?_
         refine S.q rfl rfl rfl (wg rfl rfl rfl g48) (r_neq rfl rfl) ?_
         refine S.q rfl rfl rfl (wg rfl rfl rfl g40) (r_pick rfl rfl g48) ?_
         refine S.q rfl rfl rfl (wanted_none rfl) (r_pickf rfl rfl g40) ?_
         refine S.nil ?_
         refine F.nil ?_
         cases hE_4
         refine Nrm.only [2, 3, 7, 8, 9, 10, 11, 57] rfl ?_
         refine Nrm.pick [0, 1, 3, 2] rfl rfl ?_
         exact hj_2 _ _ ⟨rfl, rfl⟩
        ·replace hE_4 := if_ff g48 hE_4
         refine Tri.drawA mixedT Sep.up [(0, true), (1, true), (2, true), (3, true), (4, true), (5, true), (6, true), (7, true), (8, true), (9, true), (10, true), (11, true), (12, true), (13, true), (14, true), (15, true), (16, true), (17, true), (18, true), (19, true), (20, true), (21, true), (22, true)] [] (by kernel_rfl) ?_
         refine S.q rfl rfl rfl (wanted_none rfl) (r_move rfl) ?_
         refine S.q rfl rfl rfl (wanted_none rfl) (r_indexAddrA Try.underlying121 ti3 rfl rfl (by decide) (by decide)) ?_
         refine S.q rfl rfl rfl (wanted_none rfl) (r_load ta3 rfl (fun w hw => cell_1 (box_cells (i := 0) rfl w hw) rfl)) ?_
         refine S.qc rfl rfl rfl (wanted_none rfl) (q_callF (xs := _) rfl ok203 rfl rfl (fun w hw => spec_l2Has.ok h38 w )) ?_
         refine S.q rfl rfl rfl (wanted_none rfl) (r_not rfl) ?_
         refine S.q rfl rfl rfl (wanted_none rfl) (r_move rfl) ?_
         refine S.q rfl rfl rfl (wg rfl rfl rfl g40) (r_indexAddrA Try.underlying121 ti3 rfl rfl (by decide) (by decide)) ?_
         refine S.q rfl rfl rfl (wg rfl rfl rfl g40) (r_load ta3 rfl (fun w hw => cell_1 (box_cells (i := 0) rfl w hw) rfl)) ?_
         refine S.q rfl rfl rfl (wg rfl rfl rfl g40) (r_move rfl) ?_
         refine S.q rfl rfl rfl (wg rfl rfl rfl g40) (r_move rfl) ?_
         refine S.q rfl rfl rfl (wg rfl rfl rfl g40) (r_indexAddrS Try.underlying25 ti3 rfl hl_w8r rfl (rdl_some h45).1 (rdl_some h45).2.1) ?_
         refine S.q rfl rfl rfl (wg rfl rfl rfl g40) (r_load ta3 rfl (fun w hw => cell_0 (Rd.flat ((rd_sl (i := 2) rfl) w hw) (rdl_some h45).2.2) rfl)) ?_
         refine S.q rfl rfl rfl (wg rfl rfl rfl g40) (r_neq rfl rfl) ?_
         refine S.q rfl rfl rfl (wg rfl rfl rfl g40) (r_move rfl) ?_
         iterate 7 refine S.sk rfl rfl rfl (wf rfl rfl rfl g48) ?_
         refine S.q rfl rfl rfl (wg rfl rfl rfl g40) (r_pickf rfl rfl g48) ?_
         refine S.q rfl rfl rfl (wanted_none rfl) (r_pickf rfl rfl g40) ?_
         refine S.nil ?_
         refine F.nil ?_
         cases hE_4
         refine Nrm.only [2, 3, 7, 8, 9, 10, 11, 57] rfl ?_
         refine Nrm.pick [0, 1, 3, 2] rfl rfl ?_
         exact hj_2 _ _ ⟨rfl, rfl⟩
    ·replace hE_2 := if_ff g_2 hE_2
     refine Tri.exit ?_
     refine Exi.then ?_
     refine Exi.then ?_
     refine Exi.same ?_
     cases hE_2
     refine Nrm.block ?_
     refine Nrm.seq ?_
     refine Tri.reg (l := [0, 1, 2]) rfl ?_
     refine F.q rfl rfl rfl (wanted_none rfl) (r_move rfl) ?_
     refine F.q rfl rfl rfl (wanted_none rfl) (r_add rfl rfl) ?_
     refine F.q rfl rfl rfl (wanted_none rfl) (r_assign rfl) ?_
     refine F.nil ?_
     refine Nrm.round ?_
     refine Rnd.only [2, 3, 7, 8, 9] rfl ?_
     refine Rnd.pick [0, 1, 2] rfl rfl ?_
     exact ih_1 _ _ ⟨x7r, x8r, w64 (x9 + 1), w7r, T7r, w8r, T8r, hE_1, hl_w7r, hl_w8r, rfl, rfl⟩
  ·replace hE_1 := if_ff g_1 hE_1
   refine Tri.exit ?_
   refine Exi.then ?_
   refine Exi.then ?_
   refine Exi.same ?_
   cases hE_1
   refine Nrm.seq ?_
   refine Tri.seq ?_
   refine Tri.reg (l := [0, 1]) rfl ?_
   refine F.q rfl rfl rfl (wanted_none rfl) (r_move rfl) ?_
   refine F.q rfl rfl rfl (wanted_none rfl) (r_assign rfl) ?_
   refine F.nil ?_
   refine Nrm.seq ?_
   refine Tri.ret ?_
   cases h
   exact Rtn.body (.tmp rfl .nil) (fun w hw => ⟨_, _, rfl, ⟨T7, hl_w7, rfl⟩, Sep.pick (is := [2]) rfl rfl hw⟩)

end Go.Proofs

/- loop.example/g01158/spec.l2Close -/
namespace Go.Proofs
open Go Go.Ga
set_option linter.unusedVariables false
set_option maxRecDepth 100000
set_option maxHeartbeats 4000000
def spec_l2Close.l1 (k : Nat) (a0_2 : List Int) (t11 : List Int) : Nat → Int → Int → Option (Int)
 | 0, _, _ => none
 | n + 1, x7, x8 => (if (decide (x8 < (t11.length : Int))) = true then (rdl t11 x8).bind fun t24 => (rdl a0_2 t24).bind fun t26 => spec_l2Close.l1 k a0_2 t11 n (bor x7 t26) (w64 (x8 + 1)) else some x7)

def spec_l2Close.l0 (k : Nat) (a0_0 : Int) (a0_1 : List (Int × Int × Int)) (a0_2 : List Int) : Nat → Int → Option ((Unit) ⊕ (Int × (List Int)))
 | 0, _ => none
 | n + 1, x1 => (spec_l2Reach.f k a0_0 a0_1 a0_2 0 x1).bind fun t11 => (spec_l2Close.l1 k a0_2 t11 k x1 0).bind fun x7 => (if (x7 == x1) = true then some (Sum.inr (x1, t11)) else spec_l2Close.l0 k a0_0 a0_1 a0_2 n x7)

def spec_l2Close.f (k : Nat) (a0_0 : Int) (a0_1 : List (Int × Int × Int)) (a0_2 : List Int) (a1 : Int) : Option (Int × (List Int)) := (spec_l2Close.l0 k a0_0 a0_1 a0_2 k a1).bind fun s => Lr s some fun _ => none

theorem spec_l2Close.ok {k : Nat}  {a0_0 : Int} {a0_1 : List (Int × Int × Int)} {a0_2 : List Int} {a1 : Int} {r0 : Int} {r1 : List Int} (h : spec_l2Close.f k a0_0 a0_1 a0_2 a1 = some (r0, r1)) (w : World) {va0_1 : Value} {va0_2 : Value} (hr_a0_1 : Rd w va0_1 a0_1) (hr_a0_2 : Rd w va0_2 a0_2) :
  Calls Try.prog 177 ([.agg ([.int .i64 a0_0, va0_1, va0_2].toArray), .int .i64 a1] : List Value).toArray w (Post (fun u ns => ∃ (ur1 : Value) (Sr1 : Nat → Prop), u = .tuple #[.int .i64 r0, ur1] ∧ SlLen ur1 r1.length ∧ ns = [R.sl Sr1 ur1 r1]) w) := by
 unfold spec_l2Close.f at h
 have hl_va0_1 := hr_a0_1.len
 have hl_va0_2 := hr_a0_2.len
 refine Calls.of_tri (N := 35) Try.func177 rfl rfl rfl (Sep.nil (M := noM)) ?_
 refine Tri.seq ?_
 refine Tri.reg (l := [0, 1, 2]) rfl ?_
 refine F.m rfl rfl rfl (wanted_none rfl) (m_boxG rfl rfl) ?_
 rintro _ _ ⟨b2_1, rfl, rfl⟩
 refine F.q rfl rfl rfl (wanted_none rfl) (r_assign rfl) ?_
 refine F.q rfl rfl rfl (wanted_none rfl) (r_assign rfl) ?_
 refine F.nil ?_
 refine Nrm.seq ?_
 obtain ⟨s0, hE_1, h⟩ := bind_some h
 refine Tri.block ?_
 refine Tri.only [1, 2] rfl ?_
 refine Tri.pick [0] rfl rfl ?_
 refine Tri.rounds (fun n e' C' => ∃ (x1' : Int), spec_l2Close.l0 k a0_0 a0_1 a0_2 n x1' = some s0 ∧ e' = [(1, .int .i64 x1'), (2, .pointer (some ⟨b2_1, 0, none⟩))] ∧ C' = Sep w noM [R.box b2_1 27 [.int .i64 a0_0, va0_1, va0_2]]) k ?_ ?_ ?_
 ·exact ⟨a1, hE_1, rfl, rfl⟩
 ·rintro _ _ ⟨_, hE_1, _⟩
  rw [spec_l2Close.l0.eq_1] at hE_1; cases hE_1
 ·rintro n_1 _ _ ⟨x1, hE_1, rfl, rfl⟩ ih_1
  rw [spec_l2Close.l0.eq_2] at hE_1
  refine Tri.block ?_
  refine Tri.seq ?_
  obtain ⟨t11, h11, hE_1⟩ := bind_some hE_1
  refine Tri.reg (l := [0, 1, 2, 3, 4, 5]) rfl ?_
  refine F.q rfl rfl rfl (wanted_none rfl) (r_loadA ta27 ti27 rfl rfl (fun w hw => (box_cells (i := 0) rfl w hw))) ?_
  refine F.q rfl rfl rfl (wanted_none rfl) (r_move rfl) ?_
  refine F.m rfl rfl rfl (wanted_none rfl) (m_callF (xs := _) rfl ok161 rfl rfl (fun w hw => spec_l2Reach.ok h11 w ((fun _ hw => hr_a0_1.sep hw) w hw) ((fun _ hw => hr_a0_2.sep hw) w hw))) ?_
  rintro v11_1 _ ⟨_, ⟨S11_1, hl_v11_1, rfl⟩, rfl⟩
  refine F.q rfl rfl rfl (wanted_none rfl) (r_move rfl) ?_
  refine F.q rfl rfl rfl (wanted_none rfl) (r_assign rfl) ?_
  refine F.q rfl rfl rfl (wanted_none rfl) (r_assign rfl) ?_
  refine F.nil ?_
  refine Nrm.seq ?_
  refine Tri.seq ?_
  refine Tri.seq ?_
  refine Tri.reg (l := [0]) rfl ?_
  refine F.q rfl rfl rfl (wanted_none rfl) (r_assign rfl) ?_
  refine F.nil ?_
  refine Nrm.seq ?_
  obtain ⟨x7, hE_2, hE_1⟩ := bind_some hE_1
  refine Tri.block ?_
  refine Tri.only [1, 2, 6, 7, 8] rfl ?_
  refine Tri.pick [1, 0] rfl rfl ?_
  refine Tri.rounds (fun n e' C' => ∃ (x7' : Int) (x8' : Int), spec_l2Close.l1 k a0_2 t11 n x7' x8' = some x7 ∧ e' = [(1, .int .i64 x1), (2, .pointer (some ⟨b2_1, 0, none⟩)), (6, v11_1), (7, .int .i64 x7'), (8, .int .i64 x8')] ∧ C' = Sep w noM [R.box b2_1 27 [.int .i64 a0_0, va0_1, va0_2], R.sl S11_1 v11_1 (t11 : List (Int))]) k ?_ ?_ ?_
  ·exact ⟨x1, 0, hE_2, rfl, rfl⟩
  ·rintro _ _ ⟨_, _, hE_2, _⟩
   rw [spec_l2Close.l1.eq_1] at hE_2; cases hE_2
  ·rintro n_2 _ _ ⟨x7, x8, hE_2, rfl, rfl⟩ ih_2
   rw [spec_l2Close.l1.eq_2] at hE_2
   refine Tri.seq ?_
   refine Tri.seq ?_
   refine Tri.reg (l := [0, 1, 2, 3]) rfl ?_
   refine F.q rfl rfl rfl (wanted_none rfl) (r_move rfl) ?_
   refine F.q rfl rfl rfl (wanted_none rfl) (r_move rfl) ?_
   refine F.q rfl rfl rfl (wanted_none rfl) (r_len Try.underlying25 rfl hl_v11_1) ?_
   refine F.q rfl rfl rfl (wanted_none rfl) (r_lss rfl rfl) ?_
   refine F.nil ?_
   refine Nrm.seq ?_
   refine Tri.cond (b := decide (x8 < (t11.length : Int))) rfl (fun g_1 => ?_) (fun g_1 => ?_)
   ·replace hE_2 := if_tt g_1 hE_2
    refine Tri.skip ?_
    refine Nrm.seq ?_
    refine Tri.seq ?_
    refine Tri.block ?_
    obtain ⟨t24, h24, hE_2⟩ := bind_some hE_2
    obtain ⟨t26, h26, hE_2⟩ := bind_some hE_2
    refine Tri.drawA mixedT Sep.up [(0, true), (1, true), (2, true), (3, true), (4, true), (5, true), (6, true), (7, true), (8, true), (9, true), (10, true)] [] (by kernel_rfl) ?_
    refine S.q rfl rfl rfl (wanted_none rfl) (r_move rfl) ?_
    refine S.q rfl rfl rfl (wanted_none rfl) (r_fieldAddr tf27_2 rfl) ?_
    refine S.q rfl rfl rfl (wanted_none rfl) (r_load ta25 rfl (fun w hw => cell_1 (box_cells (i := 0) rfl w hw) rfl)) ?_
    refine S.q rfl rfl rfl (wanted_none rfl) (r_move rfl) ?_
    refine S.q rfl rfl rfl (wanted_none rfl) (r_move rfl) ?_
    refine S.q rfl rfl rfl (wanted_none rfl) (r_indexAddrS Try.underlying25 ti3 rfl hl_v11_1 rfl (rdl_some h24).1 (rdl_some h24).2.1) ?_
    refine S.q rfl rfl rfl (wanted_none rfl) (r_load ta3 rfl (fun w hw => cell_0 (Rd.flat ((rd_sl (i := 1) rfl) w hw) (rdl_some h24).2.2) rfl)) ?_
    refine S.q rfl rfl rfl (wanted_none rfl) (r_indexAddrS Try.underlying25 ti3 rfl hl_va0_2 rfl (rdl_some h26).1 (rdl_some h26).2.1) ?_
    refine S.q rfl rfl rfl (wanted_none rfl) (r_load ta3 rfl (fun w hw => cell_0 (Rd.flat ((fun _ hw => hr_a0_2.sep hw) w hw) (rdl_some h26).2.2) rfl)) ?_
    refine S.q rfl rfl rfl (wanted_none rfl) (r_or rfl rfl) ?_
    refine S.q rfl rfl rfl (wanted_none rfl) (r_assign rfl) ?_
    refine S.nil ?_
    refine F.nil ?_
    refine Nrm.block ?_
    refine Nrm.seq ?_
    refine Tri.reg (l := [0, 1, 2]) rfl ?_
    refine F.q rfl rfl rfl (wanted_none rfl) (r_move rfl) ?_
    refine F.q rfl rfl rfl (wanted_none rfl) (r_add rfl rfl) ?_
    refine F.q rfl rfl rfl (wanted_none rfl) (r_assign rfl) ?_
    refine F.nil ?_
    refine Nrm.round ?_
    refine Rnd.only [1, 2, 6, 7, 8] rfl ?_
    refine Rnd.pick [0, 1] rfl rfl ?_
    exact ih_2 _ _ ⟨bor x7 t26, w64 (x8 + 1), hE_2, rfl, rfl⟩
   ·replace hE_2 := if_ff g_1 hE_2
    refine Tri.exit ?_
    refine Exi.then ?_
    refine Exi.then ?_
    refine Exi.same ?_
    cases hE_2
    refine Nrm.seq ?_
    refine Tri.seq ?_
    refine Tri.seq ?_
    refine Tri.reg (l := [0, 1, 2]) rfl ?_
    refine F.q rfl rfl rfl (wanted_none rfl) (r_move rfl) ?_
    refine F.q rfl rfl rfl (wanted_none rfl) (r_move rfl) ?_
    refine F.q rfl rfl rfl (wanted_none rfl) (r_eql rfl rfl) ?_
    refine F.nil ?_
    refine Nrm.seq ?_
    refine Tri.cond (b := x7 == x1) rfl (fun g_2 => ?_) (fun g_2 => ?_)
    ·replace hE_1 := if_tt g_2 hE_1
     refine Tri.seq ?_
     refine Tri.reg (l := [0, 1, 2, 3]) rfl ?_
     refine F.q rfl rfl rfl (wanted_none rfl) (r_move rfl) ?_
     refine F.q rfl rfl rfl (wanted_none rfl) (r_move rfl) ?_
     refine F.q rfl rfl rfl (wanted_none rfl) (r_assign rfl) ?_
     refine F.q rfl rfl rfl (wanted_none rfl) (r_assign rfl) ?_
     refine F.nil ?_
     refine Nrm.seq ?_
     refine Tri.ret ?_
     refine Rtn.then ?_
     refine Rtn.block ?_
     refine Rtn.then ?_
     refine Rtn.block ?_
     cases hE_1
     replace h := Lr_inr h
     cases h
     exact Rtn.body (.tmp rfl (.tmp rfl .nil)) (fun w hw => ⟨_, _, rfl, ⟨v11_1, S11_1, rfl, hl_v11_1, rfl⟩, Sep.pick (is := [1]) rfl rfl hw⟩)
    ·replace hE_1 := if_ff g_2 hE_1
     refine Tri.skip ?_
     refine Nrm.seq ?_
     refine Tri.reg (l := [0, 1]) rfl ?_
     refine F.q rfl rfl rfl (wanted_none rfl) (r_move rfl) ?_
     refine F.q rfl rfl rfl (wanted_none rfl) (r_assign rfl) ?_
     refine F.nil ?_
     refine Nrm.block ?_
     refine Nrm.round ?_
     refine Rnd.only [1, 2] rfl ?_
     refine Rnd.pick [0] rfl rfl ?_
     exact ih_1 _ _ ⟨x7, hE_1, rfl, rfl⟩

end Go.Proofs

/- loop.example/g01158/spec.l9Fill -/
namespace Go.Proofs
open Go Go.Ga
set_option linter.unusedVariables false
set_option maxRecDepth 100000
set_option maxHeartbeats 4000000
def spec_l9Fill.l1 (k : Nat) (a2 : List Int) (x12 : List (Int)) (t61 : List Int) : Nat → (List (Int)) → Int → Option ((List (Int)))
 | 0, _, _ => none
 | n + 1, x17, x19 => (if (decide (x19 < (t61.length : Int))) = true then (rdl t61 x19).bind fun t73 => (spec_l9Place.f k a2 t73).bind fun t75 => (rdl x12 t75).bind fun t76 => if (x17 ++ ([t76] : List (Int))).length < 1099511627776 then spec_l9Fill.l1 k a2 x12 t61 n (x17 ++ ([t76] : List (Int))) (w64 (x19 + 1)) else none else some x17)

def spec_l9Fill.l0 (k : Nat) (a0_0 : Int) (a0_1 : List (Int × Int × Int)) (a0_2 : List Int) (a2 : List Int) (a3 : List Int) (a4 : Bool) : Nat → Int → (List (Int)) → Int → Option ((List (Int)))
 | 0, _, _, _ => none
 | n + 1, x11, x12, x13 => (if (decide (x13 < (a2.length : Int))) = true then (rdl a2 x13).bind fun t31 => if ¬ t31 < 0 then ((if a4 = true then some 0 else some (bclr x11 (shl 1 t31)))).bind fun y14 => (spec_l9Lay.f k a0_0 a0_1 a0_2 a2 x12).bind fun (t41_1, t41_2, t41_3) => (spec_l2Close.f k t41_1 t41_2 t41_3 y14).bind fun (t43_1, t43_2) => (rdl a3 x13).bind fun t50 => if ¬ (t43_2.length : Int) = 0 then (rdl t43_2 (rem t50 (t43_2.length : Int))).bind fun t55 => if (x12 ++ ([t55] : List (Int))).length < 1099511627776 then spec_l9Fill.l0 k a0_0 a0_1 a0_2 a2 a3 a4 n (bclr x11 (shl 1 t31)) (x12 ++ ([t55] : List (Int))) (w64 (x13 + 1)) else none else none else none else some x12)

def spec_l9Fill.f (k : Nat) (a0_0 : Int) (a0_1 : List (Int × Int × Int)) (a0_2 : List Int) (a1 : Int) (a2 : List Int) (a3 : List Int) (a4 : Bool) : Option ((List Int)) := (spec_l9Fill.l0 k a0_0 a0_1 a0_2 a2 a3 a4 k a1 ([] : List (Int)) 0).bind fun x12 => (spec_l2Colours.f k a1).bind fun t61 => (spec_l9Fill.l1 k a2 x12 t61 k ([] : List (Int)) 0).bind fun x17 => some x17

theorem spec_l9Fill.ok {k : Nat}  {a0_0 : Int} {a0_1 : List (Int × Int × Int)} {a0_2 : List Int} {a1 : Int} {a2 : List Int} {a3 : List Int} {a4 : Bool} {r0 : List Int} (h : spec_l9Fill.f k a0_0 a0_1 a0_2 a1 a2 a3 a4 = some r0) (w : World) {va0_1 : Value} {va0_2 : Value} {va2 : Value} {va3 : Value} (hr_a0_1 : Rd w va0_1 a0_1) (hr_a0_2 : Rd w va0_2 a0_2) (hr_a2 : Rd w va2 a2) (hr_a3 : Rd w va3 a3) :
  Calls Try.prog 108 ([.agg ([.int .i64 a0_0, va0_1, va0_2].toArray), .int .i64 a1, va2, va3, .bool a4] : List Value).toArray w (Post (fun u ns => ∃ (Sr0 : Nat → Prop), SlLen u r0.length ∧ ns = [R.sl Sr0 u r0]) w) := by
 unfold spec_l9Fill.f at h
 have hl_va0_1 := hr_a0_1.len
 have hl_va0_2 := hr_a0_2.len
 have hl_va2 := hr_a2.len
 have hl_va3 := hr_a3.len
 refine Calls.of_tri (N := 81) Try.func108 rfl rfl rfl (Sep.nil (M := noM)) ?_
 refine Tri.seq ?_
 refine Tri.reg (l := [0, 1]) rfl ?_
 refine F.m rfl rfl rfl (wanted_none rfl) (m_boxG rfl rfl) ?_
 rintro _ _ ⟨b5_1, rfl, rfl⟩
 refine F.q rfl rfl rfl (wanted_none rfl) (r_assign rfl) ?_
 refine F.nil ?_
 refine Nrm.seq ?_
 refine Tri.seq ?_
 refine Tri.reg (l := [0, 1, 2, 3]) rfl ?_
 refine F.q rfl rfl rfl (wanted_none rfl) (r_move rfl) ?_
 refine F.m rfl rfl rfl (wanted_none rfl) (m_build0 (α := Int) Try.underlying25 ti3) ?_
 rintro v21_1 _ ⟨S21_1, hl_v21_1, rfl⟩
 refine F.q rfl rfl rfl (wanted_none rfl) (r_assign rfl) ?_
 refine F.q rfl rfl rfl (wanted_none rfl) (r_assign rfl) ?_
 refine F.nil ?_
 refine Nrm.seq ?_
 refine Tri.seq ?_
 refine Tri.seq ?_
 refine Tri.reg (l := [0]) rfl ?_
 refine F.q rfl rfl rfl (wanted_none rfl) (r_assign rfl) ?_
 refine F.nil ?_
 refine Nrm.seq ?_
 obtain ⟨x12, hE_1, h⟩ := bind_some h
 refine Tri.block ?_
 refine Tri.only [1, 2, 3, 4, 5, 11, 12, 13] rfl ?_
 refine Tri.pick [1, 0] rfl rfl ?_
 refine Tri.rounds (fun n e' C' => ∃ (x11' : Int) (x12' : List (Int)) (x13' : Int) (w12 : Value) (T12 : Nat → Prop), spec_l9Fill.l0 k a0_0 a0_1 a0_2 a2 a3 a4 n x11' x12' x13' = some x12 ∧ SlLen w12 (x12').length ∧ e' = [(1, .int .i64 a1), (2, va2), (3, va3), (4, .bool a4), (5, .pointer (some ⟨b5_1, 0, none⟩)), (11, .int .i64 x11'), (12, w12), (13, .int .i64 x13')] ∧ C' = Sep w noM [R.box b5_1 27 [.int .i64 a0_0, va0_1, va0_2], R.sl T12 w12 (x12' : List (Int))]) k ?_ ?_ ?_
 ·exact ⟨a1, ([] : List (Int)), 0, v21_1, S21_1, hE_1, hl_v21_1, rfl, rfl⟩
 ·rintro _ _ ⟨_, _, _, _, _, hE_1, _⟩
  rw [spec_l9Fill.l0.eq_1] at hE_1; cases hE_1
 ·rintro n_1 _ _ ⟨x11, x12, x13, w12, T12, hE_1, hl_w12, rfl, rfl⟩ ih_1
  rw [spec_l9Fill.l0.eq_2] at hE_1
  refine Tri.seq ?_
  refine Tri.seq ?_
  refine Tri.reg (l := [0, 1, 2, 3]) rfl ?_
  refine F.q rfl rfl rfl (wanted_none rfl) (r_move rfl) ?_
  refine F.q rfl rfl rfl (wanted_none rfl) (r_move rfl) ?_
  refine F.q rfl rfl rfl (wanted_none rfl) (r_len Try.underlying25 rfl hl_va2) ?_
  refine F.q rfl rfl rfl (wanted_none rfl) (r_lss rfl rfl) ?_
  refine F.nil ?_
  refine Nrm.seq ?_
  refine Tri.cond (b := decide (x13 < (a2.length : Int))) rfl (fun g_1 => ?_) (fun g_1 => ?_)
  ·replace hE_1 := if_tt g_1 hE_1
   refine Tri.skip ?_
   refine Nrm.seq ?_
   refine Tri.seq ?_
   refine Tri.block ?_
   refine Tri.seq ?_
   obtain ⟨t31, h31, hE_1⟩ := bind_some hE_1
   obtain ⟨hs33, hE_1⟩ := ck hE_1
   refine Tri.reg (l := [0, 1, 2, 3, 4, 5, 6, 7]) rfl ?_
   iterate 3 refine F.q rfl rfl rfl (wanted_none rfl) (r_move rfl) ?_
   refine F.q rfl rfl rfl (wanted_none rfl) (r_indexAddrS Try.underlying25 ti3 rfl hl_va2 rfl (rdl_some h31).1 (rdl_some h31).2.1) ?_
   refine F.q rfl rfl rfl (wanted_none rfl) (r_load ta3 rfl (fun w hw => cell_0 (Rd.flat ((fun _ hw => hr_a2.sep hw) w hw) (rdl_some h31).2.2) rfl)) ?_
   refine F.q rfl rfl rfl (wanted_none rfl) (r_shl rfl rfl hs33) ?_
   refine F.q rfl rfl rfl (wanted_none rfl) (r_andNot rfl rfl) ?_
   refine F.q rfl rfl rfl (wanted_none rfl) (r_assign rfl) ?_
   refine F.nil ?_
   refine Nrm.seq ?_
   refine Tri.seq ?_
   refine Tri.reg (l := [0, 1]) rfl ?_
   refine F.q rfl rfl rfl (wanted_none rfl) (r_move rfl) ?_
   refine F.q rfl rfl rfl (wanted_none rfl) (r_assign rfl) ?_
   refine F.nil ?_
   refine Nrm.seq ?_
   refine Tri.seq ?_
   refine Tri.seq ?_
   refine Tri.reg (l := [0]) rfl ?_
   refine F.q rfl rfl rfl (wanted_none rfl) (r_move rfl) ?_
   refine F.nil ?_
   refine Nrm.seq ?_
   obtain ⟨y14, hE_2, hE_1⟩ := bind_some hE_1
   refine Tri.cut (fun e' C' => e' = [(1, .int .i64 a1), (2, va2), (3, va3), (4, .bool a4), (5, .pointer (some ⟨b5_1, 0, none⟩)), (11, .int .i64 (bclr x11 (shl 1 t31))), (12, w12), (13, .int .i64 x13), (14, .int .i64 y14)] ∧ C' = Sep w noM [R.box b5_1 27 [.int .i64 a0_0, va0_1, va0_2], R.sl T12 w12 (x12 : List (Int))]) ?_ (fun hj_1 => ?_)
   ·rintro _ _ ⟨rfl, rfl⟩
    refine Nrm.seq ?_
    refine Tri.seq ?_
    obtain ⟨⟨t41_1, t41_2, t41_3⟩, h41, hE_1⟩ := bind_some hE_1
    obtain ⟨⟨t43_1, t43_2⟩, h43, hE_1⟩ := bind_some hE_1
    refine Tri.reg (l := [0, 1, 2, 3, 4, 5, 6, 7, 8, 9, 10]) rfl ?_
    refine F.q rfl rfl rfl (wanted_none rfl) (r_loadA ta27 ti27 rfl rfl (fun w hw => (box_cells (i := 0) rfl w hw))) ?_
    refine F.q rfl rfl rfl (wanted_none rfl) (r_move rfl) ?_
    refine F.q rfl rfl rfl (wanted_none rfl) (r_move rfl) ?_
    refine F.m rfl rfl rfl (wanted_none rfl) (m_callF (xs := _) rfl ok114 rfl rfl (fun w hw => spec_l9Lay.ok h41 w ((fun _ hw => hr_a0_1.sep hw) w hw) ((fun _ hw => hr_a0_2.sep hw) w hw) ((fun _ hw => hr_a2.sep hw) w hw) ((rd_sl (i := 1) rfl) w hw))) ?_
    rintro _ _ ⟨_, ⟨v41_1, S41_1, v41_2, S41_2, rfl, hl_v41_1, hl_v41_2, rfl⟩, rfl⟩
    refine F.q rfl rfl rfl (wanted_none rfl) (r_move rfl) ?_
    refine F.m rfl rfl rfl (wanted_none rfl) (m_callF (xs := _) rfl ok177 rfl rfl (fun w hw => spec_l2Close.ok h43 w ((rd_sl (i := 0) rfl) w hw) ((rd_sl (i := 1) rfl) w hw))) ?_
    rintro _ _ ⟨_, ⟨v43_1, S43_1, rfl, hl_v43_1, rfl⟩, rfl⟩
    refine F.q rfl rfl rfl (wanted_none rfl) (r_move rfl) ?_
    refine F.q rfl rfl rfl (wanted_none rfl) (r_extract rfl rfl) ?_
    refine F.q rfl rfl rfl (wanted_none rfl) (r_extract rfl rfl) ?_
    refine F.q rfl rfl rfl (wanted_none rfl) (r_assign rfl) ?_
    refine F.q rfl rfl rfl (wanted_none rfl) (r_assign rfl) ?_
    refine F.nil ?_
    refine Nrm.seq ?_
    obtain ⟨t50, h50, hE_1⟩ := bind_some hE_1
    obtain ⟨hs54, hE_1⟩ := ck hE_1
    obtain ⟨t55, h55, hE_1⟩ := bind_some hE_1
    obtain ⟨hs58, hE_1⟩ := ck hE_1
    refine Tri.reg (l := [0, 1, 2, 3, 4, 5, 6, 7, 8, 9, 10, 11, 12, 13]) rfl ?_
    iterate 4 refine F.q rfl rfl rfl (wanted_none rfl) (r_move rfl) ?_
    refine F.q rfl rfl rfl (wanted_none rfl) (r_indexAddrS Try.underlying25 ti3 rfl hl_va3 rfl (rdl_some h50).1 (rdl_some h50).2.1) ?_
    refine F.q rfl rfl rfl (wanted_none rfl) (r_load ta3 rfl (fun w hw => cell_0 (Rd.flat ((fun _ hw => hr_a3.sep hw) w hw) (rdl_some h50).2.2) rfl)) ?_
    refine F.q rfl rfl rfl (wanted_none rfl) (r_move rfl) ?_
    refine F.q rfl rfl rfl (wanted_none rfl) (r_len Try.underlying25 rfl hl_v43_1) ?_
    refine F.q rfl rfl rfl (wanted_none rfl) (r_rem rfl rfl hs54) ?_
    refine F.q rfl rfl rfl (wanted_none rfl) (r_indexAddrS Try.underlying25 ti3 rfl hl_v43_1 rfl (rdl_some h55).1 (rdl_some h55).2.1) ?_
    refine F.q rfl rfl rfl (wanted_none rfl) (r_load ta3 rfl (fun w hw => cell_0 (Rd.flat ((rd_sl (i := 0) rfl) w hw) (rdl_some h55).2.2) rfl)) ?_
    refine F.m rfl rfl rfl (wanted_none rfl) (m_buildF (l := ([t55] : List (Int))) Try.underlying25 ti3 rfl rfl rfl rfl rfl) ?_
    rintro v57_1 _ ⟨S57_1, hl_v57_1, rfl⟩
    refine F.ef rfl rfl rfl (wanted_none rfl) (d_append (i := 5) Try.underlying25 Try.underlying25 ti3 rfl (by decide) rfl rfl rfl (rd_sl (i := 0) rfl) hs58) ?_
    rintro v58_1 _ ⟨S58_1, rfl, hl_v58_1⟩
    refine F.q rfl rfl rfl (wanted_none rfl) (r_assign rfl) ?_
    refine F.nil ?_
    refine Nrm.block ?_
    refine Nrm.seq ?_
    refine Tri.reg (l := [0, 1, 2]) rfl ?_
    refine F.q rfl rfl rfl (wanted_none rfl) (r_move rfl) ?_
    refine F.q rfl rfl rfl (wanted_none rfl) (r_add rfl rfl) ?_
    refine F.q rfl rfl rfl (wanted_none rfl) (r_assign rfl) ?_
    refine F.nil ?_
    refine Nrm.round ?_
    refine Rnd.only [1, 2, 3, 4, 5, 11, 12, 13] rfl ?_
    refine Rnd.pick [4, 5] rfl rfl ?_
    exact ih_1 _ _ ⟨bclr x11 (shl 1 t31), x12 ++ ([t55] : List (Int)), w64 (x13 + 1), v58_1, S58_1, hE_1, hl_v58_1, rfl, rfl⟩
   ·refine Tri.cond (b := a4) rfl (fun g_2 => ?_) (fun g_2 => ?_)
    ·replace hE_2 := if_tt g_2 hE_2
     refine Tri.reg (l := [0]) rfl ?_
     refine F.q rfl rfl rfl (wanted_none rfl) (r_assign rfl) ?_
     refine F.nil ?_
     cases hE_2
     refine Nrm.only [1, 2, 3, 4, 5, 11, 12, 13, 14] rfl ?_
     refine Nrm.pick [0, 1] rfl rfl ?_
     exact hj_1 _ _ ⟨rfl, rfl⟩
    ·replace hE_2 := if_ff g_2 hE_2
     refine Tri.skip ?_
     cases hE_2
     refine Nrm.only [1, 2, 3, 4, 5, 11, 12, 13, 14] rfl ?_
     refine Nrm.pick [0, 1] rfl rfl ?_
     exact hj_1 _ _ ⟨rfl, rfl⟩
  ·replace hE_1 := if_ff g_1 hE_1
   refine Tri.exit ?_
   refine Exi.then ?_
   refine Exi.then ?_
   refine Exi.same ?_
   cases hE_1
   refine Nrm.seq ?_
   refine Tri.seq ?_
   obtain ⟨t61, h61, h⟩ := bind_some h
   refine Tri.reg (l := [0, 1, 2, 3, 4]) rfl ?_
   refine F.m rfl rfl rfl (wanted_none rfl) (m_build0 (α := Int) Try.underlying25 ti3) ?_
   rintro v59_1 _ ⟨S59_1, hl_v59_1, rfl⟩
   refine F.q rfl rfl rfl (wanted_none rfl) (r_move rfl) ?_
   refine F.m rfl rfl rfl (wanted_none rfl) (m_callF (xs := _) rfl ok94 rfl rfl (fun w hw => spec_l2Colours.ok h61 w )) ?_
   rintro v61_1 _ ⟨_, ⟨S61_1, hl_v61_1, rfl⟩, rfl⟩
   refine F.q rfl rfl rfl (wanted_none rfl) (r_assign rfl) ?_
   refine F.q rfl rfl rfl (wanted_none rfl) (r_assign rfl) ?_
   refine F.nil ?_
   refine Nrm.seq ?_
   refine Tri.seq ?_
   refine Tri.seq ?_
   refine Tri.reg (l := [0]) rfl ?_
   refine F.q rfl rfl rfl (wanted_none rfl) (r_assign rfl) ?_
   refine F.nil ?_
   refine Nrm.seq ?_
   obtain ⟨x17, hE_3, h⟩ := bind_some h
   refine Tri.block ?_
   refine Tri.only [2, 12, 17, 18, 19] rfl ?_
   refine Tri.pick [0, 1, 3] rfl rfl ?_
   refine Tri.rounds (fun n e' C' => ∃ (x17' : List (Int)) (x19' : Int) (w17 : Value) (T17 : Nat → Prop), spec_l9Fill.l1 k a2 x12 t61 n x17' x19' = some x17 ∧ SlLen w17 (x17').length ∧ e' = [(2, va2), (12, w12), (17, w17), (18, v61_1), (19, .int .i64 x19')] ∧ C' = Sep w noM [R.sl S61_1 v61_1 (t61 : List (Int)), R.sl T17 w17 (x17' : List (Int)), R.sl T12 w12 (x12 : List (Int))]) k ?_ ?_ ?_
   ·exact ⟨([] : List (Int)), 0, v59_1, S59_1, hE_3, hl_v59_1, rfl, rfl⟩
   ·rintro _ _ ⟨_, _, _, _, hE_3, _⟩
    rw [spec_l9Fill.l1.eq_1] at hE_3; cases hE_3
   ·rintro n_2 _ _ ⟨x17, x19, w17, T17, hE_3, hl_w17, rfl, rfl⟩ ih_2
    rw [spec_l9Fill.l1.eq_2] at hE_3
    refine Tri.seq ?_
    refine Tri.seq ?_
    refine Tri.reg (l := [0, 1, 2, 3]) rfl ?_
    refine F.q rfl rfl rfl (wanted_none rfl) (r_move rfl) ?_
    refine F.q rfl rfl rfl (wanted_none rfl) (r_move rfl) ?_
    refine F.q rfl rfl rfl (wanted_none rfl) (r_len Try.underlying25 rfl hl_v61_1) ?_
    refine F.q rfl rfl rfl (wanted_none rfl) (r_lss rfl rfl) ?_
    refine F.nil ?_
    refine Nrm.seq ?_
    refine Tri.cond (b := decide (x19 < (t61.length : Int))) rfl (fun g_3 => ?_) (fun g_3 => ?_)
    ·replace hE_3 := if_tt g_3 hE_3
     refine Tri.skip ?_
     refine Nrm.seq ?_
     refine Tri.seq ?_
     refine Tri.block ?_
     obtain ⟨t73, h73, hE_3⟩ := bind_some hE_3
     obtain ⟨t75, h75, hE_3⟩ := bind_some hE_3
     obtain ⟨t76, h76, hE_3⟩ := bind_some hE_3
     obtain ⟨hs79, hE_3⟩ := ck hE_3
     refine Tri.reg (l := [0, 1, 2, 3, 4, 5, 6, 7, 8, 9, 10, 11, 12]) rfl ?_
     iterate 5 refine F.q rfl rfl rfl (wanted_none rfl) (r_move rfl) ?_
     refine F.q rfl rfl rfl (wanted_none rfl) (r_indexAddrS Try.underlying25 ti3 rfl hl_v61_1 rfl (rdl_some h73).1 (rdl_some h73).2.1) ?_
     refine F.q rfl rfl rfl (wanted_none rfl) (r_load ta3 rfl (fun w hw => cell_0 (Rd.flat ((rd_sl (i := 0) rfl) w hw) (rdl_some h73).2.2) rfl)) ?_
     refine F.qc rfl rfl rfl (wanted_none rfl) (q_callF (xs := _) rfl ok100 rfl rfl (fun w hw => spec_l9Place.ok h75 w ((fun _ hw => hr_a2.sep hw) w hw))) ?_
     refine F.q rfl rfl rfl (wanted_none rfl) (r_indexAddrS Try.underlying25 ti3 rfl hl_w12 rfl (rdl_some h76).1 (rdl_some h76).2.1) ?_
     refine F.q rfl rfl rfl (wanted_none rfl) (r_load ta3 rfl (fun w hw => cell_0 (Rd.flat ((rd_sl (i := 2) rfl) w hw) (rdl_some h76).2.2) rfl)) ?_
     refine F.m rfl rfl rfl (wanted_none rfl) (m_buildF (l := ([t76] : List (Int))) Try.underlying25 ti3 rfl rfl rfl rfl rfl) ?_
     rintro v78_1 _ ⟨S78_1, hl_v78_1, rfl⟩
     refine F.ef rfl rfl rfl (wanted_none rfl) (d_append (i := 2) Try.underlying25 Try.underlying25 ti3 rfl (by decide) rfl rfl rfl (rd_sl (i := 0) rfl) hs79) ?_
     rintro v79_1 _ ⟨S79_1, rfl, hl_v79_1⟩
     refine F.q rfl rfl rfl (wanted_none rfl) (r_assign rfl) ?_
     refine F.nil ?_
     refine Nrm.block ?_
     refine Nrm.seq ?_
     refine Tri.reg (l := [0, 1, 2]) rfl ?_
     refine F.q rfl rfl rfl (wanted_none rfl) (r_move rfl) ?_
     refine F.q rfl rfl rfl (wanted_none rfl) (r_add rfl rfl) ?_
     refine F.q rfl rfl rfl (wanted_none rfl) (r_assign rfl) ?_
     refine F.nil ?_
     refine Nrm.round ?_
     refine Rnd.only [2, 12, 17, 18, 19] rfl ?_
     refine Rnd.pick [1, 2, 3] rfl rfl ?_
     exact ih_2 _ _ ⟨x17 ++ ([t76] : List (Int)), w64 (x19 + 1), v79_1, S79_1, hE_3, hl_v79_1, rfl, rfl⟩
    ·replace hE_3 := if_ff g_3 hE_3
     refine Tri.exit ?_
     refine Exi.then ?_
     refine Exi.then ?_
     refine Exi.same ?_
     cases hE_3
     refine Nrm.seq ?_
     refine Tri.seq ?_
     refine Tri.reg (l := [0, 1]) rfl ?_
     refine F.q rfl rfl rfl (wanted_none rfl) (r_move rfl) ?_
     refine F.q rfl rfl rfl (wanted_none rfl) (r_assign rfl) ?_
     refine F.nil ?_
     refine Nrm.seq ?_
     refine Tri.ret ?_
     cases h
     exact Rtn.body (.tmp rfl .nil) (fun w hw => ⟨_, _, rfl, ⟨T17, hl_w17, rfl⟩, Sep.pick (is := [1]) rfl rfl hw⟩)

end Go.Proofs

/- loop.example/g01158/spec.AssumedFilling -/
namespace Go.Proofs
open Go Go.Ga
set_option linter.unusedVariables false
set_option maxRecDepth 100000
set_option maxHeartbeats 4000000
def spec_AssumedFilling.f (k : Nat) (a0_0 : Int) (a0_1 : List (Int × Int × Int)) (a0_2 : List Int) (a1 : Int) (a2 : List Int) (a3 : List Int) : Option ((List Int) × Bool) := (spec_l9Makes.f k a0_0 a0_1 a0_2 a1 a2 a3).bind fun t14 => (if (!t14) = true then some (([] : List (Int)), false) else (spec_l9Fill.f k a0_0 a0_1 a0_2 a1 a2 a3 false).bind fun t21 => some (t21, true))

theorem spec_AssumedFilling.ok {k : Nat}  {a0_0 : Int} {a0_1 : List (Int × Int × Int)} {a0_2 : List Int} {a1 : Int} {a2 : List Int} {a3 : List Int} {r0 : List Int} {r1 : Bool} (h : spec_AssumedFilling.f k a0_0 a0_1 a0_2 a1 a2 a3 = some (r0, r1)) (w : World) {va0_1 : Value} {va0_2 : Value} {va2 : Value} {va3 : Value} (hr_a0_1 : Rd w va0_1 a0_1) (hr_a0_2 : Rd w va0_2 a0_2) (hr_a2 : Rd w va2 a2) (hr_a3 : Rd w va3 a3) :
  Calls Try.prog 27 ([.agg ([.int .i64 a0_0, va0_1, va0_2].toArray), .int .i64 a1, va2, va3] : List Value).toArray w (Post (fun u ns => ∃ (ur0 : Value) (Sr0 : Nat → Prop), u = .tuple #[ur0, .bool r1] ∧ SlLen ur0 r0.length ∧ ns = [R.sl Sr0 ur0 r0]) w) := by
 unfold spec_AssumedFilling.f at h
 have hl_va0_1 := hr_a0_1.len
 have hl_va0_2 := hr_a0_2.len
 have hl_va2 := hr_a2.len
 have hl_va3 := hr_a3.len
 refine Calls.of_tri (N := 22) Try.func27 rfl rfl rfl (Sep.nil (M := noM)) ?_
 refine Tri.seq ?_
 refine Tri.reg (l := [0, 1, 2]) rfl ?_
 refine F.m rfl rfl rfl (wanted_none rfl) (m_boxG rfl rfl) ?_
 rintro _ _ ⟨b4_1, rfl, rfl⟩
 refine F.q rfl rfl rfl (wanted_none rfl) (r_assign rfl) ?_
 refine F.q rfl rfl rfl (wanted_none rfl) (r_assign rfl) ?_
 refine F.nil ?_
 refine Nrm.seq ?_
 refine Tri.seq ?_
 refine Tri.seq ?_
 obtain ⟨t14, h14, h⟩ := bind_some h
 refine Tri.reg (l := [0, 1, 2, 3, 4, 5]) rfl ?_
 refine F.q rfl rfl rfl (wanted_none rfl) (r_loadA ta27 ti27 rfl rfl (fun w hw => (box_cells (i := 0) rfl w hw))) ?_
 iterate 3 refine F.q rfl rfl rfl (wanted_none rfl) (r_move rfl) ?_
 refine F.qc rfl rfl rfl (wanted_none rfl) (q_callF (xs := _) rfl ok107 rfl rfl (fun w hw => spec_l9Makes.ok h14 w ((fun _ hw => hr_a0_1.sep hw) w hw) ((fun _ hw => hr_a0_2.sep hw) w hw) ((fun _ hw => hr_a2.sep hw) w hw) ((fun _ hw => hr_a3.sep hw) w hw))) ?_
 refine F.q rfl rfl rfl (wanted_none rfl) (r_not rfl) ?_
 refine F.nil ?_
 refine Nrm.seq ?_
 refine Tri.cond (b := !t14) rfl (fun g_1 => ?_) (fun g_1 => ?_)
 ·replace h := if_tt g_1 h
  refine Tri.seq ?_
  refine Tri.reg (l := [0, 1, 2]) rfl ?_
  refine F.m rfl rfl rfl (wanted_none rfl) (m_build0 (α := Int) Try.underlying25 ti3) ?_
  rintro v16_1 _ ⟨S16_1, hl_v16_1, rfl⟩
  refine F.q rfl rfl rfl (wanted_none rfl) (r_assign rfl) ?_
  refine F.q rfl rfl rfl (wanted_none rfl) (r_assign rfl) ?_
  refine F.nil ?_
  refine Nrm.seq ?_
  refine Tri.ret ?_
  refine Rtn.then ?_
  cases h
  exact Rtn.body (.tmp rfl (.tmp rfl .nil)) (fun w hw => ⟨_, _, rfl, ⟨v16_1, S16_1, rfl, hl_v16_1, rfl⟩, Sep.pick (is := [0]) rfl rfl hw⟩)
 ·replace h := if_ff g_1 h
  refine Tri.skip ?_
  refine Nrm.seq ?_
  refine Tri.seq ?_
  obtain ⟨t21, h21, h⟩ := bind_some h
  refine Tri.reg (l := [0, 1, 2, 3, 4, 5, 6]) rfl ?_
  refine F.q rfl rfl rfl (wanted_none rfl) (r_loadA ta27 ti27 rfl rfl (fun w hw => (box_cells (i := 0) rfl w hw))) ?_
  iterate 3 refine F.q rfl rfl rfl (wanted_none rfl) (r_move rfl) ?_
  refine F.m rfl rfl rfl (wanted_none rfl) (m_callF (xs := _) rfl ok108 rfl rfl (fun w hw => spec_l9Fill.ok h21 w ((fun _ hw => hr_a0_1.sep hw) w hw) ((fun _ hw => hr_a0_2.sep hw) w hw) ((fun _ hw => hr_a2.sep hw) w hw) ((fun _ hw => hr_a3.sep hw) w hw))) ?_
  rintro v21_1 _ ⟨_, ⟨S21_1, hl_v21_1, rfl⟩, rfl⟩
  refine F.q rfl rfl rfl (wanted_none rfl) (r_assign rfl) ?_
  refine F.q rfl rfl rfl (wanted_none rfl) (r_assign rfl) ?_
  refine F.nil ?_
  refine Nrm.seq ?_
  refine Tri.ret ?_
  cases h
  exact Rtn.body (.tmp rfl (.tmp rfl .nil)) (fun w hw => ⟨_, _, rfl, ⟨v21_1, S21_1, rfl, hl_v21_1, rfl⟩, Sep.pick (is := [0]) rfl rfl hw⟩)

end Go.Proofs
