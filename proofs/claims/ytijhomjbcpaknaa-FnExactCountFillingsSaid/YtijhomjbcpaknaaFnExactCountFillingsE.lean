/- A part of the proof of FnExactCountFillings: what the functions of the program compute, walked on the model. No condition. -/
import Derived.Test.YtijhomjbcpaknaaFnExactCountFillingsC
import Derived.Test.YtijhomjbcpaknaaFnExactCountFillingsD
set_option linter.unusedSimpArgs false
/- loop.example/g01158/impl.fillings -/
namespace Go.Proofs
open Go Go.Ga
set_option linter.unusedVariables false
set_option maxRecDepth 100000
set_option maxHeartbeats 4000000
def impl_fillings.l2 (k : Nat) (a0_0 : Int) (t22 : List Int) : Nat → (List (List Int)) → Int → Option ((List (List Int)))
  | 0, _, _ => none
  | n + 1, x6r, x26 => (if (decide (x26 < a0_0)) = true then (slices_Clone_int_int.f k t22).bind fun t31 => if (t31 ++ ([x26] : List (Int))).length < 1099511627776 then if ((x6r : List (List Int)) ++ ([t31 ++ ([x26] : List (Int))] : List (List Int))).length < 1099511627776 then impl_fillings.l2 k a0_0 t22 n ((x6r : List (List Int)) ++ ([t31 ++ ([x26] : List (Int))] : List (List Int))) (w64 (x26 + 1)) else none else none else some x6r)

def impl_fillings.l1 (k : Nat) (a0_0 : Int) (x5 : List (List Int)) : Nat → (List (List Int)) → (List (List Int)) → Int → Option ((List (List Int)))
  | 0, _, _, _ => none
  | n + 1, x6, x18, x20 => (if (decide (x20 < (x5.length : Int))) = true then (rdl (x18 : List (List Int)) x20).bind fun t22 => (impl_fillings.l2 k a0_0 t22 k x6 0).bind fun x6r => impl_fillings.l1 k a0_0 x5 n x6r ((x18 : List (List Int)).set (x20).toNat t22) (w64 (x20 + 1)) else some x6)

def impl_fillings.l0 (k : Nat) (a0_0 : Int) (t13 : List Int) : Nat → (List (List Int)) → Int → Option ((List (List Int)))
  | 0, _, _ => none
  | n + 1, x5, x15 => (if (decide (x15 < (t13.length : Int))) = true then (impl_fillings.l1 k a0_0 x5 k ([] : List (List Int)) x5 0).bind fun x6 => impl_fillings.l0 k a0_0 t13 n x6 (w64 (x15 + 1)) else some x5)

def impl_fillings.f (k : Nat) (a0_0 : Int) (a0_1 : List (Int × Int × Int)) (a0_2 : List Int) (a1 : Int) : Option ((List (List Int))) := (impl_members.f k a1).bind fun t13 => (impl_fillings.l0 k a0_0 t13 k ([([] : List (Int))] : List (List Int)) 0).bind fun x5 => some x5

theorem impl_fillings.ok {k : Nat}  {a0_0 : Int} {a0_1 : List (Int × Int × Int)} {a0_2 : List Int} {a1 : Int} {r0 : List (List Int)} (h : impl_fillings.f k a0_0 a0_1 a0_2 a1 = some r0) (w : World) {va0_1 : Value} {va0_2 : Value} (hr_a0_1 : Rd w va0_1 a0_1) (hr_a0_2 : Rd w va0_2 a0_2) :
    Calls Try.prog 111 ([.agg ([.int .i64 a0_0, va0_1, va0_2].toArray), .int .i64 a1] : List Value).toArray w (Post (fun u ns => ∃ (Sr0 : Nat → Prop), SlLen u r0.length ∧ ns = [R.sl Sr0 u r0]) w) := by
  unfold impl_fillings.f at h
  have hl_va0_1 := hr_a0_1.len
  have hl_va0_2 := hr_a0_2.len
  refine Calls.of_tri (N := 42) Try.func111 rfl rfl rfl (Sep.nil (M := noM)) ?_
  refine Tri.seq ?_
  refine Tri.reg (l := [0, 1]) rfl ?_
  refine F.m rfl rfl rfl (wanted_none rfl) (m_boxG rfl rfl) ?_
  rintro _ _ ⟨b2_1, rfl, rfl⟩
  refine F.q rfl rfl rfl (wanted_none rfl) (r_assign rfl) ?_
  refine F.nil ?_
  refine Nrm.seq ?_
  refine Tri.seq ?_
  refine Tri.reg (l := [0, 1, 2]) rfl ?_
  refine F.m rfl rfl rfl (wanted_none rfl) (m_build0 (α := Int) Try.underlying23 ti3) ?_
  rintro v10_1 _ ⟨S10_1, hl_v10_1, rfl⟩
  refine F.ef rfl rfl rfl (wanted_none rfl) (d_build1 (cells := [v10_1]) (x0 := (([] : List (Int)) : List Int)) (cs := [R.sl S10_1 v10_1 (([] : List (Int)) : List (Int))]) (rest := [R.box b2_1 31 [.int .i64 a0_0, va0_1, va0_2]]) [0] [1] Try.underlying95 ti23 rfl (sl_cells hl_v10_1) rfl (lf_cons (sl_leaf hl_v10_1) lf_nil) rfl rfl (jn_sl (S := S10_1) (v := v10_1) (l := (([] : List (Int)) : List (Int))))) ?_
  rintro v11_1 _ ⟨S11_1, hl_v11_1, rfl⟩
  refine F.q rfl rfl rfl (wanted_none rfl) (r_assign rfl) ?_
  refine F.nil ?_
  refine Nrm.seq ?_
  refine Tri.seq ?_
  refine Tri.seq ?_
  obtain ⟨t13, h13, h⟩ := bind_some h
  refine Tri.reg (l := [0, 1, 2, 3]) rfl ?_
  refine F.q rfl rfl rfl (wanted_none rfl) (r_move rfl) ?_
  refine F.m rfl rfl rfl (wanted_none rfl) (m_callF (xs := _) rfl ok68 rfl rfl (fun w hw => impl_members.ok h13 w )) ?_
  rintro v13_1 _ ⟨_, ⟨S13_1, hl_v13_1, rfl⟩, rfl⟩
  refine F.q rfl rfl rfl (wanted_none rfl) (r_len Try.underlying23 rfl hl_v13_1) ?_
  refine F.q rfl rfl rfl (wanted_none rfl) (r_move rfl) ?_
  refine F.nil ?_
  refine Nrm.seq ?_
  obtain ⟨x5, hE_1, h⟩ := bind_some h
  refine Tri.block ?_
  refine Tri.only [2, 5, 14, 15] rfl ?_
  refine Tri.pick [2, 1] rfl rfl ?_
  refine Tri.rounds (fun n e' C' => ∃ (x5' : List (List Int)) (x15' : Int) (w5 : Value) (T5 : Nat → Prop), impl_fillings.l0 k a0_0 t13 n x5' x15' = some x5 ∧ SlLen w5 (x5').length ∧ e' = [(2, .pointer (some ⟨b2_1, 0, none⟩)), (5, w5), (14, .int .i64 (t13.length : Int)), (15, .int .i64 x15')] ∧ C' = Sep w noM [R.box b2_1 31 [.int .i64 a0_0, va0_1, va0_2], R.sl T5 w5 (x5' : List (List Int))]) k ?_ ?_ ?_
  · exact ⟨([([] : List (Int))] : List (List Int)), 0, v11_1, S11_1, hE_1, hl_v11_1, rfl, rfl⟩
  · rintro _ _ ⟨_, _, _, _, hE_1, _⟩
    rw [impl_fillings.l0.eq_1] at hE_1; cases hE_1
  · rintro n_1 _ _ ⟨x5, x15, w5, T5, hE_1, hl_w5, rfl, rfl⟩ ih_1
    rw [impl_fillings.l0.eq_2] at hE_1
    refine Tri.seq ?_
    refine Tri.reg (l := [0]) rfl ?_
    refine F.q rfl rfl rfl (wanted_none rfl) (r_lss rfl rfl) ?_
    refine F.nil ?_
    refine Nrm.seq ?_
    refine Tri.seq ?_
    refine Tri.cond (b := decide (x15 < (t13.length : Int))) rfl (fun g_1 => ?_) (fun g_1 => ?_)
    · replace hE_1 := if_tt g_1 hE_1
      refine Tri.skip ?_
      refine Nrm.seq ?_
      refine Tri.seq ?_
      refine Tri.block ?_
      refine Tri.seq ?_
      refine Tri.reg (l := [0, 1]) rfl ?_
      refine F.m rfl rfl rfl (wanted_none rfl) (m_build0 (α := List Int) Try.underlying95 ti23) ?_
      rintro v17_1 _ ⟨S17_1, hl_v17_1, rfl⟩
      refine F.q rfl rfl rfl (wanted_none rfl) (r_assign rfl) ?_
      refine F.nil ?_
      refine Nrm.seq ?_
      refine Tri.seq ?_
      refine Tri.seq ?_
      refine Tri.reg (l := [0, 1, 2]) rfl ?_
      refine F.q rfl rfl rfl (wanted_none rfl) (r_move rfl) ?_
      refine F.q rfl rfl rfl (wanted_none rfl) (r_len Try.underlying95 rfl hl_w5) ?_
      refine F.q rfl rfl rfl (wanted_none rfl) (r_move rfl) ?_
      refine F.nil ?_
      refine Nrm.seq ?_
      obtain ⟨x6, hE_2, hE_1⟩ := bind_some hE_1
      refine Tri.block ?_
      refine Tri.only [2, 6, 14, 15, 18, 19, 20] rfl ?_
      refine Tri.pick [1, 0, 2] rfl rfl ?_
      refine Tri.rounds (fun n e' C' => ∃ (x6' : List (List Int)) (x18' : List (List Int)) (x20' : Int) (w6 : Value) (T6 : Nat → Prop), impl_fillings.l1 k a0_0 x5 n x6' x18' x20' = some x6 ∧ SlLen w6 (x6').length ∧ SlLen w5 (x18').length ∧ e' = [(2, .pointer (some ⟨b2_1, 0, none⟩)), (6, w6), (14, .int .i64 (t13.length : Int)), (15, .int .i64 x15), (18, w5), (19, .int .i64 (x5.length : Int)), (20, .int .i64 x20')] ∧ C' = Sep w noM [R.box b2_1 31 [.int .i64 a0_0, va0_1, va0_2], R.sl T6 w6 (x6' : List (List Int)), R.sl T5 w5 (x18' : List (List Int))]) k ?_ ?_ ?_
      · exact ⟨([] : List (List Int)), x5, 0, v17_1, S17_1, hE_2, hl_v17_1, hl_w5, rfl, rfl⟩
      · rintro _ _ ⟨_, _, _, _, _, hE_2, _⟩
        rw [impl_fillings.l1.eq_1] at hE_2; cases hE_2
      · rintro n_2 _ _ ⟨x6, x18, x20, w6, T6, hE_2, hl_w6, hl_x18, rfl, rfl⟩ ih_2
        rw [impl_fillings.l1.eq_2] at hE_2
        refine Tri.seq ?_
        refine Tri.reg (l := [0]) rfl ?_
        refine F.q rfl rfl rfl (wanted_none rfl) (r_lss rfl rfl) ?_
        refine F.nil ?_
        refine Nrm.seq ?_
        refine Tri.seq ?_
        refine Tri.cond (b := decide (x20 < (x5.length : Int))) rfl (fun g_2 => ?_) (fun g_2 => ?_)
        · replace hE_2 := if_tt g_2 hE_2
          refine Tri.skip ?_
          refine Nrm.seq ?_
          refine Tri.seq ?_
          refine Tri.block ?_
          refine Tri.seq ?_
          obtain ⟨t22, h22, hE_2⟩ := bind_some hE_2
          refine Tri.ex (on23 [2] [0, 1] rfl rfl (rdl_some h22).2.2) ?_
          rintro _ ⟨v22_0_1, S22_0_1, Sr22_1, hl_v22_0_1, hS22_1, rfl⟩
          refine Tri.reg (l := [0, 1, 2]) rfl ?_
          refine F.q rfl rfl rfl (wanted_none rfl) (r_indexAddrS Try.underlying95 ti23 rfl hl_x18 rfl (rdl_some h22).1 (rdl_some h22).2.1) ?_
          refine F.q rfl rfl rfl (wanted_none rfl) (r_load ta23 rfl (fun w hw => cell_0 (hole_cells (p := 1) rfl w hw) rfl)) ?_
          refine F.q rfl rfl rfl (wanted_none rfl) (r_assign rfl) ?_
          refine F.nil ?_
          refine Nrm.seq ?_
          refine Tri.seq ?_
          refine Tri.reg (l := [0, 1, 2]) rfl ?_
          refine F.q rfl rfl rfl (wanted_none rfl) (r_fieldAddr tf31_0 rfl) ?_
          refine F.q rfl rfl rfl (wanted_none rfl) (r_load ta3 rfl (fun w hw => cell_1 (box_cells (i := 2) rfl w hw) rfl)) ?_
          refine F.q rfl rfl rfl (wanted_none rfl) (r_move rfl) ?_
          refine F.nil ?_
          refine Nrm.seq ?_
          obtain ⟨x6r, hE_3, hE_2⟩ := bind_some hE_2
          refine Tri.block ?_
          refine Tri.only [2, 6, 8, 14, 15, 18, 19, 20, 25, 26] rfl ?_
          refine Tri.pick [1, 2, 0, 3] rfl rfl ?_
          refine Tri.rounds (fun n e' C' => ∃ (x6r' : List (List Int)) (x26' : Int) (w6r : Value) (T6r : Nat → Prop), impl_fillings.l2 k a0_0 t22 n x6r' x26' = some x6r ∧ SlLen w6r (x6r').length ∧ e' = [(2, .pointer (some ⟨b2_1, 0, none⟩)), (6, w6r), (8, v22_0_1), (14, .int .i64 (t13.length : Int)), (15, .int .i64 x15), (18, w5), (19, .int .i64 (x5.length : Int)), (20, .int .i64 x20), (25, .int .i64 a0_0), (26, .int .i64 x26')] ∧ C' = Sep w noM [R.hole Sr22_1 w5 (x18 : List (List Int)) (x20).toNat [v22_0_1], R.box b2_1 31 [.int .i64 a0_0, va0_1, va0_2], R.sl S22_0_1 v22_0_1 (t22 : List (Int)), R.sl T6r w6r (x6r' : List (List Int))]) k ?_ ?_ ?_
          · exact ⟨x6, 0, w6, T6, hE_3, hl_w6, rfl, rfl⟩
          · rintro _ _ ⟨_, _, _, _, hE_3, _⟩
            rw [impl_fillings.l2.eq_1] at hE_3; cases hE_3
          · rintro n_3 _ _ ⟨x6r, x26, w6r, T6r, hE_3, hl_w6r, rfl, rfl⟩ ih_3
            rw [impl_fillings.l2.eq_2] at hE_3
            refine Tri.seq ?_
            refine Tri.reg (l := [0]) rfl ?_
            refine F.q rfl rfl rfl (wanted_none rfl) (r_lss rfl rfl) ?_
            refine F.nil ?_
            refine Nrm.seq ?_
            refine Tri.seq ?_
            refine Tri.cond (b := decide (x26 < a0_0)) rfl (fun g_3 => ?_) (fun g_3 => ?_)
            · replace hE_3 := if_tt g_3 hE_3
              refine Tri.skip ?_
              refine Nrm.seq ?_
              refine Tri.seq ?_
              refine Tri.block ?_
              refine Tri.seq ?_
              refine Tri.reg (l := [0, 1]) rfl ?_
              refine F.q rfl rfl rfl (wanted_none rfl) (r_move rfl) ?_
              refine F.q rfl rfl rfl (wanted_none rfl) (r_assign rfl) ?_
              refine F.nil ?_
              refine Nrm.seq ?_
              obtain ⟨t31, h31, hE_3⟩ := bind_some hE_3
              obtain ⟨hs34, hE_3⟩ := ck hE_3
              obtain ⟨hs36, hE_3⟩ := ck hE_3
              refine Tri.reg (l := [0, 1, 2, 3, 4, 5, 6, 7, 8]) rfl ?_
              refine F.q rfl rfl rfl (wanted_none rfl) (r_move rfl) ?_
              refine F.q rfl rfl rfl (wanted_none rfl) (r_move rfl) ?_
              refine F.m rfl rfl rfl (wanted_none rfl) (m_callF (xs := _) rfl ok105 rfl rfl (fun w hw => slices_Clone_int_int.ok h31 w ((rd_sl (i := 2) rfl) w hw))) ?_
              rintro v31_1 _ ⟨_, ⟨S31_1, hl_v31_1, rfl⟩, rfl⟩
              refine F.q rfl rfl rfl (wanted_none rfl) (r_move rfl) ?_
              refine F.m rfl rfl rfl (wanted_none rfl) (m_buildF (l := ([x26] : List (Int))) Try.underlying23 ti3 rfl rfl rfl rfl rfl) ?_
              rintro v33_1 _ ⟨S33_1, hl_v33_1, rfl⟩
              refine F.ef rfl rfl rfl (wanted_none rfl) (d_append (i := 1) Try.underlying23 Try.underlying23 ti3 rfl (by decide) rfl rfl rfl (rd_sl (i := 0) rfl) hs34) ?_
              rintro v34_1 _ ⟨S34_1, rfl, hl_v34_1⟩
              refine F.ef rfl rfl rfl (wanted_none rfl) (d_build1 (cells := [v34_1]) (x0 := (t31 ++ ([x26] : List (Int)) : List Int)) (cs := [R.sl S34_1 v34_1 (t31 ++ ([x26] : List (Int)) : List (Int))]) (rest := [R.sl S33_1 v33_1 (([x26] : List (Int)) : List (Int)), R.hole Sr22_1 w5 (x18 : List (List Int)) (x20).toNat [v22_0_1], R.box b2_1 31 [.int .i64 a0_0, va0_1, va0_2], R.sl S22_0_1 v22_0_1 (t22 : List (Int)), R.sl T6r w6r (x6r : List (List Int))]) [1] [0, 2, 3, 4, 5] Try.underlying95 ti23 rfl (sl_cells hl_v34_1) rfl (lf_cons (sl_leaf hl_v34_1) lf_nil) rfl rfl (jn_sl (S := S34_1) (v := v34_1) (l := (t31 ++ ([x26] : List (Int)) : List (Int))))) ?_
              rintro v35_1 _ ⟨S35_1, hl_v35_1, rfl⟩
              refine F.ef rfl rfl rfl (wanted_none rfl) (d_appendN (rest := [R.sl S33_1 v33_1 (([x26] : List (Int)) : List (Int)), R.hole Sr22_1 w5 (x18 : List (List Int)) (x20).toNat [v22_0_1], R.box b2_1 31 [.int .i64 a0_0, va0_1, va0_2], R.sl S22_0_1 v22_0_1 (t22 : List (Int))]) 5 0 [1, 2, 3, 4] Try.underlying95 Try.underlying95 ti23 rfl (by decide) rfl rfl rfl rfl hs36) ?_
              rintro v36_1 _ ⟨S36_1, hl_v36_1, rfl⟩
              refine F.q rfl rfl rfl (wanted_none rfl) (r_assign rfl) ?_
              refine F.nil ?_
              refine Nrm.block ?_
              refine Nrm.seq ?_
              refine Tri.reg (l := [0, 1]) rfl ?_
              refine F.q rfl rfl rfl (wanted_none rfl) (r_add rfl rfl) ?_
              refine F.q rfl rfl rfl (wanted_none rfl) (r_move rfl) ?_
              refine F.nil ?_
              refine Nrm.round ?_
              refine Rnd.only [2, 6, 8, 14, 15, 18, 19, 20, 25, 26] rfl ?_
              refine Rnd.pick [2, 3, 4, 0] rfl rfl ?_
              exact ih_3 _ _ ⟨(x6r : List (List Int)) ++ ([t31 ++ ([x26] : List (Int))] : List (List Int)), w64 (x26 + 1), v36_1, S36_1, hE_3, hl_v36_1, rfl, rfl⟩
            · replace hE_3 := if_ff g_3 hE_3
              refine Tri.exit ?_
              refine Exi.then ?_
              refine Exi.then ?_
              refine Exi.same ?_
              cases hE_3
              refine Nrm.block ?_
              refine Nrm.seq ?_
              refine Tri.reg (l := [0, 1]) rfl ?_
              refine F.q rfl rfl rfl (wanted_none rfl) (r_add rfl rfl) ?_
              refine F.q rfl rfl rfl (wanted_none rfl) (r_move rfl) ?_
              refine F.nil ?_
              refine Nrm.imp (cloS1 (cs := [R.sl S22_0_1 v22_0_1 (t22 : List (Int))]) (rest := [R.box b2_1 31 [.int .i64 a0_0, va0_1, va0_2], R.sl T6r w6r (x6r : List (List Int))]) [2, 0] [1, 3] rfl rfl (jn_sl (S := S22_0_1) (v := v22_0_1) (l := (t22 : List (Int)))) hS22_1) ?_
              refine Nrm.round ?_
              refine Rnd.only [2, 6, 14, 15, 18, 19, 20] rfl ?_
              refine Rnd.pick [1, 2, 0] rfl rfl ?_
              exact ih_2 _ _ ⟨x6r, (x18 : List (List Int)).set (x20).toNat t22, w64 (x20 + 1), w6r, T6r, hE_2, hl_w6r, (len_set hl_x18), rfl, rfl⟩
        · replace hE_2 := if_ff g_2 hE_2
          refine Tri.exit ?_
          refine Exi.then ?_
          refine Exi.then ?_
          refine Exi.same ?_
          cases hE_2
          refine Nrm.seq ?_
          refine Tri.reg (l := [0, 1]) rfl ?_
          refine F.q rfl rfl rfl (wanted_none rfl) (r_move rfl) ?_
          refine F.q rfl rfl rfl (wanted_none rfl) (r_assign rfl) ?_
          refine F.nil ?_
          refine Nrm.block ?_
          refine Nrm.seq ?_
          refine Tri.reg (l := [0, 1]) rfl ?_
          refine F.q rfl rfl rfl (wanted_none rfl) (r_add rfl rfl) ?_
          refine F.q rfl rfl rfl (wanted_none rfl) (r_move rfl) ?_
          refine F.nil ?_
          refine Nrm.round ?_
          refine Rnd.only [2, 5, 14, 15] rfl ?_
          refine Rnd.pick [0, 1] rfl rfl ?_
          exact ih_1 _ _ ⟨x6, w64 (x15 + 1), w6, T6, hE_1, hl_w6, rfl, rfl⟩
    · replace hE_1 := if_ff g_1 hE_1
      refine Tri.exit ?_
      refine Exi.then ?_
      refine Exi.then ?_
      refine Exi.same ?_
      cases hE_1
      refine Nrm.seq ?_
      refine Tri.seq ?_
      refine Tri.reg (l := [0, 1]) rfl ?_
      refine F.q rfl rfl rfl (wanted_none rfl) (r_move rfl) ?_
      refine F.q rfl rfl rfl (wanted_none rfl) (r_assign rfl) ?_
      refine F.nil ?_
      refine Nrm.seq ?_
      refine Tri.ret ?_
      cases h
      exact Rtn.body (.tmp rfl .nil) (fun w hw => ⟨_, _, rfl, ⟨T5, hl_w5, rfl⟩, Sep.pick (is := [1]) rfl rfl hw⟩)

end Go.Proofs

/- loop.example/g01158/impl.has -/

namespace Go.Proofs
open Go Go.Ga
set_option linter.unusedVariables false
set_option maxRecDepth 100000
set_option maxHeartbeats 4000000
def impl_has.f (k : Nat) (a0 : Int) (a1 : Int) : Option (Bool) := some ((bclr a1 a0) == 0)

theorem impl_has.ok {k : Nat}  {a0 : Int} {a1 : Int} {r0 : Bool} (h : impl_has.f k a0 a1 = some r0) (w : World) :
    Calls Try.prog 162 ([.int .i64 a0, .int .i64 a1] : List Value).toArray w (fun e w' => e = .returned (.bool r0) ∧ Ext w w') := by
  unfold impl_has.f at h
  refine Calls.of_tri (N := 9) Try.func162 rfl rfl rfl (Sep.nil (M := noM)) ?_
  refine Tri.seq ?_
  refine Tri.reg (l := [0]) rfl ?_
  refine F.q rfl rfl rfl (wanted_none rfl) (r_assign rfl) ?_
  refine F.nil ?_
  refine Nrm.seq ?_
  refine Tri.seq ?_
  refine Tri.reg (l := [0, 1, 2, 3, 4]) rfl ?_
  refine F.q rfl rfl rfl (wanted_none rfl) (r_move rfl) ?_
  refine F.q rfl rfl rfl (wanted_none rfl) (r_move rfl) ?_
  refine F.q rfl rfl rfl (wanted_none rfl) (r_andNot rfl rfl) ?_
  refine F.q rfl rfl rfl (wanted_none rfl) (r_eql rfl rfl) ?_
  refine F.q rfl rfl rfl (wanted_none rfl) (r_assign rfl) ?_
  refine F.nil ?_
  refine Nrm.seq ?_
  refine Tri.ret ?_
  cases h
  exact Rtn.body (.tmp rfl .nil) (fun w hw => ⟨rfl, hw.ext⟩)

end Go.Proofs

/- loop.example/g01158/impl.steps -/
namespace Go.Proofs
open Go Go.Ga
set_option linter.unusedVariables false
set_option maxRecDepth 100000
set_option maxHeartbeats 4000000
def impl_steps.l0 (k : Nat) (a0_1 : List (Int × Int × Int)) (a1 : Int) (a2 : Int) : Nat → Int → Int → Option (Int)
  | 0, _, _ => none
  | n + 1, x7, x13 => (if (decide (x13 < (a0_1.length : Int))) = true then ((rdl a0_1 x13).bind fun t15 => (impl_has.f k a2 t15.2.2).bind fun t20 => (if (!t20) = true then some x7 else ((if (t15.1 == a1) = true then if ¬ t15.2.1 < 0 then some (bor x7 (shl 1 t15.2.1)) else none else some x7)).bind fun y7 => ((if (t15.2.1 == a1) = true then if ¬ t15.1 < 0 then some (bor y7 (shl 1 t15.1)) else none else some y7)).bind fun y7r => some y7r)).bind fun y7 => impl_steps.l0 k a0_1 a1 a2 n y7 (w64 (x13 + 1)) else some x7)

def impl_steps.f (k : Nat) (a0_0 : Int) (a0_1 : List (Int × Int × Int)) (a0_2 : List Int) (a1 : Int) (a2 : Int) : Option (Int) := (impl_steps.l0 k a0_1 a1 a2 k 0 0).bind fun x7 => some x7

theorem impl_steps.ok {k : Nat}  {a0_0 : Int} {a0_1 : List (Int × Int × Int)} {a0_2 : List Int} {a1 : Int} {a2 : Int} {r0 : Int} (h : impl_steps.f k a0_0 a0_1 a0_2 a1 a2 = some r0) (w : World) {va0_1 : Value} {va0_2 : Value} (hr_a0_1 : Rd w va0_1 a0_1) (hr_a0_2 : Rd w va0_2 a0_2) :
    Calls Try.prog 154 ([.agg ([.int .i64 a0_0, va0_1, va0_2].toArray), .int .i64 a1, .int .i64 a2] : List Value).toArray w (fun e w' => e = .returned (.int .i64 r0) ∧ Ext w w') := by
  unfold impl_steps.f at h
  have hl_va0_1 := hr_a0_1.len
  have hl_va0_2 := hr_a0_2.len
  refine Calls.of_tri (N := 42) Try.func154 rfl rfl rfl (Sep.nil (M := noM)) ?_
  refine Tri.seq ?_
  refine Tri.reg (l := [0, 1]) rfl ?_
  refine F.m rfl rfl rfl (wanted_none rfl) (m_boxG rfl rfl) ?_
  rintro _ _ ⟨b3_1, rfl, rfl⟩
  refine F.q rfl rfl rfl (wanted_none rfl) (r_assign rfl) ?_
  refine F.nil ?_
  refine Nrm.seq ?_
  refine Tri.seq ?_
  refine Tri.reg (l := [0]) rfl ?_
  refine F.q rfl rfl rfl (wanted_none rfl) (r_assign rfl) ?_
  refine F.nil ?_
  refine Nrm.seq ?_
  refine Tri.seq ?_
  refine Tri.seq ?_
  refine Tri.reg (l := [0, 1, 2, 3]) rfl ?_
  refine F.q rfl rfl rfl (wanted_none rfl) (r_fieldAddr tf31_1 rfl) ?_
  refine F.q rfl rfl rfl (wanted_none rfl) (r_load ta22 rfl (fun w hw => cell_1 (box_cells (i := 0) rfl w hw) rfl)) ?_
  refine F.q rfl rfl rfl (wanted_none rfl) (r_len Try.underlying22 rfl hl_va0_1) ?_
  refine F.q rfl rfl rfl (wanted_none rfl) (r_move rfl) ?_
  refine F.nil ?_
  refine Nrm.seq ?_
  obtain ⟨x7, hE_1, h⟩ := bind_some h
  refine Tri.block ?_
  refine Tri.only [1, 2, 7, 11, 12, 13] rfl ?_
  refine Tri.pick [] rfl rfl ?_
  refine Tri.rounds (fun n e' C' => ∃ (x7' : Int) (x13' : Int), impl_steps.l0 k a0_1 a1 a2 n x7' x13' = some x7 ∧ e' = [(1, .int .i64 a1), (2, .int .i64 a2), (7, .int .i64 x7'), (11, va0_1), (12, .int .i64 (a0_1.length : Int)), (13, .int .i64 x13')] ∧ C' = Sep w noM []) k ?_ ?_ ?_
  · exact ⟨0, 0, hE_1, rfl, rfl⟩
  · rintro _ _ ⟨_, _, hE_1, _⟩
    rw [impl_steps.l0.eq_1] at hE_1; cases hE_1
  · rintro n_1 _ _ ⟨x7, x13, hE_1, rfl, rfl⟩ ih_1
    rw [impl_steps.l0.eq_2] at hE_1
    refine Tri.seq ?_
    refine Tri.reg (l := [0]) rfl ?_
    refine F.q rfl rfl rfl (wanted_none rfl) (r_lss rfl rfl) ?_
    refine F.nil ?_
    refine Nrm.seq ?_
    refine Tri.seq ?_
    refine Tri.cond (b := decide (x13 < (a0_1.length : Int))) rfl (fun g_1 => ?_) (fun g_1 => ?_)
    · replace hE_1 := if_tt g_1 hE_1
      refine Tri.skip ?_
      refine Nrm.seq ?_
      refine Tri.seq ?_
      obtain ⟨y7, hE_2, hE_1⟩ := bind_some hE_1
      refine Tri.cut (fun e' C' => e' = [(1, .int .i64 a1), (2, .int .i64 a2), (7, .int .i64 y7), (11, va0_1), (12, .int .i64 (a0_1.length : Int)), (13, .int .i64 x13)] ∧ C' = Sep w noM []) ?_ (fun hj_1 => ?_)
      · rintro _ _ ⟨rfl, rfl⟩
        refine Nrm.seq ?_
        refine Tri.reg (l := [0, 1]) rfl ?_
        refine F.q rfl rfl rfl (wanted_none rfl) (r_add rfl rfl) ?_
        refine F.q rfl rfl rfl (wanted_none rfl) (r_move rfl) ?_
        refine F.nil ?_
        refine Nrm.round ?_
        refine Rnd.only [1, 2, 7, 11, 12, 13] rfl ?_
        refine Rnd.pick [] rfl rfl ?_
        exact ih_1 _ _ ⟨y7, w64 (x13 + 1), hE_1, rfl, rfl⟩
      · refine Tri.block ?_
        refine Tri.seq ?_
        obtain ⟨t15, h15, hE_2⟩ := bind_some hE_2
        refine Tri.reg (l := [0, 1, 2, 3]) rfl ?_
        refine F.q rfl rfl rfl (wanted_none rfl) (r_indexAddrS Try.underlying22 ti116 rfl hl_va0_1 rfl (rdl_some h15).1 (rdl_some h15).2.1) ?_
        refine F.q rfl rfl rfl (wanted_none rfl) (r_loadA ta116 ti116 rfl rfl (fun w hw => (Rd.flat ((fun _ hw => hr_a0_1.sep hw) w hw) (rdl_some h15).2.2))) ?_
        refine F.m rfl rfl rfl (wanted_none rfl) (m_alloc ti116) ?_
        rintro _ _ ⟨b9_1, rfl, rfl⟩
        refine F.ef0 rfl rfl (wanted_none rfl) (d_storeG0 (i := 0) (cs2 := [.int .i64 t15.1, .int .i64 t15.2.1, .int .i64 t15.2.2]) ti116 rfl rfl rfl rfl rfl (Nat.le_of_ble_eq_true rfl) (lf_cons rfl (lf_cons rfl (lf_cons rfl lf_nil)))) ?_
        rintro _ _ ⟨rfl, rfl⟩
        refine F.nil ?_
        refine Nrm.seq ?_
        refine Tri.seq ?_
        refine Tri.seq ?_
        obtain ⟨t20, h20, hE_2⟩ := bind_some hE_2
        refine Tri.reg (l := [0, 1, 2, 3, 4]) rfl ?_
        refine F.q rfl rfl rfl (wanted_none rfl) (r_move rfl) ?_
        refine F.q rfl rfl rfl (wanted_none rfl) (r_indexAddrA Try.underlying116 ti3 rfl rfl (by decide) (by decide)) ?_
        refine F.q rfl rfl rfl (wanted_none rfl) (r_load ta3 rfl (fun w hw => cell_1 (box_cells (i := 0) rfl w hw) rfl)) ?_
        refine F.qc rfl rfl rfl (wanted_none rfl) (q_callF (xs := _) rfl ok162 rfl rfl (fun w hw => impl_has.ok h20 w )) ?_
        refine F.q rfl rfl rfl (wanted_none rfl) (r_not rfl) ?_
        refine F.nil ?_
        refine Nrm.seq ?_
        refine Tri.cond (b := !t20) rfl (fun g_2 => ?_) (fun g_2 => ?_)
        · replace hE_2 := if_tt g_2 hE_2
          refine Tri.exit ?_
          refine Exi.then ?_
          refine Exi.same ?_
          cases hE_2
          refine Nrm.only [1, 2, 7, 11, 12, 13] rfl ?_
          refine Nrm.pick [] rfl rfl ?_
          exact hj_1 _ _ ⟨rfl, rfl⟩
        · replace hE_2 := if_ff g_2 hE_2
          refine Tri.skip ?_
          refine Nrm.seq ?_
          refine Tri.seq ?_
          refine Tri.seq ?_
          refine Tri.reg (l := [0, 1, 2, 3]) rfl ?_
          refine F.q rfl rfl rfl (wanted_none rfl) (r_indexAddrA Try.underlying116 ti3 rfl rfl (by decide) (by decide)) ?_
          refine F.q rfl rfl rfl (wanted_none rfl) (r_load ta3 rfl (fun w hw => cell_1 (box_cells (i := 0) rfl w hw) rfl)) ?_
          refine F.q rfl rfl rfl (wanted_none rfl) (r_move rfl) ?_
          refine F.q rfl rfl rfl (wanted_none rfl) (r_eql rfl rfl) ?_
          refine F.nil ?_
          refine Nrm.seq ?_
          obtain ⟨y7, hE_3, hE_2⟩ := bind_some hE_2
          refine Tri.cut (fun e' C' => e' = [(1, .int .i64 a1), (2, .int .i64 a2), (7, .int .i64 y7), (9, .pointer (some ⟨b9_1, 0, none⟩)), (11, va0_1), (12, .int .i64 (a0_1.length : Int)), (13, .int .i64 x13)] ∧ C' = Sep w noM [R.box b9_1 116 [.int .i64 t15.1, .int .i64 t15.2.1, .int .i64 t15.2.2]]) ?_ (fun hj_2 => ?_)
          · rintro _ _ ⟨rfl, rfl⟩
            refine Nrm.seq ?_
            refine Tri.seq ?_
            refine Tri.reg (l := [0, 1, 2, 3]) rfl ?_
            refine F.q rfl rfl rfl (wanted_none rfl) (r_indexAddrA Try.underlying116 ti3 rfl rfl (by decide) (by decide)) ?_
            refine F.q rfl rfl rfl (wanted_none rfl) (r_load ta3 rfl (fun w hw => cell_1 (box_cells (i := 0) rfl w hw) rfl)) ?_
            refine F.q rfl rfl rfl (wanted_none rfl) (r_move rfl) ?_
            refine F.q rfl rfl rfl (wanted_none rfl) (r_eql rfl rfl) ?_
            refine F.nil ?_
            refine Nrm.seq ?_
            obtain ⟨y7r, hE_4, hE_2⟩ := bind_some hE_2
            refine Tri.cut (fun e' C' => e' = [(1, .int .i64 a1), (2, .int .i64 a2), (7, .int .i64 y7r), (11, va0_1), (12, .int .i64 (a0_1.length : Int)), (13, .int .i64 x13)] ∧ C' = Sep w noM []) ?_ (fun hj_3 => ?_)
            · rintro _ _ ⟨rfl, rfl⟩
              refine Nrm.block ?_
              cases hE_2
              refine Nrm.only [1, 2, 7, 11, 12, 13] rfl ?_
              refine Nrm.pick [] rfl rfl ?_
              exact hj_1 _ _ ⟨rfl, rfl⟩
            · refine Tri.cond (b := t15.2.1 == a1) rfl (fun g_4 => ?_) (fun g_4 => ?_)
              · replace hE_4 := if_tt g_4 hE_4
                obtain ⟨hs38, hE_4⟩ := ck hE_4
                refine Tri.reg (l := [0, 1, 2, 3, 4, 5]) rfl ?_
                refine F.q rfl rfl rfl (wanted_none rfl) (r_move rfl) ?_
                refine F.q rfl rfl rfl (wanted_none rfl) (r_indexAddrA Try.underlying116 ti3 rfl rfl (by decide) (by decide)) ?_
                refine F.q rfl rfl rfl (wanted_none rfl) (r_load ta3 rfl (fun w hw => cell_1 (box_cells (i := 0) rfl w hw) rfl)) ?_
                refine F.q rfl rfl rfl (wanted_none rfl) (r_shl rfl rfl hs38) ?_
                refine F.q rfl rfl rfl (wanted_none rfl) (r_or rfl rfl) ?_
                refine F.q rfl rfl rfl (wanted_none rfl) (r_assign rfl) ?_
                refine F.nil ?_
                cases hE_4
                refine Nrm.only [1, 2, 7, 11, 12, 13] rfl ?_
                refine Nrm.pick [] rfl rfl ?_
                exact hj_3 _ _ ⟨rfl, rfl⟩
              · replace hE_4 := if_ff g_4 hE_4
                refine Tri.skip ?_
                cases hE_4
                refine Nrm.only [1, 2, 7, 11, 12, 13] rfl ?_
                refine Nrm.pick [] rfl rfl ?_
                exact hj_3 _ _ ⟨rfl, rfl⟩
          · refine Tri.cond (b := t15.1 == a1) rfl (fun g_3 => ?_) (fun g_3 => ?_)
            · replace hE_3 := if_tt g_3 hE_3
              obtain ⟨hs29, hE_3⟩ := ck hE_3
              refine Tri.reg (l := [0, 1, 2, 3, 4, 5]) rfl ?_
              refine F.q rfl rfl rfl (wanted_none rfl) (r_move rfl) ?_
              refine F.q rfl rfl rfl (wanted_none rfl) (r_indexAddrA Try.underlying116 ti3 rfl rfl (by decide) (by decide)) ?_
              refine F.q rfl rfl rfl (wanted_none rfl) (r_load ta3 rfl (fun w hw => cell_1 (box_cells (i := 0) rfl w hw) rfl)) ?_
              refine F.q rfl rfl rfl (wanted_none rfl) (r_shl rfl rfl hs29) ?_
              refine F.q rfl rfl rfl (wanted_none rfl) (r_or rfl rfl) ?_
              refine F.q rfl rfl rfl (wanted_none rfl) (r_assign rfl) ?_
              refine F.nil ?_
              cases hE_3
              refine Nrm.only [1, 2, 7, 9, 11, 12, 13] rfl ?_
              refine Nrm.pick [0] rfl rfl ?_
              exact hj_2 _ _ ⟨rfl, rfl⟩
            · replace hE_3 := if_ff g_3 hE_3
              refine Tri.skip ?_
              cases hE_3
              refine Nrm.only [1, 2, 7, 9, 11, 12, 13] rfl ?_
              refine Nrm.pick [0] rfl rfl ?_
              exact hj_2 _ _ ⟨rfl, rfl⟩
    · replace hE_1 := if_ff g_1 hE_1
      refine Tri.exit ?_
      refine Exi.then ?_
      refine Exi.then ?_
      refine Exi.same ?_
      cases hE_1
      refine Nrm.seq ?_
      refine Tri.seq ?_
      refine Tri.reg (l := [0, 1]) rfl ?_
      refine F.q rfl rfl rfl (wanted_none rfl) (r_move rfl) ?_
      refine F.q rfl rfl rfl (wanted_none rfl) (r_assign rfl) ?_
      refine F.nil ?_
      refine Nrm.seq ?_
      refine Tri.ret ?_
      cases h
      exact Rtn.body (.tmp rfl .nil) (fun w hw => ⟨rfl, hw.ext⟩)

end Go.Proofs

/- loop.example/g01158/impl.reach -/
namespace Go.Proofs
open Go Go.Ga
set_option linter.unusedVariables false
set_option maxRecDepth 100000
set_option maxHeartbeats 4000000
def impl_reach.l0 (k : Nat) (a0_0 : Int) (a0_1 : List (Int × Int × Int)) (a0_2 : List Int) (a2 : Int) : Nat → Int → (List (Int)) → Option (Int)
  | 0, _, _ => none
  | n + 1, x7, x8 => (if (decide ((x8.length : Int) > 0)) = true then (rdl x8 0).bind fun t19 => (impl_steps.f k a0_0 a0_1 a0_2 t19 a2).bind fun t22 => (slc x8 1 (x8.length : Int)).bind fun t29 => (impl_members.f k (bclr t22 x7)).bind fun t31 => if (t29 ++ t31).length < 1099511627776 then impl_reach.l0 k a0_0 a0_1 a0_2 a2 n (bor x7 (bclr t22 x7)) (t29 ++ t31) else none else some x7)

def impl_reach.f (k : Nat) (a0_0 : Int) (a0_1 : List (Int × Int × Int)) (a0_2 : List Int) (a1 : Int) (a2 : Int) : Option (Int) := if ¬ a1 < 0 then (impl_reach.l0 k a0_0 a0_1 a0_2 a2 k (shl 1 a1) ([a1] : List (Int))).bind fun x7 => some x7 else none

theorem impl_reach.ok {k : Nat}  {a0_0 : Int} {a0_1 : List (Int × Int × Int)} {a0_2 : List Int} {a1 : Int} {a2 : Int} {r0 : Int} (h : impl_reach.f k a0_0 a0_1 a0_2 a1 a2 = some r0) (w : World) {va0_1 : Value} {va0_2 : Value} (hr_a0_1 : Rd w va0_1 a0_1) (hr_a0_2 : Rd w va0_2 a0_2) :
    Calls Try.prog 166 ([.agg ([.int .i64 a0_0, va0_1, va0_2].toArray), .int .i64 a1, .int .i64 a2] : List Value).toArray w (fun e w' => e = .returned (.int .i64 r0) ∧ Ext w w') := by
  unfold impl_reach.f at h
  have hl_va0_1 := hr_a0_1.len
  have hl_va0_2 := hr_a0_2.len
  refine Calls.of_tri (N := 34) Try.func166 rfl rfl rfl (Sep.nil (M := noM)) ?_
  refine Tri.seq ?_
  refine Tri.reg (l := [0, 1]) rfl ?_
  refine F.m rfl rfl rfl (wanted_none rfl) (m_boxG rfl rfl) ?_
  rintro _ _ ⟨b3_1, rfl, rfl⟩
  refine F.q rfl rfl rfl (wanted_none rfl) (r_assign rfl) ?_
  refine F.nil ?_
  refine Nrm.seq ?_
  refine Tri.seq ?_
  obtain ⟨hs11, h⟩ := ck h
  refine Tri.reg (l := [0, 1, 2, 3, 4, 5]) rfl ?_
  refine F.q rfl rfl rfl (wanted_none rfl) (r_move rfl) ?_
  refine F.q rfl rfl rfl (wanted_none rfl) (r_shl rfl rfl hs11) ?_
  refine F.q rfl rfl rfl (wanted_none rfl) (r_move rfl) ?_
  refine F.m rfl rfl rfl (wanted_none rfl) (m_buildF (l := ([a1] : List (Int))) Try.underlying23 ti3 rfl rfl rfl rfl rfl) ?_
  rintro v13_1 _ ⟨S13_1, hl_v13_1, rfl⟩
  refine F.q rfl rfl rfl (wanted_none rfl) (r_assign rfl) ?_
  refine F.q rfl rfl rfl (wanted_none rfl) (r_assign rfl) ?_
  refine F.nil ?_
  refine Nrm.seq ?_
  refine Tri.seq ?_
  obtain ⟨x7, hE_1, h⟩ := bind_some h
  refine Tri.block ?_
  refine Tri.only [2, 3, 7, 8] rfl ?_
  refine Tri.pick [1, 0] rfl rfl ?_
  refine Tri.rounds (fun n e' C' => ∃ (x7' : Int) (x8' : List (Int)) (w8 : Value) (T8 : Nat → Prop), impl_reach.l0 k a0_0 a0_1 a0_2 a2 n x7' x8' = some x7 ∧ SlLen w8 (x8').length ∧ e' = [(2, .int .i64 a2), (3, .pointer (some ⟨b3_1, 0, none⟩)), (7, .int .i64 x7'), (8, w8)] ∧ C' = Sep w noM [R.box b3_1 31 [.int .i64 a0_0, va0_1, va0_2], R.sl T8 w8 (x8' : List (Int))]) k ?_ ?_ ?_
  · exact ⟨shl 1 a1, ([a1] : List (Int)), v13_1, S13_1, hE_1, hl_v13_1, rfl, rfl⟩
  · rintro _ _ ⟨_, _, _, _, hE_1, _⟩
    rw [impl_reach.l0.eq_1] at hE_1; cases hE_1
  · rintro n_1 _ _ ⟨x7, x8, w8, T8, hE_1, hl_w8, rfl, rfl⟩ ih_1
    rw [impl_reach.l0.eq_2] at hE_1
    refine Tri.seq ?_
    refine Tri.seq ?_
    refine Tri.reg (l := [0, 1, 2]) rfl ?_
    refine F.q rfl rfl rfl (wanted_none rfl) (r_move rfl) ?_
    refine F.q rfl rfl rfl (wanted_none rfl) (r_len Try.underlying23 rfl hl_w8) ?_
    refine F.q rfl rfl rfl (wanted_none rfl) (r_gtr rfl rfl) ?_
    refine F.nil ?_
    refine Nrm.seq ?_
    refine Tri.cond (b := decide ((x8.length : Int) > 0)) rfl (fun g_1 => ?_) (fun g_1 => ?_)
    · replace hE_1 := if_tt g_1 hE_1
      refine Tri.skip ?_
      refine Nrm.seq ?_
      refine Tri.block ?_
      refine Tri.seq ?_
      obtain ⟨t19, h19, hE_1⟩ := bind_some hE_1
      obtain ⟨t22, h22, hE_1⟩ := bind_some hE_1
      refine Tri.drawA mixedT Sep.up [(0, true), (1, true), (2, true), (3, true), (4, true), (5, true), (6, true), (7, true), (8, true)] [] (by kernel_rfl) ?_
      refine S.q rfl rfl rfl (wanted_none rfl) (r_loadA ta31 ti31 rfl rfl (fun w hw => (box_cells (i := 0) rfl w hw))) ?_
      refine S.q rfl rfl rfl (wanted_none rfl) (r_move rfl) ?_
      refine S.q rfl rfl rfl (wanted_none rfl) (r_indexAddrS Try.underlying23 ti3 rfl hl_w8 rfl (rdl_some h19).1 (rdl_some h19).2.1) ?_
      refine S.q rfl rfl rfl (wanted_none rfl) (r_load ta3 rfl (fun w hw => cell_0 (Rd.flat ((rd_sl (i := 1) rfl) w hw) (rdl_some h19).2.2) rfl)) ?_
      refine S.q rfl rfl rfl (wanted_none rfl) (r_move rfl) ?_
      refine S.qc rfl rfl rfl (wanted_none rfl) (q_callF (xs := _) rfl ok154 rfl rfl (fun w hw => impl_steps.ok h22 w ((fun _ hw => hr_a0_1.sep hw) w hw) ((fun _ hw => hr_a0_2.sep hw) w hw))) ?_
      refine S.q rfl rfl rfl (wanted_none rfl) (r_move rfl) ?_
      refine S.q rfl rfl rfl (wanted_none rfl) (r_andNot rfl rfl) ?_
      refine S.q rfl rfl rfl (wanted_none rfl) (r_assign rfl) ?_
      refine S.nil ?_
      refine F.nil ?_
      refine Nrm.seq ?_
      refine Tri.seq ?_
      refine Tri.reg (l := [0, 1, 2, 3]) rfl ?_
      refine F.q rfl rfl rfl (wanted_none rfl) (r_move rfl) ?_
      refine F.q rfl rfl rfl (wanted_none rfl) (r_move rfl) ?_
      refine F.q rfl rfl rfl (wanted_none rfl) (r_or rfl rfl) ?_
      refine F.q rfl rfl rfl (wanted_none rfl) (r_assign rfl) ?_
      refine F.nil ?_
      refine Nrm.seq ?_
      obtain ⟨t29, h29, hE_1⟩ := bind_some hE_1
      obtain ⟨t31, h31, hE_1⟩ := bind_some hE_1
      obtain ⟨hs32, hE_1⟩ := ck hE_1
      refine Tri.drawA mixedT Sep.up [(0, true), (1, true), (2, true), (3, false)] [4, 5] (by kernel_rfl) ?_
      refine S.q rfl rfl rfl (wanted_none rfl) (r_move rfl) ?_
      refine S.q rfl rfl rfl (wanted_none rfl) (r_sliceL Try.underlying23 ti3 rfl (rd_sl (i := 1) rfl) rfl h29) ?_
      refine S.q rfl rfl rfl (wanted_none rfl) (r_move rfl) ?_
      refine S.m rfl rfl rfl (wanted_none rfl) (m_callF (xs := _) rfl ok68 rfl rfl (fun w hw => impl_members.ok h31 w )) ?_
      rintro v31_2 _ ⟨_, ⟨S31_2, hl_v31_2, rfl⟩, rfl⟩
      refine S.nil ?_
      refine F.ef rfl rfl rfl (wanted_none rfl) (Does.pre (fun w hw => Sep.resl (i := 2) rfl h29 hw) <| d_append (i := 2) Try.underlying23 Try.underlying23 ti3 rfl (by decide) rfl rfl rfl (rd_sl (i := 0) rfl) hs32) ?_
      rintro v32_2 _ ⟨S32_2, rfl, hl_v32_2⟩
      refine F.q rfl rfl rfl (wanted_none rfl) (r_assign rfl) ?_
      refine F.nil ?_
      refine Nrm.block ?_
      refine Nrm.round ?_
      refine Rnd.only [2, 3, 7, 8] rfl ?_
      refine Rnd.pick [1, 2] rfl rfl ?_
      exact ih_1 _ _ ⟨bor x7 (bclr t22 x7), t29 ++ t31, v32_2, S32_2, hE_1, hl_v32_2, rfl, rfl⟩
    · replace hE_1 := if_ff g_1 hE_1
      refine Tri.exit ?_
      refine Exi.then ?_
      refine Exi.then ?_
      refine Exi.same ?_
      cases hE_1
      refine Nrm.seq ?_
      refine Tri.seq ?_
      refine Tri.reg (l := [0, 1]) rfl ?_
      refine F.q rfl rfl rfl (wanted_none rfl) (r_move rfl) ?_
      refine F.q rfl rfl rfl (wanted_none rfl) (r_assign rfl) ?_
      refine F.nil ?_
      refine Nrm.seq ?_
      refine Tri.ret ?_
      cases h
      exact Rtn.body (.tmp rfl .nil) (fun w hw => ⟨rfl, hw.ext⟩)

end Go.Proofs

/- loop.example/g01158/impl.rounds -/
namespace Go.Proofs
open Go Go.Ga
set_option linter.unusedVariables false
set_option maxRecDepth 100000
set_option maxHeartbeats 4000000
def impl_rounds.l1 (k : Nat) (a0_2 : List Int) (t18 : List Int) : Nat → Int → Int → Option (Int)
  | 0, _, _ => none
  | n + 1, x8, x20 => (if (decide (x20 < (t18.length : Int))) = true then (rdl t18 x20).bind fun t22 => (rdl a0_2 t22).bind fun t28 => impl_rounds.l1 k a0_2 t18 n (bor x8 t28) (w64 (x20 + 1)) else some x8)

def impl_rounds.l0 (k : Nat) (a0_0 : Int) (a0_1 : List (Int × Int × Int)) (a0_2 : List Int) : Nat → (List (Int × Int)) → Int → Option ((Unit) ⊕ ((List (Int × Int))))
  | 0, _, _ => none
  | n + 1, x5, x6 => (impl_reach.f k a0_0 a0_1 a0_2 0 x6).bind fun t15 => (impl_members.f k t15).bind fun t18 => (impl_rounds.l1 k a0_2 t18 k x6 0).bind fun x8 => if (x5 ++ ([(x6, t15)] : List (Int × Int))).length < 1099511627776 then (if (x8 == x6) = true then some (Sum.inr (x5 ++ ([(x6, t15)] : List (Int × Int)))) else impl_rounds.l0 k a0_0 a0_1 a0_2 n (x5 ++ ([(x6, t15)] : List (Int × Int))) x8) else none

def impl_rounds.f (k : Nat) (a0_0 : Int) (a0_1 : List (Int × Int × Int)) (a0_2 : List Int) (a1 : Int) : Option ((List (Int × Int))) := (impl_rounds.l0 k a0_0 a0_1 a0_2 k ([] : List (Int × Int)) a1).bind fun s => Lr s some fun _ => none

theorem impl_rounds.ok {k : Nat}  {a0_0 : Int} {a0_1 : List (Int × Int × Int)} {a0_2 : List Int} {a1 : Int} {r0 : List (Int × Int)} (h : impl_rounds.f k a0_0 a0_1 a0_2 a1 = some r0) (w : World) {va0_1 : Value} {va0_2 : Value} (hr_a0_1 : Rd w va0_1 a0_1) (hr_a0_2 : Rd w va0_2 a0_2) :
    Calls Try.prog 144 ([.agg ([.int .i64 a0_0, va0_1, va0_2].toArray), .int .i64 a1] : List Value).toArray w (Post (fun u ns => ∃ (Sr0 : Nat → Prop), SlLen u r0.length ∧ ns = [R.sl Sr0 u r0]) w) := by
  unfold impl_rounds.f at h
  have hl_va0_1 := hr_a0_1.len
  have hl_va0_2 := hr_a0_2.len
  refine Calls.of_tri (N := 43) Try.func144 rfl rfl rfl (Sep.nil (M := noM)) ?_
  refine Tri.seq ?_
  refine Tri.reg (l := [0, 1]) rfl ?_
  refine F.m rfl rfl rfl (wanted_none rfl) (m_boxG rfl rfl) ?_
  rintro _ _ ⟨b2_1, rfl, rfl⟩
  refine F.q rfl rfl rfl (wanted_none rfl) (r_assign rfl) ?_
  refine F.nil ?_
  refine Nrm.seq ?_
  refine Tri.seq ?_
  refine Tri.reg (l := [0, 1]) rfl ?_
  refine F.m rfl rfl rfl (wanted_none rfl) (m_build0 (α := Int × Int) Try.underlying146 ti130) ?_
  rintro v11_1 _ ⟨S11_1, hl_v11_1, rfl⟩
  refine F.q rfl rfl rfl (wanted_none rfl) (r_assign rfl) ?_
  refine F.nil ?_
  refine Nrm.seq ?_
  refine Tri.seq ?_
  refine Tri.reg (l := [0, 1]) rfl ?_
  refine F.q rfl rfl rfl (wanted_none rfl) (r_move rfl) ?_
  refine F.q rfl rfl rfl (wanted_none rfl) (r_assign rfl) ?_
  refine F.nil ?_
  refine Nrm.seq ?_
  obtain ⟨s0, hE_1, h⟩ := bind_some h
  refine Tri.block ?_
  refine Tri.only [2, 5, 6] rfl ?_
  refine Tri.pick [1, 0] rfl rfl ?_
  refine Tri.rounds (fun n e' C' => ∃ (x5' : List (Int × Int)) (x6' : Int) (w5 : Value) (T5 : Nat → Prop), impl_rounds.l0 k a0_0 a0_1 a0_2 n x5' x6' = some s0 ∧ SlLen w5 (x5').length ∧ e' = [(2, .pointer (some ⟨b2_1, 0, none⟩)), (5, w5), (6, .int .i64 x6')] ∧ C' = Sep w noM [R.box b2_1 31 [.int .i64 a0_0, va0_1, va0_2], R.sl T5 w5 (x5' : List (Int × Int))]) k ?_ ?_ ?_
  · exact ⟨([] : List (Int × Int)), a1, v11_1, S11_1, hE_1, hl_v11_1, rfl, rfl⟩
  · rintro _ _ ⟨_, _, _, _, hE_1, _⟩
    rw [impl_rounds.l0.eq_1] at hE_1; cases hE_1
  · rintro n_1 _ _ ⟨x5, x6, w5, T5, hE_1, hl_w5, rfl, rfl⟩ ih_1
    rw [impl_rounds.l0.eq_2] at hE_1
    refine Tri.block ?_
    refine Tri.seq ?_
    obtain ⟨t15, h15, hE_1⟩ := bind_some hE_1
    refine Tri.reg (l := [0, 1, 2, 3, 4, 5]) rfl ?_
    refine F.q rfl rfl rfl (wanted_none rfl) (r_loadA ta31 ti31 rfl rfl (fun w hw => (box_cells (i := 0) rfl w hw))) ?_
    refine F.q rfl rfl rfl (wanted_none rfl) (r_move rfl) ?_
    refine F.qc rfl rfl rfl (wanted_none rfl) (q_callF (xs := _) rfl ok166 rfl rfl (fun w hw => impl_reach.ok h15 w ((fun _ hw => hr_a0_1.sep hw) w hw) ((fun _ hw => hr_a0_2.sep hw) w hw))) ?_
    refine F.q rfl rfl rfl (wanted_none rfl) (r_move rfl) ?_
    refine F.q rfl rfl rfl (wanted_none rfl) (r_assign rfl) ?_
    refine F.q rfl rfl rfl (wanted_none rfl) (r_assign rfl) ?_
    refine F.nil ?_
    refine Nrm.seq ?_
    refine Tri.seq ?_
    refine Tri.seq ?_
    obtain ⟨t18, h18, hE_1⟩ := bind_some hE_1
    refine Tri.reg (l := [0, 1, 2, 3]) rfl ?_
    refine F.q rfl rfl rfl (wanted_none rfl) (r_move rfl) ?_
    refine F.m rfl rfl rfl (wanted_none rfl) (m_callF (xs := _) rfl ok68 rfl rfl (fun w hw => impl_members.ok h18 w )) ?_
    rintro v18_1 _ ⟨_, ⟨S18_1, hl_v18_1, rfl⟩, rfl⟩
    refine F.q rfl rfl rfl (wanted_none rfl) (r_len Try.underlying23 rfl hl_v18_1) ?_
    refine F.q rfl rfl rfl (wanted_none rfl) (r_move rfl) ?_
    refine F.nil ?_
    refine Nrm.seq ?_
    obtain ⟨x8, hE_2, hE_1⟩ := bind_some hE_1
    refine Tri.block ?_
    refine Tri.only [2, 5, 6, 7, 8, 18, 19, 20] rfl ?_
    refine Tri.pick [1, 0, 2] rfl rfl ?_
    refine Tri.rounds (fun n e' C' => ∃ (x8' : Int) (x20' : Int), impl_rounds.l1 k a0_2 t18 n x8' x20' = some x8 ∧ e' = [(2, .pointer (some ⟨b2_1, 0, none⟩)), (5, w5), (6, .int .i64 x6), (7, .int .i64 t15), (8, .int .i64 x8'), (18, v18_1), (19, .int .i64 (t18.length : Int)), (20, .int .i64 x20')] ∧ C' = Sep w noM [R.box b2_1 31 [.int .i64 a0_0, va0_1, va0_2], R.sl S18_1 v18_1 (t18 : List (Int)), R.sl T5 w5 (x5 : List (Int × Int))]) k ?_ ?_ ?_
    · exact ⟨x6, 0, hE_2, rfl, rfl⟩
    · rintro _ _ ⟨_, _, hE_2, _⟩
      rw [impl_rounds.l1.eq_1] at hE_2; cases hE_2
    · rintro n_2 _ _ ⟨x8, x20, hE_2, rfl, rfl⟩ ih_2
      rw [impl_rounds.l1.eq_2] at hE_2
      refine Tri.seq ?_
      refine Tri.reg (l := [0]) rfl ?_
      refine F.q rfl rfl rfl (wanted_none rfl) (r_lss rfl rfl) ?_
      refine F.nil ?_
      refine Nrm.seq ?_
      refine Tri.seq ?_
      refine Tri.cond (b := decide (x20 < (t18.length : Int))) rfl (fun g_1 => ?_) (fun g_1 => ?_)
      · replace hE_2 := if_tt g_1 hE_2
        refine Tri.skip ?_
        refine Nrm.seq ?_
        refine Tri.seq ?_
        refine Tri.block ?_
        refine Tri.seq ?_
        obtain ⟨t22, h22, hE_2⟩ := bind_some hE_2
        refine Tri.reg (l := [0, 1, 2]) rfl ?_
        refine F.q rfl rfl rfl (wanted_none rfl) (r_indexAddrS Try.underlying23 ti3 rfl hl_v18_1 rfl (rdl_some h22).1 (rdl_some h22).2.1) ?_
        refine F.q rfl rfl rfl (wanted_none rfl) (r_load ta3 rfl (fun w hw => cell_0 (Rd.flat ((rd_sl (i := 1) rfl) w hw) (rdl_some h22).2.2) rfl)) ?_
        refine F.q rfl rfl rfl (wanted_none rfl) (r_assign rfl) ?_
        refine F.nil ?_
        refine Nrm.seq ?_
        obtain ⟨t28, h28, hE_2⟩ := bind_some hE_2
        refine Tri.reg (l := [0, 1, 2, 3, 4, 5, 6, 7]) rfl ?_
        refine F.q rfl rfl rfl (wanted_none rfl) (r_move rfl) ?_
        refine F.q rfl rfl rfl (wanted_none rfl) (r_fieldAddr tf31_2 rfl) ?_
        refine F.q rfl rfl rfl (wanted_none rfl) (r_load ta23 rfl (fun w hw => cell_1 (box_cells (i := 0) rfl w hw) rfl)) ?_
        refine F.q rfl rfl rfl (wanted_none rfl) (r_move rfl) ?_
        refine F.q rfl rfl rfl (wanted_none rfl) (r_indexAddrS Try.underlying23 ti3 rfl hl_va0_2 rfl (rdl_some h28).1 (rdl_some h28).2.1) ?_
        refine F.q rfl rfl rfl (wanted_none rfl) (r_load ta3 rfl (fun w hw => cell_0 (Rd.flat ((fun _ hw => hr_a0_2.sep hw) w hw) (rdl_some h28).2.2) rfl)) ?_
        refine F.q rfl rfl rfl (wanted_none rfl) (r_or rfl rfl) ?_
        refine F.q rfl rfl rfl (wanted_none rfl) (r_assign rfl) ?_
        refine F.nil ?_
        refine Nrm.block ?_
        refine Nrm.seq ?_
        refine Tri.reg (l := [0, 1]) rfl ?_
        refine F.q rfl rfl rfl (wanted_none rfl) (r_add rfl rfl) ?_
        refine F.q rfl rfl rfl (wanted_none rfl) (r_move rfl) ?_
        refine F.nil ?_
        refine Nrm.round ?_
        refine Rnd.only [2, 5, 6, 7, 8, 18, 19, 20] rfl ?_
        refine Rnd.pick [0, 1, 2] rfl rfl ?_
        exact ih_2 _ _ ⟨bor x8 t28, w64 (x20 + 1), hE_2, rfl, rfl⟩
      · replace hE_2 := if_ff g_1 hE_2
        refine Tri.exit ?_
        refine Exi.then ?_
        refine Exi.then ?_
        refine Exi.same ?_
        cases hE_2
        refine Nrm.seq ?_
        refine Tri.seq ?_
        obtain ⟨hs37, hE_1⟩ := ck hE_1
        refine Tri.reg (l := [0, 1, 2, 3, 4, 5, 6]) rfl ?_
        refine F.q rfl rfl rfl (wanted_none rfl) (r_move rfl) ?_
        refine F.q rfl rfl rfl (wanted_none rfl) (r_move rfl) ?_
        refine F.q rfl rfl rfl (wanted_none rfl) (r_move rfl) ?_
        refine F.q rfl rfl rfl (wanted_none rfl) (r_build (pl := [(0, 1), (1, 1)]) (qs := [(0, [.int .i64 x6]), (1, [.int .i64 t15])]) (cs := [.int .i64 x6, .int .i64 t15]) (by kernel_rfl) ti130 rfl (.cons rfl rfl (Nat.le_of_ble_eq_true rfl) (.cons rfl rfl (Nat.le_of_ble_eq_true rfl) .nil)) rfl rfl) ?_
        refine F.m rfl rfl rfl (wanted_none rfl) (m_buildF (l := ([(x6, t15)] : List (Int × Int))) Try.underlying146 ti130 rfl rfl rfl rfl rfl) ?_
        rintro v36_1 _ ⟨S36_1, hl_v36_1, rfl⟩
        refine F.ef rfl rfl rfl (wanted_none rfl) (d_append (i := 3) Try.underlying146 Try.underlying146 ti130 rfl (by decide) rfl rfl rfl (rd_sl (i := 0) rfl) hs37) ?_
        rintro v37_1 _ ⟨S37_1, rfl, hl_v37_1⟩
        refine F.q rfl rfl rfl (wanted_none rfl) (r_assign rfl) ?_
        refine F.nil ?_
        refine Nrm.seq ?_
        refine Tri.seq ?_
        refine Tri.seq ?_
        refine Tri.reg (l := [0, 1, 2]) rfl ?_
        refine F.q rfl rfl rfl (wanted_none rfl) (r_move rfl) ?_
        refine F.q rfl rfl rfl (wanted_none rfl) (r_move rfl) ?_
        refine F.q rfl rfl rfl (wanted_none rfl) (r_eql rfl rfl) ?_
        refine F.nil ?_
        refine Nrm.seq ?_
        refine Tri.cond (b := x8 == x6) rfl (fun g_2 => ?_) (fun g_2 => ?_)
        · replace hE_1 := if_tt g_2 hE_1
          refine Tri.seq ?_
          refine Tri.reg (l := [0, 1]) rfl ?_
          refine F.q rfl rfl rfl (wanted_none rfl) (r_move rfl) ?_
          refine F.q rfl rfl rfl (wanted_none rfl) (r_assign rfl) ?_
          refine F.nil ?_
          refine Nrm.seq ?_
          refine Tri.ret ?_
          refine Rtn.then ?_
          refine Rtn.block ?_
          refine Rtn.then ?_
          refine Rtn.block ?_
          cases hE_1
          replace h := Lr_inr h
          cases h
          exact Rtn.body (.tmp rfl .nil) (fun w hw => ⟨_, _, rfl, ⟨S37_1, hl_v37_1, rfl⟩, Sep.pick (is := [3]) rfl rfl hw⟩)
        · replace hE_1 := if_ff g_2 hE_1
          refine Tri.skip ?_
          refine Nrm.seq ?_
          refine Tri.reg (l := [0, 1]) rfl ?_
          refine F.q rfl rfl rfl (wanted_none rfl) (r_move rfl) ?_
          refine F.q rfl rfl rfl (wanted_none rfl) (r_assign rfl) ?_
          refine F.nil ?_
          refine Nrm.block ?_
          refine Nrm.round ?_
          refine Rnd.only [2, 5, 6] rfl ?_
          refine Rnd.pick [1, 3] rfl rfl ?_
          exact ih_1 _ _ ⟨x5 ++ ([(x6, t15)] : List (Int × Int)), x8, v37_1, S37_1, hE_1, hl_v37_1, rfl, rfl⟩

end Go.Proofs

/- loop.example/g01158/impl.nodeRounds -/
namespace Go.Proofs
open Go Go.Ga
set_option linter.unusedVariables false
set_option maxRecDepth 100000
set_option maxHeartbeats 4000000
def impl_nodeRounds.l1 (k : Nat) (x17 : Int) (t24 : List Int) : Nat → (List (Int)) → Int → Option ((List (Int)))
  | 0, _, _ => none
  | n + 1, x5r, x26 => (if (decide (x26 < (t24.length : Int))) = true then (rdl t24 x26).bind fun t28 => (rdl x5r t28).bind fun t32 => ((if (t32 == 0) = true then (rdl x5r t28).bind fun t39 => some (x5r.set t28.toNat (w64 (x17 + 1))) else some x5r)).bind fun y5 => impl_nodeRounds.l1 k x17 t24 n y5 (w64 (x26 + 1)) else some x5r)

def impl_nodeRounds.l0 (k : Nat) (t15 : List (Int × Int)) : Nat → (List (Int)) → Int → Option ((List (Int)))
  | 0, _, _ => none
  | n + 1, x5, x17 => (if (decide (x17 < (t15.length : Int))) = true then (rdl t15 x17).bind fun t20 => (impl_members.f k t20.2).bind fun t24 => (impl_nodeRounds.l1 k x17 t24 k x5 0).bind fun x5r => impl_nodeRounds.l0 k t15 n x5r (w64 (x17 + 1)) else some x5)

def impl_nodeRounds.f (k : Nat) (a0_0 : Int) (a0_1 : List (Int × Int × Int)) (a0_2 : List Int) (a1 : Int) : Option ((List Int)) := if 0 ≤ a0_0 ∧ a0_0 < 1099511627776 then (impl_rounds.f k a0_0 a0_1 a0_2 a1).bind fun t15 => (impl_nodeRounds.l0 k t15 k (List.replicate (a0_0).toNat (0 : Int)) 0).bind fun x5 => some x5 else none

theorem impl_nodeRounds.ok {k : Nat}  {a0_0 : Int} {a0_1 : List (Int × Int × Int)} {a0_2 : List Int} {a1 : Int} {r0 : List Int} (h : impl_nodeRounds.f k a0_0 a0_1 a0_2 a1 = some r0) (w : World) {va0_1 : Value} {va0_2 : Value} (hr_a0_1 : Rd w va0_1 a0_1) (hr_a0_2 : Rd w va0_2 a0_2) :
    Calls Try.prog 103 ([.agg ([.int .i64 a0_0, va0_1, va0_2].toArray), .int .i64 a1] : List Value).toArray w (Post (fun u ns => ∃ (Sr0 : Nat → Prop), SlLen u r0.length ∧ ns = [R.sl Sr0 u r0]) w) := by
  unfold impl_nodeRounds.f at h
  have hl_va0_1 := hr_a0_1.len
  have hl_va0_2 := hr_a0_2.len
  refine Calls.of_tri (N := 43) Try.func103 rfl rfl rfl (Sep.nil (M := noM)) ?_
  refine Tri.seq ?_
  refine Tri.reg (l := [0, 1]) rfl ?_
  refine F.m rfl rfl rfl (wanted_none rfl) (m_boxG rfl rfl) ?_
  rintro _ _ ⟨b2_1, rfl, rfl⟩
  refine F.q rfl rfl rfl (wanted_none rfl) (r_assign rfl) ?_
  refine F.nil ?_
  refine Nrm.seq ?_
  refine Tri.seq ?_
  obtain ⟨hm12, h⟩ := ck h
  refine Tri.reg (l := [0, 1, 2, 3]) rfl ?_
  refine F.q rfl rfl rfl (wanted_none rfl) (r_fieldAddr tf31_0 rfl) ?_
  refine F.q rfl rfl rfl (wanted_none rfl) (r_load ta3 rfl (fun w hw => cell_1 (box_cells (i := 0) rfl w hw) rfl)) ?_
  refine F.m rfl rfl rfl (wanted_none rfl) (m_make (x0 := (0 : Int)) Try.underlying23 ti3 rfl rfl rfl hm12.1 hm12.2 (by decide)) ?_
  rintro v12_1 _ ⟨S12_1, hl_v12_1, rfl⟩
  refine F.q rfl rfl rfl (wanted_none rfl) (r_assign rfl) ?_
  refine F.nil ?_
  refine Nrm.seq ?_
  refine Tri.seq ?_
  refine Tri.seq ?_
  obtain ⟨t15, h15, h⟩ := bind_some h
  refine Tri.reg (l := [0, 1, 2, 3, 4]) rfl ?_
  refine F.q rfl rfl rfl (wanted_none rfl) (r_loadA ta31 ti31 rfl rfl (fun w hw => (box_cells (i := 1) rfl w hw))) ?_
  refine F.q rfl rfl rfl (wanted_none rfl) (r_move rfl) ?_
  refine F.m rfl rfl rfl (wanted_none rfl) (m_callF (xs := _) rfl ok144 rfl rfl (fun w hw => impl_rounds.ok h15 w ((fun _ hw => hr_a0_1.sep hw) w hw) ((fun _ hw => hr_a0_2.sep hw) w hw))) ?_
  rintro v15_1 _ ⟨_, ⟨S15_1, hl_v15_1, rfl⟩, rfl⟩
  refine F.q rfl rfl rfl (wanted_none rfl) (r_len Try.underlying146 rfl hl_v15_1) ?_
  refine F.q rfl rfl rfl (wanted_none rfl) (r_move rfl) ?_
  refine F.nil ?_
  refine Nrm.seq ?_
  obtain ⟨x5, hE_1, h⟩ := bind_some h
  refine Tri.block ?_
  refine Tri.only [5, 15, 16, 17] rfl ?_
  refine Tri.pick [0, 1] rfl rfl ?_
  refine Tri.rounds (fun n e' C' => ∃ (x5' : List (Int)) (x17' : Int) (w5 : Value) (T5 : Nat → Prop), impl_nodeRounds.l0 k t15 n x5' x17' = some x5 ∧ SlLen w5 (x5').length ∧ e' = [(5, w5), (15, v15_1), (16, .int .i64 (t15.length : Int)), (17, .int .i64 x17')] ∧ C' = Sep w noM [R.sl S15_1 v15_1 (t15 : List (Int × Int)), R.sl T5 w5 (x5' : List (Int))]) k ?_ ?_ ?_
  · exact ⟨List.replicate (a0_0).toNat (0 : Int), 0, v12_1, S12_1, hE_1, hl_v12_1, rfl, rfl⟩
  · rintro _ _ ⟨_, _, _, _, hE_1, _⟩
    rw [impl_nodeRounds.l0.eq_1] at hE_1; cases hE_1
  · rintro n_1 _ _ ⟨x5, x17, w5, T5, hE_1, hl_w5, rfl, rfl⟩ ih_1
    rw [impl_nodeRounds.l0.eq_2] at hE_1
    refine Tri.seq ?_
    refine Tri.reg (l := [0]) rfl ?_
    refine F.q rfl rfl rfl (wanted_none rfl) (r_lss rfl rfl) ?_
    refine F.nil ?_
    refine Nrm.seq ?_
    refine Tri.seq ?_
    refine Tri.cond (b := decide (x17 < (t15.length : Int))) rfl (fun g_1 => ?_) (fun g_1 => ?_)
    · replace hE_1 := if_tt g_1 hE_1
      refine Tri.skip ?_
      refine Nrm.seq ?_
      refine Tri.seq ?_
      refine Tri.block ?_
      refine Tri.seq ?_
      obtain ⟨t20, h20, hE_1⟩ := bind_some hE_1
      refine Tri.reg (l := [0, 1, 2, 3, 4, 5]) rfl ?_
      refine F.q rfl rfl rfl (wanted_none rfl) (r_move rfl) ?_
      refine F.q rfl rfl rfl (wanted_none rfl) (r_indexAddrS Try.underlying146 ti130 rfl hl_v15_1 rfl (rdl_some h20).1 (rdl_some h20).2.1) ?_
      refine F.q rfl rfl rfl (wanted_none rfl) (r_loadA ta130 ti130 rfl rfl (fun w hw => (Rd.flat ((rd_sl (i := 0) rfl) w hw) (rdl_some h20).2.2))) ?_
      refine F.m rfl rfl rfl (wanted_none rfl) (m_alloc ti130) ?_
      rintro _ _ ⟨b7_1, rfl, rfl⟩
      refine F.q rfl rfl rfl (wanted_none rfl) (r_assign rfl) ?_
      refine F.ef0 rfl rfl (wanted_none rfl) (d_storeG0 (i := 0) (cs2 := [.int .i64 t20.1, .int .i64 t20.2]) ti130 rfl rfl rfl rfl rfl (Nat.le_of_ble_eq_true rfl) (lf_cons rfl (lf_cons rfl lf_nil))) ?_
      rintro _ _ ⟨rfl, rfl⟩
      refine F.nil ?_
      refine Nrm.seq ?_
      refine Tri.seq ?_
      obtain ⟨t24, h24, hE_1⟩ := bind_some hE_1
      refine Tri.reg (l := [0, 1, 2, 3, 4]) rfl ?_
      refine F.q rfl rfl rfl (wanted_none rfl) (r_fieldAddr tf130_1 rfl) ?_
      refine F.q rfl rfl rfl (wanted_none rfl) (r_load ta3 rfl (fun w hw => cell_1 (box_cells (i := 0) rfl w hw) rfl)) ?_
      refine F.m rfl rfl rfl (wanted_none rfl) (m_callF (xs := _) rfl ok68 rfl rfl (fun w hw => impl_members.ok h24 w )) ?_
      rintro v24_1 _ ⟨_, ⟨S24_1, hl_v24_1, rfl⟩, rfl⟩
      refine F.q rfl rfl rfl (wanted_none rfl) (r_len Try.underlying23 rfl hl_v24_1) ?_
      refine F.q rfl rfl rfl (wanted_none rfl) (r_move rfl) ?_
      refine F.nil ?_
      refine Nrm.seq ?_
      obtain ⟨x5r, hE_2, hE_1⟩ := bind_some hE_1
      refine Tri.block ?_
      refine Tri.only [5, 6, 15, 16, 17, 24, 25, 26] rfl ?_
      refine Tri.pick [0, 2, 3] rfl rfl ?_
      refine Tri.rounds (fun n e' C' => ∃ (x5r' : List (Int)) (x26' : Int) (w5r : Value) (T5r : Nat → Prop), impl_nodeRounds.l1 k x17 t24 n x5r' x26' = some x5r ∧ SlLen w5r (x5r').length ∧ e' = [(5, w5r), (6, .int .i64 x17), (15, v15_1), (16, .int .i64 (t15.length : Int)), (17, .int .i64 x17), (24, v24_1), (25, .int .i64 (t24.length : Int)), (26, .int .i64 x26')] ∧ C' = Sep w noM [R.sl S24_1 v24_1 (t24 : List (Int)), R.sl S15_1 v15_1 (t15 : List (Int × Int)), R.sl T5r w5r (x5r' : List (Int))]) k ?_ ?_ ?_
      · exact ⟨x5, 0, w5, T5, hE_2, hl_w5, rfl, rfl⟩
      · rintro _ _ ⟨_, _, _, _, hE_2, _⟩
        rw [impl_nodeRounds.l1.eq_1] at hE_2; cases hE_2
      · rintro n_2 _ _ ⟨x5r, x26, w5r, T5r, hE_2, hl_w5r, rfl, rfl⟩ ih_2
        rw [impl_nodeRounds.l1.eq_2] at hE_2
        refine Tri.seq ?_
        refine Tri.reg (l := [0]) rfl ?_
        refine F.q rfl rfl rfl (wanted_none rfl) (r_lss rfl rfl) ?_
        refine F.nil ?_
        refine Nrm.seq ?_
        refine Tri.seq ?_
        refine Tri.cond (b := decide (x26 < (t24.length : Int))) rfl (fun g_2 => ?_) (fun g_2 => ?_)
        · replace hE_2 := if_tt g_2 hE_2
          refine Tri.skip ?_
          refine Nrm.seq ?_
          refine Tri.seq ?_
          refine Tri.block ?_
          refine Tri.seq ?_
          obtain ⟨t28, h28, hE_2⟩ := bind_some hE_2
          refine Tri.reg (l := [0, 1, 2]) rfl ?_
          refine F.q rfl rfl rfl (wanted_none rfl) (r_indexAddrS Try.underlying23 ti3 rfl hl_v24_1 rfl (rdl_some h28).1 (rdl_some h28).2.1) ?_
          refine F.q rfl rfl rfl (wanted_none rfl) (r_load ta3 rfl (fun w hw => cell_0 (Rd.flat ((rd_sl (i := 0) rfl) w hw) (rdl_some h28).2.2) rfl)) ?_
          refine F.q rfl rfl rfl (wanted_none rfl) (r_assign rfl) ?_
          refine F.nil ?_
          refine Nrm.seq ?_
          refine Tri.seq ?_
          obtain ⟨t32, h32, hE_2⟩ := bind_some hE_2
          refine Tri.reg (l := [0, 1, 2, 3, 4]) rfl ?_
          refine F.q rfl rfl rfl (wanted_none rfl) (r_move rfl) ?_
          refine F.q rfl rfl rfl (wanted_none rfl) (r_move rfl) ?_
          refine F.q rfl rfl rfl (wanted_none rfl) (r_indexAddrS Try.underlying23 ti3 rfl hl_w5r rfl (rdl_some h32).1 (rdl_some h32).2.1) ?_
          refine F.q rfl rfl rfl (wanted_none rfl) (r_load ta3 rfl (fun w hw => cell_0 (Rd.flat ((rd_sl (i := 2) rfl) w hw) (rdl_some h32).2.2) rfl)) ?_
          refine F.q rfl rfl rfl (wanted_none rfl) (r_eql rfl rfl) ?_
          refine F.nil ?_
          refine Nrm.seq ?_
          obtain ⟨y5, hE_3, hE_2⟩ := bind_some hE_2
          refine Tri.cut (fun e' C' => ∃ (v5_1 : Value) (S5_1 : Nat → Prop), SlLen v5_1 (y5).length ∧ e' = [(5, v5_1), (6, .int .i64 x17), (15, v15_1), (16, .int .i64 (t15.length : Int)), (17, .int .i64 x17), (24, v24_1), (25, .int .i64 (t24.length : Int)), (26, .int .i64 x26)] ∧ C' = Sep w noM [R.sl S5_1 v5_1 (y5 : List (Int)), R.sl S15_1 v15_1 (t15 : List (Int × Int)), R.sl S24_1 v24_1 (t24 : List (Int))]) ?_ (fun hj_1 => ?_)
          · rintro _ _ ⟨v5_1, S5_1, hl_v5_1, rfl, rfl⟩
            refine Nrm.block ?_
            refine Nrm.seq ?_
            refine Tri.reg (l := [0, 1]) rfl ?_
            refine F.q rfl rfl rfl (wanted_none rfl) (r_add rfl rfl) ?_
            refine F.q rfl rfl rfl (wanted_none rfl) (r_move rfl) ?_
            refine F.nil ?_
            refine Nrm.round ?_
            refine Rnd.only [5, 6, 15, 16, 17, 24, 25, 26] rfl ?_
            refine Rnd.pick [2, 1, 0] rfl rfl ?_
            exact ih_2 _ _ ⟨y5, w64 (x26 + 1), v5_1, S5_1, hE_2, hl_v5_1, rfl, rfl⟩
          · refine Tri.cond (b := t32 == 0) rfl (fun g_3 => ?_) (fun g_3 => ?_)
            · replace hE_3 := if_tt g_3 hE_3
              obtain ⟨t39, h39, hE_3⟩ := bind_some hE_3
              refine Tri.reg (l := [0, 1, 2, 3, 4, 5]) rfl ?_
              refine F.q rfl rfl rfl (wanted_none rfl) (r_move rfl) ?_
              refine F.q rfl rfl rfl (wanted_none rfl) (r_move rfl) ?_
              refine F.q rfl rfl rfl (wanted_none rfl) (r_move rfl) ?_
              refine F.q rfl rfl rfl (wanted_none rfl) (r_add rfl rfl) ?_
              refine F.q rfl rfl rfl (wanted_none rfl) (r_indexAddrS Try.underlying23 ti3 rfl hl_w5r rfl (rdl_some h39).1 (rdl_some h39).2.1) ?_
              refine F.ef0 rfl rfl (wanted_none rfl) (d_storeE (i := 2) (x1 := w64 (x17 + 1)) ti3 rfl rfl rfl (rdl_some h39) rfl) ?_
              rintro _ _ ⟨rfl, rfl⟩
              refine F.nil ?_
              cases hE_3
              refine Nrm.only [5, 6, 15, 16, 17, 24, 25, 26] rfl ?_
              refine Nrm.pick [2, 1, 0] rfl rfl ?_
              exact hj_1 _ _ ⟨w5r, T5r, (len_set hl_w5r), rfl, rfl⟩
            · replace hE_3 := if_ff g_3 hE_3
              refine Tri.skip ?_
              cases hE_3
              refine Nrm.only [5, 6, 15, 16, 17, 24, 25, 26] rfl ?_
              refine Nrm.pick [2, 1, 0] rfl rfl ?_
              exact hj_1 _ _ ⟨w5r, T5r, hl_w5r, rfl, rfl⟩
        · replace hE_2 := if_ff g_2 hE_2
          refine Tri.exit ?_
          refine Exi.then ?_
          refine Exi.then ?_
          refine Exi.same ?_
          cases hE_2
          refine Nrm.block ?_
          refine Nrm.seq ?_
          refine Tri.reg (l := [0, 1]) rfl ?_
          refine F.q rfl rfl rfl (wanted_none rfl) (r_add rfl rfl) ?_
          refine F.q rfl rfl rfl (wanted_none rfl) (r_move rfl) ?_
          refine F.nil ?_
          refine Nrm.round ?_
          refine Rnd.only [5, 15, 16, 17] rfl ?_
          refine Rnd.pick [1, 2] rfl rfl ?_
          exact ih_1 _ _ ⟨x5r, w64 (x17 + 1), w5r, T5r, hE_1, hl_w5r, rfl, rfl⟩
    · replace hE_1 := if_ff g_1 hE_1
      refine Tri.exit ?_
      refine Exi.then ?_
      refine Exi.then ?_
      refine Exi.same ?_
      cases hE_1
      refine Nrm.seq ?_
      refine Tri.seq ?_
      refine Tri.reg (l := [0, 1]) rfl ?_
      refine F.q rfl rfl rfl (wanted_none rfl) (r_move rfl) ?_
      refine F.q rfl rfl rfl (wanted_none rfl) (r_assign rfl) ?_
      refine F.nil ?_
      refine Nrm.seq ?_
      refine Tri.ret ?_
      cases h
      exact Rtn.body (.tmp rfl .nil) (fun w hw => ⟨_, _, rfl, ⟨T5, hl_w5, rfl⟩, Sep.pick (is := [1]) rfl rfl hw⟩)

end Go.Proofs

/- slices.Clone[[][3]int,[3]int] -/

namespace Go.Proofs
open Go Go.Ga
set_option linter.unusedVariables false
set_option maxRecDepth 100000
set_option maxHeartbeats 4000000
def slices_Clone__3int__3int.f (k : Nat) (a0 : List (Int × Int × Int)) : Option ((List (Int × Int × Int))) := if (([] : List (Int × Int × Int)) ++ a0).length < 1099511627776 then some (([] : List (Int × Int × Int)) ++ a0) else none

theorem slices_Clone__3int__3int.ok {k : Nat}  {a0 : List (Int × Int × Int)} {r0 : List (Int × Int × Int)} (h : slices_Clone__3int__3int.f k a0 = some r0) (w : World) {va0 : Value} (hr_a0 : Rd w va0 a0) :
    Calls Try.prog 167 ([va0] : List Value).toArray w (Post (fun u ns => ∃ (Sr0 : Nat → Prop), SlLen u r0.length ∧ ns = [R.sl Sr0 u r0]) w) := by
  unfold slices_Clone__3int__3int.f at h
  have hl_va0 := hr_a0.len
  rcases Rd.cases hr_a0 with ⟨rfl, rfl⟩ | ⟨pa0, ca0, rfl⟩
  · replace h : some [] = some r0 := by simpa using h
    refine Calls.of_tri (N := 8) Try.func167 rfl rfl rfl (Sep.nil (M := noM)) ?_
    refine Tri.seq ?_
    refine Tri.reg (l := [0]) rfl ?_
    refine F.q rfl rfl rfl (wanted_none rfl) (r_assign rfl) ?_
    refine F.nil ?_
    refine Nrm.seq ?_
    refine Tri.seq ?_
    refine Tri.seq ?_
    refine Tri.reg (l := [0, 1]) rfl ?_
    refine F.q rfl rfl rfl (wanted_none rfl) (r_move rfl) ?_
    refine F.q rfl rfl rfl (wanted_none rfl) (r_eqlNN Try.underlying22 rfl rfl) ?_
    refine F.nil ?_
    refine Nrm.seq ?_
    refine Tri.condT rfl rfl ?_
    refine Tri.seq ?_
    refine Tri.reg (l := [0]) rfl ?_
    refine F.q rfl rfl rfl (wanted_none rfl) (r_assign rfl) ?_
    refine F.nil ?_
    refine Nrm.seq ?_
    refine Tri.ret ?_
    refine Rtn.then ?_
    cases h
    exact Rtn.body (.tmp rfl .nil) (fun w hw => ⟨_, _, rfl, ⟨fun _ => False, len_nil, rfl⟩, Sep.pick (is := [0]) rfl rfl hw.pushNil⟩)
  · refine Calls.of_tri (N := 8) Try.func167 rfl rfl rfl (Sep.nil (M := noM)) ?_
    refine Tri.seq ?_
    refine Tri.reg (l := [0]) rfl ?_
    refine F.q rfl rfl rfl (wanted_none rfl) (r_assign rfl) ?_
    refine F.nil ?_
    refine Nrm.seq ?_
    refine Tri.seq ?_
    refine Tri.seq ?_
    refine Tri.reg (l := [0, 1]) rfl ?_
    refine F.q rfl rfl rfl (wanted_none rfl) (r_move rfl) ?_
    refine F.q rfl rfl rfl (wanted_none rfl) (r_eqlN Try.underlying22 rfl rfl ⟨_, _, rfl⟩) ?_
    refine F.nil ?_
    refine Nrm.seq ?_
    refine Tri.condF rfl rfl ?_
    refine Tri.skip ?_
    refine Nrm.seq ?_
    refine Tri.seq ?_
    obtain ⟨hs7, h⟩ := ck h
    refine Tri.reg (l := [0, 1, 2, 3]) rfl ?_
    refine F.m rfl rfl rfl (wanted_none rfl) (m_build0 (α := Int × Int × Int) Try.underlying22 ti116) ?_
    rintro v5_1 _ ⟨S5_1, hl_v5_1, rfl⟩
    refine F.q rfl rfl rfl (wanted_none rfl) (r_move rfl) ?_
    refine F.ef rfl rfl rfl (wanted_none rfl) (d_append (i := 0) Try.underlying22 Try.underlying22 ti116 rfl (by decide) rfl rfl rfl (fun _ hw => hr_a0.sep hw) hs7) ?_
    rintro v7_1 _ ⟨S7_1, rfl, hl_v7_1⟩
    refine F.q rfl rfl rfl (wanted_none rfl) (r_assign rfl) ?_
    refine F.nil ?_
    refine Nrm.seq ?_
    refine Tri.ret ?_
    cases h
    exact Rtn.body (.tmp rfl .nil) (fun w hw => ⟨_, _, rfl, ⟨S7_1, hl_v7_1, rfl⟩, Sep.pick (is := [0]) rfl rfl hw⟩)

end Go.Proofs

/- loop.example/g01158/impl.own -/
namespace Go.Proofs
open Go Go.Ga
set_option linter.unusedVariables false
set_option maxRecDepth 100000
set_option maxHeartbeats 4000000
def impl_own.f (k : Nat) (a0_0 : Int) (a0_1 : List (Int × Int × Int)) (a0_2 : List Int) : Option (Int × (List (Int × Int × Int)) × (List Int)) := (slices_Clone__3int__3int.f k a0_1).bind fun t7 => (slices_Clone_int_int.f k a0_2).bind fun t10 => some (a0_0, t7, t10)

theorem impl_own.ok {k : Nat}  {a0_0 : Int} {a0_1 : List (Int × Int × Int)} {a0_2 : List Int} {r0 : Int} {r1 : List (Int × Int × Int)} {r2 : List Int} (h : impl_own.f k a0_0 a0_1 a0_2 = some (r0, r1, r2)) (w : World) {va0_1 : Value} {va0_2 : Value} (hr_a0_1 : Rd w va0_1 a0_1) (hr_a0_2 : Rd w va0_2 a0_2) :
    Calls Try.prog 145 ([.agg ([.int .i64 a0_0, va0_1, va0_2].toArray)] : List Value).toArray w (Post (fun u ns => ∃ (ur1 : Value) (Sr1 : Nat → Prop) (ur2 : Value) (Sr2 : Nat → Prop), u = .agg [.int .i64 r0, ur1, ur2].toArray ∧ SlLen ur1 r1.length ∧ SlLen ur2 r2.length ∧ ns = [R.sl Sr1 ur1 r1, R.sl Sr2 ur2 r2]) w) := by
  unfold impl_own.f at h
  have hl_va0_1 := hr_a0_1.len
  have hl_va0_2 := hr_a0_2.len
  refine Calls.of_tri (N := 12) Try.func145 rfl rfl rfl (Sep.nil (M := noM)) ?_
  refine Tri.seq ?_
  refine Tri.reg (l := [0, 1]) rfl ?_
  refine F.m rfl rfl rfl (wanted_none rfl) (m_boxG rfl rfl) ?_
  rintro _ _ ⟨b1_1, rfl, rfl⟩
  refine F.m rfl rfl rfl (wanted_none rfl) (m_alloc ti31) ?_
  rintro _ _ ⟨b2_1, rfl, rfl⟩
  refine F.nil ?_
  refine Nrm.seq ?_
  refine Tri.seq ?_
  obtain ⟨t7, h7, h⟩ := bind_some h
  obtain ⟨t10, h10, h⟩ := bind_some h
  refine Tri.drawA mixedT Sep.up [(0, true), (1, true), (2, true), (3, true), (5, true), (6, true), (4, false), (7, false), (8, true)] [9] (by kernel_rfl) ?_
  refine S.q rfl rfl rfl (wanted_none rfl) (r_fieldAddr tf31_0 rfl) ?_
  refine S.q rfl rfl rfl (wanted_none rfl) (r_load ta3 rfl (fun w hw => cell_1 (box_cells (i := 1) rfl w hw) rfl)) ?_
  refine S.q rfl rfl rfl (wanted_none rfl) (r_fieldAddr tf31_1 rfl) ?_
  refine S.q rfl rfl rfl (wanted_none rfl) (r_load ta22 rfl (fun w hw => cell_1 (box_cells (i := 1) rfl w hw) rfl)) ?_
  refine S.q rfl rfl rfl (wanted_none rfl) (r_fieldAddr tf31_2 rfl) ?_
  refine S.q rfl rfl rfl (wanted_none rfl) (r_load ta23 rfl (fun w hw => cell_1 (box_cells (i := 1) rfl w hw) rfl)) ?_
  refine S.m rfl rfl rfl (wanted_none rfl) (m_callF (xs := _) rfl ok167 rfl rfl (fun w hw => slices_Clone__3int__3int.ok h7 w ((fun _ hw => hr_a0_1.sep hw) w hw))) ?_
  rintro v7_2 _ ⟨_, ⟨S7_2, hl_v7_2, rfl⟩, rfl⟩
  refine S.m rfl rfl rfl (wanted_none rfl) (m_callF (xs := _) rfl ok105 rfl rfl (fun w hw => slices_Clone_int_int.ok h10 w ((fun _ hw => hr_a0_2.sep hw) w hw))) ?_
  rintro v10_2 _ ⟨_, ⟨S10_2, hl_v10_2, rfl⟩, rfl⟩
  refine S.q rfl rfl rfl (wanted_none rfl) (r_build (pl := [(0, 1), (1, 1), (2, 1)]) (qs := [(0, [.int .i64 a0_0]), (1, [v7_2]), (2, [v10_2])]) (cs := [.int .i64 a0_0, v7_2, v10_2]) (by kernel_rfl) ti31 rfl (.cons rfl rfl (Nat.le_of_ble_eq_true rfl) (.cons (sl_cells hl_v7_2) rfl (Nat.le_of_ble_eq_true rfl) (.cons (sl_cells hl_v10_2) rfl (Nat.le_of_ble_eq_true rfl) .nil))) rfl rfl) ?_
  refine S.nil ?_
  refine F.ef0 rfl rfl (wanted_none rfl) (d_storeG0 (i := 2) (cs2 := [.int .i64 a0_0, v7_2, v10_2]) ti31 rfl rfl rfl rfl rfl (Nat.le_of_ble_eq_true rfl) (lf_cons rfl (lf_cons (sl_leaf hl_v7_2) (lf_cons (sl_leaf hl_v10_2) lf_nil)))) ?_
  rintro _ _ ⟨rfl, rfl⟩
  refine F.nil ?_
  refine Nrm.seq ?_
  refine Tri.ret ?_
  cases h
  exact Rtn.body (.cell rfl ta31 ti31 rfl (fun _ hw => box_cells (i := 2) rfl _ hw) .nil) (fun w hw => ⟨_, _, rfl, ⟨v7_2, S7_2, v10_2, S10_2, rfl, hl_v7_2, hl_v10_2, rfl⟩, Sep.pick (is := [1, 0]) rfl rfl hw⟩)

end Go.Proofs

/- loop.example/g01158/impl.laid -/
namespace Go.Proofs
open Go Go.Ga
set_option linter.unusedVariables false
set_option maxRecDepth 100000
set_option maxHeartbeats 4000000
def impl_laid.l0 (k : Nat) (a1 : List Int) (a2 : List Int) : Nat → Int → (List (Int)) → Option ((List (Int)))
  | 0, _, _ => none
  | n + 1, x16, xq7_1_2 => (if (decide (x16 < (a2.length : Int))) = true then (rdl a2 x16).bind fun t19 => (rdl xq7_1_2 t19).bind fun t24 => (rdl a1 x16).bind fun t28 => if ¬ t28 < 0 then (rdl xq7_1_2 t19).bind fun t32 => impl_laid.l0 k a1 a2 n (w64 (x16 + 1)) (xq7_1_2.set t19.toNat (bor t24 (shl 1 t28))) else none else some xq7_1_2)

def impl_laid.f (k : Nat) (a0_0 : Int) (a0_1 : List (Int × Int × Int)) (a0_2 : List Int) (a1 : List Int) (a2 : List Int) : Option (Int × (List (Int × Int × Int)) × (List Int)) := (impl_own.f k a0_0 a0_1 a0_2).bind fun (t11_1, t11_2, t11_3) => (impl_laid.l0 k a1 a2 k 0 (List.replicate t11_3.length (0 : Int))).bind fun xq7_1_2 => some (t11_1, t11_2, xq7_1_2)

theorem impl_laid.ok {k : Nat}  {a0_0 : Int} {a0_1 : List (Int × Int × Int)} {a0_2 : List Int} {a1 : List Int} {a2 : List Int} {r0 : Int} {r1 : List (Int × Int × Int)} {r2 : List Int} (h : impl_laid.f k a0_0 a0_1 a0_2 a1 a2 = some (r0, r1, r2)) (w : World) {va0_1 : Value} {va0_2 : Value} {va1 : Value} {va2 : Value} (hr_a0_1 : Rd w va0_1 a0_1) (hr_a0_2 : Rd w va0_2 a0_2) (hr_a1 : Rd w va1 a1) (hr_a2 : Rd w va2 a2) :
    Calls Try.prog 104 ([.agg ([.int .i64 a0_0, va0_1, va0_2].toArray), va1, va2] : List Value).toArray w (Post (fun u ns => ∃ (ur1 : Value) (Sr1 : Nat → Prop) (ur2 : Value) (Sr2 : Nat → Prop), u = .agg [.int .i64 r0, ur1, ur2].toArray ∧ SlLen ur1 r1.length ∧ SlLen ur2 r2.length ∧ ns = [R.sl Sr1 ur1 r1, R.sl Sr2 ur2 r2]) w) := by
  unfold impl_laid.f at h
  have hl_va0_1 := hr_a0_1.len
  have hl_va0_2 := hr_a0_2.len
  have hl_va1 := hr_a1.len
  have hl_va2 := hr_a2.len
  refine Calls.of_tri (N := 35) Try.func104 rfl rfl rfl (Sep.nil (M := noM)) ?_
  refine Tri.seq ?_
  refine Tri.reg (l := [0, 1]) rfl ?_
  refine F.m rfl rfl rfl (wanted_none rfl) (m_boxG rfl rfl) ?_
  rintro _ _ ⟨b3_1, rfl, rfl⟩
  refine F.m rfl rfl rfl (wanted_none rfl) (m_alloc ti31) ?_
  rintro _ _ ⟨b6_1, rfl, rfl⟩
  refine F.nil ?_
  refine Nrm.seq ?_
  refine Tri.seq ?_
  obtain ⟨⟨t11_1, t11_2, t11_3⟩, h11, h⟩ := bind_some h
  refine Tri.reg (l := [0, 1, 2, 3]) rfl ?_
  refine F.q rfl rfl rfl (wanted_none rfl) (r_loadA ta31 ti31 rfl rfl (fun w hw => (box_cells (i := 1) rfl w hw))) ?_
  refine F.m rfl rfl rfl (wanted_none rfl) (m_callF (xs := _) rfl ok145 rfl rfl (fun w hw => impl_own.ok h11 w ((fun _ hw => hr_a0_1.sep hw) w hw) ((fun _ hw => hr_a0_2.sep hw) w hw))) ?_
  rintro _ _ ⟨_, ⟨v11_1, S11_1, v11_2, S11_2, rfl, hl_v11_1, hl_v11_2, rfl⟩, rfl⟩
  refine F.m rfl rfl rfl (wanted_none rfl) (m_alloc ti31) ?_
  rintro _ _ ⟨b7_1, rfl, rfl⟩
  refine F.ef0 rfl rfl (wanted_none rfl) (d_storeG0 (i := 0) (cs2 := [.int .i64 t11_1, v11_1, v11_2]) ti31 rfl rfl rfl rfl rfl (Nat.le_of_ble_eq_true rfl) (lf_cons rfl (lf_cons (sl_leaf hl_v11_1) (lf_cons (sl_leaf hl_v11_2) lf_nil)))) ?_
  rintro _ _ ⟨rfl, rfl⟩
  refine F.nil ?_
  refine Nrm.seq ?_
  refine Tri.seq ?_
  refine Tri.reg (l := [0, 1, 2]) rfl ?_
  refine F.q rfl rfl rfl (wanted_none rfl) (r_fieldAddr tf31_2 rfl) ?_
  refine F.q rfl rfl rfl (wanted_none rfl) (r_load ta23 rfl (fun w hw => cell_1 (box_cells (i := 0) rfl w hw) rfl)) ?_
  refine F.ef0 rfl rfl (wanted_none rfl) (d_clear0 (i := 2) (x0 := (0 : Int)) Try.underlying23 ti3 rfl rfl rfl) ?_
  rintro _ _ rfl
  refine F.nil ?_
  refine Nrm.seq ?_
  refine Tri.seq ?_
  refine Tri.seq ?_
  refine Tri.reg (l := [0, 1, 2]) rfl ?_
  refine F.q rfl rfl rfl (wanted_none rfl) (r_move rfl) ?_
  refine F.q rfl rfl rfl (wanted_none rfl) (r_len Try.underlying23 rfl hl_va2) ?_
  refine F.q rfl rfl rfl (wanted_none rfl) (r_move rfl) ?_
  refine F.nil ?_
  refine Nrm.seq ?_
  obtain ⟨xq7_1_2, hE_1, h⟩ := bind_some h
  refine Tri.block ?_
  refine Tri.only [1, 6, 7, 14, 15, 16] rfl ?_
  refine Tri.pick [0, 3, 1, 2] rfl rfl ?_
  refine Tri.rounds (fun n e' C' => ∃ (x16' : Int) (xq7_1_2' : List (Int)), impl_laid.l0 k a1 a2 n x16' xq7_1_2' = some xq7_1_2 ∧ SlLen v11_2 (xq7_1_2').length ∧ e' = [(1, va1), (6, .pointer (some ⟨b6_1, 0, none⟩)), (7, .pointer (some ⟨b7_1, 0, none⟩)), (14, va2), (15, .int .i64 (a2.length : Int)), (16, .int .i64 x16')] ∧ C' = Sep w noM [R.box b7_1 31 [.int .i64 t11_1, v11_1, v11_2], R.box b6_1 31 [.int .i64 0, .slice none 0 0, .slice none 0 0], R.sl S11_1 v11_1 (t11_2 : List (Int × Int × Int)), R.sl S11_2 v11_2 (xq7_1_2' : List (Int))]) k ?_ ?_ ?_
  · exact ⟨0, List.replicate t11_3.length (0 : Int), hE_1, (clr0_len hl_v11_2), rfl, rfl⟩
  · rintro _ _ ⟨_, _, hE_1, _⟩
    rw [impl_laid.l0.eq_1] at hE_1; cases hE_1
  · rintro n_1 _ _ ⟨x16, xq7_1_2, hE_1, hl_xq7_1_2, rfl, rfl⟩ ih_1
    rw [impl_laid.l0.eq_2] at hE_1
    refine Tri.seq ?_
    refine Tri.reg (l := [0]) rfl ?_
    refine F.q rfl rfl rfl (wanted_none rfl) (r_lss rfl rfl) ?_
    refine F.nil ?_
    refine Nrm.seq ?_
    refine Tri.seq ?_
    refine Tri.cond (b := decide (x16 < (a2.length : Int))) rfl (fun g_1 => ?_) (fun g_1 => ?_)
    · replace hE_1 := if_tt g_1 hE_1
      refine Tri.skip ?_
      refine Nrm.seq ?_
      refine Tri.seq ?_
      refine Tri.block ?_
      refine Tri.seq ?_
      obtain ⟨t19, h19, hE_1⟩ := bind_some hE_1
      refine Tri.reg (l := [0, 1, 2, 3, 4]) rfl ?_
      refine F.q rfl rfl rfl (wanted_none rfl) (r_move rfl) ?_
      refine F.q rfl rfl rfl (wanted_none rfl) (r_indexAddrS Try.underlying23 ti3 rfl hl_va2 rfl (rdl_some h19).1 (rdl_some h19).2.1) ?_
      refine F.q rfl rfl rfl (wanted_none rfl) (r_load ta3 rfl (fun w hw => cell_0 (Rd.flat ((fun _ hw => hr_a2.sep hw) w hw) (rdl_some h19).2.2) rfl)) ?_
      refine F.q rfl rfl rfl (wanted_none rfl) (r_assign rfl) ?_
      refine F.q rfl rfl rfl (wanted_none rfl) (r_assign rfl) ?_
      refine F.nil ?_
      refine Nrm.seq ?_
      obtain ⟨t24, h24, hE_1⟩ := bind_some hE_1
      obtain ⟨t28, h28, hE_1⟩ := bind_some hE_1
      obtain ⟨hs30, hE_1⟩ := ck hE_1
      obtain ⟨t32, h32, hE_1⟩ := bind_some hE_1
      refine Tri.drawA mixedT Sep.up [(0, true), (1, true), (2, true), (3, true), (4, true), (5, true), (6, true), (7, true), (8, true), (9, true), (10, true), (11, true)] [12] (by kernel_rfl) ?_
      refine S.q rfl rfl rfl (wanted_none rfl) (r_fieldAddr tf31_2 rfl) ?_
      refine S.q rfl rfl rfl (wanted_none rfl) (r_load ta23 rfl (fun w hw => cell_1 (box_cells (i := 0) rfl w hw) rfl)) ?_
      refine S.q rfl rfl rfl (wanted_none rfl) (r_move rfl) ?_
      refine S.q rfl rfl rfl (wanted_none rfl) (r_indexAddrS Try.underlying23 ti3 rfl hl_xq7_1_2 rfl (rdl_some h24).1 (rdl_some h24).2.1) ?_
      refine S.q rfl rfl rfl (wanted_none rfl) (r_load ta3 rfl (fun w hw => cell_0 (Rd.flat ((rd_sl (i := 3) rfl) w hw) (rdl_some h24).2.2) rfl)) ?_
      refine S.q rfl rfl rfl (wanted_none rfl) (r_move rfl) ?_
      refine S.q rfl rfl rfl (wanted_none rfl) (r_move rfl) ?_
      refine S.q rfl rfl rfl (wanted_none rfl) (r_indexAddrS Try.underlying23 ti3 rfl hl_va1 rfl (rdl_some h28).1 (rdl_some h28).2.1) ?_
      refine S.q rfl rfl rfl (wanted_none rfl) (r_load ta3 rfl (fun w hw => cell_0 (Rd.flat ((fun _ hw => hr_a1.sep hw) w hw) (rdl_some h28).2.2) rfl)) ?_
      refine S.q rfl rfl rfl (wanted_none rfl) (r_shl rfl rfl hs30) ?_
      refine S.q rfl rfl rfl (wanted_none rfl) (r_or rfl rfl) ?_
      refine S.q rfl rfl rfl (wanted_none rfl) (r_indexAddrS Try.underlying23 ti3 rfl hl_xq7_1_2 rfl (rdl_some h32).1 (rdl_some h32).2.1) ?_
      refine S.nil ?_
      refine F.ef0 rfl rfl (wanted_none rfl) (d_storeE (i := 3) (x1 := bor t24 (shl 1 t28)) ti3 rfl rfl rfl (rdl_some h32) rfl) ?_
      rintro _ _ ⟨rfl, rfl⟩
      refine F.nil ?_
      refine Nrm.block ?_
      refine Nrm.seq ?_
      refine Tri.reg (l := [0, 1]) rfl ?_
      refine F.q rfl rfl rfl (wanted_none rfl) (r_add rfl rfl) ?_
      refine F.q rfl rfl rfl (wanted_none rfl) (r_move rfl) ?_
      refine F.nil ?_
      refine Nrm.round ?_
      refine Rnd.only [1, 6, 7, 14, 15, 16] rfl ?_
      refine Rnd.pick [0, 1, 2, 3] rfl rfl ?_
      exact ih_1 _ _ ⟨w64 (x16 + 1), xq7_1_2.set t19.toNat (bor t24 (shl 1 t28)), hE_1, (len_set hl_xq7_1_2), rfl, rfl⟩
    · replace hE_1 := if_ff g_1 hE_1
      refine Tri.exit ?_
      refine Exi.then ?_
      refine Exi.then ?_
      refine Exi.same ?_
      cases hE_1
      refine Nrm.seq ?_
      refine Tri.seq ?_
      refine Tri.reg (l := [0, 1]) rfl ?_
      refine F.q rfl rfl rfl (wanted_none rfl) (r_loadA ta31 ti31 rfl rfl (fun w hw => (box_cells (i := 0) rfl w hw))) ?_
      refine F.ef0 rfl rfl (wanted_none rfl) (d_storeG0 (i := 1) (cs2 := [.int .i64 t11_1, v11_1, v11_2]) ti31 rfl rfl rfl rfl rfl (Nat.le_of_ble_eq_true rfl) (lf_cons rfl (lf_cons (sl_leaf hl_v11_1) (lf_cons (sl_leaf hl_xq7_1_2) lf_nil)))) ?_
      rintro _ _ ⟨rfl, rfl⟩
      refine F.nil ?_
      refine Nrm.seq ?_
      refine Tri.ret ?_
      cases h
      exact Rtn.body (.cell rfl ta31 ti31 rfl (fun _ hw => box_cells (i := 1) rfl _ hw) .nil) (fun w hw => ⟨_, _, rfl, ⟨v11_1, S11_1, v11_2, S11_2, rfl, hl_v11_1, hl_xq7_1_2, rfl⟩, Sep.pick (is := [2, 3]) rfl rfl hw⟩)

end Go.Proofs

/- loop.example/g01158/impl.depth -/
namespace Go.Proofs
open Go Go.Ga
set_option linter.unusedVariables false
set_option maxRecDepth 100000
set_option maxHeartbeats 4000000
def impl_depth.f (k : Nat) (a0_0 : Int) (a0_1 : List (Int × Int × Int)) (a0_2 : List Int) (a1 : Int) (a2 : List Int) : Option (Int) := (impl_members.f k a1).bind fun t9 => (impl_laid.f k a0_0 a0_1 a0_2 t9 a2).bind fun (t11_1, t11_2, t11_3) => (impl_nodeRounds.f k t11_1 t11_2 t11_3 0).bind fun t12 => (rdl t12 (w64 (a0_0 - 1))).bind fun t16 => some t16

theorem impl_depth.ok {k : Nat}  {a0_0 : Int} {a0_1 : List (Int × Int × Int)} {a0_2 : List Int} {a1 : Int} {a2 : List Int} {r0 : Int} (h : impl_depth.f k a0_0 a0_1 a0_2 a1 a2 = some r0) (w : World) {va0_1 : Value} {va0_2 : Value} {va2 : Value} (hr_a0_1 : Rd w va0_1 a0_1) (hr_a0_2 : Rd w va0_2 a0_2) (hr_a2 : Rd w va2 a2) :
    Calls Try.prog 67 ([.agg ([.int .i64 a0_0, va0_1, va0_2].toArray), .int .i64 a1, va2] : List Value).toArray w (fun e w' => e = .returned (.int .i64 r0) ∧ Ext w w') := by
  unfold impl_depth.f at h
  have hl_va0_1 := hr_a0_1.len
  have hl_va0_2 := hr_a0_2.len
  have hl_va2 := hr_a2.len
  refine Calls.of_tri (N := 18) Try.func67 rfl rfl rfl (Sep.nil (M := noM)) ?_
  refine Tri.seq ?_
  refine Tri.reg (l := [0, 1]) rfl ?_
  refine F.m rfl rfl rfl (wanted_none rfl) (m_boxG rfl rfl) ?_
  rintro _ _ ⟨b3_1, rfl, rfl⟩
  refine F.q rfl rfl rfl (wanted_none rfl) (r_assign rfl) ?_
  refine F.nil ?_
  refine Nrm.seq ?_
  refine Tri.seq ?_
  obtain ⟨t9, h9, h⟩ := bind_some h
  obtain ⟨⟨t11_1, t11_2, t11_3⟩, h11, h⟩ := bind_some h
  obtain ⟨t12, h12, h⟩ := bind_some h
  obtain ⟨t16, h16, h⟩ := bind_some h
  refine Tri.drawA mixedT Sep.up [(0, true), (1, true), (3, true), (6, true), (7, true), (8, true), (2, false), (4, false), (5, false), (9, true), (10, true), (11, true)] [] (by kernel_rfl) ?_
  refine S.q rfl rfl rfl (wanted_none rfl) (r_loadA ta31 ti31 rfl rfl (fun w hw => (box_cells (i := 0) rfl w hw))) ?_
  refine S.q rfl rfl rfl (wanted_none rfl) (r_move rfl) ?_
  refine S.q rfl rfl rfl (wanted_none rfl) (r_move rfl) ?_
  refine S.q rfl rfl rfl (wanted_none rfl) (r_fieldAddr tf31_0 rfl) ?_
  refine S.q rfl rfl rfl (wanted_none rfl) (r_load ta3 rfl (fun w hw => cell_1 (box_cells (i := 0) rfl w hw) rfl)) ?_
  refine S.q rfl rfl rfl (wanted_none rfl) (r_sub rfl rfl) ?_
  refine S.m rfl rfl rfl (wanted_none rfl) (m_callF (xs := _) rfl ok68 rfl rfl (fun w hw => impl_members.ok h9 w )) ?_
  rintro v9_2 _ ⟨_, ⟨S9_2, hl_v9_2, rfl⟩, rfl⟩
  refine S.m rfl rfl rfl (wanted_none rfl) (m_callF (xs := _) rfl ok104 rfl rfl (fun w hw => impl_laid.ok h11 w ((fun _ hw => hr_a0_1.sep hw) w hw) ((fun _ hw => hr_a0_2.sep hw) w hw) ((rd_sl (i := 0) rfl) w hw) ((fun _ hw => hr_a2.sep hw) w hw))) ?_
  rintro _ _ ⟨_, ⟨v11_3, S11_3, v11_4, S11_4, rfl, hl_v11_3, hl_v11_4, rfl⟩, rfl⟩
  refine S.m rfl rfl rfl (wanted_none rfl) (m_callF (xs := _) rfl ok103 rfl rfl (fun w hw => impl_nodeRounds.ok h12 w ((rd_sl (i := 0) rfl) w hw) ((rd_sl (i := 1) rfl) w hw))) ?_
  rintro v12_2 _ ⟨_, ⟨S12_2, hl_v12_2, rfl⟩, rfl⟩
  refine S.q rfl rfl rfl (wanted_none rfl) (r_indexAddrS Try.underlying23 ti3 rfl hl_v12_2 rfl (rdl_some h16).1 (rdl_some h16).2.1) ?_
  refine S.q rfl rfl rfl (wanted_none rfl) (r_load ta3 rfl (fun w hw => cell_0 (Rd.flat ((rd_sl (i := 0) rfl) w hw) (rdl_some h16).2.2) rfl)) ?_
  refine S.q rfl rfl rfl (wanted_none rfl) (r_assign rfl) ?_
  refine S.nil ?_
  refine F.nil ?_
  refine Nrm.seq ?_
  refine Tri.ret ?_
  cases h
  exact Rtn.body (.tmp rfl .nil) (fun w hw => ⟨rfl, hw.ext⟩)

end Go.Proofs

/- loop.example/g01158/impl.wins$1 -/
namespace Go.Proofs
open Go Go.Ga
set_option linter.unusedVariables false
set_option maxRecDepth 100000
set_option maxHeartbeats 4000000
def impl_wins_1.f (k : Nat) (a0 : List Int) (c0_0 : Int) (c0_1 : List (Int × Int × Int)) (c0_2 : List Int) (c1 : Int) : Option (Bool) := (impl_depth.f k c0_0 c0_1 c0_2 c1 a0).bind fun t8 => some (t8 == 0)

theorem impl_wins_1.ok {k : Nat} {pc0 : Addr} {pc1 : Addr} {a0 : List Int} {c0_0 : Int} {c0_1 : List (Int × Int × Int)} {c0_2 : List Int} {c1 : Int} {r0 : Bool} (h : impl_wins_1.f k a0 c0_0 c0_1 c0_2 c1 = some r0) (w : World) {va0 : Value} {vc0_1 : Value} {vc0_2 : Value} (hr_a0 : Rd w va0 a0) (hb_c0 : CellsAt w pc0 [.int .i64 c0_0, vc0_1, vc0_2]) (hr_c0_1 : Rd w vc0_1 c0_1) (hr_c0_2 : Rd w vc0_2 c0_2) (hb_c1 : CellsAt w pc1 [.int .i64 c1]) :
    Calls Try.prog 112 ([va0, .pointer (some pc0), .pointer (some pc1)] : List Value).toArray w (fun e w' => e = .returned (.bool r0) ∧ Ext w w') := by
  unfold impl_wins_1.f at h
  have hl_va0 := hr_a0.len
  have hl_vc0_1 := hr_c0_1.len
  have hl_vc0_2 := hr_c0_2.len
  refine Calls.of_tri (N := 10) Try.func112 rfl rfl rfl (Sep.nil (M := noM)) ?_
  refine Tri.seq ?_
  refine Tri.reg (l := [0]) rfl ?_
  refine F.q rfl rfl rfl (wanted_none rfl) (r_assign rfl) ?_
  refine F.nil ?_
  refine Nrm.seq ?_
  refine Tri.seq ?_
  obtain ⟨t8, h8, h⟩ := bind_some h
  refine Tri.reg (l := [0, 1, 2, 3, 4, 5]) rfl ?_
  refine F.q rfl rfl rfl (wanted_none rfl) (r_loadA ta31 ti31 rfl rfl (fun w hw => (hb_c0.sep hw))) ?_
  refine F.q rfl rfl rfl (wanted_none rfl) (r_load ta3 rfl (fun w hw => cell_0 (hb_c1.sep hw) rfl)) ?_
  refine F.q rfl rfl rfl (wanted_none rfl) (r_move rfl) ?_
  refine F.qc rfl rfl rfl (wanted_none rfl) (q_callF (xs := _) rfl ok67 rfl rfl (fun w hw => impl_depth.ok h8 w ((fun _ hw => hr_c0_1.sep hw) w hw) ((fun _ hw => hr_c0_2.sep hw) w hw) ((fun _ hw => hr_a0.sep hw) w hw))) ?_
  refine F.q rfl rfl rfl (wanted_none rfl) (r_eql rfl rfl) ?_
  refine F.q rfl rfl rfl (wanted_none rfl) (r_assign rfl) ?_
  refine F.nil ?_
  refine Nrm.seq ?_
  refine Tri.ret ?_
  cases h
  exact Rtn.body (.tmp rfl .nil) (fun w hw => ⟨rfl, hw.ext⟩)

end Go.Proofs

/- loop.example/g01158/impl.wins -/
namespace Go.Proofs
open Go Go.Ga
set_option linter.unusedVariables false
set_option maxRecDepth 100000
set_option maxHeartbeats 4000000
def impl_wins.f (k : Nat) (a0_0 : Int) (a0_1 : List (Int × Int × Int)) (a0_2 : List Int) (a1 : Int) : Option ((List (List Int)) × Bool) := ((impl_asked.f k a0_0 a0_1 a0_2 a1).bind fun t8 => (if (!t8) = true then some true else (if (decide (a0_0 > 8)) = true then some true else (impl_members.f k a1).bind fun t17 => some (decide ((t17.length : Int) > 4))))).bind fun y20 => (if y20 = true then some ([], false) else (impl_fillings.f k a0_0 a0_1 a0_2 a1).bind fun t23 => (slices_DeleteFunc__int__int.f k t23 (fun z0 => impl_wins_1.f k z0 a0_0 a0_1 a0_2 a1)).bind fun t25 => some (t25, true))

theorem impl_wins.ok {k : Nat}  {a0_0 : Int} {a0_1 : List (Int × Int × Int)} {a0_2 : List Int} {a1 : Int} {r0 : List (List Int)} {r1 : Bool} (h : impl_wins.f k a0_0 a0_1 a0_2 a1 = some (r0, r1)) (w : World) {va0_1 : Value} {va0_2 : Value} (hr_a0_1 : Rd w va0_1 a0_1) (hr_a0_2 : Rd w va0_2 a0_2) :
    Calls Try.prog 75 ([.agg ([.int .i64 a0_0, va0_1, va0_2].toArray), .int .i64 a1] : List Value).toArray w (Post (fun u ns => ∃ (ur0 : Value) (Sr0 : Nat → Prop), u = .tuple #[ur0, .bool r1] ∧ SlLen ur0 r0.length ∧ ns = [R.sl Sr0 ur0 r0]) w) := by
  unfold impl_wins.f at h
  have hl_va0_1 := hr_a0_1.len
  have hl_va0_2 := hr_a0_2.len
  refine Calls.of_tri (N := 26) Try.func75 rfl rfl rfl (Sep.nil (M := noM)) ?_
  refine Tri.seq ?_
  refine Tri.reg (l := [0, 1, 2, 3]) rfl ?_
  refine F.m rfl rfl rfl (wanted_none rfl) (m_boxG rfl rfl) ?_
  rintro _ _ ⟨b2_1, rfl, rfl⟩
  refine F.m rfl rfl rfl (wanted_none rfl) (m_boxG rfl rfl) ?_
  rintro _ _ ⟨b3_1, rfl, rfl⟩
  refine F.q rfl rfl rfl (wanted_none rfl) (r_assign rfl) ?_
  refine F.q rfl rfl rfl (wanted_none rfl) (r_assign rfl) ?_
  refine F.nil ?_
  refine Nrm.seq ?_
  refine Tri.seq ?_
  refine Tri.seq ?_
  obtain ⟨y20, hE_1, h⟩ := bind_some h
  refine Tri.cut (fun e' C' => e' = [(2, .pointer (some ⟨b2_1, 0, none⟩)), (3, .pointer (some ⟨b3_1, 0, none⟩)), (20, .bool y20)] ∧ C' = Sep w noM [R.box b3_1 3 [.int .i64 a1], R.box b2_1 31 [.int .i64 a0_0, va0_1, va0_2]]) ?_ (fun hj_1 => ?_)
  · rintro _ _ ⟨rfl, rfl⟩
    refine Nrm.seq ?_
    refine Tri.cond (b := y20) rfl (fun g_1 => ?_) (fun g_1 => ?_)
    · replace h := if_tt g_1 h
      refine Tri.seq ?_
      refine Tri.reg (l := [0, 1]) rfl ?_
      refine F.q rfl rfl rfl (wanted_none rfl) (r_assign rfl) ?_
      refine F.q rfl rfl rfl (wanted_none rfl) (r_assign rfl) ?_
      refine F.nil ?_
      refine Nrm.seq ?_
      refine Tri.ret ?_
      refine Rtn.then ?_
      cases h
      exact Rtn.body (.tmp rfl (.tmp rfl .nil)) (fun w hw => ⟨_, _, rfl, ⟨.slice none 0 0, fun _ => False, rfl, len_nil, rfl⟩, Sep.pick (is := [0]) rfl rfl hw.pushNil⟩)
    · replace h := if_ff g_1 h
      refine Tri.skip ?_
      refine Nrm.seq ?_
      refine Tri.seq ?_
      obtain ⟨t23, h23, h⟩ := bind_some h
      obtain ⟨t25, h25, h⟩ := bind_some h
      refine Tri.reg (l := [0, 1, 2, 3, 4, 5, 6]) rfl ?_
      refine F.q rfl rfl rfl (wanted_none rfl) (r_loadA ta31 ti31 rfl rfl (fun w hw => (box_cells (i := 1) rfl w hw))) ?_
      refine F.q rfl rfl rfl (wanted_none rfl) (r_load ta3 rfl (fun w hw => cell_0 (box_cells (i := 0) rfl w hw) rfl)) ?_
      refine F.m rfl rfl rfl (wanted_none rfl) (m_callF (xs := _) rfl ok111 rfl rfl (fun w hw => impl_fillings.ok h23 w ((fun _ hw => hr_a0_1.sep hw) w hw) ((fun _ hw => hr_a0_2.sep hw) w hw))) ?_
      rintro v23_1 _ ⟨_, ⟨S23_1, hl_v23_1, rfl⟩, rfl⟩
      refine F.q rfl rfl rfl (wanted_none rfl) (r_makeFunc rfl) ?_
      refine F.ef rfl rfl rfl (wanted_none rfl) (d_callM (xs := _) (cs := [R.sl S23_1 v23_1 (t23 : List (List Int))]) (rest := [R.box b3_1 3 [.int .i64 a1], R.box b2_1 31 [.int .i64 a0_0, va0_1, va0_2]]) [0] [1, 2] rfl ok110 rfl rfl rfl rfl (fun w hw => slices_DeleteFunc__int__int.ok h25 w hl_v23_1 ok112 (fun w2 he2 z0 zv0 zh0 y2 hy2 => impl_wins_1.ok hy2 w2 zh0 (boxM (i := 1) rfl hw he2) (((hr_a0_1.down hw)).kp he2) (((hr_a0_2.down hw)).kp he2) (boxM (i := 0) rfl hw he2)) (Sep.sub hw))) ?_
      rintro v25_1 _ ⟨_, ⟨S25_1, hl_v25_1, rfl⟩, rfl⟩
      refine F.q rfl rfl rfl (wanted_none rfl) (r_assign rfl) ?_
      refine F.q rfl rfl rfl (wanted_none rfl) (r_assign rfl) ?_
      refine F.nil ?_
      refine Nrm.seq ?_
      refine Tri.ret ?_
      cases h
      exact Rtn.body (.tmp rfl (.tmp rfl .nil)) (fun w hw => ⟨_, _, rfl, ⟨v25_1, S25_1, rfl, hl_v25_1, rfl⟩, Sep.pick (is := [0]) rfl rfl hw⟩)
  · obtain ⟨t8, h8, hE_1⟩ := bind_some hE_1
    rcases Bool.eq_false_or_eq_true (!t8) with g10 | g10
    · replace hE_1 := if_tt g10 hE_1
      refine Tri.reg (l := [0, 1, 2, 3, 4, 5, 6, 7, 8, 9, 10, 11, 12, 13, 14]) rfl ?_
      refine F.q rfl rfl rfl (wanted_none rfl) (r_loadA ta31 ti31 rfl rfl (fun w hw => (box_cells (i := 1) rfl w hw))) ?_
      refine F.q rfl rfl rfl (wanted_none rfl) (r_load ta3 rfl (fun w hw => cell_0 (box_cells (i := 0) rfl w hw) rfl)) ?_
      refine F.qc rfl rfl rfl (wanted_none rfl) (q_callF (xs := _) rfl ok65 rfl rfl (fun w hw => impl_asked.ok h8 w ((fun _ hw => hr_a0_1.sep hw) w hw) ((fun _ hw => hr_a0_2.sep hw) w hw))) ?_
      refine F.q rfl rfl rfl (wanted_none rfl) (r_not rfl) ?_
      refine F.q rfl rfl rfl (wanted_none rfl) (r_move rfl) ?_
      refine F.sk rfl rfl rfl (wf rfl rfl rfl g10) ?_
      refine F.sk rfl rfl rfl (wf rfl rfl rfl g10) ?_
      refine F.sk rfl rfl rfl (wf rfl rfl rfl g10) ?_
      refine F.q rfl rfl rfl (wanted_none rfl) (r_pick rfl rfl g10) ?_
      refine F.q rfl rfl rfl (wanted_none rfl) (r_move rfl) ?_
      refine F.sk rfl rfl rfl (wf rfl rfl rfl rfl) ?_
      refine F.sk rfl rfl rfl (wf rfl rfl rfl rfl) ?_
      refine F.sk rfl rfl rfl (wf rfl rfl rfl rfl) ?_
      refine F.sk rfl rfl rfl (wf rfl rfl rfl rfl) ?_
      refine F.q rfl rfl rfl (wanted_none rfl) (r_pick rfl rfl rfl) ?_
      refine F.nil ?_
      cases hE_1
      refine Nrm.only [2, 3, 20] rfl ?_
      refine Nrm.pick [0, 1] rfl rfl ?_
      exact hj_1 _ _ ⟨rfl, rfl⟩
    · replace hE_1 := if_ff g10 hE_1
      rcases Bool.eq_false_or_eq_true (decide (a0_0 > 8)) with g15 | g15
      · replace hE_1 := if_tt g15 hE_1
        refine Tri.reg (l := [0, 1, 2, 3, 4, 5, 6, 7, 8, 9, 10, 11, 12, 13, 14]) rfl ?_
        refine F.q rfl rfl rfl (wanted_none rfl) (r_loadA ta31 ti31 rfl rfl (fun w hw => (box_cells (i := 1) rfl w hw))) ?_
        refine F.q rfl rfl rfl (wanted_none rfl) (r_load ta3 rfl (fun w hw => cell_0 (box_cells (i := 0) rfl w hw) rfl)) ?_
        refine F.qc rfl rfl rfl (wanted_none rfl) (q_callF (xs := _) rfl ok65 rfl rfl (fun w hw => impl_asked.ok h8 w ((fun _ hw => hr_a0_1.sep hw) w hw) ((fun _ hw => hr_a0_2.sep hw) w hw))) ?_
        refine F.q rfl rfl rfl (wanted_none rfl) (r_not rfl) ?_
        refine F.q rfl rfl rfl (wanted_none rfl) (r_move rfl) ?_
        refine F.q rfl rfl rfl (wg rfl rfl rfl g10) (r_fieldAddr tf31_0 rfl) ?_
        refine F.q rfl rfl rfl (wg rfl rfl rfl g10) (r_load ta3 rfl (fun w hw => cell_1 (box_cells (i := 1) rfl w hw) rfl)) ?_
        refine F.q rfl rfl rfl (wg rfl rfl rfl g10) (r_gtr rfl rfl) ?_
        refine F.q rfl rfl rfl (wanted_none rfl) (r_pickf rfl rfl g10) ?_
        refine F.q rfl rfl rfl (wanted_none rfl) (r_move rfl) ?_
        refine F.sk rfl rfl rfl (wf rfl rfl rfl g15) ?_
        refine F.sk rfl rfl rfl (wf rfl rfl rfl g15) ?_
        refine F.sk rfl rfl rfl (wf rfl rfl rfl g15) ?_
        refine F.sk rfl rfl rfl (wf rfl rfl rfl g15) ?_
        refine F.q rfl rfl rfl (wanted_none rfl) (r_pick rfl rfl g15) ?_
        refine F.nil ?_
        cases hE_1
        refine Nrm.only [2, 3, 20] rfl ?_
        refine Nrm.pick [0, 1] rfl rfl ?_
        exact hj_1 _ _ ⟨rfl, rfl⟩
      · replace hE_1 := if_ff g15 hE_1
        obtain ⟨t17, h17, hE_1⟩ := bind_some hE_1
        refine Tri.reg (l := [0, 1, 2, 3, 4, 5, 6, 7, 8, 9, 10, 11, 12, 13, 14]) rfl ?_
        refine F.q rfl rfl rfl (wanted_none rfl) (r_loadA ta31 ti31 rfl rfl (fun w hw => (box_cells (i := 1) rfl w hw))) ?_
        refine F.q rfl rfl rfl (wanted_none rfl) (r_load ta3 rfl (fun w hw => cell_0 (box_cells (i := 0) rfl w hw) rfl)) ?_
        refine F.qc rfl rfl rfl (wanted_none rfl) (q_callF (xs := _) rfl ok65 rfl rfl (fun w hw => impl_asked.ok h8 w ((fun _ hw => hr_a0_1.sep hw) w hw) ((fun _ hw => hr_a0_2.sep hw) w hw))) ?_
        refine F.q rfl rfl rfl (wanted_none rfl) (r_not rfl) ?_
        refine F.q rfl rfl rfl (wanted_none rfl) (r_move rfl) ?_
        refine F.q rfl rfl rfl (wg rfl rfl rfl g10) (r_fieldAddr tf31_0 rfl) ?_
        refine F.q rfl rfl rfl (wg rfl rfl rfl g10) (r_load ta3 rfl (fun w hw => cell_1 (box_cells (i := 1) rfl w hw) rfl)) ?_
        refine F.q rfl rfl rfl (wg rfl rfl rfl g10) (r_gtr rfl rfl) ?_
        refine F.q rfl rfl rfl (wanted_none rfl) (r_pickf rfl rfl g10) ?_
        refine F.q rfl rfl rfl (wanted_none rfl) (r_move rfl) ?_
        refine F.q rfl rfl rfl (wg rfl rfl rfl g15) (r_load ta3 rfl (fun w hw => cell_0 (box_cells (i := 0) rfl w hw) rfl)) ?_
        refine F.m rfl rfl rfl (wg rfl rfl rfl g15) (m_callF (xs := _) rfl ok68 rfl rfl (fun w hw => impl_members.ok h17 w )) ?_
        rintro v17_1 _ ⟨_, ⟨S17_1, hl_v17_1, rfl⟩, rfl⟩
        refine F.q rfl rfl rfl (wg rfl rfl rfl g15) (r_len Try.underlying23 rfl hl_v17_1) ?_
        refine F.q rfl rfl rfl (wg rfl rfl rfl g15) (r_gtr rfl rfl) ?_
        refine F.q rfl rfl rfl (wanted_none rfl) (r_pickf rfl rfl g15) ?_
        refine F.nil ?_
        cases hE_1
        refine Nrm.only [2, 3, 20] rfl ?_
        refine Nrm.pick [1, 2] rfl rfl ?_
        exact hj_1 _ _ ⟨rfl, rfl⟩

end Go.Proofs

/- loop.example/g01158/impl.CountFillings -/
namespace Go.Proofs
open Go Go.Ga
set_option linter.unusedVariables false
set_option maxRecDepth 100000
set_option maxHeartbeats 4000000
def impl_CountFillings.f (k : Nat) (a0_0 : Int) (a0_1 : List (Int × Int × Int)) (a0_2 : List Int) (a1 : Int) : Option (Int × Bool) := (impl_wins.f k a0_0 a0_1 a0_2 a1).bind fun (t11_1, t11_2) => some ((t11_1.length : Int), t11_2)

theorem impl_CountFillings.ok {k : Nat}  {a0_0 : Int} {a0_1 : List (Int × Int × Int)} {a0_2 : List Int} {a1 : Int} {r0 : Int} {r1 : Bool} (h : impl_CountFillings.f k a0_0 a0_1 a0_2 a1 = some (r0, r1)) (w : World) {va0_1 : Value} {va0_2 : Value} (hr_a0_1 : Rd w va0_1 a0_1) (hr_a0_2 : Rd w va0_2 a0_2) :
    Calls Try.prog 32 ([.agg ([.int .i64 a0_0, va0_1, va0_2].toArray), .int .i64 a1] : List Value).toArray w (fun e w' => e = .returned (.tuple #[.int .i64 r0, .bool r1]) ∧ Ext w w') := by
  unfold impl_CountFillings.f at h
  have hl_va0_1 := hr_a0_1.len
  have hl_va0_2 := hr_a0_2.len
  refine Calls.of_tri (N := 17) Try.func32 rfl rfl rfl (Sep.nil (M := noM)) ?_
  refine Tri.seq ?_
  refine Tri.reg (l := [0, 1, 2]) rfl ?_
  refine F.m rfl rfl rfl (wanted_none rfl) (m_boxG rfl rfl) ?_
  rintro _ _ ⟨b2_1, rfl, rfl⟩
  refine F.q rfl rfl rfl (wanted_none rfl) (r_assign rfl) ?_
  refine F.q rfl rfl rfl (wanted_none rfl) (r_assign rfl) ?_
  refine F.nil ?_
  refine Nrm.seq ?_
  refine Tri.seq ?_
  obtain ⟨⟨t11_1, t11_2⟩, h11, h⟩ := bind_some h
  refine Tri.reg (l := [0, 1, 2, 3, 4, 5, 6, 7]) rfl ?_
  refine F.q rfl rfl rfl (wanted_none rfl) (r_loadA ta31 ti31 rfl rfl (fun w hw => (box_cells (i := 0) rfl w hw))) ?_
  refine F.q rfl rfl rfl (wanted_none rfl) (r_move rfl) ?_
  refine F.m rfl rfl rfl (wanted_none rfl) (m_callF (xs := _) rfl ok75 rfl rfl (fun w hw => impl_wins.ok h11 w ((fun _ hw => hr_a0_1.sep hw) w hw) ((fun _ hw => hr_a0_2.sep hw) w hw))) ?_
  rintro _ _ ⟨_, ⟨v11_1, S11_1, rfl, hl_v11_1, rfl⟩, rfl⟩
  refine F.q rfl rfl rfl (wanted_none rfl) (r_move rfl) ?_
  refine F.q rfl rfl rfl (wanted_none rfl) (r_extract rfl rfl) ?_
  refine F.q rfl rfl rfl (wanted_none rfl) (r_extract rfl rfl) ?_
  refine F.q rfl rfl rfl (wanted_none rfl) (r_assign rfl) ?_
  refine F.q rfl rfl rfl (wanted_none rfl) (r_assign rfl) ?_
  refine F.nil ?_
  refine Nrm.seq ?_
  refine Tri.seq ?_
  refine Tri.reg (l := [0, 1, 2, 3, 4]) rfl ?_
  refine F.q rfl rfl rfl (wanted_none rfl) (r_move rfl) ?_
  refine F.q rfl rfl rfl (wanted_none rfl) (r_len Try.underlying95 rfl hl_v11_1) ?_
  refine F.q rfl rfl rfl (wanted_none rfl) (r_move rfl) ?_
  refine F.q rfl rfl rfl (wanted_none rfl) (r_assign rfl) ?_
  refine F.q rfl rfl rfl (wanted_none rfl) (r_assign rfl) ?_
  refine F.nil ?_
  refine Nrm.seq ?_
  refine Tri.ret ?_
  cases h
  exact Rtn.body (.tmp rfl (.tmp rfl .nil)) (fun w hw => ⟨rfl, hw.ext⟩)

end Go.Proofs

/- loop.example/g01158/laws.FnExactCountFillings -/
namespace Go.Proofs
open Go Go.Ga
set_option linter.unusedVariables false
set_option maxRecDepth 100000
set_option maxHeartbeats 4000000
def laws_FnExactCountFillings.f (k : Nat) (a0_0 : Int) (a0_1 : List (Int × Int × Int)) (a0_2 : List Int) (a1 : Int) : Option (Bool) := (laws_szMaze.f k a0_0 a0_1 a0_2 1048576).bind fun t13 => (if (decide (t13 < 0)) = true then some true else (laws_toMaze.f k a0_0 a0_1 a0_2).bind fun (t18_1, t18_2, t18_3) => (spec_CountFillings.f k t18_1 t18_2 t18_3 a1).bind fun (t20_1, t20_2) => (laws_toMaze.f k a0_0 a0_1 a0_2).bind fun (t24_1, t24_2, t24_3) => (impl_CountFillings.f k t24_1 t24_2 t24_3 a1).bind fun (t28_1, t28_2) => ((if (t28_1 != t20_1) = true then some true else some (t28_2 != t20_2))).bind fun y38 => (if y38 = true then some false else (laws_toMaze.f k a0_0 a0_1 a0_2).bind fun (t41_1, t41_2, t41_3) => (laws_eqMaze.f k t24_1 t24_2 t24_3 t41_1 t41_2 t41_3).bind fun t42 => (if (!t42) = true then some false else some true)))

theorem laws_FnExactCountFillings.ok {k : Nat}  {a0_0 : Int} {a0_1 : List (Int × Int × Int)} {a0_2 : List Int} {a1 : Int} {r0 : Bool} (h : laws_FnExactCountFillings.f k a0_0 a0_1 a0_2 a1 = some r0) (w : World) {va0_1 : Value} {va0_2 : Value} (hr_a0_1 : Rd w va0_1 a0_1) (hr_a0_2 : Rd w va0_2 a0_2) :
    Calls Try.prog 5 ([.agg ([.int .i64 a0_0, va0_1, va0_2].toArray), .int .i64 a1] : List Value).toArray w (fun e w' => e = .returned (.bool r0) ∧ Ext w w') := by
  unfold laws_FnExactCountFillings.f at h
  have hl_va0_1 := hr_a0_1.len
  have hl_va0_2 := hr_a0_2.len
  refine Calls.of_tri (N := 44) Try.func5 rfl rfl rfl (Sep.nil (M := noM)) ?_
  refine Tri.seq ?_
  refine Tri.reg (l := [0, 1]) rfl ?_
  refine F.m rfl rfl rfl (wanted_none rfl) (m_boxG rfl rfl) ?_
  rintro _ _ ⟨b2_1, rfl, rfl⟩
  refine F.q rfl rfl rfl (wanted_none rfl) (r_assign rfl) ?_
  refine F.nil ?_
  refine Nrm.seq ?_
  refine Tri.seq ?_
  refine Tri.reg (l := [0]) rfl ?_
  refine F.q rfl rfl rfl (wanted_none rfl) (r_assign rfl) ?_
  refine F.nil ?_
  refine Nrm.seq ?_
  refine Tri.seq ?_
  obtain ⟨t13, h13, h⟩ := bind_some h
  refine Tri.reg (l := [0, 1, 2, 3]) rfl ?_
  refine F.q rfl rfl rfl (wanted_none rfl) (r_loadA ta25 ti25 rfl rfl (fun w hw => (box_cells (i := 0) rfl w hw))) ?_
  refine F.q rfl rfl rfl (wanted_none rfl) (r_move rfl) ?_
  refine F.qc rfl rfl rfl (wanted_none rfl) (q_callF (xs := _) rfl ok21 rfl rfl (fun w hw => laws_szMaze.ok h13 w ((fun _ hw => hr_a0_1.sep hw) w hw) ((fun _ hw => hr_a0_2.sep hw) w hw))) ?_
  refine F.q rfl rfl rfl (wanted_none rfl) (r_assign rfl) ?_
  refine F.nil ?_
  refine Nrm.seq ?_
  refine Tri.seq ?_
  refine Tri.seq ?_
  refine Tri.reg (l := [0, 1]) rfl ?_
  refine F.q rfl rfl rfl (wanted_none rfl) (r_move rfl) ?_
  refine F.q rfl rfl rfl (wanted_none rfl) (r_lss rfl rfl) ?_
  refine F.nil ?_
  refine Nrm.seq ?_
  refine Tri.cond (b := decide (t13 < 0)) rfl (fun g_1 => ?_) (fun g_1 => ?_)
  · replace h := if_tt g_1 h
    refine Tri.seq ?_
    refine Tri.reg (l := [0]) rfl ?_
    refine F.q rfl rfl rfl (wanted_none rfl) (r_assign rfl) ?_
    refine F.nil ?_
    refine Nrm.seq ?_
    refine Tri.ret ?_
    refine Rtn.then ?_
    cases h
    exact Rtn.body (.tmp rfl .nil) (fun w hw => ⟨rfl, hw.ext⟩)
  · replace h := if_ff g_1 h
    refine Tri.skip ?_
    refine Nrm.seq ?_
    refine Tri.seq ?_
    obtain ⟨⟨t18_1, t18_2, t18_3⟩, h18, h⟩ := bind_some h
    obtain ⟨⟨t20_1, t20_2⟩, h20, h⟩ := bind_some h
    refine Tri.reg (l := [0, 1, 2, 3, 4, 5, 6, 7, 8]) rfl ?_
    refine F.q rfl rfl rfl (wanted_none rfl) (r_loadA ta25 ti25 rfl rfl (fun w hw => (box_cells (i := 0) rfl w hw))) ?_
    refine F.m rfl rfl rfl (wanted_none rfl) (m_callF (xs := _) rfl ok23 rfl rfl (fun w hw => laws_toMaze.ok h18 w ((fun _ hw => hr_a0_1.sep hw) w hw) ((fun _ hw => hr_a0_2.sep hw) w hw))) ?_
    rintro _ _ ⟨_, ⟨v18_1, S18_1, v18_2, S18_2, rfl, hl_v18_1, hl_v18_2, rfl⟩, rfl⟩
    refine F.q rfl rfl rfl (wanted_none rfl) (r_move rfl) ?_
    refine F.qc rfl rfl rfl (wanted_none rfl) (q_callF (xs := _) rfl ok31 rfl rfl (fun w hw => spec_CountFillings.ok h20 w ((rd_sl (i := 0) rfl) w hw) ((rd_sl (i := 1) rfl) w hw))) ?_
    refine F.q rfl rfl rfl (wanted_none rfl) (r_move rfl) ?_
    refine F.q rfl rfl rfl (wanted_none rfl) (r_extract rfl rfl) ?_
    refine F.q rfl rfl rfl (wanted_none rfl) (r_extract rfl rfl) ?_
    refine F.q rfl rfl rfl (wanted_none rfl) (r_assign rfl) ?_
    refine F.q rfl rfl rfl (wanted_none rfl) (r_assign rfl) ?_
    refine F.nil ?_
    refine Nrm.seq ?_
    refine Tri.seq ?_
    obtain ⟨⟨t24_1, t24_2, t24_3⟩, h24, h⟩ := bind_some h
    refine Tri.reg (l := [0, 1, 2, 3]) rfl ?_
    refine F.q rfl rfl rfl (wanted_none rfl) (r_loadA ta25 ti25 rfl rfl (fun w hw => (box_cells (i := 2) rfl w hw))) ?_
    refine F.m rfl rfl rfl (wanted_none rfl) (m_callF (xs := _) rfl ok23 rfl rfl (fun w hw => laws_toMaze.ok h24 w ((fun _ hw => hr_a0_1.sep hw) w hw) ((fun _ hw => hr_a0_2.sep hw) w hw))) ?_
    rintro _ _ ⟨_, ⟨v24_1, S24_1, v24_2, S24_2, rfl, hl_v24_1, hl_v24_2, rfl⟩, rfl⟩
    refine F.m rfl rfl rfl (wanted_none rfl) (m_alloc ti31) ?_
    rintro _ _ ⟨b8_1, rfl, rfl⟩
    refine F.ef0 rfl rfl (wanted_none rfl) (d_storeG0 (i := 0) (cs2 := [.int .i64 t24_1, v24_1, v24_2]) ti31 rfl rfl rfl rfl rfl (Nat.le_of_ble_eq_true rfl) (lf_cons rfl (lf_cons (sl_leaf hl_v24_1) (lf_cons (sl_leaf hl_v24_2) lf_nil)))) ?_
    rintro _ _ ⟨rfl, rfl⟩
    refine F.nil ?_
    refine Nrm.seq ?_
    refine Tri.seq ?_
    obtain ⟨⟨t28_1, t28_2⟩, h28, h⟩ := bind_some h
    refine Tri.reg (l := [0, 1, 2, 3, 4, 5, 6, 7]) rfl ?_
    refine F.q rfl rfl rfl (wanted_none rfl) (r_loadA ta31 ti31 rfl rfl (fun w hw => (box_cells (i := 0) rfl w hw))) ?_
    refine F.q rfl rfl rfl (wanted_none rfl) (r_move rfl) ?_
    refine F.qc rfl rfl rfl (wanted_none rfl) (q_callF (xs := _) rfl ok32 rfl rfl (fun w hw => impl_CountFillings.ok h28 w ((rd_sl (i := 1) rfl) w hw) ((rd_sl (i := 2) rfl) w hw))) ?_
    refine F.q rfl rfl rfl (wanted_none rfl) (r_move rfl) ?_
    refine F.q rfl rfl rfl (wanted_none rfl) (r_extract rfl rfl) ?_
    refine F.q rfl rfl rfl (wanted_none rfl) (r_extract rfl rfl) ?_
    refine F.q rfl rfl rfl (wanted_none rfl) (r_assign rfl) ?_
    refine F.q rfl rfl rfl (wanted_none rfl) (r_assign rfl) ?_
    refine F.nil ?_
    refine Nrm.seq ?_
    refine Tri.seq ?_
    refine Tri.seq ?_
    obtain ⟨y38, hE_1, h⟩ := bind_some h
    refine Tri.cut (fun e' C' => e' = [(2, .pointer (some ⟨b2_1, 0, none⟩)), (8, .pointer (some ⟨b8_1, 0, none⟩)), (38, .bool y38)] ∧ C' = Sep w noM [R.box b8_1 31 [.int .i64 t24_1, v24_1, v24_2], R.box b2_1 25 [.int .i64 a0_0, va0_1, va0_2], R.sl S24_1 v24_1 (t24_2 : List (Int × Int × Int)), R.sl S24_2 v24_2 (t24_3 : List (Int))]) ?_ (fun hj_1 => ?_)
    · rintro _ _ ⟨rfl, rfl⟩
      refine Nrm.seq ?_
      refine Tri.cond (b := y38) rfl (fun g_2 => ?_) (fun g_2 => ?_)
      · replace h := if_tt g_2 h
        refine Tri.seq ?_
        refine Tri.reg (l := [0]) rfl ?_
        refine F.q rfl rfl rfl (wanted_none rfl) (r_assign rfl) ?_
        refine F.nil ?_
        refine Nrm.seq ?_
        refine Tri.ret ?_
        refine Rtn.then ?_
        cases h
        exact Rtn.body (.tmp rfl .nil) (fun w hw => ⟨rfl, hw.ext⟩)
      · replace h := if_ff g_2 h
        refine Tri.skip ?_
        refine Nrm.seq ?_
        refine Tri.seq ?_
        refine Tri.seq ?_
        obtain ⟨⟨t41_1, t41_2, t41_3⟩, h41, h⟩ := bind_some h
        obtain ⟨t42, h42, h⟩ := bind_some h
        refine Tri.drawA mixedT Sep.up [(0, true), (1, true), (2, false), (3, true), (4, true)] [] (by kernel_rfl) ?_
        refine S.q rfl rfl rfl (wanted_none rfl) (r_loadA ta31 ti31 rfl rfl (fun w hw => (box_cells (i := 0) rfl w hw))) ?_
        refine S.q rfl rfl rfl (wanted_none rfl) (r_loadA ta25 ti25 rfl rfl (fun w hw => (box_cells (i := 1) rfl w hw))) ?_
        refine S.m rfl rfl rfl (wanted_none rfl) (m_callF (xs := _) rfl ok23 rfl rfl (fun w hw => laws_toMaze.ok h41 w ((fun _ hw => hr_a0_1.sep hw) w hw) ((fun _ hw => hr_a0_2.sep hw) w hw))) ?_
        rintro _ _ ⟨_, ⟨v41_3, S41_3, v41_4, S41_4, rfl, hl_v41_3, hl_v41_4, rfl⟩, rfl⟩
        refine S.qc rfl rfl rfl (wanted_none rfl) (q_callF (xs := _) rfl ok27 rfl rfl (fun w hw => laws_eqMaze.ok h42 w ((rd_sl (i := 4) rfl) w hw) ((rd_sl (i := 5) rfl) w hw) ((rd_sl (i := 0) rfl) w hw) ((rd_sl (i := 1) rfl) w hw))) ?_
        refine S.q rfl rfl rfl (wanted_none rfl) (r_not rfl) ?_
        refine S.nil ?_
        refine F.nil ?_
        refine Nrm.seq ?_
        refine Tri.cond (b := !t42) rfl (fun g_3 => ?_) (fun g_3 => ?_)
        · replace h := if_tt g_3 h
          refine Tri.seq ?_
          refine Tri.reg (l := [0]) rfl ?_
          refine F.q rfl rfl rfl (wanted_none rfl) (r_assign rfl) ?_
          refine F.nil ?_
          refine Nrm.seq ?_
          refine Tri.ret ?_
          refine Rtn.then ?_
          cases h
          exact Rtn.body (.tmp rfl .nil) (fun w hw => ⟨rfl, hw.ext⟩)
        · replace h := if_ff g_3 h
          refine Tri.skip ?_
          refine Nrm.seq ?_
          refine Tri.seq ?_
          refine Tri.reg (l := [0]) rfl ?_
          refine F.q rfl rfl rfl (wanted_none rfl) (r_assign rfl) ?_
          refine F.nil ?_
          refine Nrm.seq ?_
          refine Tri.ret ?_
          cases h
          exact Rtn.body (.tmp rfl .nil) (fun w hw => ⟨rfl, hw.ext⟩)
    · rcases Bool.eq_false_or_eq_true (t28_1 != t20_1) with g34 | g34
      · replace hE_1 := if_tt g34 hE_1
        refine Tri.reg (l := [0, 1, 2, 3, 4, 5, 6, 7]) rfl ?_
        refine F.q rfl rfl rfl (wanted_none rfl) (r_move rfl) ?_
        refine F.q rfl rfl rfl (wanted_none rfl) (r_move rfl) ?_
        refine F.q rfl rfl rfl (wanted_none rfl) (r_neq rfl rfl) ?_
        refine F.q rfl rfl rfl (wanted_none rfl) (r_move rfl) ?_
        refine F.sk rfl rfl rfl (wf rfl rfl rfl g34) ?_
        refine F.sk rfl rfl rfl (wf rfl rfl rfl g34) ?_
        refine F.sk rfl rfl rfl (wf rfl rfl rfl g34) ?_
        refine F.q rfl rfl rfl (wanted_none rfl) (r_pick rfl rfl g34) ?_
        refine F.nil ?_
        cases hE_1
        refine Nrm.only [2, 8, 38] rfl ?_
        refine Nrm.pick [0, 5, 1, 2] rfl rfl ?_
        exact hj_1 _ _ ⟨rfl, rfl⟩
      · replace hE_1 := if_ff g34 hE_1
        refine Tri.reg (l := [0, 1, 2, 3, 4, 5, 6, 7]) rfl ?_
        refine F.q rfl rfl rfl (wanted_none rfl) (r_move rfl) ?_
        refine F.q rfl rfl rfl (wanted_none rfl) (r_move rfl) ?_
        refine F.q rfl rfl rfl (wanted_none rfl) (r_neq rfl rfl) ?_
        refine F.q rfl rfl rfl (wanted_none rfl) (r_move rfl) ?_
        refine F.q rfl rfl rfl (wg rfl rfl rfl g34) (r_move rfl) ?_
        refine F.q rfl rfl rfl (wg rfl rfl rfl g34) (r_move rfl) ?_
        refine F.q rfl rfl rfl (wg rfl rfl rfl g34) (r_neqB Try.underlying4 rfl rfl) ?_
        refine F.q rfl rfl rfl (wanted_none rfl) (r_pickf rfl rfl g34) ?_
        refine F.nil ?_
        cases hE_1
        refine Nrm.only [2, 8, 38] rfl ?_
        refine Nrm.pick [0, 5, 1, 2] rfl rfl ?_
        exact hj_1 _ _ ⟨rfl, rfl⟩

end Go.Proofs
