/- A part of the proof of FnExactReleaseRounds: what the functions of the program compute, walked on the model. No condition. -/
import Derived.Test.YtnmmbpaedkofeaaFnExactReleaseRoundsF
/- loop.example/g01158/impl.play -/
namespace Go.Proofs
open Go Go.Ga
set_option linter.unusedVariables false
set_option maxRecDepth 100000
set_option maxHeartbeats 4000000
def impl_play.l4 (k : Nat) (a0_1 : List (List Int)) (x47 : Int) (t50 : Int × List (Int × Int × Int) × List Int) (t96 : List Int) : Nat → (List (Int)) → Int → Option ((List (Int)))
  | 0, _, _ => none
  | n + 1, x10r, x98 => (if (decide (x98 < (t96.length : Int))) = true then (rdl t96 x98).bind fun t100 => (rdl a0_1 x47).bind fun t106 => (rdl t106 t100).bind fun t109 => (rdl x10r t109).bind fun t111 => (rdl t50.2.2 t100).bind fun t116 => (rdl x10r t109).bind fun t119 => impl_play.l4 k a0_1 x47 t50 t96 n (x10r.set t109.toNat (bor t111 t116)) (w64 (x98 + 1)) else some x10r)

def impl_play.l3 (k : Nat) (x9 : Int) (x47 : Int) (t59 : List Int) : Nat → Int → (List (List Int)) → Option ((List (List Int)))
  | 0, _, _ => none
  | n + 1, x61, xq5_2_1rrr => (if (decide (x61 < (t59.length : Int))) = true then (rdl t59 x61).bind fun t63 => (rdl (xq5_2_1rrr : List (List Int)) x47).bind fun t68 => (rdl t68 t63).bind fun t71 => ((if (decide (t71 < 0)) = true then (rdl ((xq5_2_1rrr : List (List Int)).set (x47).toNat t68 : List (List Int)) x47).bind fun t77 => (rdl t77 t63).bind fun t81 => some (((xq5_2_1rrr : List (List Int)).set (x47).toNat t68 : List (List Int)).set (x47).toNat (t77.set t63.toNat x9)) else some ((xq5_2_1rrr : List (List Int)).set (x47).toNat t68))).bind fun yb5_2_1 => impl_play.l3 k x9 x47 t59 n (w64 (x61 + 1)) yb5_2_1 else some xq5_2_1rrr)

def impl_play.l2 (k : Nat) (a0_0 : List (Int × List (Int × Int × Int) × List Int)) (a0_1 : List (List Int)) (a1 : Bool) (x6 : List (Int)) (x9 : Int) : Nat → (List (Int)) → Int → (List (List Int)) → Option ((List (List Int)) × (List (Int)))
  | 0, _, _, _ => none
  | n + 1, x10, x47, xq5_2_1rr => (if (decide (x47 < (a0_0.length : Int))) = true then (rdl a0_0 x47).bind fun t50 => (rdl x6 x47).bind fun t55 => (impl_reach.f k t50.1 t50.2.1 t50.2.2 0 t55).bind fun t57 => (impl_members.f k t57).bind fun t59 => (impl_play.l3 k x9 x47 t59 k 0 xq5_2_1rr).bind fun xq5_2_1rrr => ((if a1 = true then if ¬ (w64 (t50.1 - 1)) < 0 then some ((band (shr t57 (w64 (t50.1 - 1))) 1) == 1) else none else some false)).bind fun y92 => ((if y92 = true then (impl_allNodes.f k t50.1 t50.2.1 t50.2.2).bind fun t94 => some t94 else some t57)).bind fun y13 => (impl_members.f k y13).bind fun t96 => (impl_play.l4 k a0_1 x47 t50 t96 k x10 0).bind fun x10r => impl_play.l2 k a0_0 a0_1 a1 x6 x9 n x10r (w64 (x47 + 1)) xq5_2_1rrr else some (xq5_2_1rr, x10))

def impl_play.l1 (k : Nat) (a0_0 : List (Int × List (Int × Int × Int) × List Int)) (a0_1 : List (List Int)) (a1 : Bool) : Nat → (List (Int)) → Int → (List (List Int)) → (List (List Int)) → Option ((Unit) ⊕ ((List (List Int)) × (List (List Int))))
  | 0, _, _, _, _ => none
  | n + 1, x6, x9, xq5_2_0, xq5_2_1r => (slices_Clone_int_int.f k x6).bind fun t43 => (impl_play.l2 k a0_0 a0_1 a1 x6 x9 k t43 0 xq5_2_1r).bind fun (xq5_2_1rr, x10) => (slices_Clone_int_int.f k x6).bind fun t125 => if ((xq5_2_0 : List (List Int)) ++ ([t125] : List (List Int))).length < 1099511627776 then (slices_Equal_int_int.f k x10 x6).bind fun t131 => (if t131 = true then some (Sum.inr ((xq5_2_0 : List (List Int)) ++ ([t125] : List (List Int)), xq5_2_1rr)) else impl_play.l1 k a0_0 a0_1 a1 n x10 (w64 (x9 + 1)) ((xq5_2_0 : List (List Int)) ++ ([t125] : List (List Int))) xq5_2_1rr) else none

def impl_play.l0 (k : Nat) (a0_0 : List (Int × List (Int × Int × Int) × List Int)) : Nat → Int → (List (List Int)) → Option ((List (List Int)))
  | 0, _, _ => none
  | n + 1, x26, xq5_2_1 => (if (decide (x26 < (a0_0.length : Int))) = true then (rdl a0_0 x26).bind fun t28 => (slices_Repeat_int_int.f k ([(-1)] : List (Int)) t28.1).bind fun t35 => if ((xq5_2_1 : List (List Int)) ++ ([t35] : List (List Int))).length < 1099511627776 then impl_play.l0 k a0_0 n (w64 (x26 + 1)) ((xq5_2_1 : List (List Int)) ++ ([t35] : List (List Int))) else none else some xq5_2_1)

def impl_play.f (k : Nat) (a0_0 : List (Int × List (Int × Int × Int) × List Int)) (a0_1 : List (List Int)) (a1 : Bool) : Option ((List (List Int)) × (List (List Int))) := (if 0 ≤ (a0_0.length : Int) ∧ (a0_0.length : Int) < 1099511627776 then some (List.replicate ((a0_0.length : Int)).toNat (0 : Int)) else none).bind fun y6 => (impl_play.l0 k a0_0 k 0 ([] : List (List Int))).bind fun xq5_2_1 => (impl_play.l1 k a0_0 a0_1 a1 k y6 0 ([] : List (List Int)) xq5_2_1).bind fun s => Lr s some fun _ => none

theorem impl_play.ok {k : Nat}  {a0_0 : List (Int × List (Int × Int × Int) × List Int)} {a0_1 : List (List Int)} {a1 : Bool} {r0 : List (List Int)} {r1 : List (List Int)} (h : impl_play.f k a0_0 a0_1 a1 = some (r0, r1)) (w : World) {va0_0 : Value} {va0_1 : Value} (hr_a0_0 : Rd w va0_0 a0_0) (hr_a0_1 : Rd w va0_1 a0_1) :
    Calls Try.prog 66 ([.agg ([va0_0, va0_1].toArray), .bool a1] : List Value).toArray w (Post (fun u ns => ∃ (ur0 : Value) (Sr0 : Nat → Prop) (ur1 : Value) (Sr1 : Nat → Prop), u = .agg [ur0, ur1].toArray ∧ SlLen ur0 r0.length ∧ SlLen ur1 r1.length ∧ ns = [R.sl Sr0 ur0 r0, R.sl Sr1 ur1 r1]) w) := by
  unfold impl_play.f at h
  have hl_va0_0 := hr_a0_0.len
  have hl_va0_1 := hr_a0_1.len
  refine Calls.of_tri (N := 134) Try.func66 rfl rfl rfl (Sep.nil (M := noM)) ?_
  refine Tri.seq ?_
  refine Tri.reg (l := [0, 1]) rfl ?_
  refine F.m rfl rfl rfl (wanted_none rfl) (m_boxG rfl rfl) ?_
  rintro _ _ ⟨b2_1, rfl, rfl⟩
  refine F.m rfl rfl rfl (wanted_none rfl) (m_alloc ti88) ?_
  rintro _ _ ⟨b4_1, rfl, rfl⟩
  refine F.nil ?_
  refine Nrm.seq ?_
  refine Tri.seq ?_
  obtain ⟨y6, hE_1, h⟩ := bind_some h
  refine Tri.cut (fun e' C' => ∃ (v6_1 : Value) (S6_1 : Nat → Prop) (b5_2 : Nat), SlLen v6_1 (y6).length ∧ e' = [(1, .bool a1), (2, .pointer (some ⟨b2_1, 0, none⟩)), (4, .pointer (some ⟨b4_1, 0, none⟩)), (5, .pointer (some ⟨b5_2, 0, none⟩)), (6, v6_1)] ∧ C' = Sep w noM [R.box b4_1 88 [.slice none 0 0, .slice none 0 0], R.box b2_1 31 [va0_0, va0_1], R.box b5_2 88 [.slice none 0 0, .slice none 0 0], R.sl S6_1 v6_1 (y6 : List (Int))]) ?_ (fun hj_1 => ?_)
  · rintro _ _ ⟨v6_1, S6_1, b5_2, hl_v6_1, rfl, rfl⟩
    refine Nrm.seq ?_
    refine Tri.seq ?_
    refine Tri.seq ?_
    refine Tri.reg (l := [0, 1, 2, 3]) rfl ?_
    refine F.q rfl rfl rfl (wanted_none rfl) (r_fieldAddr tf31_0 rfl) ?_
    refine F.q rfl rfl rfl (wanted_none rfl) (r_load ta29 rfl (fun w hw => cell_1 (box_cells (i := 1) rfl w hw) rfl)) ?_
    refine F.q rfl rfl rfl (wanted_none rfl) (r_len Try.underlying29 rfl hl_va0_0) ?_
    refine F.q rfl rfl rfl (wanted_none rfl) (r_move rfl) ?_
    refine F.nil ?_
    refine Nrm.seq ?_
    obtain ⟨xq5_2_1, hE_2, h⟩ := bind_some h
    refine Tri.imp (fun w hw => hw.pushNil (α := List Int)) ?_
    refine Tri.block ?_
    refine Tri.only [1, 2, 4, 5, 6, 24, 25, 26] rfl ?_
    refine Tri.pick [1, 2, 3, 0, 4] rfl rfl ?_
    refine Tri.rounds (fun n e' C' => ∃ (x26' : Int) (xq5_2_1' : List (List Int)) (wq5_2_1 : Value) (Tq5_2_1 : Nat → Prop), impl_play.l0 k a0_0 n x26' xq5_2_1' = some xq5_2_1 ∧ SlLen wq5_2_1 (xq5_2_1').length ∧ e' = [(1, .bool a1), (2, .pointer (some ⟨b2_1, 0, none⟩)), (4, .pointer (some ⟨b4_1, 0, none⟩)), (5, .pointer (some ⟨b5_2, 0, none⟩)), (6, v6_1), (24, va0_0), (25, .int .i64 (a0_0.length : Int)), (26, .int .i64 x26')] ∧ C' = Sep w noM [R.box b4_1 88 [.slice none 0 0, .slice none 0 0], R.box b2_1 31 [va0_0, va0_1], R.box b5_2 88 [.slice none 0 0, wq5_2_1], R.sl Tq5_2_1 wq5_2_1 (xq5_2_1' : List (List Int)), R.sl S6_1 v6_1 (y6 : List (Int))]) k ?_ ?_ ?_
    · exact ⟨0, ([] : List (List Int)), (nilv 0), (fun _ => False), hE_2, len_nil, rfl, rfl⟩
    · rintro _ _ ⟨_, _, _, _, hE_2, _⟩
      rw [impl_play.l0.eq_1] at hE_2; cases hE_2
    · rintro n_1 _ _ ⟨x26, xq5_2_1, wq5_2_1, Tq5_2_1, hE_2, hl_wq5_2_1, rfl, rfl⟩ ih_1
      rw [impl_play.l0.eq_2] at hE_2
      refine Tri.seq ?_
      refine Tri.reg (l := [0]) rfl ?_
      refine F.q rfl rfl rfl (wanted_none rfl) (r_lss rfl rfl) ?_
      refine F.nil ?_
      refine Nrm.seq ?_
      refine Tri.seq ?_
      refine Tri.cond (b := decide (x26 < (a0_0.length : Int))) rfl (fun g_1 => ?_) (fun g_1 => ?_)
      · replace hE_2 := if_tt g_1 hE_2
        refine Tri.skip ?_
        refine Nrm.seq ?_
        refine Tri.seq ?_
        refine Tri.block ?_
        refine Tri.seq ?_
        obtain ⟨t28, h28, hE_2⟩ := bind_some hE_2
        obtain ⟨_, hc28, hp28⟩ := Rd.elem hr_a0_0 (rdl_some h28).2.2
        obtain ⟨v28_1, v28_2, rfl, hr_v28_1, hr_v28_2⟩ := op55 hp28
        have hl_v28_1 := hr_v28_1.len
        have hl_v28_2 := hr_v28_2.len
        refine Tri.reg (l := [0, 1, 2, 3]) rfl ?_
        refine F.q rfl rfl rfl (wanted_none rfl) (r_indexAddrS Try.underlying29 ti55 rfl hl_va0_0 rfl (rdl_some h28).1 (rdl_some h28).2.1) ?_
        refine F.q rfl rfl rfl (wanted_none rfl) (r_loadA ta55 ti55 rfl rfl (fun w hw => (hc28.sep hw))) ?_
        refine F.m rfl rfl rfl (wanted_none rfl) (m_alloc ti55) ?_
        rintro _ _ ⟨b8_1, rfl, rfl⟩
        refine F.ef0 rfl rfl (wanted_none rfl) (d_storeG0 (i := 0) (cs2 := [.int .i64 t28.1, v28_1, v28_2]) ti55 rfl rfl rfl rfl rfl (Nat.le_of_ble_eq_true rfl) (lf_cons rfl (lf_cons (sl_leaf hl_v28_1) (lf_cons (sl_leaf hl_v28_2) lf_nil)))) ?_
        rintro _ _ ⟨rfl, rfl⟩
        refine F.nil ?_
        refine Nrm.seq ?_
        obtain ⟨t35, h35, hE_2⟩ := bind_some hE_2
        obtain ⟨hs37, hE_2⟩ := ck hE_2
        refine Tri.drawB mixedT Sep.up [(0, true), (1, true), (3, true), (4, true), (2, false), (5, false), (6, false)] [7, 8, 9] (by kernel_rfl) ?_
        refine B.q rfl rfl rfl (wanted_none rfl) (r_fieldAddr tf88_1 rfl) ?_
        refine B.q rfl rfl rfl (wanted_none rfl) (r_load ta23 rfl (fun w hw => cell_1 (box_cells (i := 3) rfl w hw) rfl)) ?_
        refine B.q rfl rfl rfl (wanted_none rfl) (r_fieldAddr tf55_0 rfl) ?_
        refine B.q rfl rfl rfl (wanted_none rfl) (r_load ta3 rfl (fun w hw => cell_1 (box_cells (i := 0) rfl w hw) rfl)) ?_
        refine B.ef rfl rfl rfl (wanted_none rfl) (Makes.does (m_buildF (l := ([(-1)] : List (Int))) Try.underlying38 ti3 rfl rfl rfl rfl rfl)) (by rintro v32_2 _ ⟨S32_2, hl_v32_2, rfl⟩; exact upd rfl [1, 2, 3, 4, 5, 6] rfl rfl) ?_
        rintro v32_2 _ ⟨S32_2, hl_v32_2, rfl⟩
        refine B.ef rfl rfl rfl (wanted_none rfl) (Makes.does (m_callF (xs := _) rfl ok124 rfl rfl (fun w hw => slices_Repeat_int_int.ok h35 w ((rd_sl (i := 0) rfl) w hw)))) (by rintro v35_2 _ ⟨_, ⟨S35_2, hl_v35_2, rfl⟩, rfl⟩; exact upd rfl [2, 3, 4, 5, 6, 7] rfl rfl) ?_
        rintro v35_2 _ ⟨_, ⟨S35_2, hl_v35_2, rfl⟩, rfl⟩
        refine B.ef rfl rfl rfl (wanted_none rfl) (d_build1 (cells := [v35_2]) (x0 := (t35 : List Int)) (cs := [R.sl S35_2 v35_2 (t35 : List (Int))]) (rest := [R.sl S32_2 v32_2 (([(-1)] : List (Int)) : List (Int)), R.box b8_1 55 [.int .i64 t28.1, v28_1, v28_2], R.box b4_1 88 [.slice none 0 0, .slice none 0 0], R.box b2_1 31 [va0_0, va0_1], R.box b5_2 88 [.slice none 0 0, wq5_2_1], R.sl Tq5_2_1 wq5_2_1 (xq5_2_1 : List (List Int)), R.sl S6_1 v6_1 (y6 : List (Int))]) [0] [1, 2, 3, 4, 5, 6, 7] Try.underlying23 ti38 rfl (sl_cells hl_v35_2) rfl (lf_cons (sl_leaf hl_v35_2) lf_nil) rfl rfl (jn_sl (S := S35_2) (v := v35_2) (l := (t35 : List (Int))))) (by rintro v36_2 _ ⟨S36_2, hl_v36_2, rfl⟩; exact upd rfl [2, 3, 4, 5, 6, 7] rfl rfl) ?_
        rintro v36_2 _ ⟨S36_2, hl_v36_2, rfl⟩
        refine B.nil ?_
        refine F.ef rfl rfl rfl (wanted_none rfl) (d_appendN (rest := [R.sl S32_2 v32_2 (([(-1)] : List (Int)) : List (Int)), R.box b8_1 55 [.int .i64 t28.1, v28_1, v28_2], R.box b4_1 88 [.slice none 0 0, .slice none 0 0], R.box b2_1 31 [va0_0, va0_1], R.box b5_2 88 [.slice none 0 0, wq5_2_1], R.sl S6_1 v6_1 (y6 : List (Int))]) 6 0 [1, 2, 3, 4, 5, 7] Try.underlying23 Try.underlying23 ti38 rfl (by decide) rfl rfl rfl rfl hs37) ?_
        rintro v37_2 _ ⟨S37_2, hl_v37_2, rfl⟩
        refine F.q rfl rfl rfl (wanted_none rfl) (r_fieldAddr tf88_1 rfl) ?_
        refine F.ef0 rfl rfl (wanted_none rfl) (d_storeG1 (i := 5) (cs2 := [v37_2]) ti23 rfl rfl rfl (sl_cells hl_v37_2) rfl (Nat.le_of_ble_eq_true rfl) (lf_cons (sl_leaf hl_v37_2) lf_nil)) ?_
        rintro _ _ ⟨rfl, rfl⟩
        refine F.nil ?_
        refine Nrm.block ?_
        refine Nrm.seq ?_
        refine Tri.reg (l := [0, 1]) rfl ?_
        refine F.q rfl rfl rfl (wanted_none rfl) (r_add rfl rfl) ?_
        refine F.q rfl rfl rfl (wanted_none rfl) (r_move rfl) ?_
        refine F.nil ?_
        refine Nrm.round ?_
        refine Rnd.only [1, 2, 4, 5, 6, 24, 25, 26] rfl ?_
        refine Rnd.pick [3, 4, 5, 0, 6] rfl rfl ?_
        exact ih_1 _ _ ⟨w64 (x26 + 1), (xq5_2_1 : List (List Int)) ++ ([t35] : List (List Int)), v37_2, S37_2, hE_2, hl_v37_2, rfl, rfl⟩
      · replace hE_2 := if_ff g_1 hE_2
        refine Tri.exit ?_
        refine Exi.then ?_
        refine Exi.then ?_
        refine Exi.same ?_
        cases hE_2
        refine Nrm.seq ?_
        refine Tri.seq ?_
        refine Tri.reg (l := [0]) rfl ?_
        refine F.q rfl rfl rfl (wanted_none rfl) (r_assign rfl) ?_
        refine F.nil ?_
        refine Nrm.seq ?_
        obtain ⟨s1, hE_3, h⟩ := bind_some h
        refine Tri.imp (fun w hw => hw.pushNil (α := List Int)) ?_
        refine Tri.block ?_
        refine Tri.only [1, 2, 4, 5, 6, 9] rfl ?_
        refine Tri.pick [1, 2, 3, 0, 4, 5] rfl rfl ?_
        refine Tri.rounds (fun n e' C' => ∃ (x6' : List (Int)) (x9' : Int) (xq5_2_0' : List (List Int)) (xq5_2_1r' : List (List Int)) (w6 : Value) (T6 : Nat → Prop) (wq5_2_0 : Value) (Tq5_2_0 : Nat → Prop) (wq5_2_1r : Value) (Tq5_2_1r : Nat → Prop), impl_play.l1 k a0_0 a0_1 a1 n x6' x9' xq5_2_0' xq5_2_1r' = some s1 ∧ SlLen w6 (x6').length ∧ SlLen wq5_2_0 (xq5_2_0').length ∧ SlLen wq5_2_1r (xq5_2_1r').length ∧ e' = [(1, .bool a1), (2, .pointer (some ⟨b2_1, 0, none⟩)), (4, .pointer (some ⟨b4_1, 0, none⟩)), (5, .pointer (some ⟨b5_2, 0, none⟩)), (6, w6), (9, .int .i64 x9')] ∧ C' = Sep w noM [R.box b4_1 88 [.slice none 0 0, .slice none 0 0], R.box b2_1 31 [va0_0, va0_1], R.box b5_2 88 [wq5_2_0, wq5_2_1r], R.sl Tq5_2_0 wq5_2_0 (xq5_2_0' : List (List Int)), R.sl Tq5_2_1r wq5_2_1r (xq5_2_1r' : List (List Int)), R.sl T6 w6 (x6' : List (Int))]) k ?_ ?_ ?_
        · exact ⟨y6, 0, ([] : List (List Int)), xq5_2_1, v6_1, S6_1, (nilv 1), (fun _ => False), wq5_2_1, Tq5_2_1, hE_3, hl_v6_1, len_nil, hl_wq5_2_1, rfl, rfl⟩
        · rintro _ _ ⟨_, _, _, _, _, _, _, _, _, _, hE_3, _⟩
          rw [impl_play.l1.eq_1] at hE_3; cases hE_3
        · rintro n_2 _ _ ⟨x6, x9, xq5_2_0, xq5_2_1r, w6, T6, wq5_2_0, Tq5_2_0, wq5_2_1r, Tq5_2_1r, hE_3, hl_w6, hl_wq5_2_0, hl_wq5_2_1r, rfl, rfl⟩ ih_2
          rw [impl_play.l1.eq_2] at hE_3
          refine Tri.seq ?_
          refine Tri.block ?_
          refine Tri.seq ?_
          obtain ⟨t43, h43, hE_3⟩ := bind_some hE_3
          refine Tri.reg (l := [0, 1, 2]) rfl ?_
          refine F.q rfl rfl rfl (wanted_none rfl) (r_move rfl) ?_
          refine F.m rfl rfl rfl (wanted_none rfl) (m_callF (xs := _) rfl ok89 rfl rfl (fun w hw => slices_Clone_int_int.ok h43 w ((rd_sl (i := 5) rfl) w hw))) ?_
          rintro v43_1 _ ⟨_, ⟨S43_1, hl_v43_1, rfl⟩, rfl⟩
          refine F.q rfl rfl rfl (wanted_none rfl) (r_assign rfl) ?_
          refine F.nil ?_
          refine Nrm.seq ?_
          refine Tri.seq ?_
          refine Tri.seq ?_
          refine Tri.reg (l := [0, 1, 2, 3]) rfl ?_
          refine F.q rfl rfl rfl (wanted_none rfl) (r_fieldAddr tf31_0 rfl) ?_
          refine F.q rfl rfl rfl (wanted_none rfl) (r_load ta29 rfl (fun w hw => cell_1 (box_cells (i := 2) rfl w hw) rfl)) ?_
          refine F.q rfl rfl rfl (wanted_none rfl) (r_len Try.underlying29 rfl hl_va0_0) ?_
          refine F.q rfl rfl rfl (wanted_none rfl) (r_move rfl) ?_
          refine F.nil ?_
          refine Nrm.seq ?_
          obtain ⟨⟨xq5_2_1rr, x10⟩, hE_4, hE_3⟩ := bind_some hE_3
          refine Tri.block ?_
          refine Tri.only [1, 2, 4, 5, 6, 9, 10, 45, 46, 47] rfl ?_
          refine Tri.pick [1, 2, 3, 0, 4, 5, 6] rfl rfl ?_
          refine Tri.rounds (fun n e' C' => ∃ (x10' : List (Int)) (x47' : Int) (xq5_2_1rr' : List (List Int)) (wq5_2_1rr : Value) (Tq5_2_1rr : Nat → Prop), impl_play.l2 k a0_0 a0_1 a1 x6 x9 n x10' x47' xq5_2_1rr' = some (xq5_2_1rr, x10) ∧ SlLen v43_1 (x10').length ∧ SlLen wq5_2_1rr (xq5_2_1rr').length ∧ e' = [(1, .bool a1), (2, .pointer (some ⟨b2_1, 0, none⟩)), (4, .pointer (some ⟨b4_1, 0, none⟩)), (5, .pointer (some ⟨b5_2, 0, none⟩)), (6, w6), (9, .int .i64 x9), (10, v43_1), (45, va0_0), (46, .int .i64 (a0_0.length : Int)), (47, .int .i64 x47')] ∧ C' = Sep w noM [R.box b4_1 88 [.slice none 0 0, .slice none 0 0], R.box b2_1 31 [va0_0, va0_1], R.box b5_2 88 [wq5_2_0, wq5_2_1rr], R.sl S43_1 v43_1 (x10' : List (Int)), R.sl Tq5_2_0 wq5_2_0 (xq5_2_0 : List (List Int)), R.sl Tq5_2_1rr wq5_2_1rr (xq5_2_1rr' : List (List Int)), R.sl T6 w6 (x6 : List (Int))]) k ?_ ?_ ?_
          · exact ⟨t43, 0, xq5_2_1r, wq5_2_1r, Tq5_2_1r, hE_4, hl_v43_1, hl_wq5_2_1r, rfl, rfl⟩
          · rintro _ _ ⟨_, _, _, _, _, hE_4, _⟩
            rw [impl_play.l2.eq_1] at hE_4; cases hE_4
          · rintro n_3 _ _ ⟨x10, x47, xq5_2_1rr, wq5_2_1rr, Tq5_2_1rr, hE_4, hl_x10, hl_wq5_2_1rr, rfl, rfl⟩ ih_3
            rw [impl_play.l2.eq_2] at hE_4
            refine Tri.seq ?_
            refine Tri.reg (l := [0]) rfl ?_
            refine F.q rfl rfl rfl (wanted_none rfl) (r_lss rfl rfl) ?_
            refine F.nil ?_
            refine Nrm.seq ?_
            refine Tri.seq ?_
            refine Tri.cond (b := decide (x47 < (a0_0.length : Int))) rfl (fun g_2 => ?_) (fun g_2 => ?_)
            · replace hE_4 := if_tt g_2 hE_4
              refine Tri.skip ?_
              refine Nrm.seq ?_
              refine Tri.seq ?_
              refine Tri.block ?_
              refine Tri.seq ?_
              obtain ⟨t50, h50, hE_4⟩ := bind_some hE_4
              obtain ⟨_, hc50, hp50⟩ := Rd.elem hr_a0_0 (rdl_some h50).2.2
              obtain ⟨v50_1, v50_2, rfl, hr_v50_1, hr_v50_2⟩ := op55 hp50
              have hl_v50_1 := hr_v50_1.len
              have hl_v50_2 := hr_v50_2.len
              refine Tri.reg (l := [0, 1, 2, 3, 4, 5]) rfl ?_
              refine F.q rfl rfl rfl (wanted_none rfl) (r_move rfl) ?_
              refine F.q rfl rfl rfl (wanted_none rfl) (r_indexAddrS Try.underlying29 ti55 rfl hl_va0_0 rfl (rdl_some h50).1 (rdl_some h50).2.1) ?_
              refine F.q rfl rfl rfl (wanted_none rfl) (r_loadA ta55 ti55 rfl rfl (fun w hw => (hc50.sep hw))) ?_
              refine F.m rfl rfl rfl (wanted_none rfl) (m_alloc ti55) ?_
              rintro _ _ ⟨b12_1, rfl, rfl⟩
              refine F.q rfl rfl rfl (wanted_none rfl) (r_assign rfl) ?_
              refine F.ef0 rfl rfl (wanted_none rfl) (d_storeG0 (i := 0) (cs2 := [.int .i64 t50.1, v50_1, v50_2]) ti55 rfl rfl rfl rfl rfl (Nat.le_of_ble_eq_true rfl) (lf_cons rfl (lf_cons (sl_leaf hl_v50_1) (lf_cons (sl_leaf hl_v50_2) lf_nil)))) ?_
              rintro _ _ ⟨rfl, rfl⟩
              refine F.nil ?_
              refine Nrm.seq ?_
              refine Tri.seq ?_
              obtain ⟨t55, h55, hE_4⟩ := bind_some hE_4
              obtain ⟨t57, h57, hE_4⟩ := bind_some hE_4
              refine Tri.drawA mixedT Sep.up [(0, true), (1, true), (2, true), (3, true), (4, true), (5, true), (6, true)] [] (by kernel_rfl) ?_
              refine S.q rfl rfl rfl (wanted_none rfl) (r_loadA ta55 ti55 rfl rfl (fun w hw => (box_cells (i := 0) rfl w hw))) ?_
              refine S.q rfl rfl rfl (wanted_none rfl) (r_move rfl) ?_
              refine S.q rfl rfl rfl (wanted_none rfl) (r_move rfl) ?_
              refine S.q rfl rfl rfl (wanted_none rfl) (r_indexAddrS Try.underlying38 ti3 rfl hl_w6 rfl (rdl_some h55).1 (rdl_some h55).2.1) ?_
              refine S.q rfl rfl rfl (wanted_none rfl) (r_load ta3 rfl (fun w hw => cell_0 (Rd.flat ((rd_sl (i := 7) rfl) w hw) (rdl_some h55).2.2) rfl)) ?_
              refine S.qc rfl rfl rfl (wanted_none rfl) (q_callF (xs := _) rfl ok125 rfl rfl (fun w hw => impl_reach.ok h57 w ((fun _ hw => hr_v50_1.sep hw) w hw) ((fun _ hw => hr_v50_2.sep hw) w hw))) ?_
              refine S.q rfl rfl rfl (wanted_none rfl) (r_assign rfl) ?_
              refine S.nil ?_
              refine F.nil ?_
              refine Nrm.seq ?_
              refine Tri.seq ?_
              refine Tri.seq ?_
              obtain ⟨t59, h59, hE_4⟩ := bind_some hE_4
              refine Tri.reg (l := [0, 1, 2, 3]) rfl ?_
              refine F.q rfl rfl rfl (wanted_none rfl) (r_move rfl) ?_
              refine F.m rfl rfl rfl (wanted_none rfl) (m_callF (xs := _) rfl ok112 rfl rfl (fun w hw => impl_members.ok h59 w )) ?_
              rintro v59_1 _ ⟨_, ⟨S59_1, hl_v59_1, rfl⟩, rfl⟩
              refine F.q rfl rfl rfl (wanted_none rfl) (r_len Try.underlying38 rfl hl_v59_1) ?_
              refine F.q rfl rfl rfl (wanted_none rfl) (r_move rfl) ?_
              refine F.nil ?_
              refine Nrm.seq ?_
              obtain ⟨xq5_2_1rrr, hE_5, hE_4⟩ := bind_some hE_4
              refine Tri.block ?_
              refine Tri.only [1, 2, 4, 5, 6, 9, 10, 11, 12, 13, 45, 46, 47, 59, 60, 61] rfl ?_
              refine Tri.pick [1, 2, 3, 4, 0, 5, 6, 7, 8] rfl rfl ?_
              refine Tri.rounds (fun n e' C' => ∃ (x61' : Int) (xq5_2_1rrr' : List (List Int)) (wq5_2_1rrr : Value) (Tq5_2_1rrr : Nat → Prop), impl_play.l3 k x9 x47 t59 n x61' xq5_2_1rrr' = some xq5_2_1rrr ∧ SlLen wq5_2_1rrr (xq5_2_1rrr').length ∧ e' = [(1, .bool a1), (2, .pointer (some ⟨b2_1, 0, none⟩)), (4, .pointer (some ⟨b4_1, 0, none⟩)), (5, .pointer (some ⟨b5_2, 0, none⟩)), (6, w6), (9, .int .i64 x9), (10, v43_1), (11, .int .i64 x47), (12, .pointer (some ⟨b12_1, 0, none⟩)), (13, .int .i64 t57), (45, va0_0), (46, .int .i64 (a0_0.length : Int)), (47, .int .i64 x47), (59, v59_1), (60, .int .i64 (t59.length : Int)), (61, .int .i64 x61')] ∧ C' = Sep w noM [R.box b12_1 55 [.int .i64 t50.1, v50_1, v50_2], R.box b4_1 88 [.slice none 0 0, .slice none 0 0], R.box b2_1 31 [va0_0, va0_1], R.box b5_2 88 [wq5_2_0, wq5_2_1rrr], R.sl S59_1 v59_1 (t59 : List (Int)), R.sl S43_1 v43_1 (x10 : List (Int)), R.sl Tq5_2_0 wq5_2_0 (xq5_2_0 : List (List Int)), R.sl Tq5_2_1rrr wq5_2_1rrr (xq5_2_1rrr' : List (List Int)), R.sl T6 w6 (x6 : List (Int))]) k ?_ ?_ ?_
              · exact ⟨0, xq5_2_1rr, wq5_2_1rr, Tq5_2_1rr, hE_5, hl_wq5_2_1rr, rfl, rfl⟩
              · rintro _ _ ⟨_, _, _, _, hE_5, _⟩
                rw [impl_play.l3.eq_1] at hE_5; cases hE_5
              · rintro n_4 _ _ ⟨x61, xq5_2_1rrr, wq5_2_1rrr, Tq5_2_1rrr, hE_5, hl_wq5_2_1rrr, rfl, rfl⟩ ih_4
                rw [impl_play.l3.eq_2] at hE_5
                refine Tri.seq ?_
                refine Tri.reg (l := [0]) rfl ?_
                refine F.q rfl rfl rfl (wanted_none rfl) (r_lss rfl rfl) ?_
                refine F.nil ?_
                refine Nrm.seq ?_
                refine Tri.seq ?_
                refine Tri.cond (b := decide (x61 < (t59.length : Int))) rfl (fun g_3 => ?_) (fun g_3 => ?_)
                · replace hE_5 := if_tt g_3 hE_5
                  refine Tri.skip ?_
                  refine Nrm.seq ?_
                  refine Tri.seq ?_
                  refine Tri.block ?_
                  refine Tri.seq ?_
                  obtain ⟨t63, h63, hE_5⟩ := bind_some hE_5
                  refine Tri.reg (l := [0, 1, 2]) rfl ?_
                  refine F.q rfl rfl rfl (wanted_none rfl) (r_indexAddrS Try.underlying38 ti3 rfl hl_v59_1 rfl (rdl_some h63).1 (rdl_some h63).2.1) ?_
                  refine F.q rfl rfl rfl (wanted_none rfl) (r_load ta3 rfl (fun w hw => cell_0 (Rd.flat ((rd_sl (i := 4) rfl) w hw) (rdl_some h63).2.2) rfl)) ?_
                  refine F.q rfl rfl rfl (wanted_none rfl) (r_assign rfl) ?_
                  refine F.nil ?_
                  refine Nrm.seq ?_
                  refine Tri.seq ?_
                  obtain ⟨t68, h68, hE_5⟩ := bind_some hE_5
                  obtain ⟨t71, h71, hE_5⟩ := bind_some hE_5
                  refine Tri.ex (on38 [7] [0, 1, 2, 3, 4, 5, 6, 8] rfl rfl (rdl_some h68).2.2) ?_
                  rintro _ ⟨v68_0_1, S68_0_1, Sr68_1, hl_v68_0_1, hS68_1, rfl⟩
                  refine Tri.reg (l := [0, 1, 2, 3, 4, 5, 6, 7, 8]) rfl ?_
                  refine F.q rfl rfl rfl (wanted_none rfl) (r_fieldAddr tf88_1 rfl) ?_
                  refine F.q rfl rfl rfl (wanted_none rfl) (r_load ta23 rfl (fun w hw => cell_1 (box_cells (i := 5) rfl w hw) rfl)) ?_
                  refine F.q rfl rfl rfl (wanted_none rfl) (r_move rfl) ?_
                  refine F.q rfl rfl rfl (wanted_none rfl) (r_indexAddrS Try.underlying23 ti38 rfl hl_wq5_2_1rrr rfl (rdl_some h68).1 (rdl_some h68).2.1) ?_
                  refine F.q rfl rfl rfl (wanted_none rfl) (r_load ta38 rfl (fun w hw => cell_0 (hole_cells (p := 1) rfl w hw) rfl)) ?_
                  refine F.q rfl rfl rfl (wanted_none rfl) (r_move rfl) ?_
                  refine F.q rfl rfl rfl (wanted_none rfl) (r_indexAddrS Try.underlying38 ti3 rfl hl_v68_0_1 rfl (rdl_some h71).1 (rdl_some h71).2.1) ?_
                  refine F.q rfl rfl rfl (wanted_none rfl) (r_load ta3 rfl (fun w hw => cell_0 (Rd.flat ((rd_sl (i := 0) rfl) w hw) (rdl_some h71).2.2) rfl)) ?_
                  refine F.q rfl rfl rfl (wanted_none rfl) (r_lss rfl rfl) ?_
                  refine F.nil ?_
                  refine Nrm.imp (cloS1 (cs := [R.sl S68_0_1 v68_0_1 (t68 : List (Int))]) (rest := [R.box b12_1 55 [.int .i64 t50.1, v50_1, v50_2], R.box b4_1 88 [.slice none 0 0, .slice none 0 0], R.box b2_1 31 [va0_0, va0_1], R.box b5_2 88 [wq5_2_0, wq5_2_1rrr], R.sl S59_1 v59_1 (t59 : List (Int)), R.sl S43_1 v43_1 (x10 : List (Int)), R.sl Tq5_2_0 wq5_2_0 (xq5_2_0 : List (List Int)), R.sl T6 w6 (x6 : List (Int))]) [0, 1] [2, 3, 4, 5, 6, 7, 8, 9] rfl rfl (jn_sl (S := S68_0_1) (v := v68_0_1) (l := (t68 : List (Int)))) hS68_1) ?_
                  refine Nrm.seq ?_
                  obtain ⟨yb5_2_1, hE_6, hE_5⟩ := bind_some hE_5
                  refine Tri.cut (fun e' C' => ∃ (vb5_2_1_1 : Value) (Sb5_2_1_1 : Nat → Prop), SlLen vb5_2_1_1 (yb5_2_1).length ∧ e' = [(1, .bool a1), (2, .pointer (some ⟨b2_1, 0, none⟩)), (4, .pointer (some ⟨b4_1, 0, none⟩)), (5, .pointer (some ⟨b5_2, 0, none⟩)), (6, w6), (9, .int .i64 x9), (10, v43_1), (11, .int .i64 x47), (12, .pointer (some ⟨b12_1, 0, none⟩)), (13, .int .i64 t57), (45, va0_0), (46, .int .i64 (a0_0.length : Int)), (47, .int .i64 x47), (59, v59_1), (60, .int .i64 (t59.length : Int)), (61, .int .i64 x61)] ∧ C' = Sep w noM [R.box b12_1 55 [.int .i64 t50.1, v50_1, v50_2], R.box b4_1 88 [.slice none 0 0, .slice none 0 0], R.box b2_1 31 [va0_0, va0_1], R.box b5_2 88 [wq5_2_0, vb5_2_1_1], R.sl Sb5_2_1_1 vb5_2_1_1 (yb5_2_1 : List (List Int)), R.sl S43_1 v43_1 (x10 : List (Int)), R.sl S59_1 v59_1 (t59 : List (Int)), R.sl T6 w6 (x6 : List (Int)), R.sl Tq5_2_0 wq5_2_0 (xq5_2_0 : List (List Int))]) ?_ (fun hj_2 => ?_)
                  · rintro _ _ ⟨vb5_2_1_1, Sb5_2_1_1, hl_vb5_2_1_1, rfl, rfl⟩
                    refine Nrm.block ?_
                    refine Nrm.seq ?_
                    refine Tri.reg (l := [0, 1]) rfl ?_
                    refine F.q rfl rfl rfl (wanted_none rfl) (r_add rfl rfl) ?_
                    refine F.q rfl rfl rfl (wanted_none rfl) (r_move rfl) ?_
                    refine F.nil ?_
                    refine Nrm.round ?_
                    refine Rnd.only [1, 2, 4, 5, 6, 9, 10, 11, 12, 13, 45, 46, 47, 59, 60, 61] rfl ?_
                    refine Rnd.pick [0, 1, 2, 3, 6, 5, 8, 4, 7] rfl rfl ?_
                    exact ih_4 _ _ ⟨w64 (x61 + 1), yb5_2_1, vb5_2_1_1, Sb5_2_1_1, hE_5, hl_vb5_2_1_1, rfl, rfl⟩
                  · refine Tri.cond (b := decide (t71 < 0)) rfl (fun g_4 => ?_) (fun g_4 => ?_)
                    · replace hE_6 := if_tt g_4 hE_6
                      obtain ⟨t77, h77, hE_6⟩ := bind_some hE_6
                      obtain ⟨t81, h81, hE_6⟩ := bind_some hE_6
                      refine Tri.ex (on38 [0] [1, 2, 3, 4, 5, 6, 7, 8] rfl rfl (rdl_some h77).2.2) ?_
                      rintro _ ⟨v77_0_1, S77_0_1, Sr77_1, hl_v77_0_1, hS77_1, rfl⟩
                      refine Tri.reg (l := [0, 1, 2, 3, 4, 5, 6, 7, 8]) rfl ?_
                      refine F.q rfl rfl rfl (wanted_none rfl) (r_fieldAddr tf88_1 rfl) ?_
                      refine F.q rfl rfl rfl (wanted_none rfl) (r_load ta23 rfl (fun w hw => cell_1 (box_cells (i := 5) rfl w hw) rfl)) ?_
                      refine F.q rfl rfl rfl (wanted_none rfl) (r_move rfl) ?_
                      refine F.q rfl rfl rfl (wanted_none rfl) (r_indexAddrS Try.underlying23 ti38 rfl (len_set hl_wq5_2_1rrr) rfl (rdl_some h77).1 (rdl_some h77).2.1) ?_
                      refine F.q rfl rfl rfl (wanted_none rfl) (r_load ta38 rfl (fun w hw => cell_0 (hole_cells (p := 1) rfl w hw) rfl)) ?_
                      refine F.q rfl rfl rfl (wanted_none rfl) (r_move rfl) ?_
                      refine F.q rfl rfl rfl (wanted_none rfl) (r_move rfl) ?_
                      refine F.q rfl rfl rfl (wanted_none rfl) (r_indexAddrS Try.underlying38 ti3 rfl hl_v77_0_1 rfl (rdl_some h81).1 (rdl_some h81).2.1) ?_
                      refine F.ef0 rfl rfl (wanted_none rfl) (d_storeE (i := 0) (x1 := x9) ti3 rfl rfl rfl (rdl_some h81) rfl) ?_
                      rintro _ _ ⟨rfl, rfl⟩
                      refine F.nil ?_
                      refine Nrm.imp (cloS1 (cs := [R.sl S77_0_1 v77_0_1 (t77.set t63.toNat x9 : List (Int))]) (rest := [R.box b12_1 55 [.int .i64 t50.1, v50_1, v50_2], R.box b4_1 88 [.slice none 0 0, .slice none 0 0], R.box b2_1 31 [va0_0, va0_1], R.box b5_2 88 [wq5_2_0, wq5_2_1rrr], R.sl S59_1 v59_1 (t59 : List (Int)), R.sl S43_1 v43_1 (x10 : List (Int)), R.sl Tq5_2_0 wq5_2_0 (xq5_2_0 : List (List Int)), R.sl T6 w6 (x6 : List (Int))]) [0, 1] [2, 3, 4, 5, 6, 7, 8, 9] rfl rfl (jn_sl (S := S77_0_1) (v := v77_0_1) (l := (t77.set t63.toNat x9 : List (Int)))) hS77_1) ?_
                      cases hE_6
                      refine Nrm.only [1, 2, 4, 5, 6, 9, 10, 11, 12, 13, 45, 46, 47, 59, 60, 61] rfl ?_
                      refine Nrm.pick [1, 2, 3, 4, 0, 6, 5, 8, 7] rfl rfl ?_
                      exact hj_2 _ _ ⟨wq5_2_1rrr, Tq5_2_1rrr, (len_set (len_set hl_wq5_2_1rrr)), rfl, rfl⟩
                    · replace hE_6 := if_ff g_4 hE_6
                      refine Tri.skip ?_
                      cases hE_6
                      refine Nrm.only [1, 2, 4, 5, 6, 9, 10, 11, 12, 13, 45, 46, 47, 59, 60, 61] rfl ?_
                      refine Nrm.pick [1, 2, 3, 4, 0, 6, 5, 8, 7] rfl rfl ?_
                      exact hj_2 _ _ ⟨wq5_2_1rrr, Tq5_2_1rrr, (len_set hl_wq5_2_1rrr), rfl, rfl⟩
                · replace hE_5 := if_ff g_3 hE_5
                  refine Tri.exit ?_
                  refine Exi.then ?_
                  refine Exi.then ?_
                  refine Exi.same ?_
                  cases hE_5
                  refine Nrm.seq ?_
                  refine Tri.seq ?_
                  refine Tri.seq ?_
                  obtain ⟨y92, hE_7, hE_4⟩ := bind_some hE_4
                  refine Tri.cut (fun e' C' => e' = [(1, .bool a1), (2, .pointer (some ⟨b2_1, 0, none⟩)), (4, .pointer (some ⟨b4_1, 0, none⟩)), (5, .pointer (some ⟨b5_2, 0, none⟩)), (6, w6), (9, .int .i64 x9), (10, v43_1), (11, .int .i64 x47), (12, .pointer (some ⟨b12_1, 0, none⟩)), (13, .int .i64 t57), (45, va0_0), (46, .int .i64 (a0_0.length : Int)), (47, .int .i64 x47), (92, .bool y92)] ∧ C' = Sep w noM [R.box b12_1 55 [.int .i64 t50.1, v50_1, v50_2], R.box b4_1 88 [.slice none 0 0, .slice none 0 0], R.box b2_1 31 [va0_0, va0_1], R.box b5_2 88 [wq5_2_0, wq5_2_1rrr], R.sl S43_1 v43_1 (x10 : List (Int)), R.sl T6 w6 (x6 : List (Int)), R.sl Tq5_2_0 wq5_2_0 (xq5_2_0 : List (List Int)), R.sl Tq5_2_1rrr wq5_2_1rrr (xq5_2_1rrr : List (List Int))]) ?_ (fun hj_3 => ?_)
                  · rintro _ _ ⟨rfl, rfl⟩
                    refine Nrm.seq ?_
                    obtain ⟨y13, hE_8, hE_4⟩ := bind_some hE_4
                    refine Tri.cut (fun e' C' => e' = [(1, .bool a1), (2, .pointer (some ⟨b2_1, 0, none⟩)), (4, .pointer (some ⟨b4_1, 0, none⟩)), (5, .pointer (some ⟨b5_2, 0, none⟩)), (6, w6), (9, .int .i64 x9), (10, v43_1), (11, .int .i64 x47), (12, .pointer (some ⟨b12_1, 0, none⟩)), (13, .int .i64 y13), (45, va0_0), (46, .int .i64 (a0_0.length : Int)), (47, .int .i64 x47)] ∧ C' = Sep w noM [R.box b12_1 55 [.int .i64 t50.1, v50_1, v50_2], R.box b4_1 88 [.slice none 0 0, .slice none 0 0], R.box b2_1 31 [va0_0, va0_1], R.box b5_2 88 [wq5_2_0, wq5_2_1rrr], R.sl S43_1 v43_1 (x10 : List (Int)), R.sl T6 w6 (x6 : List (Int)), R.sl Tq5_2_0 wq5_2_0 (xq5_2_0 : List (List Int)), R.sl Tq5_2_1rrr wq5_2_1rrr (xq5_2_1rrr : List (List Int))]) ?_ (fun hj_4 => ?_)
                    · rintro _ _ ⟨rfl, rfl⟩
                      refine Nrm.seq ?_
                      refine Tri.seq ?_
                      obtain ⟨t96, h96, hE_4⟩ := bind_some hE_4
                      refine Tri.reg (l := [0, 1, 2, 3]) rfl ?_
                      refine F.q rfl rfl rfl (wanted_none rfl) (r_move rfl) ?_
                      refine F.m rfl rfl rfl (wanted_none rfl) (m_callF (xs := _) rfl ok112 rfl rfl (fun w hw => impl_members.ok h96 w )) ?_
                      rintro v96_1 _ ⟨_, ⟨S96_1, hl_v96_1, rfl⟩, rfl⟩
                      refine F.q rfl rfl rfl (wanted_none rfl) (r_len Try.underlying38 rfl hl_v96_1) ?_
                      refine F.q rfl rfl rfl (wanted_none rfl) (r_move rfl) ?_
                      refine F.nil ?_
                      refine Nrm.seq ?_
                      obtain ⟨x10r, hE_9, hE_4⟩ := bind_some hE_4
                      refine Tri.block ?_
                      refine Tri.only [1, 2, 4, 5, 6, 9, 10, 11, 12, 45, 46, 47, 96, 97, 98] rfl ?_
                      refine Tri.pick [1, 2, 3, 4, 0, 5, 6, 7, 8] rfl rfl ?_
                      refine Tri.rounds (fun n e' C' => ∃ (x10r' : List (Int)) (x98' : Int), impl_play.l4 k a0_1 x47 t50 t96 n x10r' x98' = some x10r ∧ SlLen v43_1 (x10r').length ∧ e' = [(1, .bool a1), (2, .pointer (some ⟨b2_1, 0, none⟩)), (4, .pointer (some ⟨b4_1, 0, none⟩)), (5, .pointer (some ⟨b5_2, 0, none⟩)), (6, w6), (9, .int .i64 x9), (10, v43_1), (11, .int .i64 x47), (12, .pointer (some ⟨b12_1, 0, none⟩)), (45, va0_0), (46, .int .i64 (a0_0.length : Int)), (47, .int .i64 x47), (96, v96_1), (97, .int .i64 (t96.length : Int)), (98, .int .i64 x98')] ∧ C' = Sep w noM [R.box b12_1 55 [.int .i64 t50.1, v50_1, v50_2], R.box b4_1 88 [.slice none 0 0, .slice none 0 0], R.box b2_1 31 [va0_0, va0_1], R.box b5_2 88 [wq5_2_0, wq5_2_1rrr], R.sl S96_1 v96_1 (t96 : List (Int)), R.sl S43_1 v43_1 (x10r' : List (Int)), R.sl T6 w6 (x6 : List (Int)), R.sl Tq5_2_0 wq5_2_0 (xq5_2_0 : List (List Int)), R.sl Tq5_2_1rrr wq5_2_1rrr (xq5_2_1rrr : List (List Int))]) k ?_ ?_ ?_
                      · exact ⟨x10, 0, hE_9, hl_x10, rfl, rfl⟩
                      · rintro _ _ ⟨_, _, hE_9, _⟩
                        rw [impl_play.l4.eq_1] at hE_9; cases hE_9
                      · rintro n_5 _ _ ⟨x10r, x98, hE_9, hl_x10r, rfl, rfl⟩ ih_5
                        rw [impl_play.l4.eq_2] at hE_9
                        refine Tri.seq ?_
                        refine Tri.reg (l := [0]) rfl ?_
                        refine F.q rfl rfl rfl (wanted_none rfl) (r_lss rfl rfl) ?_
                        refine F.nil ?_
                        refine Nrm.seq ?_
                        refine Tri.seq ?_
                        refine Tri.cond (b := decide (x98 < (t96.length : Int))) rfl (fun g_6 => ?_) (fun g_6 => ?_)
                        · replace hE_9 := if_tt g_6 hE_9
                          refine Tri.skip ?_
                          refine Nrm.seq ?_
                          refine Tri.seq ?_
                          refine Tri.block ?_
                          refine Tri.seq ?_
                          obtain ⟨t100, h100, hE_9⟩ := bind_some hE_9
                          refine Tri.reg (l := [0, 1, 2]) rfl ?_
                          refine F.q rfl rfl rfl (wanted_none rfl) (r_indexAddrS Try.underlying38 ti3 rfl hl_v96_1 rfl (rdl_some h100).1 (rdl_some h100).2.1) ?_
                          refine F.q rfl rfl rfl (wanted_none rfl) (r_load ta3 rfl (fun w hw => cell_0 (Rd.flat ((rd_sl (i := 4) rfl) w hw) (rdl_some h100).2.2) rfl)) ?_
                          refine F.q rfl rfl rfl (wanted_none rfl) (r_assign rfl) ?_
                          refine F.nil ?_
                          refine Nrm.seq ?_
                          obtain ⟨t106, h106, hE_9⟩ := bind_some hE_9
                          obtain ⟨_, hc106, hp106⟩ := Rd.elem hr_a0_1 (rdl_some h106).2.2
                          obtain ⟨v106_0, rfl, hr_v106_0⟩ := op38 hp106
                          have hl_v106_0 := hr_v106_0.len
                          obtain ⟨t109, h109, hE_9⟩ := bind_some hE_9
                          obtain ⟨t111, h111, hE_9⟩ := bind_some hE_9
                          obtain ⟨t116, h116, hE_9⟩ := bind_some hE_9
                          obtain ⟨t119, h119, hE_9⟩ := bind_some hE_9
                          refine Tri.drawA mixedT Sep.up [(0, true), (1, true), (2, true), (3, true), (4, true), (5, true), (6, true), (7, true), (8, true), (9, true), (10, true), (11, true), (12, true), (13, true), (14, true), (15, true), (16, true), (17, true)] [18] (by kernel_rfl) ?_
                          refine S.q rfl rfl rfl (wanted_none rfl) (r_move rfl) ?_
                          refine S.q rfl rfl rfl (wanted_none rfl) (r_fieldAddr tf31_1 rfl) ?_
                          refine S.q rfl rfl rfl (wanted_none rfl) (r_load ta23 rfl (fun w hw => cell_1 (box_cells (i := 2) rfl w hw) rfl)) ?_
                          refine S.q rfl rfl rfl (wanted_none rfl) (r_move rfl) ?_
                          refine S.q rfl rfl rfl (wanted_none rfl) (r_indexAddrS Try.underlying23 ti38 rfl hl_va0_1 rfl (rdl_some h106).1 (rdl_some h106).2.1) ?_
                          refine S.q rfl rfl rfl (wanted_none rfl) (r_load ta38 rfl (fun w hw => cell_0 (hc106.sep hw) rfl)) ?_
                          refine S.q rfl rfl rfl (wanted_none rfl) (r_move rfl) ?_
                          refine S.q rfl rfl rfl (wanted_none rfl) (r_indexAddrS Try.underlying38 ti3 rfl hl_v106_0 rfl (rdl_some h109).1 (rdl_some h109).2.1) ?_
                          refine S.q rfl rfl rfl (wanted_none rfl) (r_load ta3 rfl (fun w hw => cell_0 (Rd.flat ((fun _ hw => hr_v106_0.sep hw) w hw) (rdl_some h109).2.2) rfl)) ?_
                          refine S.q rfl rfl rfl (wanted_none rfl) (r_indexAddrS Try.underlying38 ti3 rfl hl_x10r rfl (rdl_some h111).1 (rdl_some h111).2.1) ?_
                          refine S.q rfl rfl rfl (wanted_none rfl) (r_load ta3 rfl (fun w hw => cell_0 (Rd.flat ((rd_sl (i := 5) rfl) w hw) (rdl_some h111).2.2) rfl)) ?_
                          refine S.q rfl rfl rfl (wanted_none rfl) (r_fieldAddr tf55_2 rfl) ?_
                          refine S.q rfl rfl rfl (wanted_none rfl) (r_load ta38 rfl (fun w hw => cell_1 (box_cells (i := 0) rfl w hw) rfl)) ?_
                          refine S.q rfl rfl rfl (wanted_none rfl) (r_move rfl) ?_
                          refine S.q rfl rfl rfl (wanted_none rfl) (r_indexAddrS Try.underlying38 ti3 rfl hl_v50_2 rfl (rdl_some h116).1 (rdl_some h116).2.1) ?_
                          refine S.q rfl rfl rfl (wanted_none rfl) (r_load ta3 rfl (fun w hw => cell_0 (Rd.flat ((fun _ hw => hr_v50_2.sep hw) w hw) (rdl_some h116).2.2) rfl)) ?_
                          refine S.q rfl rfl rfl (wanted_none rfl) (r_or rfl rfl) ?_
                          refine S.q rfl rfl rfl (wanted_none rfl) (r_indexAddrS Try.underlying38 ti3 rfl hl_x10r rfl (rdl_some h119).1 (rdl_some h119).2.1) ?_
                          refine S.nil ?_
                          refine F.ef0 rfl rfl (wanted_none rfl) (d_storeE (i := 5) (x1 := bor t111 t116) ti3 rfl rfl rfl (rdl_some h119) rfl) ?_
                          rintro _ _ ⟨rfl, rfl⟩
                          refine F.nil ?_
                          refine Nrm.block ?_
                          refine Nrm.seq ?_
                          refine Tri.reg (l := [0, 1]) rfl ?_
                          refine F.q rfl rfl rfl (wanted_none rfl) (r_add rfl rfl) ?_
                          refine F.q rfl rfl rfl (wanted_none rfl) (r_move rfl) ?_
                          refine F.nil ?_
                          refine Nrm.round ?_
                          refine Rnd.only [1, 2, 4, 5, 6, 9, 10, 11, 12, 45, 46, 47, 96, 97, 98] rfl ?_
                          refine Rnd.pick [0, 1, 2, 3, 4, 5, 6, 7, 8] rfl rfl ?_
                          exact ih_5 _ _ ⟨x10r.set t109.toNat (bor t111 t116), w64 (x98 + 1), hE_9, (len_set hl_x10r), rfl, rfl⟩
                        · replace hE_9 := if_ff g_6 hE_9
                          refine Tri.exit ?_
                          refine Exi.then ?_
                          refine Exi.then ?_
                          refine Exi.same ?_
                          cases hE_9
                          refine Nrm.block ?_
                          refine Nrm.seq ?_
                          refine Tri.reg (l := [0, 1]) rfl ?_
                          refine F.q rfl rfl rfl (wanted_none rfl) (r_add rfl rfl) ?_
                          refine F.q rfl rfl rfl (wanted_none rfl) (r_move rfl) ?_
                          refine F.nil ?_
                          refine Nrm.round ?_
                          refine Rnd.only [1, 2, 4, 5, 6, 9, 10, 45, 46, 47] rfl ?_
                          refine Rnd.pick [1, 2, 3, 5, 7, 8, 6] rfl rfl ?_
                          exact ih_3 _ _ ⟨x10r, w64 (x47 + 1), xq5_2_1rrr, wq5_2_1rrr, Tq5_2_1rrr, hE_4, hl_x10r, hl_wq5_2_1rrr, rfl, rfl⟩
                    · refine Tri.cond (b := y92) rfl (fun g_5 => ?_) (fun g_5 => ?_)
                      · replace hE_8 := if_tt g_5 hE_8
                        obtain ⟨t94, h94, hE_8⟩ := bind_some hE_8
                        refine Tri.reg (l := [0, 1, 2]) rfl ?_
                        refine F.q rfl rfl rfl (wanted_none rfl) (r_loadA ta55 ti55 rfl rfl (fun w hw => (box_cells (i := 0) rfl w hw))) ?_
                        refine F.qc rfl rfl rfl (wanted_none rfl) (q_callF (xs := _) rfl ok126 rfl rfl (fun w hw => impl_allNodes.ok h94 w ((fun _ hw => hr_v50_1.sep hw) w hw) ((fun _ hw => hr_v50_2.sep hw) w hw))) ?_
                        refine F.q rfl rfl rfl (wanted_none rfl) (r_assign rfl) ?_
                        refine F.nil ?_
                        cases hE_8
                        refine Nrm.only [1, 2, 4, 5, 6, 9, 10, 11, 12, 13, 45, 46, 47] rfl ?_
                        refine Nrm.pick [0, 1, 2, 3, 4, 5, 6, 7] rfl rfl ?_
                        exact hj_4 _ _ ⟨rfl, rfl⟩
                      · replace hE_8 := if_ff g_5 hE_8
                        refine Tri.skip ?_
                        cases hE_8
                        refine Nrm.only [1, 2, 4, 5, 6, 9, 10, 11, 12, 13, 45, 46, 47] rfl ?_
                        refine Nrm.pick [0, 1, 2, 3, 4, 5, 6, 7] rfl rfl ?_
                        exact hj_4 _ _ ⟨rfl, rfl⟩
                  · rcases Bool.eq_false_or_eq_true (a1) with g84 | g84
                    · replace hE_7 := if_tt g84 hE_7
                      obtain ⟨hs89, hE_7⟩ := ck hE_7
                      refine Tri.reg (l := [0, 1, 2, 3, 4, 5, 6, 7, 8, 9]) rfl ?_
                      refine F.q rfl rfl rfl (wanted_none rfl) (r_move rfl) ?_
                      refine F.q rfl rfl rfl (wanted_none rfl) (r_move rfl) ?_
                      refine F.q rfl rfl rfl (wg rfl rfl rfl g84) (r_move rfl) ?_
                      refine F.q rfl rfl rfl (wg rfl rfl rfl g84) (r_fieldAddr tf55_0 rfl) ?_
                      refine F.q rfl rfl rfl (wg rfl rfl rfl g84) (r_load ta3 rfl (fun w hw => cell_1 (box_cells (i := 0) rfl w hw) rfl)) ?_
                      refine F.q rfl rfl rfl (wg rfl rfl rfl g84) (r_sub rfl rfl) ?_
                      refine F.q rfl rfl rfl (wg rfl rfl rfl g84) (r_shr rfl rfl hs89) ?_
                      refine F.q rfl rfl rfl (wg rfl rfl rfl g84) (r_and rfl rfl) ?_
                      refine F.q rfl rfl rfl (wg rfl rfl rfl g84) (r_eql rfl rfl) ?_
                      refine F.q rfl rfl rfl (wanted_none rfl) (r_pick rfl rfl g84) ?_
                      refine F.nil ?_
                      cases hE_7
                      refine Nrm.only [1, 2, 4, 5, 6, 9, 10, 11, 12, 13, 45, 46, 47, 92] rfl ?_
                      refine Nrm.pick [0, 1, 2, 3, 5, 8, 6, 7] rfl rfl ?_
                      exact hj_3 _ _ ⟨rfl, rfl⟩
                    · replace hE_7 := if_ff g84 hE_7
                      refine Tri.reg (l := [0, 1, 2, 3, 4, 5, 6, 7, 8, 9]) rfl ?_
                      refine F.q rfl rfl rfl (wanted_none rfl) (r_move rfl) ?_
                      refine F.q rfl rfl rfl (wanted_none rfl) (r_move rfl) ?_
                      refine F.sk rfl rfl rfl (wf rfl rfl rfl g84) ?_
                      refine F.sk rfl rfl rfl (wf rfl rfl rfl g84) ?_
                      refine F.sk rfl rfl rfl (wf rfl rfl rfl g84) ?_
                      refine F.sk rfl rfl rfl (wf rfl rfl rfl g84) ?_
                      refine F.sk rfl rfl rfl (wf rfl rfl rfl g84) ?_
                      refine F.sk rfl rfl rfl (wf rfl rfl rfl g84) ?_
                      refine F.sk rfl rfl rfl (wf rfl rfl rfl g84) ?_
                      refine F.q rfl rfl rfl (wanted_none rfl) (r_pickf rfl rfl g84) ?_
                      refine F.nil ?_
                      cases hE_7
                      refine Nrm.only [1, 2, 4, 5, 6, 9, 10, 11, 12, 13, 45, 46, 47, 92] rfl ?_
                      refine Nrm.pick [0, 1, 2, 3, 5, 8, 6, 7] rfl rfl ?_
                      exact hj_3 _ _ ⟨rfl, rfl⟩
            · replace hE_4 := if_ff g_2 hE_4
              refine Tri.exit ?_
              refine Exi.then ?_
              refine Exi.then ?_
              refine Exi.same ?_
              cases hE_4
              refine Nrm.seq ?_
              refine Tri.seq ?_
              obtain ⟨t125, h125, hE_3⟩ := bind_some hE_3
              obtain ⟨hs127, hE_3⟩ := ck hE_3
              refine Tri.drawB mixedT Sep.up [(0, true), (1, true), (2, true), (3, false), (4, false)] [5, 6, 7] (by kernel_rfl) ?_
              refine B.q rfl rfl rfl (wanted_none rfl) (r_fieldAddr tf88_0 rfl) ?_
              refine B.q rfl rfl rfl (wanted_none rfl) (r_load ta23 rfl (fun w hw => cell_1 (box_cells (i := 2) rfl w hw) rfl)) ?_
              refine B.q rfl rfl rfl (wanted_none rfl) (r_move rfl) ?_
              refine B.ef rfl rfl rfl (wanted_none rfl) (Makes.does (m_callF (xs := _) rfl ok89 rfl rfl (fun w hw => slices_Clone_int_int.ok h125 w ((rd_sl (i := 6) rfl) w hw)))) (by rintro v125_2 _ ⟨_, ⟨S125_2, hl_v125_2, rfl⟩, rfl⟩; exact upd rfl [1, 2, 3, 4, 5, 6, 7] rfl rfl) ?_
              rintro v125_2 _ ⟨_, ⟨S125_2, hl_v125_2, rfl⟩, rfl⟩
              refine B.ef rfl rfl rfl (wanted_none rfl) (d_build1 (cells := [v125_2]) (x0 := (t125 : List Int)) (cs := [R.sl S125_2 v125_2 (t125 : List (Int))]) (rest := [R.box b4_1 88 [.slice none 0 0, .slice none 0 0], R.box b2_1 31 [va0_0, va0_1], R.box b5_2 88 [wq5_2_0, wq5_2_1rr], R.sl S43_1 v43_1 (x10 : List (Int)), R.sl Tq5_2_0 wq5_2_0 (xq5_2_0 : List (List Int)), R.sl Tq5_2_1rr wq5_2_1rr (xq5_2_1rr : List (List Int)), R.sl T6 w6 (x6 : List (Int))]) [0] [1, 2, 3, 4, 5, 6, 7] Try.underlying23 ti38 rfl (sl_cells hl_v125_2) rfl (lf_cons (sl_leaf hl_v125_2) lf_nil) rfl rfl (jn_sl (S := S125_2) (v := v125_2) (l := (t125 : List (Int))))) (by rintro v126_2 _ ⟨S126_2, hl_v126_2, rfl⟩; exact upd rfl [1, 2, 3, 4, 5, 6, 7] rfl rfl) ?_
              rintro v126_2 _ ⟨S126_2, hl_v126_2, rfl⟩
              refine B.nil ?_
              refine F.ef rfl rfl rfl (wanted_none rfl) (d_appendN (rest := [R.box b4_1 88 [.slice none 0 0, .slice none 0 0], R.box b2_1 31 [va0_0, va0_1], R.box b5_2 88 [wq5_2_0, wq5_2_1rr], R.sl S43_1 v43_1 (x10 : List (Int)), R.sl Tq5_2_1rr wq5_2_1rr (xq5_2_1rr : List (List Int)), R.sl T6 w6 (x6 : List (Int))]) 5 0 [1, 2, 3, 4, 6, 7] Try.underlying23 Try.underlying23 ti38 rfl (by decide) rfl rfl rfl rfl hs127) ?_
              rintro v127_2 _ ⟨S127_2, hl_v127_2, rfl⟩
              refine F.q rfl rfl rfl (wanted_none rfl) (r_fieldAddr tf88_0 rfl) ?_
              refine F.ef0 rfl rfl (wanted_none rfl) (d_storeG1 (i := 3) (cs2 := [v127_2]) ti23 rfl rfl rfl (sl_cells hl_v127_2) rfl (Nat.le_of_ble_eq_true rfl) (lf_cons (sl_leaf hl_v127_2) lf_nil)) ?_
              rintro _ _ ⟨rfl, rfl⟩
              refine F.nil ?_
              refine Nrm.seq ?_
              refine Tri.seq ?_
              refine Tri.seq ?_
              obtain ⟨t131, h131, hE_3⟩ := bind_some hE_3
              refine Tri.reg (l := [0, 1, 2]) rfl ?_
              refine F.q rfl rfl rfl (wanted_none rfl) (r_move rfl) ?_
              refine F.q rfl rfl rfl (wanted_none rfl) (r_move rfl) ?_
              refine F.qc rfl rfl rfl (wanted_none rfl) (q_callF (xs := _) rfl ok127 rfl rfl (fun w hw => slices_Equal_int_int.ok h131 w ((rd_sl (i := 4) rfl) w hw) ((rd_sl (i := 6) rfl) w hw))) ?_
              refine F.nil ?_
              refine Nrm.seq ?_
              refine Tri.cond (b := t131) rfl (fun g_7 => ?_) (fun g_7 => ?_)
              · replace hE_3 := if_tt g_7 hE_3
                refine Tri.seq ?_
                refine Tri.reg (l := [0, 1]) rfl ?_
                refine F.q rfl rfl rfl (wanted_none rfl) (r_loadA ta88 ti88 rfl rfl (fun w hw => (box_cells (i := 3) rfl w hw))) ?_
                refine F.ef0 rfl rfl (wanted_none rfl) (d_storeG0 (i := 1) (cs2 := [v127_2, wq5_2_1rr]) ti88 rfl rfl rfl rfl rfl (Nat.le_of_ble_eq_true rfl) (lf_cons (sl_leaf hl_v127_2) (lf_cons (sl_leaf hl_wq5_2_1rr) lf_nil))) ?_
                rintro _ _ ⟨rfl, rfl⟩
                refine F.nil ?_
                refine Nrm.seq ?_
                refine Tri.ret ?_
                refine Rtn.then ?_
                refine Rtn.block ?_
                refine Rtn.then ?_
                refine Rtn.then ?_
                refine Rtn.block ?_
                cases hE_3
                replace h := Lr_inr h
                cases h
                exact Rtn.body (.cell rfl ta88 ti88 rfl (fun _ hw => box_cells (i := 1) rfl _ hw) .nil) (fun w hw => ⟨_, _, rfl, ⟨v127_2, S127_2, wq5_2_1rr, Tq5_2_1rr, rfl, hl_v127_2, hl_wq5_2_1rr, rfl⟩, Sep.pick (is := [0, 5]) rfl rfl hw⟩)
              · replace hE_3 := if_ff g_7 hE_3
                refine Tri.skip ?_
                refine Nrm.seq ?_
                refine Tri.reg (l := [0, 1]) rfl ?_
                refine F.q rfl rfl rfl (wanted_none rfl) (r_move rfl) ?_
                refine F.q rfl rfl rfl (wanted_none rfl) (r_assign rfl) ?_
                refine F.nil ?_
                refine Nrm.block ?_
                refine Nrm.seq ?_
                refine Tri.reg (l := [0, 1, 2]) rfl ?_
                refine F.q rfl rfl rfl (wanted_none rfl) (r_move rfl) ?_
                refine F.q rfl rfl rfl (wanted_none rfl) (r_add rfl rfl) ?_
                refine F.q rfl rfl rfl (wanted_none rfl) (r_assign rfl) ?_
                refine F.nil ?_
                refine Nrm.round ?_
                refine Rnd.only [1, 2, 4, 5, 6, 9] rfl ?_
                refine Rnd.pick [1, 2, 3, 0, 5, 4] rfl rfl ?_
                exact ih_2 _ _ ⟨x10, w64 (x9 + 1), (xq5_2_0 : List (List Int)) ++ ([t125] : List (List Int)), xq5_2_1rr, v43_1, S43_1, v127_2, S127_2, wq5_2_1rr, Tq5_2_1rr, hE_3, hl_x10, hl_v127_2, hl_wq5_2_1rr, rfl, rfl⟩
  · obtain ⟨hm22, hE_1⟩ := ck hE_1
    refine Tri.drawT mixedT Sep.up [0, 1, 2, 3, 4, 5, 6] [7] (.q 0 (.q 1 (.q 2 (.q 3 (.alt 4 (.alt 5 (.alt 6 .nil .stop) .stop) (.alt 5 (.alt 4 (.alt 6 .nil .stop) (.alt 6 (.alt 4 .nil .stop) .stop)) .stop)))))) (by kernel_rfl) ?_
    refine T.q rfl rfl rfl (wanted_none rfl) (r_build (pl := [(0, 1), (1, 1)]) (qs := []) (cs := [.slice none 0 0, .slice none 0 0]) (by kernel_rfl) ti88 rfl .nil rfl rfl) ?_
    refine T.q rfl rfl rfl (wanted_none rfl) (r_fieldAddr tf31_0 rfl) ?_
    refine T.q rfl rfl rfl (wanted_none rfl) (r_load ta29 rfl (fun w hw => cell_1 (box_cells (i := 1) rfl w hw) rfl)) ?_
    refine T.q rfl rfl rfl (wanted_none rfl) (r_len Try.underlying29 rfl hl_va0_0) ?_
    refine T.ef rfl rfl rfl (wanted_none rfl) (Makes.does (m_make (x0 := (0 : Int)) Try.underlying38 ti3 rfl rfl rfl hm22.1 hm22.2 (by decide))) (by rintro v22_2 _ ⟨S22_2, hl_v22_2, rfl⟩; exact upd rfl [1, 2] rfl rfl) ?_ ?_
    · rintro v22_2 _ ⟨S22_2, hl_v22_2, rfl⟩
      refine T.ef rfl rfl rfl (wanted_none rfl) (Makes.does (m_alloc ti88)) (by rintro _ _ ⟨b5_3, rfl, rfl⟩; exact upd rfl [2, 3] rfl rfl) ?_ ?_
      · rintro _ _ ⟨b5_3, rfl, rfl⟩
        refine T.ef0 rfl rfl (wanted_none rfl) (d_storeG0 (i := 0) (cs2 := [.slice none 0 0, .slice none 0 0]) ti88 rfl rfl rfl rfl rfl (Nat.le_of_ble_eq_true rfl) (lf_cons rfl (lf_cons rfl lf_nil))) (by rintro _ _ ⟨rfl, rfl⟩; exact upd rfl [2, 3] rfl rfl) ?_ ?_
        · rintro _ _ ⟨rfl, rfl⟩
          refine T.nil ?_
          refine F.q rfl rfl rfl (wanted_none rfl) (r_assign rfl) ?_
          refine F.nil ?_
          cases hE_1
          refine Nrm.only [1, 2, 4, 5, 6] rfl ?_
          refine Nrm.pick [2, 3, 0, 1] rfl rfl ?_
          exact hj_1 _ _ ⟨v22_2, S22_2, b5_3, hl_v22_2, rfl, rfl⟩
        exact T.stop
      exact T.stop
    · refine T.ef rfl rfl rfl (wanted_none rfl) (Makes.does (m_alloc ti88)) (by rintro _ _ ⟨b5_4, rfl, rfl⟩; exact upd rfl [1, 2] rfl rfl) ?_ ?_
      · rintro _ _ ⟨b5_4, rfl, rfl⟩
        refine T.ef rfl rfl rfl (wanted_none rfl) (Makes.does (m_make (x0 := (0 : Int)) Try.underlying38 ti3 rfl rfl rfl hm22.1 hm22.2 (by decide))) (by rintro v22_3 _ ⟨S22_3, hl_v22_3, rfl⟩; exact upd rfl [2, 3] rfl rfl) ?_ ?_
        · rintro v22_3 _ ⟨S22_3, hl_v22_3, rfl⟩
          refine T.ef0 rfl rfl (wanted_none rfl) (d_storeG0 (i := 1) (cs2 := [.slice none 0 0, .slice none 0 0]) ti88 rfl rfl rfl rfl rfl (Nat.le_of_ble_eq_true rfl) (lf_cons rfl (lf_cons rfl lf_nil))) (by rintro _ _ ⟨rfl, rfl⟩; exact upd rfl [2, 3] rfl rfl) ?_ ?_
          · rintro _ _ ⟨rfl, rfl⟩
            refine T.nil ?_
            refine F.q rfl rfl rfl (wanted_none rfl) (r_assign rfl) ?_
            refine F.nil ?_
            cases hE_1
            refine Nrm.only [1, 2, 4, 5, 6] rfl ?_
            refine Nrm.pick [2, 3, 1, 0] rfl rfl ?_
            exact hj_1 _ _ ⟨v22_3, S22_3, b5_4, hl_v22_3, rfl, rfl⟩
          exact T.stop
        · refine T.ef0 rfl rfl (wanted_none rfl) (d_storeG0 (i := 0) (cs2 := [.slice none 0 0, .slice none 0 0]) ti88 rfl rfl rfl rfl rfl (Nat.le_of_ble_eq_true rfl) (lf_cons rfl (lf_cons rfl lf_nil))) (by rintro _ _ ⟨rfl, rfl⟩; exact upd rfl [1, 2] rfl rfl) ?_ ?_
          · rintro _ _ ⟨rfl, rfl⟩
            refine T.ef rfl rfl rfl (wanted_none rfl) (Makes.does (m_make (x0 := (0 : Int)) Try.underlying38 ti3 rfl rfl rfl hm22.1 hm22.2 (by decide))) (by rintro v22_4 _ ⟨S22_4, hl_v22_4, rfl⟩; exact upd rfl [2, 3] rfl rfl) ?_ ?_
            · rintro v22_4 _ ⟨S22_4, hl_v22_4, rfl⟩
              refine T.nil ?_
              refine F.q rfl rfl rfl (wanted_none rfl) (r_assign rfl) ?_
              refine F.nil ?_
              cases hE_1
              refine Nrm.only [1, 2, 4, 5, 6] rfl ?_
              refine Nrm.pick [2, 3, 1, 0] rfl rfl ?_
              exact hj_1 _ _ ⟨v22_4, S22_4, b5_4, hl_v22_4, rfl, rfl⟩
            exact T.stop
          exact T.stop
      exact T.stop

end Go.Proofs

/- (loop.example/g01158/impl.played).won -/

namespace Go.Proofs
open Go Go.Ga
set_option linter.unusedVariables false
set_option maxRecDepth 100000
set_option maxHeartbeats 4000000
def impl_played_won.l0 (k : Nat) (a0_1 : List (List Int)) : Nat → (List (Int)) → Int → Option ((List (Int)))
  | 0, _, _ => none
  | n + 1, x3, x10 => (if (decide (x10 < (a0_1.length : Int))) = true then (rdl a0_1 x10).bind fun t12 => (rdl t12 (w64 ((t12.length : Int) - 1))).bind fun t19 => if (x3 ++ ([t19] : List (Int))).length < 1099511627776 then impl_played_won.l0 k a0_1 n (x3 ++ ([t19] : List (Int))) (w64 (x10 + 1)) else none else some x3)

def impl_played_won.f (k : Nat) (a0_0 : List (List Int)) (a0_1 : List (List Int)) : Option ((List Int)) := (impl_played_won.l0 k a0_1 k ([] : List (Int)) 0).bind fun x3 => some x3

theorem impl_played_won.ok {k : Nat}  {a0_0 : List (List Int)} {a0_1 : List (List Int)} {r0 : List Int} (h : impl_played_won.f k a0_0 a0_1 = some r0) (w : World) {va0_0 : Value} {va0_1 : Value} (hr_a0_0 : Rd w va0_0 a0_0) (hr_a0_1 : Rd w va0_1 a0_1) :
    Calls Try.prog 69 ([.agg ([va0_0, va0_1].toArray)] : List Value).toArray w (Post (fun u ns => ∃ (Sr0 : Nat → Prop), SlLen u r0.length ∧ ns = [R.sl Sr0 u r0]) w) := by
  unfold impl_played_won.f at h
  have hl_va0_0 := hr_a0_0.len
  have hl_va0_1 := hr_a0_1.len
  refine Calls.of_tri (N := 25) Try.func69 rfl rfl rfl (Sep.nil (M := noM)) ?_
  refine Tri.seq ?_
  refine Tri.reg (l := [0, 1]) rfl ?_
  refine F.m rfl rfl rfl (wanted_none rfl) (m_boxG rfl rfl) ?_
  rintro _ _ ⟨b1_1, rfl, rfl⟩
  refine F.q rfl rfl rfl (wanted_none rfl) (r_assign rfl) ?_
  refine F.nil ?_
  refine Nrm.seq ?_
  refine Tri.seq ?_
  refine Tri.reg (l := [0, 1]) rfl ?_
  refine F.m rfl rfl rfl (wanted_none rfl) (m_build0 (α := Int) Try.underlying38 ti3) ?_
  rintro v6_1 _ ⟨S6_1, hl_v6_1, rfl⟩
  refine F.q rfl rfl rfl (wanted_none rfl) (r_assign rfl) ?_
  refine F.nil ?_
  refine Nrm.seq ?_
  refine Tri.seq ?_
  refine Tri.seq ?_
  refine Tri.reg (l := [0, 1, 2, 3]) rfl ?_
  refine F.q rfl rfl rfl (wanted_none rfl) (r_fieldAddr tf88_1 rfl) ?_
  refine F.q rfl rfl rfl (wanted_none rfl) (r_load ta23 rfl (fun w hw => cell_1 (box_cells (i := 1) rfl w hw) rfl)) ?_
  refine F.q rfl rfl rfl (wanted_none rfl) (r_len Try.underlying23 rfl hl_va0_1) ?_
  refine F.q rfl rfl rfl (wanted_none rfl) (r_move rfl) ?_
  refine F.nil ?_
  refine Nrm.seq ?_
  obtain ⟨x3, hE_1, h⟩ := bind_some h
  refine Tri.block ?_
  refine Tri.only [3, 8, 9, 10] rfl ?_
  refine Tri.pick [0] rfl rfl ?_
  refine Tri.rounds (fun n e' C' => ∃ (x3' : List (Int)) (x10' : Int) (w3 : Value) (T3 : Nat → Prop), impl_played_won.l0 k a0_1 n x3' x10' = some x3 ∧ SlLen w3 (x3').length ∧ e' = [(3, w3), (8, va0_1), (9, .int .i64 (a0_1.length : Int)), (10, .int .i64 x10')] ∧ C' = Sep w noM [R.sl T3 w3 (x3' : List (Int))]) k ?_ ?_ ?_
  · exact ⟨([] : List (Int)), 0, v6_1, S6_1, hE_1, hl_v6_1, rfl, rfl⟩
  · rintro _ _ ⟨_, _, _, _, hE_1, _⟩
    rw [impl_played_won.l0.eq_1] at hE_1; cases hE_1
  · rintro n_1 _ _ ⟨x3, x10, w3, T3, hE_1, hl_w3, rfl, rfl⟩ ih_1
    rw [impl_played_won.l0.eq_2] at hE_1
    refine Tri.seq ?_
    refine Tri.reg (l := [0]) rfl ?_
    refine F.q rfl rfl rfl (wanted_none rfl) (r_lss rfl rfl) ?_
    refine F.nil ?_
    refine Nrm.seq ?_
    refine Tri.seq ?_
    refine Tri.cond (b := decide (x10 < (a0_1.length : Int))) rfl (fun g_1 => ?_) (fun g_1 => ?_)
    · replace hE_1 := if_tt g_1 hE_1
      refine Tri.skip ?_
      refine Nrm.seq ?_
      refine Tri.seq ?_
      refine Tri.block ?_
      refine Tri.seq ?_
      obtain ⟨t12, h12, hE_1⟩ := bind_some hE_1
      obtain ⟨_, hc12, hp12⟩ := Rd.elem hr_a0_1 (rdl_some h12).2.2
      obtain ⟨v12_0, rfl, hr_v12_0⟩ := op38 hp12
      have hl_v12_0 := hr_v12_0.len
      refine Tri.reg (l := [0, 1, 2]) rfl ?_
      refine F.q rfl rfl rfl (wanted_none rfl) (r_indexAddrS Try.underlying23 ti38 rfl hl_va0_1 rfl (rdl_some h12).1 (rdl_some h12).2.1) ?_
      refine F.q rfl rfl rfl (wanted_none rfl) (r_load ta38 rfl (fun w hw => cell_0 (hc12.sep hw) rfl)) ?_
      refine F.q rfl rfl rfl (wanted_none rfl) (r_assign rfl) ?_
      refine F.nil ?_
      refine Nrm.seq ?_
      obtain ⟨t19, h19, hE_1⟩ := bind_some hE_1
      obtain ⟨hs22, hE_1⟩ := ck hE_1
      refine Tri.reg (l := [0, 1, 2, 3, 4, 5, 6, 7, 8, 9]) rfl ?_
      refine F.q rfl rfl rfl (wanted_none rfl) (r_move rfl) ?_
      refine F.q rfl rfl rfl (wanted_none rfl) (r_move rfl) ?_
      refine F.q rfl rfl rfl (wanted_none rfl) (r_move rfl) ?_
      refine F.q rfl rfl rfl (wanted_none rfl) (r_len Try.underlying38 rfl hl_v12_0) ?_
      refine F.q rfl rfl rfl (wanted_none rfl) (r_sub rfl rfl) ?_
      refine F.q rfl rfl rfl (wanted_none rfl) (r_indexAddrS Try.underlying38 ti3 rfl hl_v12_0 rfl (rdl_some h19).1 (rdl_some h19).2.1) ?_
      refine F.q rfl rfl rfl (wanted_none rfl) (r_load ta3 rfl (fun w hw => cell_0 (Rd.flat ((fun _ hw => hr_v12_0.sep hw) w hw) (rdl_some h19).2.2) rfl)) ?_
      refine F.m rfl rfl rfl (wanted_none rfl) (m_buildF (l := ([t19] : List (Int))) Try.underlying38 ti3 rfl rfl rfl rfl rfl) ?_
      rintro v21_1 _ ⟨S21_1, hl_v21_1, rfl⟩
      refine F.ef rfl rfl rfl (wanted_none rfl) (d_append (i := 1) Try.underlying38 Try.underlying38 ti3 rfl (by decide) rfl rfl rfl (rd_sl (i := 0) rfl) hs22) ?_
      rintro v22_1 _ ⟨S22_1, rfl, hl_v22_1⟩
      refine F.q rfl rfl rfl (wanted_none rfl) (r_assign rfl) ?_
      refine F.nil ?_
      refine Nrm.block ?_
      refine Nrm.seq ?_
      refine Tri.reg (l := [0, 1]) rfl ?_
      refine F.q rfl rfl rfl (wanted_none rfl) (r_add rfl rfl) ?_
      refine F.q rfl rfl rfl (wanted_none rfl) (r_move rfl) ?_
      refine F.nil ?_
      refine Nrm.round ?_
      refine Rnd.only [3, 8, 9, 10] rfl ?_
      refine Rnd.pick [1] rfl rfl ?_
      exact ih_1 _ _ ⟨x3 ++ ([t19] : List (Int)), w64 (x10 + 1), v22_1, S22_1, hE_1, hl_v22_1, rfl, rfl⟩
    · replace hE_1 := if_ff g_1 hE_1
      refine Tri.exit ?_
      refine Exi.then ?_
      refine Exi.then ?_
      refine Exi.same ?_
      cases hE_1
      refine Nrm.seq ?_
      refine Tri.seq ?_
      refine Tri.reg (l := [0, 1]) rfl ?_
      refine F.q rfl rfl rfl (wanted_none rfl) (r_move rfl) ?_
      refine F.q rfl rfl rfl (wanted_none rfl) (r_assign rfl) ?_
      refine F.nil ?_
      refine Nrm.seq ?_
      refine Tri.ret ?_
      cases h
      exact Rtn.body (.tmp rfl .nil) (fun w hw => ⟨_, _, rfl, ⟨T3, hl_w3, rfl⟩, Sep.pick (is := [0]) rfl rfl hw⟩)

end Go.Proofs

/- loop.example/g01158/impl.ReleaseRounds -/
namespace Go.Proofs
open Go Go.Ga
set_option linter.unusedVariables false
set_option maxRecDepth 100000
set_option maxHeartbeats 4000000
def impl_ReleaseRounds.f (k : Nat) (a0_0 : List (Int × List (Int × Int × Int) × List Int)) (a0_1 : List (List Int)) : Option ((List Int) × Bool) := (impl_IsWorlds.f k a0_0 a0_1).bind fun t5 => (if (!t5) = true then some ([], false) else (impl_play.f k a0_0 a0_1 true).bind fun (t8_1, t8_2) => (impl_played_won.f k t8_1 t8_2).bind fun t9 => some (t9, true))

theorem impl_ReleaseRounds.ok {k : Nat}  {a0_0 : List (Int × List (Int × Int × Int) × List Int)} {a0_1 : List (List Int)} {r0 : List Int} {r1 : Bool} (h : impl_ReleaseRounds.f k a0_0 a0_1 = some (r0, r1)) (w : World) {va0_0 : Value} {va0_1 : Value} (hr_a0_0 : Rd w va0_0 a0_0) (hr_a0_1 : Rd w va0_1 a0_1) :
    Calls Try.prog 25 ([.agg ([va0_0, va0_1].toArray)] : List Value).toArray w (Post (fun u ns => ∃ (ur0 : Value) (Sr0 : Nat → Prop), u = .tuple #[ur0, .bool r1] ∧ SlLen ur0 r0.length ∧ ns = [R.sl Sr0 ur0 r0]) w) := by
  unfold impl_ReleaseRounds.f at h
  have hl_va0_0 := hr_a0_0.len
  have hl_va0_1 := hr_a0_1.len
  refine Calls.of_tri (N := 10) Try.func25 rfl rfl rfl (Sep.nil (M := noM)) ?_
  refine Tri.seq ?_
  refine Tri.reg (l := [0, 1, 2]) rfl ?_
  refine F.m rfl rfl rfl (wanted_none rfl) (m_boxG rfl rfl) ?_
  rintro _ _ ⟨b1_1, rfl, rfl⟩
  refine F.q rfl rfl rfl (wanted_none rfl) (r_assign rfl) ?_
  refine F.q rfl rfl rfl (wanted_none rfl) (r_assign rfl) ?_
  refine F.nil ?_
  refine Nrm.seq ?_
  refine Tri.seq ?_
  refine Tri.seq ?_
  obtain ⟨t5, h5, h⟩ := bind_some h
  refine Tri.reg (l := [0, 1, 2]) rfl ?_
  refine F.q rfl rfl rfl (wanted_none rfl) (r_loadA ta31 ti31 rfl rfl (fun w hw => (box_cells (i := 0) rfl w hw))) ?_
  refine F.qc rfl rfl rfl (wanted_none rfl) (q_callF (xs := _) rfl ok65 rfl rfl (fun w hw => impl_IsWorlds.ok h5 w ((fun _ hw => hr_a0_0.sep hw) w hw) ((fun _ hw => hr_a0_1.sep hw) w hw))) ?_
  refine F.q rfl rfl rfl (wanted_none rfl) (r_not rfl) ?_
  refine F.nil ?_
  refine Nrm.seq ?_
  refine Tri.cond (b := !t5) rfl (fun g_1 => ?_) (fun g_1 => ?_)
  · replace h := if_tt g_1 h
    refine Tri.seq ?_
    refine Tri.reg (l := [0, 1]) rfl ?_
    refine F.q rfl rfl rfl (wanted_none rfl) (r_assign rfl) ?_
    refine F.q rfl rfl rfl (wanted_none rfl) (r_assign rfl) ?_
    refine F.nil ?_
    refine Nrm.seq ?_
    refine Tri.ret ?_
    refine Rtn.then ?_
    cases h
    exact Rtn.body (.tmp rfl (.tmp rfl .nil)) (fun w hw => ⟨_, _, rfl, ⟨.slice none 0 0, fun _ => False, rfl, len_nil, rfl⟩, Sep.pick (is := [0]) rfl rfl hw.pushNil⟩)
  · replace h := if_ff g_1 h
    refine Tri.skip ?_
    refine Nrm.seq ?_
    refine Tri.seq ?_
    obtain ⟨⟨t8_1, t8_2⟩, h8, h⟩ := bind_some h
    obtain ⟨t9, h9, h⟩ := bind_some h
    refine Tri.reg (l := [0, 1, 2, 3, 4]) rfl ?_
    refine F.q rfl rfl rfl (wanted_none rfl) (r_loadA ta31 ti31 rfl rfl (fun w hw => (box_cells (i := 0) rfl w hw))) ?_
    refine F.m rfl rfl rfl (wanted_none rfl) (m_callF (xs := _) rfl ok66 rfl rfl (fun w hw => impl_play.ok h8 w ((fun _ hw => hr_a0_0.sep hw) w hw) ((fun _ hw => hr_a0_1.sep hw) w hw))) ?_
    rintro _ _ ⟨_, ⟨v8_1, S8_1, v8_2, S8_2, rfl, hl_v8_1, hl_v8_2, rfl⟩, rfl⟩
    refine F.m rfl rfl rfl (wanted_none rfl) (m_callF (xs := _) rfl ok69 rfl rfl (fun w hw => impl_played_won.ok h9 w ((rd_sl (i := 0) rfl) w hw) ((rd_sl (i := 1) rfl) w hw))) ?_
    rintro v9_1 _ ⟨_, ⟨S9_1, hl_v9_1, rfl⟩, rfl⟩
    refine F.q rfl rfl rfl (wanted_none rfl) (r_assign rfl) ?_
    refine F.q rfl rfl rfl (wanted_none rfl) (r_assign rfl) ?_
    refine F.nil ?_
    refine Nrm.seq ?_
    refine Tri.ret ?_
    cases h
    exact Rtn.body (.tmp rfl (.tmp rfl .nil)) (fun w hw => ⟨_, _, rfl, ⟨v9_1, S9_1, rfl, hl_v9_1, rfl⟩, Sep.pick (is := [0]) rfl rfl hw⟩)

end Go.Proofs

/- loop.example/g01158/laws.heldIntS -/

namespace Go.Proofs
open Go Go.Ga
set_option linter.unusedVariables false
set_option maxRecDepth 100000
set_option maxHeartbeats 4000000
def laws_heldIntS.l0 (k : Nat) (a0 : List Int) : Nat → Int → Int → Option ((Int) ⊕ (Int))
  | 0, _, _ => none
  | n + 1, x1, x5 => (if (decide (x5 < (a0.length : Int))) = true then (rdl a0 x5).bind fun t14 => (if (t14 != x1) = true then some (Sum.inr (-1)) else laws_heldIntS.l0 k a0 n (w64 (x1 + 1)) (w64 (x5 + 1))) else some (Sum.inl x1))

def laws_heldIntS.f (k : Nat) (a0 : List Int) (a1 : Int) : Option (Int) := (laws_heldIntS.l0 k a0 k a1 0).bind fun s => Lr s some fun x1 => some x1

theorem laws_heldIntS.ok {k : Nat}  {a0 : List Int} {a1 : Int} {r0 : Int} (h : laws_heldIntS.f k a0 a1 = some r0) (w : World) {va0 : Value} (hr_a0 : Rd w va0 a0) :
    Calls Try.prog 28 ([va0, .int .i64 a1] : List Value).toArray w (fun e w' => e = .returned (.int .i64 r0) ∧ Ext w w') := by
  unfold laws_heldIntS.f at h
  have hl_va0 := hr_a0.len
  refine Calls.of_tri (N := 21) Try.func28 rfl rfl rfl (Sep.nil (M := noM)) ?_
  refine Tri.seq ?_
  refine Tri.reg (l := [0]) rfl ?_
  refine F.q rfl rfl rfl (wanted_none rfl) (r_assign rfl) ?_
  refine F.nil ?_
  refine Nrm.seq ?_
  refine Tri.seq ?_
  refine Tri.seq ?_
  refine Tri.reg (l := [0]) rfl ?_
  refine F.q rfl rfl rfl (wanted_none rfl) (r_assign rfl) ?_
  refine F.nil ?_
  refine Nrm.seq ?_
  obtain ⟨s0, hE_1, h⟩ := bind_some h
  refine Tri.block ?_
  refine Tri.only [0, 1, 5] rfl ?_
  refine Tri.pick [] rfl rfl ?_
  refine Tri.rounds (fun n e' C' => ∃ (x1' : Int) (x5' : Int), laws_heldIntS.l0 k a0 n x1' x5' = some s0 ∧ e' = [(0, va0), (1, .int .i64 x1'), (5, .int .i64 x5')] ∧ C' = Sep w noM []) k ?_ ?_ ?_
  · exact ⟨a1, 0, hE_1, rfl, rfl⟩
  · rintro _ _ ⟨_, _, hE_1, _⟩
    rw [laws_heldIntS.l0.eq_1] at hE_1; cases hE_1
  · rintro n_1 _ _ ⟨x1, x5, hE_1, rfl, rfl⟩ ih_1
    rw [laws_heldIntS.l0.eq_2] at hE_1
    refine Tri.seq ?_
    refine Tri.seq ?_
    refine Tri.reg (l := [0, 1, 2, 3]) rfl ?_
    refine F.q rfl rfl rfl (wanted_none rfl) (r_move rfl) ?_
    refine F.q rfl rfl rfl (wanted_none rfl) (r_move rfl) ?_
    refine F.q rfl rfl rfl (wanted_none rfl) (r_len Try.underlying38 rfl hl_va0) ?_
    refine F.q rfl rfl rfl (wanted_none rfl) (r_lss rfl rfl) ?_
    refine F.nil ?_
    refine Nrm.seq ?_
    refine Tri.cond (b := decide (x5 < (a0.length : Int))) rfl (fun g_1 => ?_) (fun g_1 => ?_)
    · replace hE_1 := if_tt g_1 hE_1
      refine Tri.skip ?_
      refine Nrm.seq ?_
      refine Tri.seq ?_
      refine Tri.block ?_
      refine Tri.seq ?_
      refine Tri.seq ?_
      obtain ⟨t14, h14, hE_1⟩ := bind_some hE_1
      refine Tri.reg (l := [0, 1, 2, 3, 4, 5]) rfl ?_
      refine F.q rfl rfl rfl (wanted_none rfl) (r_move rfl) ?_
      refine F.q rfl rfl rfl (wanted_none rfl) (r_move rfl) ?_
      refine F.q rfl rfl rfl (wanted_none rfl) (r_indexAddrS Try.underlying38 ti3 rfl hl_va0 rfl (rdl_some h14).1 (rdl_some h14).2.1) ?_
      refine F.q rfl rfl rfl (wanted_none rfl) (r_load ta3 rfl (fun w hw => cell_0 (Rd.flat ((fun _ hw => hr_a0.sep hw) w hw) (rdl_some h14).2.2) rfl)) ?_
      refine F.q rfl rfl rfl (wanted_none rfl) (r_move rfl) ?_
      refine F.q rfl rfl rfl (wanted_none rfl) (r_neq rfl rfl) ?_
      refine F.nil ?_
      refine Nrm.seq ?_
      refine Tri.cond (b := t14 != x1) rfl (fun g_2 => ?_) (fun g_2 => ?_)
      · replace hE_1 := if_tt g_2 hE_1
        refine Tri.seq ?_
        refine Tri.reg (l := [0]) rfl ?_
        refine F.q rfl rfl rfl (wanted_none rfl) (r_assign rfl) ?_
        refine F.nil ?_
        refine Nrm.seq ?_
        refine Tri.ret ?_
        refine Rtn.then ?_
        refine Rtn.block ?_
        refine Rtn.then ?_
        refine Rtn.then ?_
        refine Rtn.block ?_
        refine Rtn.then ?_
        cases hE_1
        replace h := Lr_inr h
        cases h
        exact Rtn.body (.tmp rfl .nil) (fun w hw => ⟨rfl, hw.ext⟩)
      · replace hE_1 := if_ff g_2 hE_1
        refine Tri.skip ?_
        refine Nrm.seq ?_
        refine Tri.reg (l := [0, 1, 2]) rfl ?_
        refine F.q rfl rfl rfl (wanted_none rfl) (r_move rfl) ?_
        refine F.q rfl rfl rfl (wanted_none rfl) (r_add rfl rfl) ?_
        refine F.q rfl rfl rfl (wanted_none rfl) (r_assign rfl) ?_
        refine F.nil ?_
        refine Nrm.block ?_
        refine Nrm.seq ?_
        refine Tri.reg (l := [0, 1, 2]) rfl ?_
        refine F.q rfl rfl rfl (wanted_none rfl) (r_move rfl) ?_
        refine F.q rfl rfl rfl (wanted_none rfl) (r_add rfl rfl) ?_
        refine F.q rfl rfl rfl (wanted_none rfl) (r_assign rfl) ?_
        refine F.nil ?_
        refine Nrm.round ?_
        refine Rnd.only [0, 1, 5] rfl ?_
        refine Rnd.pick [] rfl rfl ?_
        exact ih_1 _ _ ⟨w64 (x1 + 1), w64 (x5 + 1), hE_1, rfl, rfl⟩
    · replace hE_1 := if_ff g_1 hE_1
      refine Tri.exit ?_
      refine Exi.then ?_
      refine Exi.then ?_
      refine Exi.same ?_
      cases hE_1
      replace h := Lr_inl h
      refine Nrm.seq ?_
      refine Tri.seq ?_
      refine Tri.reg (l := [0, 1]) rfl ?_
      refine F.q rfl rfl rfl (wanted_none rfl) (r_move rfl) ?_
      refine F.q rfl rfl rfl (wanted_none rfl) (r_assign rfl) ?_
      refine F.nil ?_
      refine Nrm.seq ?_
      refine Tri.ret ?_
      cases h
      exact Rtn.body (.tmp rfl .nil) (fun w hw => ⟨rfl, hw.ext⟩)

end Go.Proofs

/- loop.example/g01158/laws.FnExactReleaseRounds -/
namespace Go.Proofs
open Go Go.Ga
set_option linter.unusedVariables false
set_option maxRecDepth 100000
set_option maxHeartbeats 4000000
def laws_FnExactReleaseRounds.f (k : Nat) (a0_0 : List (Int × List (Int × Int × Int) × List Int)) (a0_1 : List (List Int)) : Option (Bool) := (laws_szWorlds.f k a0_0 a0_1 1048576).bind fun t16 => (if (decide (t16 < 0)) = true then some true else (laws_toWorlds.f k a0_0 a0_1).bind fun (t21_1, t21_2) => (spec_ReleaseRounds.f k t21_1 t21_2).bind fun (t22_1, t22_2) => (laws_toWorlds.f k a0_0 a0_1).bind fun (t26_1, t26_2) => (impl_ReleaseRounds.f k t26_1 t26_2).bind fun (t29_1, t29_2) => ((laws_eqIntS.f k t29_1 t22_1).bind fun t34 => (if (!t34) = true then some true else some (t29_2 != t22_2))).bind fun y40 => (if y40 = true then some false else (laws_toWorlds.f k a0_0 a0_1).bind fun (t43_1, t43_2) => (laws_eqWorlds.f k t26_1 t26_2 t43_1 t43_2).bind fun t44 => (if (!t44) = true then some false else (laws_markWorlds.f k t26_1 t26_2 1).bind fun (t48_1, t48_2, t48_3) => ((if (decide (t48_1 < 0)) = true then some true else (laws_eqIntS.f k t29_1 t22_1).bind fun t54 => (if (!t54) = true then some true else some (t29_2 != t22_2)))).bind fun y61 => (if y61 = true then some false else (laws_markIntS.f k t29_1 1).bind fun (t64_1, t64_2) => (laws_heldIntS.f k t64_2 1).bind fun t67 => (if (decide (t67 < 0)) = true then some false else (if (t67 != t64_1) = true then some false else (laws_toWorlds.f k a0_0 a0_1).bind fun (t75_1, t75_2) => (impl_ReleaseRounds.f k t75_1 t75_2).bind fun (t76_1, t76_2) => ((laws_eqIntS.f k t76_1 t22_1).bind fun t81 => (if (!t81) = true then some true else some (t76_2 != t22_2))).bind fun y87 => (if y87 = true then some false else (laws_heldIntS.f k t64_2 1).bind fun t90 => (if (decide (t90 < 0)) = true then some false else (if (t90 != t64_1) = true then some false else some true)))))))))

theorem laws_FnExactReleaseRounds.ok {k : Nat}  {a0_0 : List (Int × List (Int × Int × Int) × List Int)} {a0_1 : List (List Int)} {r0 : Bool} (h : laws_FnExactReleaseRounds.f k a0_0 a0_1 = some r0) (w : World) {va0_0 : Value} {va0_1 : Value} (hr_a0_0 : Rd w va0_0 a0_0) (hr_a0_1 : Rd w va0_1 a0_1) :
    Calls Try.prog 4 ([.agg ([va0_0, va0_1].toArray)] : List Value).toArray w (fun e w' => e = .returned (.bool r0) ∧ Ext w w') := by
  unfold laws_FnExactReleaseRounds.f at h
  have hl_va0_0 := hr_a0_0.len
  have hl_va0_1 := hr_a0_1.len
  refine Calls.of_tri (N := 96) Try.func4 rfl rfl rfl (Sep.nil (M := noM)) ?_
  refine Tri.seq ?_
  refine Tri.reg (l := [0, 1]) rfl ?_
  refine F.m rfl rfl rfl (wanted_none rfl) (m_boxG rfl rfl) ?_
  rintro _ _ ⟨b1_1, rfl, rfl⟩
  refine F.q rfl rfl rfl (wanted_none rfl) (r_assign rfl) ?_
  refine F.nil ?_
  refine Nrm.seq ?_
  refine Tri.seq ?_
  refine Tri.reg (l := [0]) rfl ?_
  refine F.q rfl rfl rfl (wanted_none rfl) (r_assign rfl) ?_
  refine F.nil ?_
  refine Nrm.seq ?_
  refine Tri.seq ?_
  obtain ⟨t16, h16, h⟩ := bind_some h
  refine Tri.reg (l := [0, 1, 2, 3]) rfl ?_
  refine F.q rfl rfl rfl (wanted_none rfl) (r_loadA ta25 ti25 rfl rfl (fun w hw => (box_cells (i := 0) rfl w hw))) ?_
  refine F.q rfl rfl rfl (wanted_none rfl) (r_move rfl) ?_
  refine F.qc rfl rfl rfl (wanted_none rfl) (q_callF (xs := _) rfl ok15 rfl rfl (fun w hw => laws_szWorlds.ok h16 w ((fun _ hw => hr_a0_0.sep hw) w hw) ((fun _ hw => hr_a0_1.sep hw) w hw))) ?_
  refine F.q rfl rfl rfl (wanted_none rfl) (r_assign rfl) ?_
  refine F.nil ?_
  refine Nrm.seq ?_
  refine Tri.seq ?_
  refine Tri.seq ?_
  refine Tri.reg (l := [0, 1]) rfl ?_
  refine F.q rfl rfl rfl (wanted_none rfl) (r_move rfl) ?_
  refine F.q rfl rfl rfl (wanted_none rfl) (r_lss rfl rfl) ?_
  refine F.nil ?_
  refine Nrm.seq ?_
  refine Tri.cond (b := decide (t16 < 0)) rfl (fun g_1 => ?_) (fun g_1 => ?_)
  · replace h := if_tt g_1 h
    refine Tri.seq ?_
    refine Tri.reg (l := [0]) rfl ?_
    refine F.q rfl rfl rfl (wanted_none rfl) (r_assign rfl) ?_
    refine F.nil ?_
    refine Nrm.seq ?_
    refine Tri.ret ?_
    refine Rtn.then ?_
    cases h
    exact Rtn.body (.tmp rfl .nil) (fun w hw => ⟨rfl, hw.ext⟩)
  · replace h := if_ff g_1 h
    refine Tri.skip ?_
    refine Nrm.seq ?_
    refine Tri.seq ?_
    obtain ⟨⟨t21_1, t21_2⟩, h21, h⟩ := bind_some h
    obtain ⟨⟨t22_1, t22_2⟩, h22, h⟩ := bind_some h
    refine Tri.reg (l := [0, 1, 2, 3, 4, 5, 6, 7]) rfl ?_
    refine F.q rfl rfl rfl (wanted_none rfl) (r_loadA ta25 ti25 rfl rfl (fun w hw => (box_cells (i := 0) rfl w hw))) ?_
    refine F.m rfl rfl rfl (wanted_none rfl) (m_callF (xs := _) rfl ok17 rfl rfl (fun w hw => laws_toWorlds.ok h21 w ((fun _ hw => hr_a0_0.sep hw) w hw) ((fun _ hw => hr_a0_1.sep hw) w hw))) ?_
    rintro _ _ ⟨_, ⟨v21_1, S21_1, v21_2, S21_2, rfl, hl_v21_1, hl_v21_2, rfl⟩, rfl⟩
    refine F.m rfl rfl rfl (wanted_none rfl) (m_callF (xs := _) rfl ok24 rfl rfl (fun w hw => spec_ReleaseRounds.ok h22 w ((rd_sl (i := 0) rfl) w hw) ((rd_sl (i := 1) rfl) w hw))) ?_
    rintro _ _ ⟨_, ⟨v22_1, S22_1, rfl, hl_v22_1, rfl⟩, rfl⟩
    refine F.q rfl rfl rfl (wanted_none rfl) (r_move rfl) ?_
    refine F.q rfl rfl rfl (wanted_none rfl) (r_extract rfl rfl) ?_
    refine F.q rfl rfl rfl (wanted_none rfl) (r_extract rfl rfl) ?_
    refine F.q rfl rfl rfl (wanted_none rfl) (r_assign rfl) ?_
    refine F.q rfl rfl rfl (wanted_none rfl) (r_assign rfl) ?_
    refine F.nil ?_
    refine Nrm.seq ?_
    refine Tri.seq ?_
    obtain ⟨⟨t26_1, t26_2⟩, h26, h⟩ := bind_some h
    refine Tri.reg (l := [0, 1, 2, 3]) rfl ?_
    refine F.q rfl rfl rfl (wanted_none rfl) (r_loadA ta25 ti25 rfl rfl (fun w hw => (box_cells (i := 3) rfl w hw))) ?_
    refine F.m rfl rfl rfl (wanted_none rfl) (m_callF (xs := _) rfl ok17 rfl rfl (fun w hw => laws_toWorlds.ok h26 w ((fun _ hw => hr_a0_0.sep hw) w hw) ((fun _ hw => hr_a0_1.sep hw) w hw))) ?_
    rintro _ _ ⟨_, ⟨v26_1, S26_1, v26_2, S26_2, rfl, hl_v26_1, hl_v26_2, rfl⟩, rfl⟩
    refine F.m rfl rfl rfl (wanted_none rfl) (m_alloc ti31) ?_
    rintro _ _ ⟨b6_1, rfl, rfl⟩
    refine F.ef0 rfl rfl (wanted_none rfl) (d_storeG0 (i := 0) (cs2 := [v26_1, v26_2]) ti31 rfl rfl rfl rfl rfl (Nat.le_of_ble_eq_true rfl) (lf_cons (sl_leaf hl_v26_1) (lf_cons (sl_leaf hl_v26_2) lf_nil))) ?_
    rintro _ _ ⟨rfl, rfl⟩
    refine F.nil ?_
    refine Nrm.seq ?_
    refine Tri.seq ?_
    obtain ⟨⟨t29_1, t29_2⟩, h29, h⟩ := bind_some h
    refine Tri.reg (l := [0, 1, 2, 3, 4, 5, 6]) rfl ?_
    refine F.q rfl rfl rfl (wanted_none rfl) (r_loadA ta31 ti31 rfl rfl (fun w hw => (box_cells (i := 0) rfl w hw))) ?_
    refine F.m rfl rfl rfl (wanted_none rfl) (m_callF (xs := _) rfl ok25 rfl rfl (fun w hw => impl_ReleaseRounds.ok h29 w ((rd_sl (i := 1) rfl) w hw) ((rd_sl (i := 2) rfl) w hw))) ?_
    rintro _ _ ⟨_, ⟨v29_1, S29_1, rfl, hl_v29_1, rfl⟩, rfl⟩
    refine F.q rfl rfl rfl (wanted_none rfl) (r_move rfl) ?_
    refine F.q rfl rfl rfl (wanted_none rfl) (r_extract rfl rfl) ?_
    refine F.q rfl rfl rfl (wanted_none rfl) (r_extract rfl rfl) ?_
    refine F.q rfl rfl rfl (wanted_none rfl) (r_assign rfl) ?_
    refine F.q rfl rfl rfl (wanted_none rfl) (r_assign rfl) ?_
    refine F.nil ?_
    refine Nrm.seq ?_
    refine Tri.seq ?_
    refine Tri.seq ?_
    obtain ⟨y40, hE_1, h⟩ := bind_some h
    refine Tri.cut (fun e' C' => e' = [(1, .pointer (some ⟨b1_1, 0, none⟩)), (4, v22_1), (5, .bool t22_2), (6, .pointer (some ⟨b6_1, 0, none⟩)), (7, v29_1), (8, .bool t29_2), (40, .bool y40)] ∧ C' = Sep w noM [R.box b6_1 31 [v26_1, v26_2], R.box b1_1 25 [va0_0, va0_1], R.sl S22_1 v22_1 (t22_1 : List (Int)), R.sl S26_1 v26_1 (t26_1 : List (Int × List (Int × Int × Int) × List Int)), R.sl S26_2 v26_2 (t26_2 : List (List Int)), R.sl S29_1 v29_1 (t29_1 : List (Int))]) ?_ (fun hj_1 => ?_)
    · rintro _ _ ⟨rfl, rfl⟩
      refine Nrm.seq ?_
      refine Tri.cond (b := y40) rfl (fun g_2 => ?_) (fun g_2 => ?_)
      · replace h := if_tt g_2 h
        refine Tri.seq ?_
        refine Tri.reg (l := [0]) rfl ?_
        refine F.q rfl rfl rfl (wanted_none rfl) (r_assign rfl) ?_
        refine F.nil ?_
        refine Nrm.seq ?_
        refine Tri.ret ?_
        refine Rtn.then ?_
        cases h
        exact Rtn.body (.tmp rfl .nil) (fun w hw => ⟨rfl, hw.ext⟩)
      · replace h := if_ff g_2 h
        refine Tri.skip ?_
        refine Nrm.seq ?_
        refine Tri.seq ?_
        refine Tri.seq ?_
        obtain ⟨⟨t43_1, t43_2⟩, h43, h⟩ := bind_some h
        obtain ⟨t44, h44, h⟩ := bind_some h
        refine Tri.drawA mixedT Sep.up [(0, true), (1, true), (2, false), (3, true), (4, true)] [] (by kernel_rfl) ?_
        refine S.q rfl rfl rfl (wanted_none rfl) (r_loadA ta31 ti31 rfl rfl (fun w hw => (box_cells (i := 0) rfl w hw))) ?_
        refine S.q rfl rfl rfl (wanted_none rfl) (r_loadA ta25 ti25 rfl rfl (fun w hw => (box_cells (i := 1) rfl w hw))) ?_
        refine S.m rfl rfl rfl (wanted_none rfl) (m_callF (xs := _) rfl ok17 rfl rfl (fun w hw => laws_toWorlds.ok h43 w ((fun _ hw => hr_a0_0.sep hw) w hw) ((fun _ hw => hr_a0_1.sep hw) w hw))) ?_
        rintro _ _ ⟨_, ⟨v43_3, S43_3, v43_4, S43_4, rfl, hl_v43_3, hl_v43_4, rfl⟩, rfl⟩
        refine S.qc rfl rfl rfl (wanted_none rfl) (q_callF (xs := _) rfl ok20 rfl rfl (fun w hw => laws_eqWorlds.ok h44 w ((rd_sl (i := 5) rfl) w hw) ((rd_sl (i := 6) rfl) w hw) ((rd_sl (i := 0) rfl) w hw) ((rd_sl (i := 1) rfl) w hw))) ?_
        refine S.q rfl rfl rfl (wanted_none rfl) (r_not rfl) ?_
        refine S.nil ?_
        refine F.nil ?_
        refine Nrm.seq ?_
        refine Tri.cond (b := !t44) rfl (fun g_3 => ?_) (fun g_3 => ?_)
        · replace h := if_tt g_3 h
          refine Tri.seq ?_
          refine Tri.reg (l := [0]) rfl ?_
          refine F.q rfl rfl rfl (wanted_none rfl) (r_assign rfl) ?_
          refine F.nil ?_
          refine Nrm.seq ?_
          refine Tri.ret ?_
          refine Rtn.then ?_
          cases h
          exact Rtn.body (.tmp rfl .nil) (fun w hw => ⟨rfl, hw.ext⟩)
        · replace h := if_ff g_3 h
          refine Tri.skip ?_
          refine Nrm.seq ?_
          refine Tri.seq ?_
          refine Tri.reg (l := [0]) rfl ?_
          refine F.q rfl rfl rfl (wanted_none rfl) (r_assign rfl) ?_
          refine F.nil ?_
          refine Nrm.seq ?_
          refine Tri.seq ?_
          obtain ⟨⟨t48_1, t48_2, t48_3⟩, h48, h⟩ := bind_some h
          refine Tri.reg (l := [0, 1, 2, 3]) rfl ?_
          refine F.q rfl rfl rfl (wanted_none rfl) (r_loadA ta31 ti31 rfl rfl (fun w hw => (box_cells (i := 2) rfl w hw))) ?_
          refine F.q rfl rfl rfl (wanted_none rfl) (r_move rfl) ?_
          refine F.ef rfl rfl rfl (wanted_none rfl) (d_callM (xs := _) (cs := [R.sl S26_1 v26_1 (t26_1 : List (Int × List (Int × Int × Int) × List Int)), R.sl S26_2 v26_2 (t26_2 : List (List Int))]) (rest := [R.sl S43_3 v43_3 (t43_1 : List (Int × List (Int × Int × Int) × List Int)), R.sl S43_4 v43_4 (t43_2 : List (List Int)), R.box b6_1 31 [v26_1, v26_2], R.box b1_1 25 [va0_0, va0_1], R.sl S22_1 v22_1 (t22_1 : List (Int)), R.sl S29_1 v29_1 (t29_1 : List (Int))]) [5, 6] [0, 1, 2, 3, 4, 7] rfl ok21 rfl rfl rfl rfl (fun w hw => laws_markWorlds.ok h48 w hl_v26_1 hl_v26_2 (Sep.sub hw))) ?_
          rintro _ _ ⟨_, ⟨rfl, hl_t48_2, hl_t48_3, rfl⟩, rfl⟩
          refine F.q rfl rfl rfl (wanted_none rfl) (r_assign rfl) ?_
          refine F.nil ?_
          refine Nrm.seq ?_
          refine Tri.seq ?_
          refine Tri.seq ?_
          obtain ⟨y61, hE_2, h⟩ := bind_some h
          refine Tri.cut (fun e' C' => e' = [(1, .pointer (some ⟨b1_1, 0, none⟩)), (4, v22_1), (5, .bool t22_2), (7, v29_1), (61, .bool y61)] ∧ C' = Sep w noM [R.box b1_1 25 [va0_0, va0_1], R.sl S22_1 v22_1 (t22_1 : List (Int)), R.sl S29_1 v29_1 (t29_1 : List (Int))]) ?_ (fun hj_2 => ?_)
          · rintro _ _ ⟨rfl, rfl⟩
            refine Nrm.seq ?_
            refine Tri.cond (b := y61) rfl (fun g_4 => ?_) (fun g_4 => ?_)
            · replace h := if_tt g_4 h
              refine Tri.seq ?_
              refine Tri.reg (l := [0]) rfl ?_
              refine F.q rfl rfl rfl (wanted_none rfl) (r_assign rfl) ?_
              refine F.nil ?_
              refine Nrm.seq ?_
              refine Tri.ret ?_
              refine Rtn.then ?_
              cases h
              exact Rtn.body (.tmp rfl .nil) (fun w hw => ⟨rfl, hw.ext⟩)
            · replace h := if_ff g_4 h
              refine Tri.skip ?_
              refine Nrm.seq ?_
              refine Tri.seq ?_
              refine Tri.reg (l := [0]) rfl ?_
              refine F.q rfl rfl rfl (wanted_none rfl) (r_assign rfl) ?_
              refine F.nil ?_
              refine Nrm.seq ?_
              refine Tri.seq ?_
              obtain ⟨⟨t64_1, t64_2⟩, h64, h⟩ := bind_some h
              refine Tri.reg (l := [0, 1, 2, 3]) rfl ?_
              refine F.q rfl rfl rfl (wanted_none rfl) (r_move rfl) ?_
              refine F.q rfl rfl rfl (wanted_none rfl) (r_move rfl) ?_
              refine F.ef rfl rfl rfl (wanted_none rfl) (d_callM (xs := _) (cs := [R.sl S29_1 v29_1 (t29_1 : List (Int))]) (rest := [R.box b1_1 25 [va0_0, va0_1], R.sl S22_1 v22_1 (t22_1 : List (Int))]) [2] [0, 1] rfl ok27 rfl rfl rfl rfl (fun w hw => laws_markIntS.ok h64 w hl_v29_1 (Sep.sub hw))) ?_
              rintro _ _ ⟨_, ⟨rfl, hl_t64_2, rfl⟩, rfl⟩
              refine F.q rfl rfl rfl (wanted_none rfl) (r_assign rfl) ?_
              refine F.nil ?_
              refine Nrm.seq ?_
              refine Tri.seq ?_
              refine Tri.reg (l := [0]) rfl ?_
              refine F.q rfl rfl rfl (wanted_none rfl) (r_assign rfl) ?_
              refine F.nil ?_
              refine Nrm.seq ?_
              refine Tri.seq ?_
              obtain ⟨t67, h67, h⟩ := bind_some h
              refine Tri.reg (l := [0, 1, 2, 3]) rfl ?_
              refine F.q rfl rfl rfl (wanted_none rfl) (r_move rfl) ?_
              refine F.q rfl rfl rfl (wanted_none rfl) (r_move rfl) ?_
              refine F.qc rfl rfl rfl (wanted_none rfl) (q_callF (xs := _) rfl ok28 rfl rfl (fun w hw => laws_heldIntS.ok h67 w ((rd_sl (i := 0) rfl) w hw))) ?_
              refine F.q rfl rfl rfl (wanted_none rfl) (r_assign rfl) ?_
              refine F.nil ?_
              refine Nrm.seq ?_
              refine Tri.seq ?_
              refine Tri.seq ?_
              refine Tri.reg (l := [0, 1]) rfl ?_
              refine F.q rfl rfl rfl (wanted_none rfl) (r_move rfl) ?_
              refine F.q rfl rfl rfl (wanted_none rfl) (r_lss rfl rfl) ?_
              refine F.nil ?_
              refine Nrm.seq ?_
              refine Tri.cond (b := decide (t67 < 0)) rfl (fun g_5 => ?_) (fun g_5 => ?_)
              · replace h := if_tt g_5 h
                refine Tri.seq ?_
                refine Tri.reg (l := [0]) rfl ?_
                refine F.q rfl rfl rfl (wanted_none rfl) (r_assign rfl) ?_
                refine F.nil ?_
                refine Nrm.seq ?_
                refine Tri.ret ?_
                refine Rtn.then ?_
                cases h
                exact Rtn.body (.tmp rfl .nil) (fun w hw => ⟨rfl, hw.ext⟩)
              · replace h := if_ff g_5 h
                refine Tri.skip ?_
                refine Nrm.seq ?_
                refine Tri.seq ?_
                refine Tri.seq ?_
                refine Tri.reg (l := [0, 1, 2]) rfl ?_
                refine F.q rfl rfl rfl (wanted_none rfl) (r_move rfl) ?_
                refine F.q rfl rfl rfl (wanted_none rfl) (r_move rfl) ?_
                refine F.q rfl rfl rfl (wanted_none rfl) (r_neq rfl rfl) ?_
                refine F.nil ?_
                refine Nrm.seq ?_
                refine Tri.cond (b := t67 != t64_1) rfl (fun g_6 => ?_) (fun g_6 => ?_)
                · replace h := if_tt g_6 h
                  refine Tri.seq ?_
                  refine Tri.reg (l := [0]) rfl ?_
                  refine F.q rfl rfl rfl (wanted_none rfl) (r_assign rfl) ?_
                  refine F.nil ?_
                  refine Nrm.seq ?_
                  refine Tri.ret ?_
                  refine Rtn.then ?_
                  cases h
                  exact Rtn.body (.tmp rfl .nil) (fun w hw => ⟨rfl, hw.ext⟩)
                · replace h := if_ff g_6 h
                  refine Tri.skip ?_
                  refine Nrm.seq ?_
                  refine Tri.seq ?_
                  obtain ⟨⟨t75_1, t75_2⟩, h75, h⟩ := bind_some h
                  obtain ⟨⟨t76_1, t76_2⟩, h76, h⟩ := bind_some h
                  refine Tri.reg (l := [0, 1, 2, 3, 4, 5, 6, 7]) rfl ?_
                  refine F.q rfl rfl rfl (wanted_none rfl) (r_loadA ta25 ti25 rfl rfl (fun w hw => (box_cells (i := 1) rfl w hw))) ?_
                  refine F.m rfl rfl rfl (wanted_none rfl) (m_callF (xs := _) rfl ok17 rfl rfl (fun w hw => laws_toWorlds.ok h75 w ((fun _ hw => hr_a0_0.sep hw) w hw) ((fun _ hw => hr_a0_1.sep hw) w hw))) ?_
                  rintro _ _ ⟨_, ⟨v75_1, S75_1, v75_2, S75_2, rfl, hl_v75_1, hl_v75_2, rfl⟩, rfl⟩
                  refine F.m rfl rfl rfl (wanted_none rfl) (m_callF (xs := _) rfl ok25 rfl rfl (fun w hw => impl_ReleaseRounds.ok h76 w ((rd_sl (i := 0) rfl) w hw) ((rd_sl (i := 1) rfl) w hw))) ?_
                  rintro _ _ ⟨_, ⟨v76_1, S76_1, rfl, hl_v76_1, rfl⟩, rfl⟩
                  refine F.q rfl rfl rfl (wanted_none rfl) (r_move rfl) ?_
                  refine F.q rfl rfl rfl (wanted_none rfl) (r_extract rfl rfl) ?_
                  refine F.q rfl rfl rfl (wanted_none rfl) (r_extract rfl rfl) ?_
                  refine F.q rfl rfl rfl (wanted_none rfl) (r_assign rfl) ?_
                  refine F.q rfl rfl rfl (wanted_none rfl) (r_assign rfl) ?_
                  refine F.nil ?_
                  refine Nrm.seq ?_
                  refine Tri.seq ?_
                  refine Tri.seq ?_
                  obtain ⟨y87, hE_3, h⟩ := bind_some h
                  refine Tri.cut (fun e' C' => e' = [(7, v29_1), (10, .int .i64 t64_1), (87, .bool y87)] ∧ C' = Sep w noM [R.sl S29_1 v29_1 (t64_2 : List (Int))]) ?_ (fun hj_3 => ?_)
                  · rintro _ _ ⟨rfl, rfl⟩
                    refine Nrm.seq ?_
                    refine Tri.cond (b := y87) rfl (fun g_7 => ?_) (fun g_7 => ?_)
                    · replace h := if_tt g_7 h
                      refine Tri.seq ?_
                      refine Tri.reg (l := [0]) rfl ?_
                      refine F.q rfl rfl rfl (wanted_none rfl) (r_assign rfl) ?_
                      refine F.nil ?_
                      refine Nrm.seq ?_
                      refine Tri.ret ?_
                      refine Rtn.then ?_
                      cases h
                      exact Rtn.body (.tmp rfl .nil) (fun w hw => ⟨rfl, hw.ext⟩)
                    · replace h := if_ff g_7 h
                      refine Tri.skip ?_
                      refine Nrm.seq ?_
                      refine Tri.seq ?_
                      refine Tri.reg (l := [0]) rfl ?_
                      refine F.q rfl rfl rfl (wanted_none rfl) (r_assign rfl) ?_
                      refine F.nil ?_
                      refine Nrm.seq ?_
                      refine Tri.seq ?_
                      obtain ⟨t90, h90, h⟩ := bind_some h
                      refine Tri.reg (l := [0, 1, 2, 3]) rfl ?_
                      refine F.q rfl rfl rfl (wanted_none rfl) (r_move rfl) ?_
                      refine F.q rfl rfl rfl (wanted_none rfl) (r_move rfl) ?_
                      refine F.qc rfl rfl rfl (wanted_none rfl) (q_callF (xs := _) rfl ok28 rfl rfl (fun w hw => laws_heldIntS.ok h90 w ((rd_sl (i := 0) rfl) w hw))) ?_
                      refine F.q rfl rfl rfl (wanted_none rfl) (r_assign rfl) ?_
                      refine F.nil ?_
                      refine Nrm.seq ?_
                      refine Tri.seq ?_
                      refine Tri.seq ?_
                      refine Tri.reg (l := [0, 1]) rfl ?_
                      refine F.q rfl rfl rfl (wanted_none rfl) (r_move rfl) ?_
                      refine F.q rfl rfl rfl (wanted_none rfl) (r_lss rfl rfl) ?_
                      refine F.nil ?_
                      refine Nrm.seq ?_
                      refine Tri.cond (b := decide (t90 < 0)) rfl (fun g_8 => ?_) (fun g_8 => ?_)
                      · replace h := if_tt g_8 h
                        refine Tri.seq ?_
                        refine Tri.reg (l := [0]) rfl ?_
                        refine F.q rfl rfl rfl (wanted_none rfl) (r_assign rfl) ?_
                        refine F.nil ?_
                        refine Nrm.seq ?_
                        refine Tri.ret ?_
                        refine Rtn.then ?_
                        cases h
                        exact Rtn.body (.tmp rfl .nil) (fun w hw => ⟨rfl, hw.ext⟩)
                      · replace h := if_ff g_8 h
                        refine Tri.skip ?_
                        refine Nrm.seq ?_
                        refine Tri.seq ?_
                        refine Tri.seq ?_
                        refine Tri.reg (l := [0, 1, 2]) rfl ?_
                        refine F.q rfl rfl rfl (wanted_none rfl) (r_move rfl) ?_
                        refine F.q rfl rfl rfl (wanted_none rfl) (r_move rfl) ?_
                        refine F.q rfl rfl rfl (wanted_none rfl) (r_neq rfl rfl) ?_
                        refine F.nil ?_
                        refine Nrm.seq ?_
                        refine Tri.cond (b := t90 != t64_1) rfl (fun g_9 => ?_) (fun g_9 => ?_)
                        · replace h := if_tt g_9 h
                          refine Tri.seq ?_
                          refine Tri.reg (l := [0]) rfl ?_
                          refine F.q rfl rfl rfl (wanted_none rfl) (r_assign rfl) ?_
                          refine F.nil ?_
                          refine Nrm.seq ?_
                          refine Tri.ret ?_
                          refine Rtn.then ?_
                          cases h
                          exact Rtn.body (.tmp rfl .nil) (fun w hw => ⟨rfl, hw.ext⟩)
                        · replace h := if_ff g_9 h
                          refine Tri.skip ?_
                          refine Nrm.seq ?_
                          refine Tri.seq ?_
                          refine Tri.reg (l := [0]) rfl ?_
                          refine F.q rfl rfl rfl (wanted_none rfl) (r_assign rfl) ?_
                          refine F.nil ?_
                          refine Nrm.seq ?_
                          refine Tri.ret ?_
                          cases h
                          exact Rtn.body (.tmp rfl .nil) (fun w hw => ⟨rfl, hw.ext⟩)
                  · obtain ⟨t81, h81, hE_3⟩ := bind_some hE_3
                    rcases Bool.eq_false_or_eq_true (!t81) with g83 | g83
                    · replace hE_3 := if_tt g83 hE_3
                      refine Tri.reg (l := [0, 1, 2, 3, 4, 5, 6, 7, 8]) rfl ?_
                      refine F.q rfl rfl rfl (wanted_none rfl) (r_move rfl) ?_
                      refine F.q rfl rfl rfl (wanted_none rfl) (r_move rfl) ?_
                      refine F.qc rfl rfl rfl (wanted_none rfl) (q_callF (xs := _) rfl ok26 rfl rfl (fun w hw => laws_eqIntS.ok h81 w ((rd_sl (i := 0) rfl) w hw) ((rd_sl (i := 5) rfl) w hw))) ?_
                      refine F.q rfl rfl rfl (wanted_none rfl) (r_not rfl) ?_
                      refine F.q rfl rfl rfl (wanted_none rfl) (r_move rfl) ?_
                      refine F.sk rfl rfl rfl (wf rfl rfl rfl g83) ?_
                      refine F.sk rfl rfl rfl (wf rfl rfl rfl g83) ?_
                      refine F.sk rfl rfl rfl (wf rfl rfl rfl g83) ?_
                      refine F.q rfl rfl rfl (wanted_none rfl) (r_pick rfl rfl g83) ?_
                      refine F.nil ?_
                      cases hE_3
                      refine Nrm.only [7, 10, 87] rfl ?_
                      refine Nrm.pick [3] rfl rfl ?_
                      exact hj_3 _ _ ⟨rfl, rfl⟩
                    · replace hE_3 := if_ff g83 hE_3
                      refine Tri.reg (l := [0, 1, 2, 3, 4, 5, 6, 7, 8]) rfl ?_
                      refine F.q rfl rfl rfl (wanted_none rfl) (r_move rfl) ?_
                      refine F.q rfl rfl rfl (wanted_none rfl) (r_move rfl) ?_
                      refine F.qc rfl rfl rfl (wanted_none rfl) (q_callF (xs := _) rfl ok26 rfl rfl (fun w hw => laws_eqIntS.ok h81 w ((rd_sl (i := 0) rfl) w hw) ((rd_sl (i := 5) rfl) w hw))) ?_
                      refine F.q rfl rfl rfl (wanted_none rfl) (r_not rfl) ?_
                      refine F.q rfl rfl rfl (wanted_none rfl) (r_move rfl) ?_
                      refine F.q rfl rfl rfl (wg rfl rfl rfl g83) (r_move rfl) ?_
                      refine F.q rfl rfl rfl (wg rfl rfl rfl g83) (r_move rfl) ?_
                      refine F.q rfl rfl rfl (wg rfl rfl rfl g83) (r_neqB Try.underlying4 rfl rfl) ?_
                      refine F.q rfl rfl rfl (wanted_none rfl) (r_pickf rfl rfl g83) ?_
                      refine F.nil ?_
                      cases hE_3
                      refine Nrm.only [7, 10, 87] rfl ?_
                      refine Nrm.pick [3] rfl rfl ?_
                      exact hj_3 _ _ ⟨rfl, rfl⟩
          · rcases Bool.eq_false_or_eq_true (decide (t48_1 < 0)) with g51 | g51
            · replace hE_2 := if_tt g51 hE_2
              refine Tri.reg (l := [0, 1, 2, 3, 4, 5, 6, 7, 8, 9, 10, 11, 12]) rfl ?_
              refine F.q rfl rfl rfl (wanted_none rfl) (r_move rfl) ?_
              refine F.q rfl rfl rfl (wanted_none rfl) (r_lss rfl rfl) ?_
              refine F.q rfl rfl rfl (wanted_none rfl) (r_move rfl) ?_
              refine F.sk rfl rfl rfl (wf rfl rfl rfl g51) ?_
              refine F.sk rfl rfl rfl (wf rfl rfl rfl g51) ?_
              refine F.sk rfl rfl rfl (wf rfl rfl rfl g51) ?_
              refine F.sk rfl rfl rfl (wf rfl rfl rfl g51) ?_
              refine F.q rfl rfl rfl (wanted_none rfl) (r_pick rfl rfl g51) ?_
              refine F.q rfl rfl rfl (wanted_none rfl) (r_move rfl) ?_
              refine F.sk rfl rfl rfl (wf rfl rfl rfl rfl) ?_
              refine F.sk rfl rfl rfl (wf rfl rfl rfl rfl) ?_
              refine F.sk rfl rfl rfl (wf rfl rfl rfl rfl) ?_
              refine F.q rfl rfl rfl (wanted_none rfl) (r_pick rfl rfl rfl) ?_
              refine F.nil ?_
              cases hE_2
              refine Nrm.only [1, 4, 5, 7, 61] rfl ?_
              refine Nrm.pick [5, 6, 7] rfl rfl ?_
              exact hj_2 _ _ ⟨rfl, rfl⟩
            · replace hE_2 := if_ff g51 hE_2
              obtain ⟨t54, h54, hE_2⟩ := bind_some hE_2
              rcases Bool.eq_false_or_eq_true (!t54) with g57 | g57
              · replace hE_2 := if_tt g57 hE_2
                refine Tri.reg (l := [0, 1, 2, 3, 4, 5, 6, 7, 8, 9, 10, 11, 12]) rfl ?_
                refine F.q rfl rfl rfl (wanted_none rfl) (r_move rfl) ?_
                refine F.q rfl rfl rfl (wanted_none rfl) (r_lss rfl rfl) ?_
                refine F.q rfl rfl rfl (wanted_none rfl) (r_move rfl) ?_
                refine F.q rfl rfl rfl (wg rfl rfl rfl g51) (r_move rfl) ?_
                refine F.q rfl rfl rfl (wg rfl rfl rfl g51) (r_move rfl) ?_
                refine F.qc rfl rfl rfl (wg rfl rfl rfl g51) (q_callF (xs := _) rfl ok26 rfl rfl (fun w hw => laws_eqIntS.ok h54 w ((rd_sl (i := 7) rfl) w hw) ((rd_sl (i := 6) rfl) w hw))) ?_
                refine F.q rfl rfl rfl (wg rfl rfl rfl g51) (r_not rfl) ?_
                refine F.q rfl rfl rfl (wanted_none rfl) (r_pickf rfl rfl g51) ?_
                refine F.q rfl rfl rfl (wanted_none rfl) (r_move rfl) ?_
                refine F.sk rfl rfl rfl (wf rfl rfl rfl g57) ?_
                refine F.sk rfl rfl rfl (wf rfl rfl rfl g57) ?_
                refine F.sk rfl rfl rfl (wf rfl rfl rfl g57) ?_
                refine F.q rfl rfl rfl (wanted_none rfl) (r_pick rfl rfl g57) ?_
                refine F.nil ?_
                cases hE_2
                refine Nrm.only [1, 4, 5, 7, 61] rfl ?_
                refine Nrm.pick [5, 6, 7] rfl rfl ?_
                exact hj_2 _ _ ⟨rfl, rfl⟩
              · replace hE_2 := if_ff g57 hE_2
                refine Tri.reg (l := [0, 1, 2, 3, 4, 5, 6, 7, 8, 9, 10, 11, 12]) rfl ?_
                refine F.q rfl rfl rfl (wanted_none rfl) (r_move rfl) ?_
                refine F.q rfl rfl rfl (wanted_none rfl) (r_lss rfl rfl) ?_
                refine F.q rfl rfl rfl (wanted_none rfl) (r_move rfl) ?_
                refine F.q rfl rfl rfl (wg rfl rfl rfl g51) (r_move rfl) ?_
                refine F.q rfl rfl rfl (wg rfl rfl rfl g51) (r_move rfl) ?_
                refine F.qc rfl rfl rfl (wg rfl rfl rfl g51) (q_callF (xs := _) rfl ok26 rfl rfl (fun w hw => laws_eqIntS.ok h54 w ((rd_sl (i := 7) rfl) w hw) ((rd_sl (i := 6) rfl) w hw))) ?_
                refine F.q rfl rfl rfl (wg rfl rfl rfl g51) (r_not rfl) ?_
                refine F.q rfl rfl rfl (wanted_none rfl) (r_pickf rfl rfl g51) ?_
                refine F.q rfl rfl rfl (wanted_none rfl) (r_move rfl) ?_
                refine F.q rfl rfl rfl (wg rfl rfl rfl g57) (r_move rfl) ?_
                refine F.q rfl rfl rfl (wg rfl rfl rfl g57) (r_move rfl) ?_
                refine F.q rfl rfl rfl (wg rfl rfl rfl g57) (r_neqB Try.underlying4 rfl rfl) ?_
                refine F.q rfl rfl rfl (wanted_none rfl) (r_pickf rfl rfl g57) ?_
                refine F.nil ?_
                cases hE_2
                refine Nrm.only [1, 4, 5, 7, 61] rfl ?_
                refine Nrm.pick [5, 6, 7] rfl rfl ?_
                exact hj_2 _ _ ⟨rfl, rfl⟩
    · obtain ⟨t34, h34, hE_1⟩ := bind_some hE_1
      rcases Bool.eq_false_or_eq_true (!t34) with g36 | g36
      · replace hE_1 := if_tt g36 hE_1
        refine Tri.reg (l := [0, 1, 2, 3, 4, 5, 6, 7, 8]) rfl ?_
        refine F.q rfl rfl rfl (wanted_none rfl) (r_move rfl) ?_
        refine F.q rfl rfl rfl (wanted_none rfl) (r_move rfl) ?_
        refine F.qc rfl rfl rfl (wanted_none rfl) (q_callF (xs := _) rfl ok26 rfl rfl (fun w hw => laws_eqIntS.ok h34 w ((rd_sl (i := 0) rfl) w hw) ((rd_sl (i := 4) rfl) w hw))) ?_
        refine F.q rfl rfl rfl (wanted_none rfl) (r_not rfl) ?_
        refine F.q rfl rfl rfl (wanted_none rfl) (r_move rfl) ?_
        refine F.sk rfl rfl rfl (wf rfl rfl rfl g36) ?_
        refine F.sk rfl rfl rfl (wf rfl rfl rfl g36) ?_
        refine F.sk rfl rfl rfl (wf rfl rfl rfl g36) ?_
        refine F.q rfl rfl rfl (wanted_none rfl) (r_pick rfl rfl g36) ?_
        refine F.nil ?_
        cases hE_1
        refine Nrm.only [1, 4, 5, 6, 7, 8, 40] rfl ?_
        refine Nrm.pick [1, 7, 4, 2, 3, 0] rfl rfl ?_
        exact hj_1 _ _ ⟨rfl, rfl⟩
      · replace hE_1 := if_ff g36 hE_1
        refine Tri.reg (l := [0, 1, 2, 3, 4, 5, 6, 7, 8]) rfl ?_
        refine F.q rfl rfl rfl (wanted_none rfl) (r_move rfl) ?_
        refine F.q rfl rfl rfl (wanted_none rfl) (r_move rfl) ?_
        refine F.qc rfl rfl rfl (wanted_none rfl) (q_callF (xs := _) rfl ok26 rfl rfl (fun w hw => laws_eqIntS.ok h34 w ((rd_sl (i := 0) rfl) w hw) ((rd_sl (i := 4) rfl) w hw))) ?_
        refine F.q rfl rfl rfl (wanted_none rfl) (r_not rfl) ?_
        refine F.q rfl rfl rfl (wanted_none rfl) (r_move rfl) ?_
        refine F.q rfl rfl rfl (wg rfl rfl rfl g36) (r_move rfl) ?_
        refine F.q rfl rfl rfl (wg rfl rfl rfl g36) (r_move rfl) ?_
        refine F.q rfl rfl rfl (wg rfl rfl rfl g36) (r_neqB Try.underlying4 rfl rfl) ?_
        refine F.q rfl rfl rfl (wanted_none rfl) (r_pickf rfl rfl g36) ?_
        refine F.nil ?_
        cases hE_1
        refine Nrm.only [1, 4, 5, 6, 7, 8, 40] rfl ?_
        refine Nrm.pick [1, 7, 4, 2, 3, 0] rfl rfl ?_
        exact hj_1 _ _ ⟨rfl, rfl⟩

end Go.Proofs
