/- A part of the proof of FnExactLeansOn: what the functions of the program compute, walked on the model. No condition. -/
import Derived.Test.YtnmmbpaedkofeaaFnExactLeansOnB
import Derived.Test.YtnmmbpaedkofeaaFnExactLeansOnC
import Derived.Test.YtnmmbpaedkofeaaFnExactLeansOnF
set_option linter.unusedSimpArgs false
/- loop.example/g01158/impl.play -/
namespace Go.Proofs
open Go Go.Ga
set_option linter.unusedVariables false
set_option maxRecDepth 100000
set_option maxHeartbeats 4000000
def impl_play.l4 (k : Nat) (a0_1 : List (List Int)) (x47 : Int) (t50 : Int × List (Int × Int × Int) × List Int) (t96 : List Int) : Nat → (List (Int)) → Int → Option ((List (Int)))
  | 0, _, _ => none
  | n + 1, x10r, x98 => (if (decide (x98 < (t96.length : Int))) = true then (rdl t96 x98).bind fun t100 => (rdl a0_1 x47).bind fun t106 => (rdl t106 t100).bind fun t109 => (rdl x10r t109).bind fun t111 => (rdl t50.2.2 t100).bind fun t116 => (rdl x10r t109).bind fun t119 => impl_play.l4 k a0_1 x47 t50 t96 n (x10r.set t109.toNat (bor t111 t116)) (w64 (x98 + 1)) else some x10r)

def impl_play.l3 (k : Nat) (x9 : Int) (x47 : Int) (t59 : List Int) : Nat → Int → (List (List Int)) → Option ((List (List Int)))
  | 0, _, _ => none
  | n + 1, x61, xq5_2_1rrr => (if (decide (x61 < (t59.length : Int))) = true then (rdl t59 x61).bind fun t63 => (rdl (xq5_2_1rrr : List (List Int)) x47).bind fun t68 => (rdl t68 t63).bind fun t71 => ((if (decide (t71 < 0)) = true then (rdl ((xq5_2_1rrr : List (List Int)).set (x47).toNat t68 : List (List Int)) x47).bind fun t77 => (rdl t77 t63).bind fun t81 => some (((xq5_2_1rrr : List (List Int)).set (x47).toNat t68 : List (List Int)).set (x47).toNat (t77.set t63.toNat x9)) else some ((xq5_2_1rrr : List (List Int)).set (x47).toNat t68))).bind fun yb5_2_1 => impl_play.l3 k x9 x47 t59 n (w64 (x61 + 1)) yb5_2_1 else some xq5_2_1rrr)

def impl_play.l2 (k : Nat) (a0_0 : List (Int × List (Int × Int × Int) × List Int)) (a0_1 : List (List Int)) (a1 : Bool) (x6 : List (Int)) (x9 : Int) : Nat → (List (Int)) → Int → (List (List Int)) → Option ((List (List Int)) × (List (Int)))
  | 0, _, _, _ => none
  | n + 1, x10, x47, xq5_2_1rr => (if (decide (x47 < (a0_0.length : Int))) = true then (rdl a0_0 x47).bind fun t50 => (rdl x6 x47).bind fun t55 => (impl_reach.f k t50.1 t50.2.1 t50.2.2 0 t55).bind fun t57 => (impl_members.f k t57).bind fun t59 => (impl_play.l3 k x9 x47 t59 k 0 xq5_2_1rr).bind fun xq5_2_1rrr => ((if a1 = true then if ¬ (w64 (t50.1 - 1)) < 0 then some ((band (shr t57 (w64 (t50.1 - 1))) 1) == 1) else none else some false)).bind fun y92 => ((if y92 = true then (impl_allNodes.f k t50.1 t50.2.1 t50.2.2).bind fun t94 => some t94 else some t57)).bind fun y13 => (impl_members.f k y13).bind fun t96 => (impl_play.l4 k a0_1 x47 t50 t96 k x10 0).bind fun x10r => impl_play.l2 k a0_0 a0_1 a1 x6 x9 n x10r (w64 (x47 + 1)) xq5_2_1rrr else some (xq5_2_1rr, x10))

def impl_play.l1 (k : Nat) (a0_0 : List (Int × List (Int × Int × Int) × List Int)) (a0_1 : List (List Int)) (a1 : Bool) : Nat → (List (Int)) → Int → (List (List Int)) → (List (List Int)) → Option ((Unit) ⊕ ((List (List Int)) × (List (List Int))))
  | 0, _, _, _, _ => none
  | n + 1, x6, x9, xq5_2_0, xq5_2_1r => (slices_Clone_int_int.f k x6).bind fun t43 => (impl_play.l2 k a0_0 a0_1 a1 x6 x9 k t43 0 xq5_2_1r).bind fun (xq5_2_1rr, x10) => (slices_Clone_int_int.f k x6).bind fun t125 => if ((xq5_2_0 : List (List Int)) ++ ([t125] : List (List Int))).length < 1099511627776 then (slices_Equal_int_int.f k x10 x6).bind fun t131 => (if t131 = true then some (Sum.inr ((xq5_2_0 : List (List Int)) ++ ([t125] : List (List Int)), xq5_2_1rr)) else impl_play.l1 k a0_0 a0_1 a1 n x10 (w64 (x9 + 1)) ((xq5_2_0 : List (List Int)) ++ ([t125] : List (List Int))) xq5_2_1rr) else none

def impl_play.l0 (k : Nat) (a0_0 : List (Int × List (Int × Int × Int) × List Int)) : Nat → Int → (List (List Int)) → Option ((List (List Int)))
  | 0, _, _ => none
  | n + 1, x26, xq5_2_1 => (if (decide (x26 < (a0_0.length : Int))) = true then (rdl a0_0 x26).bind fun t28 => (slices_Repeat_int_int.f k ([(-1)] : List (Int)) t28.1).bind fun t35 => if ((xq5_2_1 : List (List Int)) ++ ([t35] : List (List Int))).length < 1099511627776 then impl_play.l0 k a0_0 n (w64 (x26 + 1)) ((xq5_2_1 : List (List Int)) ++ ([t35] : List (List Int))) else none else some xq5_2_1)

def impl_play.f (k : Nat) (a0_0 : List (Int × List (Int × Int × Int) × List Int)) (a0_1 : List (List Int)) (a1 : Bool) : Option ((List (List Int)) × (List (List Int))) := (if 0 ≤ (a0_0.length : Int) ∧ (a0_0.length : Int) < 1099511627776 then some (List.replicate ((a0_0.length : Int)).toNat (0 : Int)) else none).bind fun y6 => (impl_play.l0 k a0_0 k 0 ([] : List (List Int))).bind fun xq5_2_1 => (impl_play.l1 k a0_0 a0_1 a1 k y6 0 ([] : List (List Int)) xq5_2_1).bind fun s => Lr s some fun _ => none

theorem impl_play.ok {k : Nat}  {a0_0 : List (Int × List (Int × Int × Int) × List Int)} {a0_1 : List (List Int)} {a1 : Bool} {r0 : List (List Int)} {r1 : List (List Int)} (h : impl_play.f k a0_0 a0_1 a1 = some (r0, r1)) (w : World) {va0_0 : Value} {va0_1 : Value} (hr_a0_0 : Rd w va0_0 a0_0) (hr_a0_1 : Rd w va0_1 a0_1) :
    Calls Try.prog 66 ([.agg ([va0_0, va0_1].toArray), .bool a1] : List Value).toArray w (Post (fun u ns => ∃ (ur0 : Value) (Sr0 : Nat → Prop) (ur1 : Value) (Sr1 : Nat → Prop), u = .agg [ur0, ur1].toArray ∧ SlLen ur0 r0.length ∧ SlLen ur1 r1.length ∧ ns = [R.sl Sr0 ur0 r0, R.sl Sr1 ur1 r1]) w) := by
  unfold impl_play.f at h
  have hl_va0_0 := hr_a0_0.len
  have hl_va0_1 := hr_a0_1.len
  refine Calls.of_tri (N := 134) Try.func66 rfl rfl rfl (Sep.nil (M := noM)) ?_
  refine Tri.seq ?_
  refine Tri.reg (l := [0, 1]) rfl ?_
  refine F.m rfl rfl rfl (wanted_none rfl) (m_boxG rfl rfl) ?_
  rintro _ _ ⟨b2_1, rfl, rfl⟩
  refine F.m rfl rfl rfl (wanted_none rfl) (m_alloc ti88) ?_
  rintro _ _ ⟨b4_1, rfl, rfl⟩
  refine F.nil ?_
  refine Nrm.seq ?_
  refine Tri.seq ?_
  obtain ⟨y6, hE_1, h⟩ := bind_some h
  refine Tri.cut (fun e' C' => ∃ (v6_1 : Value) (S6_1 : Nat → Prop) (b5_2 : Nat), SlLen v6_1 (y6).length ∧ e' = [(1, .bool a1), (2, .pointer (some ⟨b2_1, 0, none⟩)), (4, .pointer (some ⟨b4_1, 0, none⟩)), (5, .pointer (some ⟨b5_2, 0, none⟩)), (6, v6_1)] ∧ C' = Sep w noM [R.box b4_1 88 [.slice none 0 0, .slice none 0 0], R.box b2_1 31 [va0_0, va0_1], R.box b5_2 88 [.slice none 0 0, .slice none 0 0], R.sl S6_1 v6_1 (y6 : List (Int))]) ?_ (fun hj_1 => ?_)
  · rintro _ _ ⟨v6_1, S6_1, b5_2, hl_v6_1, rfl, rfl⟩
    refine Nrm.seq ?_
    refine Tri.seq ?_
    refine Tri.seq ?_
    refine Tri.reg (l := [0, 1, 2, 3]) rfl ?_
    refine F.q rfl rfl rfl (wanted_none rfl) (r_fieldAddr tf31_0 rfl) ?_
    refine F.q rfl rfl rfl (wanted_none rfl) (r_load ta29 rfl (fun w hw => cell_1 (box_cells (i := 1) rfl w hw) rfl)) ?_
    refine F.q rfl rfl rfl (wanted_none rfl) (r_len Try.underlying29 rfl hl_va0_0) ?_
    refine F.q rfl rfl rfl (wanted_none rfl) (r_move rfl) ?_
    refine F.nil ?_
    refine Nrm.seq ?_
    obtain ⟨xq5_2_1, hE_2, h⟩ := bind_some h
    refine Tri.imp (fun w hw => hw.pushNil (α := List Int)) ?_
    refine Tri.block ?_
    refine Tri.only [1, 2, 4, 5, 6, 24, 25, 26] rfl ?_
    refine Tri.pick [1, 2, 3, 0, 4] rfl rfl ?_
    refine Tri.rounds (fun n e' C' => ∃ (x26' : Int) (xq5_2_1' : List (List Int)) (wq5_2_1 : Value) (Tq5_2_1 : Nat → Prop), impl_play.l0 k a0_0 n x26' xq5_2_1' = some xq5_2_1 ∧ SlLen wq5_2_1 (xq5_2_1').length ∧ e' = [(1, .bool a1), (2, .pointer (some ⟨b2_1, 0, none⟩)), (4, .pointer (some ⟨b4_1, 0, none⟩)), (5, .pointer (some ⟨b5_2, 0, none⟩)), (6, v6_1), (24, va0_0), (25, .int .i64 (a0_0.length : Int)), (26, .int .i64 x26')] ∧ C' = Sep w noM [R.box b4_1 88 [.slice none 0 0, .slice none 0 0], R.box b2_1 31 [va0_0, va0_1], R.box b5_2 88 [.slice none 0 0, wq5_2_1], R.sl Tq5_2_1 wq5_2_1 (xq5_2_1' : List (List Int)), R.sl S6_1 v6_1 (y6 : List (Int))]) k ?_ ?_ ?_
    · exact ⟨0, ([] : List (List Int)), (nilv 0), (fun _ => False), hE_2, len_nil, rfl, rfl⟩
    · rintro _ _ ⟨_, _, _, _, hE_2, _⟩
      rw [impl_play.l0.eq_1] at hE_2; cases hE_2
    · rintro n_1 _ _ ⟨x26, xq5_2_1, wq5_2_1, Tq5_2_1, hE_2, hl_wq5_2_1, rfl, rfl⟩ ih_1
      rw [impl_play.l0.eq_2] at hE_2
      refine Tri.seq ?_
      refine Tri.reg (l := [0]) rfl ?_
      refine F.q rfl rfl rfl (wanted_none rfl) (r_lss rfl rfl) ?_
      refine F.nil ?_
      refine Nrm.seq ?_
      refine Tri.seq ?_
      refine Tri.cond (b := decide (x26 < (a0_0.length : Int))) rfl (fun g_1 => ?_) (fun g_1 => ?_)
      · replace hE_2 := if_tt g_1 hE_2
        refine Tri.skip ?_
        refine Nrm.seq ?_
        refine Tri.seq ?_
        refine Tri.block ?_
        refine Tri.seq ?_
        obtain ⟨t28, h28, hE_2⟩ := bind_some hE_2
        obtain ⟨_, hc28, hp28⟩ := Rd.elem hr_a0_0 (rdl_some h28).2.2
        obtain ⟨v28_1, v28_2, rfl, hr_v28_1, hr_v28_2⟩ := op55 hp28
        have hl_v28_1 := hr_v28_1.len
        have hl_v28_2 := hr_v28_2.len
        refine Tri.reg (l := [0, 1, 2, 3]) rfl ?_
        refine F.q rfl rfl rfl (wanted_none rfl) (r_indexAddrS Try.underlying29 ti55 rfl hl_va0_0 rfl (rdl_some h28).1 (rdl_some h28).2.1) ?_
        refine F.q rfl rfl rfl (wanted_none rfl) (r_loadA ta55 ti55 rfl rfl (fun w hw => (hc28.sep hw))) ?_
        refine F.m rfl rfl rfl (wanted_none rfl) (m_alloc ti55) ?_
        rintro _ _ ⟨b8_1, rfl, rfl⟩
        refine F.ef0 rfl rfl (wanted_none rfl) (d_storeG0 (i := 0) (cs2 := [.int .i64 t28.1, v28_1, v28_2]) ti55 rfl rfl rfl rfl rfl (Nat.le_of_ble_eq_true rfl) (lf_cons rfl (lf_cons (sl_leaf hl_v28_1) (lf_cons (sl_leaf hl_v28_2) lf_nil)))) ?_
        rintro _ _ ⟨rfl, rfl⟩
        refine F.nil ?_
        refine Nrm.seq ?_
        obtain ⟨t35, h35, hE_2⟩ := bind_some hE_2
        obtain ⟨hs37, hE_2⟩ := ck hE_2
        refine Tri.drawB mixedT Sep.up [(0, true), (1, true), (3, true), (4, true), (2, false), (5, false), (6, false)] [7, 8, 9] (by kernel_rfl) ?_
        refine B.q rfl rfl rfl (wanted_none rfl) (r_fieldAddr tf88_1 rfl) ?_
        refine B.q rfl rfl rfl (wanted_none rfl) (r_load ta23 rfl (fun w hw => cell_1 (box_cells (i := 3) rfl w hw) rfl)) ?_
        refine B.q rfl rfl rfl (wanted_none rfl) (r_fieldAddr tf55_0 rfl) ?_
        refine B.q rfl rfl rfl (wanted_none rfl) (r_load ta3 rfl (fun w hw => cell_1 (box_cells (i := 0) rfl w hw) rfl)) ?_
        refine B.ef rfl rfl rfl (wanted_none rfl) (Makes.does (m_buildF (l := ([(-1)] : List (Int))) Try.underlying38 ti3 rfl rfl rfl rfl rfl)) (by rintro v32_2 _ ⟨S32_2, hl_v32_2, rfl⟩; exact upd rfl [1, 2, 3, 4, 5, 6] rfl rfl) ?_
        rintro v32_2 _ ⟨S32_2, hl_v32_2, rfl⟩
        refine B.ef rfl rfl rfl (wanted_none rfl) (Makes.does (m_callF (xs := _) rfl ok124 rfl rfl (fun w hw => slices_Repeat_int_int.ok h35 w ((rd_sl (i := 0) rfl) w hw)))) (by rintro v35_2 _ ⟨_, ⟨S35_2, hl_v35_2, rfl⟩, rfl⟩; exact upd rfl [2, 3, 4, 5, 6, 7] rfl rfl) ?_
        rintro v35_2 _ ⟨_, ⟨S35_2, hl_v35_2, rfl⟩, rfl⟩
        refine B.ef rfl rfl rfl (wanted_none rfl) (d_build1 (cells := [v35_2]) (x0 := (t35 : List Int)) (cs := [R.sl S35_2 v35_2 (t35 : List (Int))]) (rest := [R.sl S32_2 v32_2 (([(-1)] : List (Int)) : List (Int)), R.box b8_1 55 [.int .i64 t28.1, v28_1, v28_2], R.box b4_1 88 [.slice none 0 0, .slice none 0 0], R.box b2_1 31 [va0_0, va0_1], R.box b5_2 88 [.slice none 0 0, wq5_2_1], R.sl Tq5_2_1 wq5_2_1 (xq5_2_1 : List (List Int)), R.sl S6_1 v6_1 (y6 : List (Int))]) [0] [1, 2, 3, 4, 5, 6, 7] Try.underlying23 ti38 rfl (sl_cells hl_v35_2) rfl (lf_cons (sl_leaf hl_v35_2) lf_nil) rfl rfl (jn_sl (S := S35_2) (v := v35_2) (l := (t35 : List (Int))))) (by rintro v36_2 _ ⟨S36_2, hl_v36_2, rfl⟩; exact upd rfl [2, 3, 4, 5, 6, 7] rfl rfl) ?_
        rintro v36_2 _ ⟨S36_2, hl_v36_2, rfl⟩
        refine B.nil ?_
        refine F.ef rfl rfl rfl (wanted_none rfl) (d_appendN (rest := [R.sl S32_2 v32_2 (([(-1)] : List (Int)) : List (Int)), R.box b8_1 55 [.int .i64 t28.1, v28_1, v28_2], R.box b4_1 88 [.slice none 0 0, .slice none 0 0], R.box b2_1 31 [va0_0, va0_1], R.box b5_2 88 [.slice none 0 0, wq5_2_1], R.sl S6_1 v6_1 (y6 : List (Int))]) 6 0 [1, 2, 3, 4, 5, 7] Try.underlying23 Try.underlying23 ti38 rfl (by decide) rfl rfl rfl rfl hs37) ?_
        rintro v37_2 _ ⟨S37_2, hl_v37_2, rfl⟩
        refine F.q rfl rfl rfl (wanted_none rfl) (r_fieldAddr tf88_1 rfl) ?_
        refine F.ef0 rfl rfl (wanted_none rfl) (d_storeG1 (i := 5) (cs2 := [v37_2]) ti23 rfl rfl rfl (sl_cells hl_v37_2) rfl (Nat.le_of_ble_eq_true rfl) (lf_cons (sl_leaf hl_v37_2) lf_nil)) ?_
        rintro _ _ ⟨rfl, rfl⟩
        refine F.nil ?_
        refine Nrm.block ?_
        refine Nrm.seq ?_
        refine Tri.reg (l := [0, 1]) rfl ?_
        refine F.q rfl rfl rfl (wanted_none rfl) (r_add rfl rfl) ?_
        refine F.q rfl rfl rfl (wanted_none rfl) (r_move rfl) ?_
        refine F.nil ?_
        refine Nrm.round ?_
        refine Rnd.only [1, 2, 4, 5, 6, 24, 25, 26] rfl ?_
        refine Rnd.pick [3, 4, 5, 0, 6] rfl rfl ?_
        exact ih_1 _ _ ⟨w64 (x26 + 1), (xq5_2_1 : List (List Int)) ++ ([t35] : List (List Int)), v37_2, S37_2, hE_2, hl_v37_2, rfl, rfl⟩
      · replace hE_2 := if_ff g_1 hE_2
        refine Tri.exit ?_
        refine Exi.then ?_
        refine Exi.then ?_
        refine Exi.same ?_
        cases hE_2
        refine Nrm.seq ?_
        refine Tri.seq ?_
        refine Tri.reg (l := [0]) rfl ?_
        refine F.q rfl rfl rfl (wanted_none rfl) (r_assign rfl) ?_
        refine F.nil ?_
        refine Nrm.seq ?_
        obtain ⟨s1, hE_3, h⟩ := bind_some h
        refine Tri.imp (fun w hw => hw.pushNil (α := List Int)) ?_
        refine Tri.block ?_
        refine Tri.only [1, 2, 4, 5, 6, 9] rfl ?_
        refine Tri.pick [1, 2, 3, 0, 4, 5] rfl rfl ?_
        refine Tri.rounds (fun n e' C' => ∃ (x6' : List (Int)) (x9' : Int) (xq5_2_0' : List (List Int)) (xq5_2_1r' : List (List Int)) (w6 : Value) (T6 : Nat → Prop) (wq5_2_0 : Value) (Tq5_2_0 : Nat → Prop) (wq5_2_1r : Value) (Tq5_2_1r : Nat → Prop), impl_play.l1 k a0_0 a0_1 a1 n x6' x9' xq5_2_0' xq5_2_1r' = some s1 ∧ SlLen w6 (x6').length ∧ SlLen wq5_2_0 (xq5_2_0').length ∧ SlLen wq5_2_1r (xq5_2_1r').length ∧ e' = [(1, .bool a1), (2, .pointer (some ⟨b2_1, 0, none⟩)), (4, .pointer (some ⟨b4_1, 0, none⟩)), (5, .pointer (some ⟨b5_2, 0, none⟩)), (6, w6), (9, .int .i64 x9')] ∧ C' = Sep w noM [R.box b4_1 88 [.slice none 0 0, .slice none 0 0], R.box b2_1 31 [va0_0, va0_1], R.box b5_2 88 [wq5_2_0, wq5_2_1r], R.sl Tq5_2_0 wq5_2_0 (xq5_2_0' : List (List Int)), R.sl Tq5_2_1r wq5_2_1r (xq5_2_1r' : List (List Int)), R.sl T6 w6 (x6' : List (Int))]) k ?_ ?_ ?_
        · exact ⟨y6, 0, ([] : List (List Int)), xq5_2_1, v6_1, S6_1, (nilv 1), (fun _ => False), wq5_2_1, Tq5_2_1, hE_3, hl_v6_1, len_nil, hl_wq5_2_1, rfl, rfl⟩
        · rintro _ _ ⟨_, _, _, _, _, _, _, _, _, _, hE_3, _⟩
          rw [impl_play.l1.eq_1] at hE_3; cases hE_3
        · rintro n_2 _ _ ⟨x6, x9, xq5_2_0, xq5_2_1r, w6, T6, wq5_2_0, Tq5_2_0, wq5_2_1r, Tq5_2_1r, hE_3, hl_w6, hl_wq5_2_0, hl_wq5_2_1r, rfl, rfl⟩ ih_2
          rw [impl_play.l1.eq_2] at hE_3
          refine Tri.seq ?_
          refine Tri.block ?_
          refine Tri.seq ?_
          obtain ⟨t43, h43, hE_3⟩ := bind_some hE_3
          refine Tri.reg (l := [0, 1, 2]) rfl ?_
          refine F.q rfl rfl rfl (wanted_none rfl) (r_move rfl) ?_
          refine F.m rfl rfl rfl (wanted_none rfl) (m_callF (xs := _) rfl ok89 rfl rfl (fun w hw => slices_Clone_int_int.ok h43 w ((rd_sl (i := 5) rfl) w hw))) ?_
          rintro v43_1 _ ⟨_, ⟨S43_1, hl_v43_1, rfl⟩, rfl⟩
          refine F.q rfl rfl rfl (wanted_none rfl) (r_assign rfl) ?_
          refine F.nil ?_
          refine Nrm.seq ?_
          refine Tri.seq ?_
          refine Tri.seq ?_
          refine Tri.reg (l := [0, 1, 2, 3]) rfl ?_
          refine F.q rfl rfl rfl (wanted_none rfl) (r_fieldAddr tf31_0 rfl) ?_
          refine F.q rfl rfl rfl (wanted_none rfl) (r_load ta29 rfl (fun w hw => cell_1 (box_cells (i := 2) rfl w hw) rfl)) ?_
          refine F.q rfl rfl rfl (wanted_none rfl) (r_len Try.underlying29 rfl hl_va0_0) ?_
          refine F.q rfl rfl rfl (wanted_none rfl) (r_move rfl) ?_
          refine F.nil ?_
          refine Nrm.seq ?_
          obtain ⟨⟨xq5_2_1rr, x10⟩, hE_4, hE_3⟩ := bind_some hE_3
          refine Tri.block ?_
          refine Tri.only [1, 2, 4, 5, 6, 9, 10, 45, 46, 47] rfl ?_
          refine Tri.pick [1, 2, 3, 0, 4, 5, 6] rfl rfl ?_
          refine Tri.rounds (fun n e' C' => ∃ (x10' : List (Int)) (x47' : Int) (xq5_2_1rr' : List (List Int)) (wq5_2_1rr : Value) (Tq5_2_1rr : Nat → Prop), impl_play.l2 k a0_0 a0_1 a1 x6 x9 n x10' x47' xq5_2_1rr' = some (xq5_2_1rr, x10) ∧ SlLen v43_1 (x10').length ∧ SlLen wq5_2_1rr (xq5_2_1rr').length ∧ e' = [(1, .bool a1), (2, .pointer (some ⟨b2_1, 0, none⟩)), (4, .pointer (some ⟨b4_1, 0, none⟩)), (5, .pointer (some ⟨b5_2, 0, none⟩)), (6, w6), (9, .int .i64 x9), (10, v43_1), (45, va0_0), (46, .int .i64 (a0_0.length : Int)), (47, .int .i64 x47')] ∧ C' = Sep w noM [R.box b4_1 88 [.slice none 0 0, .slice none 0 0], R.box b2_1 31 [va0_0, va0_1], R.box b5_2 88 [wq5_2_0, wq5_2_1rr], R.sl S43_1 v43_1 (x10' : List (Int)), R.sl Tq5_2_0 wq5_2_0 (xq5_2_0 : List (List Int)), R.sl Tq5_2_1rr wq5_2_1rr (xq5_2_1rr' : List (List Int)), R.sl T6 w6 (x6 : List (Int))]) k ?_ ?_ ?_
          · exact ⟨t43, 0, xq5_2_1r, wq5_2_1r, Tq5_2_1r, hE_4, hl_v43_1, hl_wq5_2_1r, rfl, rfl⟩
          · rintro _ _ ⟨_, _, _, _, _, hE_4, _⟩
            rw [impl_play.l2.eq_1] at hE_4; cases hE_4
          · rintro n_3 _ _ ⟨x10, x47, xq5_2_1rr, wq5_2_1rr, Tq5_2_1rr, hE_4, hl_x10, hl_wq5_2_1rr, rfl, rfl⟩ ih_3
            rw [impl_play.l2.eq_2] at hE_4
            refine Tri.seq ?_
            refine Tri.reg (l := [0]) rfl ?_
            refine F.q rfl rfl rfl (wanted_none rfl) (r_lss rfl rfl) ?_
            refine F.nil ?_
            refine Nrm.seq ?_
            refine Tri.seq ?_
            refine Tri.cond (b := decide (x47 < (a0_0.length : Int))) rfl (fun g_2 => ?_) (fun g_2 => ?_)
            · replace hE_4 := if_tt g_2 hE_4
              refine Tri.skip ?_
              refine Nrm.seq ?_
              refine Tri.seq ?_
              refine Tri.block ?_
              refine Tri.seq ?_
              obtain ⟨t50, h50, hE_4⟩ := bind_some hE_4
              obtain ⟨_, hc50, hp50⟩ := Rd.elem hr_a0_0 (rdl_some h50).2.2
              obtain ⟨v50_1, v50_2, rfl, hr_v50_1, hr_v50_2⟩ := op55 hp50
              have hl_v50_1 := hr_v50_1.len
              have hl_v50_2 := hr_v50_2.len
              refine Tri.reg (l := [0, 1, 2, 3, 4, 5]) rfl ?_
              refine F.q rfl rfl rfl (wanted_none rfl) (r_move rfl) ?_
              refine F.q rfl rfl rfl (wanted_none rfl) (r_indexAddrS Try.underlying29 ti55 rfl hl_va0_0 rfl (rdl_some h50).1 (rdl_some h50).2.1) ?_
              refine F.q rfl rfl rfl (wanted_none rfl) (r_loadA ta55 ti55 rfl rfl (fun w hw => (hc50.sep hw))) ?_
              refine F.m rfl rfl rfl (wanted_none rfl) (m_alloc ti55) ?_
              rintro _ _ ⟨b12_1, rfl, rfl⟩
              refine F.q rfl rfl rfl (wanted_none rfl) (r_assign rfl) ?_
              refine F.ef0 rfl rfl (wanted_none rfl) (d_storeG0 (i := 0) (cs2 := [.int .i64 t50.1, v50_1, v50_2]) ti55 rfl rfl rfl rfl rfl (Nat.le_of_ble_eq_true rfl) (lf_cons rfl (lf_cons (sl_leaf hl_v50_1) (lf_cons (sl_leaf hl_v50_2) lf_nil)))) ?_
              rintro _ _ ⟨rfl, rfl⟩
              refine F.nil ?_
              refine Nrm.seq ?_
              refine Tri.seq ?_
              obtain ⟨t55, h55, hE_4⟩ := bind_some hE_4
              obtain ⟨t57, h57, hE_4⟩ := bind_some hE_4
              refine Tri.drawA mixedT Sep.up [(0, true), (1, true), (2, true), (3, true), (4, true), (5, true), (6, true)] [] (by kernel_rfl) ?_
              refine S.q rfl rfl rfl (wanted_none rfl) (r_loadA ta55 ti55 rfl rfl (fun w hw => (box_cells (i := 0) rfl w hw))) ?_
              refine S.q rfl rfl rfl (wanted_none rfl) (r_move rfl) ?_
              refine S.q rfl rfl rfl (wanted_none rfl) (r_move rfl) ?_
              refine S.q rfl rfl rfl (wanted_none rfl) (r_indexAddrS Try.underlying38 ti3 rfl hl_w6 rfl (rdl_some h55).1 (rdl_some h55).2.1) ?_
              refine S.q rfl rfl rfl (wanted_none rfl) (r_load ta3 rfl (fun w hw => cell_0 (Rd.flat ((rd_sl (i := 7) rfl) w hw) (rdl_some h55).2.2) rfl)) ?_
              refine S.qc rfl rfl rfl (wanted_none rfl) (q_callF (xs := _) rfl ok125 rfl rfl (fun w hw => impl_reach.ok h57 w ((fun _ hw => hr_v50_1.sep hw) w hw) ((fun _ hw => hr_v50_2.sep hw) w hw))) ?_
              refine S.q rfl rfl rfl (wanted_none rfl) (r_assign rfl) ?_
              refine S.nil ?_
              refine F.nil ?_
              refine Nrm.seq ?_
              refine Tri.seq ?_
              refine Tri.seq ?_
              obtain ⟨t59, h59, hE_4⟩ := bind_some hE_4
              refine Tri.reg (l := [0, 1, 2, 3]) rfl ?_
              refine F.q rfl rfl rfl (wanted_none rfl) (r_move rfl) ?_
              refine F.m rfl rfl rfl (wanted_none rfl) (m_callF (xs := _) rfl ok112 rfl rfl (fun w hw => impl_members.ok h59 w )) ?_
              rintro v59_1 _ ⟨_, ⟨S59_1, hl_v59_1, rfl⟩, rfl⟩
              refine F.q rfl rfl rfl (wanted_none rfl) (r_len Try.underlying38 rfl hl_v59_1) ?_
              refine F.q rfl rfl rfl (wanted_none rfl) (r_move rfl) ?_
              refine F.nil ?_
              refine Nrm.seq ?_
              obtain ⟨xq5_2_1rrr, hE_5, hE_4⟩ := bind_some hE_4
              refine Tri.block ?_
              refine Tri.only [1, 2, 4, 5, 6, 9, 10, 11, 12, 13, 45, 46, 47, 59, 60, 61] rfl ?_
              refine Tri.pick [1, 2, 3, 4, 0, 5, 6, 7, 8] rfl rfl ?_
              refine Tri.rounds (fun n e' C' => ∃ (x61' : Int) (xq5_2_1rrr' : List (List Int)) (wq5_2_1rrr : Value) (Tq5_2_1rrr : Nat → Prop), impl_play.l3 k x9 x47 t59 n x61' xq5_2_1rrr' = some xq5_2_1rrr ∧ SlLen wq5_2_1rrr (xq5_2_1rrr').length ∧ e' = [(1, .bool a1), (2, .pointer (some ⟨b2_1, 0, none⟩)), (4, .pointer (some ⟨b4_1, 0, none⟩)), (5, .pointer (some ⟨b5_2, 0, none⟩)), (6, w6), (9, .int .i64 x9), (10, v43_1), (11, .int .i64 x47), (12, .pointer (some ⟨b12_1, 0, none⟩)), (13, .int .i64 t57), (45, va0_0), (46, .int .i64 (a0_0.length : Int)), (47, .int .i64 x47), (59, v59_1), (60, .int .i64 (t59.length : Int)), (61, .int .i64 x61')] ∧ C' = Sep w noM [R.box b12_1 55 [.int .i64 t50.1, v50_1, v50_2], R.box b4_1 88 [.slice none 0 0, .slice none 0 0], R.box b2_1 31 [va0_0, va0_1], R.box b5_2 88 [wq5_2_0, wq5_2_1rrr], R.sl S59_1 v59_1 (t59 : List (Int)), R.sl S43_1 v43_1 (x10 : List (Int)), R.sl Tq5_2_0 wq5_2_0 (xq5_2_0 : List (List Int)), R.sl Tq5_2_1rrr wq5_2_1rrr (xq5_2_1rrr' : List (List Int)), R.sl T6 w6 (x6 : List (Int))]) k ?_ ?_ ?_
              · exact ⟨0, xq5_2_1rr, wq5_2_1rr, Tq5_2_1rr, hE_5, hl_wq5_2_1rr, rfl, rfl⟩
              · rintro _ _ ⟨_, _, _, _, hE_5, _⟩
                rw [impl_play.l3.eq_1] at hE_5; cases hE_5
              · rintro n_4 _ _ ⟨x61, xq5_2_1rrr, wq5_2_1rrr, Tq5_2_1rrr, hE_5, hl_wq5_2_1rrr, rfl, rfl⟩ ih_4
                rw [impl_play.l3.eq_2] at hE_5
                refine Tri.seq ?_
                refine Tri.reg (l := [0]) rfl ?_
                refine F.q rfl rfl rfl (wanted_none rfl) (r_lss rfl rfl) ?_
                refine F.nil ?_
                refine Nrm.seq ?_
                refine Tri.seq ?_
                refine Tri.cond (b := decide (x61 < (t59.length : Int))) rfl (fun g_3 => ?_) (fun g_3 => ?_)
                · replace hE_5 := if_tt g_3 hE_5
                  refine Tri.skip ?_
                  refine Nrm.seq ?_
                  refine Tri.seq ?_
                  refine Tri.block ?_
                  refine Tri.seq ?_
                  obtain ⟨t63, h63, hE_5⟩ := bind_some hE_5
                  refine Tri.reg (l := [0, 1, 2]) rfl ?_
                  refine F.q rfl rfl rfl (wanted_none rfl) (r_indexAddrS Try.underlying38 ti3 rfl hl_v59_1 rfl (rdl_some h63).1 (rdl_some h63).2.1) ?_
                  refine F.q rfl rfl rfl (wanted_none rfl) (r_load ta3 rfl (fun w hw => cell_0 (Rd.flat ((rd_sl (i := 4) rfl) w hw) (rdl_some h63).2.2) rfl)) ?_
                  refine F.q rfl rfl rfl (wanted_none rfl) (r_assign rfl) ?_
                  refine F.nil ?_
                  refine Nrm.seq ?_
                  refine Tri.seq ?_
                  obtain ⟨t68, h68, hE_5⟩ := bind_some hE_5
                  obtain ⟨t71, h71, hE_5⟩ := bind_some hE_5
                  refine Tri.ex (on38 [7] [0, 1, 2, 3, 4, 5, 6, 8] rfl rfl (rdl_some h68).2.2) ?_
                  rintro _ ⟨v68_0_1, S68_0_1, Sr68_1, hl_v68_0_1, hS68_1, rfl⟩
                  refine Tri.reg (l := [0, 1, 2, 3, 4, 5, 6, 7, 8]) rfl ?_
                  refine F.q rfl rfl rfl (wanted_none rfl) (r_fieldAddr tf88_1 rfl) ?_
                  refine F.q rfl rfl rfl (wanted_none rfl) (r_load ta23 rfl (fun w hw => cell_1 (box_cells (i := 5) rfl w hw) rfl)) ?_
                  refine F.q rfl rfl rfl (wanted_none rfl) (r_move rfl) ?_
                  refine F.q rfl rfl rfl (wanted_none rfl) (r_indexAddrS Try.underlying23 ti38 rfl hl_wq5_2_1rrr rfl (rdl_some h68).1 (rdl_some h68).2.1) ?_
                  refine F.q rfl rfl rfl (wanted_none rfl) (r_load ta38 rfl (fun w hw => cell_0 (hole_cells (p := 1) rfl w hw) rfl)) ?_
                  refine F.q rfl rfl rfl (wanted_none rfl) (r_move rfl) ?_
                  refine F.q rfl rfl rfl (wanted_none rfl) (r_indexAddrS Try.underlying38 ti3 rfl hl_v68_0_1 rfl (rdl_some h71).1 (rdl_some h71).2.1) ?_
                  refine F.q rfl rfl rfl (wanted_none rfl) (r_load ta3 rfl (fun w hw => cell_0 (Rd.flat ((rd_sl (i := 0) rfl) w hw) (rdl_some h71).2.2) rfl)) ?_
                  refine F.q rfl rfl rfl (wanted_none rfl) (r_lss rfl rfl) ?_
                  refine F.nil ?_
                  refine Nrm.imp (cloS1 (cs := [R.sl S68_0_1 v68_0_1 (t68 : List (Int))]) (rest := [R.box b12_1 55 [.int .i64 t50.1, v50_1, v50_2], R.box b4_1 88 [.slice none 0 0, .slice none 0 0], R.box b2_1 31 [va0_0, va0_1], R.box b5_2 88 [wq5_2_0, wq5_2_1rrr], R.sl S59_1 v59_1 (t59 : List (Int)), R.sl S43_1 v43_1 (x10 : List (Int)), R.sl Tq5_2_0 wq5_2_0 (xq5_2_0 : List (List Int)), R.sl T6 w6 (x6 : List (Int))]) [0, 1] [2, 3, 4, 5, 6, 7, 8, 9] rfl rfl (jn_sl (S := S68_0_1) (v := v68_0_1) (l := (t68 : List (Int)))) hS68_1) ?_
                  refine Nrm.seq ?_
                  obtain ⟨yb5_2_1, hE_6, hE_5⟩ := bind_some hE_5
                  refine Tri.cut (fun e' C' => ∃ (vb5_2_1_1 : Value) (Sb5_2_1_1 : Nat → Prop), SlLen vb5_2_1_1 (yb5_2_1).length ∧ e' = [(1, .bool a1), (2, .pointer (some ⟨b2_1, 0, none⟩)), (4, .pointer (some ⟨b4_1, 0, none⟩)), (5, .pointer (some ⟨b5_2, 0, none⟩)), (6, w6), (9, .int .i64 x9), (10, v43_1), (11, .int .i64 x47), (12, .pointer (some ⟨b12_1, 0, none⟩)), (13, .int .i64 t57), (45, va0_0), (46, .int .i64 (a0_0.length : Int)), (47, .int .i64 x47), (59, v59_1), (60, .int .i64 (t59.length : Int)), (61, .int .i64 x61)] ∧ C' = Sep w noM [R.box b12_1 55 [.int .i64 t50.1, v50_1, v50_2], R.box b4_1 88 [.slice none 0 0, .slice none 0 0], R.box b2_1 31 [va0_0, va0_1], R.box b5_2 88 [wq5_2_0, vb5_2_1_1], R.sl Sb5_2_1_1 vb5_2_1_1 (yb5_2_1 : List (List Int)), R.sl S43_1 v43_1 (x10 : List (Int)), R.sl S59_1 v59_1 (t59 : List (Int)), R.sl T6 w6 (x6 : List (Int)), R.sl Tq5_2_0 wq5_2_0 (xq5_2_0 : List (List Int))]) ?_ (fun hj_2 => ?_)
                  · rintro _ _ ⟨vb5_2_1_1, Sb5_2_1_1, hl_vb5_2_1_1, rfl, rfl⟩
                    refine Nrm.block ?_
                    refine Nrm.seq ?_
                    refine Tri.reg (l := [0, 1]) rfl ?_
                    refine F.q rfl rfl rfl (wanted_none rfl) (r_add rfl rfl) ?_
                    refine F.q rfl rfl rfl (wanted_none rfl) (r_move rfl) ?_
                    refine F.nil ?_
                    refine Nrm.round ?_
                    refine Rnd.only [1, 2, 4, 5, 6, 9, 10, 11, 12, 13, 45, 46, 47, 59, 60, 61] rfl ?_
                    refine Rnd.pick [0, 1, 2, 3, 6, 5, 8, 4, 7] rfl rfl ?_
                    exact ih_4 _ _ ⟨w64 (x61 + 1), yb5_2_1, vb5_2_1_1, Sb5_2_1_1, hE_5, hl_vb5_2_1_1, rfl, rfl⟩
                  · refine Tri.cond (b := decide (t71 < 0)) rfl (fun g_4 => ?_) (fun g_4 => ?_)
                    · replace hE_6 := if_tt g_4 hE_6
                      obtain ⟨t77, h77, hE_6⟩ := bind_some hE_6
                      obtain ⟨t81, h81, hE_6⟩ := bind_some hE_6
                      refine Tri.ex (on38 [0] [1, 2, 3, 4, 5, 6, 7, 8] rfl rfl (rdl_some h77).2.2) ?_
                      rintro _ ⟨v77_0_1, S77_0_1, Sr77_1, hl_v77_0_1, hS77_1, rfl⟩
                      refine Tri.reg (l := [0, 1, 2, 3, 4, 5, 6, 7, 8]) rfl ?_
                      refine F.q rfl rfl rfl (wanted_none rfl) (r_fieldAddr tf88_1 rfl) ?_
                      refine F.q rfl rfl rfl (wanted_none rfl) (r_load ta23 rfl (fun w hw => cell_1 (box_cells (i := 5) rfl w hw) rfl)) ?_
                      refine F.q rfl rfl rfl (wanted_none rfl) (r_move rfl) ?_
                      refine F.q rfl rfl rfl (wanted_none rfl) (r_indexAddrS Try.underlying23 ti38 rfl (len_set hl_wq5_2_1rrr) rfl (rdl_some h77).1 (rdl_some h77).2.1) ?_
                      refine F.q rfl rfl rfl (wanted_none rfl) (r_load ta38 rfl (fun w hw => cell_0 (hole_cells (p := 1) rfl w hw) rfl)) ?_
                      refine F.q rfl rfl rfl (wanted_none rfl) (r_move rfl) ?_
                      refine F.q rfl rfl rfl (wanted_none rfl) (r_move rfl) ?_
                      refine F.q rfl rfl rfl (wanted_none rfl) (r_indexAddrS Try.underlying38 ti3 rfl hl_v77_0_1 rfl (rdl_some h81).1 (rdl_some h81).2.1) ?_
                      refine F.ef0 rfl rfl (wanted_none rfl) (d_storeE (i := 0) (x1 := x9) ti3 rfl rfl rfl (rdl_some h81) rfl) ?_
                      rintro _ _ ⟨rfl, rfl⟩
                      refine F.nil ?_
                      refine Nrm.imp (cloS1 (cs := [R.sl S77_0_1 v77_0_1 (t77.set t63.toNat x9 : List (Int))]) (rest := [R.box b12_1 55 [.int .i64 t50.1, v50_1, v50_2], R.box b4_1 88 [.slice none 0 0, .slice none 0 0], R.box b2_1 31 [va0_0, va0_1], R.box b5_2 88 [wq5_2_0, wq5_2_1rrr], R.sl S59_1 v59_1 (t59 : List (Int)), R.sl S43_1 v43_1 (x10 : List (Int)), R.sl Tq5_2_0 wq5_2_0 (xq5_2_0 : List (List Int)), R.sl T6 w6 (x6 : List (Int))]) [0, 1] [2, 3, 4, 5, 6, 7, 8, 9] rfl rfl (jn_sl (S := S77_0_1) (v := v77_0_1) (l := (t77.set t63.toNat x9 : List (Int)))) hS77_1) ?_
                      cases hE_6
                      refine Nrm.only [1, 2, 4, 5, 6, 9, 10, 11, 12, 13, 45, 46, 47, 59, 60, 61] rfl ?_
                      refine Nrm.pick [1, 2, 3, 4, 0, 6, 5, 8, 7] rfl rfl ?_
                      exact hj_2 _ _ ⟨wq5_2_1rrr, Tq5_2_1rrr, (len_set (len_set hl_wq5_2_1rrr)), rfl, rfl⟩
                    · replace hE_6 := if_ff g_4 hE_6
                      refine Tri.skip ?_
                      cases hE_6
                      refine Nrm.only [1, 2, 4, 5, 6, 9, 10, 11, 12, 13, 45, 46, 47, 59, 60, 61] rfl ?_
                      refine Nrm.pick [1, 2, 3, 4, 0, 6, 5, 8, 7] rfl rfl ?_
                      exact hj_2 _ _ ⟨wq5_2_1rrr, Tq5_2_1rrr, (len_set hl_wq5_2_1rrr), rfl, rfl⟩
                · replace hE_5 := if_ff g_3 hE_5
                  refine Tri.exit ?_
                  refine Exi.then ?_
                  refine Exi.then ?_
                  refine Exi.same ?_
                  cases hE_5
                  refine Nrm.seq ?_
                  refine Tri.seq ?_
                  refine Tri.seq ?_
                  obtain ⟨y92, hE_7, hE_4⟩ := bind_some hE_4
                  refine Tri.cut (fun e' C' => e' = [(1, .bool a1), (2, .pointer (some ⟨b2_1, 0, none⟩)), (4, .pointer (some ⟨b4_1, 0, none⟩)), (5, .pointer (some ⟨b5_2, 0, none⟩)), (6, w6), (9, .int .i64 x9), (10, v43_1), (11, .int .i64 x47), (12, .pointer (some ⟨b12_1, 0, none⟩)), (13, .int .i64 t57), (45, va0_0), (46, .int .i64 (a0_0.length : Int)), (47, .int .i64 x47), (92, .bool y92)] ∧ C' = Sep w noM [R.box b12_1 55 [.int .i64 t50.1, v50_1, v50_2], R.box b4_1 88 [.slice none 0 0, .slice none 0 0], R.box b2_1 31 [va0_0, va0_1], R.box b5_2 88 [wq5_2_0, wq5_2_1rrr], R.sl S43_1 v43_1 (x10 : List (Int)), R.sl T6 w6 (x6 : List (Int)), R.sl Tq5_2_0 wq5_2_0 (xq5_2_0 : List (List Int)), R.sl Tq5_2_1rrr wq5_2_1rrr (xq5_2_1rrr : List (List Int))]) ?_ (fun hj_3 => ?_)
                  · rintro _ _ ⟨rfl, rfl⟩
                    refine Nrm.seq ?_
                    obtain ⟨y13, hE_8, hE_4⟩ := bind_some hE_4
                    refine Tri.cut (fun e' C' => e' = [(1, .bool a1), (2, .pointer (some ⟨b2_1, 0, none⟩)), (4, .pointer (some ⟨b4_1, 0, none⟩)), (5, .pointer (some ⟨b5_2, 0, none⟩)), (6, w6), (9, .int .i64 x9), (10, v43_1), (11, .int .i64 x47), (12, .pointer (some ⟨b12_1, 0, none⟩)), (13, .int .i64 y13), (45, va0_0), (46, .int .i64 (a0_0.length : Int)), (47, .int .i64 x47)] ∧ C' = Sep w noM [R.box b12_1 55 [.int .i64 t50.1, v50_1, v50_2], R.box b4_1 88 [.slice none 0 0, .slice none 0 0], R.box b2_1 31 [va0_0, va0_1], R.box b5_2 88 [wq5_2_0, wq5_2_1rrr], R.sl S43_1 v43_1 (x10 : List (Int)), R.sl T6 w6 (x6 : List (Int)), R.sl Tq5_2_0 wq5_2_0 (xq5_2_0 : List (List Int)), R.sl Tq5_2_1rrr wq5_2_1rrr (xq5_2_1rrr : List (List Int))]) ?_ (fun hj_4 => ?_)
                    · rintro _ _ ⟨rfl, rfl⟩
                      refine Nrm.seq ?_
                      refine Tri.seq ?_
                      obtain ⟨t96, h96, hE_4⟩ := bind_some hE_4
                      refine Tri.reg (l := [0, 1, 2, 3]) rfl ?_
                      refine F.q rfl rfl rfl (wanted_none rfl) (r_move rfl) ?_
                      refine F.m rfl rfl rfl (wanted_none rfl) (m_callF (xs := _) rfl ok112 rfl rfl (fun w hw => impl_members.ok h96 w )) ?_
                      rintro v96_1 _ ⟨_, ⟨S96_1, hl_v96_1, rfl⟩, rfl⟩
                      refine F.q rfl rfl rfl (wanted_none rfl) (r_len Try.underlying38 rfl hl_v96_1) ?_
                      refine F.q rfl rfl rfl (wanted_none rfl) (r_move rfl) ?_
                      refine F.nil ?_
                      refine Nrm.seq ?_
                      obtain ⟨x10r, hE_9, hE_4⟩ := bind_some hE_4
                      refine Tri.block ?_
                      refine Tri.only [1, 2, 4, 5, 6, 9, 10, 11, 12, 45, 46, 47, 96, 97, 98] rfl ?_
                      refine Tri.pick [1, 2, 3, 4, 0, 5, 6, 7, 8] rfl rfl ?_
                      refine Tri.rounds (fun n e' C' => ∃ (x10r' : List (Int)) (x98' : Int), impl_play.l4 k a0_1 x47 t50 t96 n x10r' x98' = some x10r ∧ SlLen v43_1 (x10r').length ∧ e' = [(1, .bool a1), (2, .pointer (some ⟨b2_1, 0, none⟩)), (4, .pointer (some ⟨b4_1, 0, none⟩)), (5, .pointer (some ⟨b5_2, 0, none⟩)), (6, w6), (9, .int .i64 x9), (10, v43_1), (11, .int .i64 x47), (12, .pointer (some ⟨b12_1, 0, none⟩)), (45, va0_0), (46, .int .i64 (a0_0.length : Int)), (47, .int .i64 x47), (96, v96_1), (97, .int .i64 (t96.length : Int)), (98, .int .i64 x98')] ∧ C' = Sep w noM [R.box b12_1 55 [.int .i64 t50.1, v50_1, v50_2], R.box b4_1 88 [.slice none 0 0, .slice none 0 0], R.box b2_1 31 [va0_0, va0_1], R.box b5_2 88 [wq5_2_0, wq5_2_1rrr], R.sl S96_1 v96_1 (t96 : List (Int)), R.sl S43_1 v43_1 (x10r' : List (Int)), R.sl T6 w6 (x6 : List (Int)), R.sl Tq5_2_0 wq5_2_0 (xq5_2_0 : List (List Int)), R.sl Tq5_2_1rrr wq5_2_1rrr (xq5_2_1rrr : List (List Int))]) k ?_ ?_ ?_
                      · exact ⟨x10, 0, hE_9, hl_x10, rfl, rfl⟩
                      · rintro _ _ ⟨_, _, hE_9, _⟩
                        rw [impl_play.l4.eq_1] at hE_9; cases hE_9
                      · rintro n_5 _ _ ⟨x10r, x98, hE_9, hl_x10r, rfl, rfl⟩ ih_5
                        rw [impl_play.l4.eq_2] at hE_9
                        refine Tri.seq ?_
                        refine Tri.reg (l := [0]) rfl ?_
                        refine F.q rfl rfl rfl (wanted_none rfl) (r_lss rfl rfl) ?_
                        refine F.nil ?_
                        refine Nrm.seq ?_
                        refine Tri.seq ?_
                        refine Tri.cond (b := decide (x98 < (t96.length : Int))) rfl (fun g_6 => ?_) (fun g_6 => ?_)
                        · replace hE_9 := if_tt g_6 hE_9
                          refine Tri.skip ?_
                          refine Nrm.seq ?_
                          refine Tri.seq ?_
                          refine Tri.block ?_
                          refine Tri.seq ?_
                          obtain ⟨t100, h100, hE_9⟩ := bind_some hE_9
                          refine Tri.reg (l := [0, 1, 2]) rfl ?_
                          refine F.q rfl rfl rfl (wanted_none rfl) (r_indexAddrS Try.underlying38 ti3 rfl hl_v96_1 rfl (rdl_some h100).1 (rdl_some h100).2.1) ?_
                          refine F.q rfl rfl rfl (wanted_none rfl) (r_load ta3 rfl (fun w hw => cell_0 (Rd.flat ((rd_sl (i := 4) rfl) w hw) (rdl_some h100).2.2) rfl)) ?_
                          refine F.q rfl rfl rfl (wanted_none rfl) (r_assign rfl) ?_
                          refine F.nil ?_
                          refine Nrm.seq ?_
                          obtain ⟨t106, h106, hE_9⟩ := bind_some hE_9
                          obtain ⟨_, hc106, hp106⟩ := Rd.elem hr_a0_1 (rdl_some h106).2.2
                          obtain ⟨v106_0, rfl, hr_v106_0⟩ := op38 hp106
                          have hl_v106_0 := hr_v106_0.len
                          obtain ⟨t109, h109, hE_9⟩ := bind_some hE_9
                          obtain ⟨t111, h111, hE_9⟩ := bind_some hE_9
                          obtain ⟨t116, h116, hE_9⟩ := bind_some hE_9
                          obtain ⟨t119, h119, hE_9⟩ := bind_some hE_9
                          refine Tri.drawA mixedT Sep.up [(0, true), (1, true), (2, true), (3, true), (4, true), (5, true), (6, true), (7, true), (8, true), (9, true), (10, true), (11, true), (12, true), (13, true), (14, true), (15, true), (16, true), (17, true)] [18] (by kernel_rfl) ?_
                          refine S.q rfl rfl rfl (wanted_none rfl) (r_move rfl) ?_
                          refine S.q rfl rfl rfl (wanted_none rfl) (r_fieldAddr tf31_1 rfl) ?_
                          refine S.q rfl rfl rfl (wanted_none rfl) (r_load ta23 rfl (fun w hw => cell_1 (box_cells (i := 2) rfl w hw) rfl)) ?_
                          refine S.q rfl rfl rfl (wanted_none rfl) (r_move rfl) ?_
                          refine S.q rfl rfl rfl (wanted_none rfl) (r_indexAddrS Try.underlying23 ti38 rfl hl_va0_1 rfl (rdl_some h106).1 (rdl_some h106).2.1) ?_
                          refine S.q rfl rfl rfl (wanted_none rfl) (r_load ta38 rfl (fun w hw => cell_0 (hc106.sep hw) rfl)) ?_
                          refine S.q rfl rfl rfl (wanted_none rfl) (r_move rfl) ?_
                          refine S.q rfl rfl rfl (wanted_none rfl) (r_indexAddrS Try.underlying38 ti3 rfl hl_v106_0 rfl (rdl_some h109).1 (rdl_some h109).2.1) ?_
                          refine S.q rfl rfl rfl (wanted_none rfl) (r_load ta3 rfl (fun w hw => cell_0 (Rd.flat ((fun _ hw => hr_v106_0.sep hw) w hw) (rdl_some h109).2.2) rfl)) ?_
                          refine S.q rfl rfl rfl (wanted_none rfl) (r_indexAddrS Try.underlying38 ti3 rfl hl_x10r rfl (rdl_some h111).1 (rdl_some h111).2.1) ?_
                          refine S.q rfl rfl rfl (wanted_none rfl) (r_load ta3 rfl (fun w hw => cell_0 (Rd.flat ((rd_sl (i := 5) rfl) w hw) (rdl_some h111).2.2) rfl)) ?_
                          refine S.q rfl rfl rfl (wanted_none rfl) (r_fieldAddr tf55_2 rfl) ?_
                          refine S.q rfl rfl rfl (wanted_none rfl) (r_load ta38 rfl (fun w hw => cell_1 (box_cells (i := 0) rfl w hw) rfl)) ?_
                          refine S.q rfl rfl rfl (wanted_none rfl) (r_move rfl) ?_
                          refine S.q rfl rfl rfl (wanted_none rfl) (r_indexAddrS Try.underlying38 ti3 rfl hl_v50_2 rfl (rdl_some h116).1 (rdl_some h116).2.1) ?_
                          refine S.q rfl rfl rfl (wanted_none rfl) (r_load ta3 rfl (fun w hw => cell_0 (Rd.flat ((fun _ hw => hr_v50_2.sep hw) w hw) (rdl_some h116).2.2) rfl)) ?_
                          refine S.q rfl rfl rfl (wanted_none rfl) (r_or rfl rfl) ?_
                          refine S.q rfl rfl rfl (wanted_none rfl) (r_indexAddrS Try.underlying38 ti3 rfl hl_x10r rfl (rdl_some h119).1 (rdl_some h119).2.1) ?_
                          refine S.nil ?_
                          refine F.ef0 rfl rfl (wanted_none rfl) (d_storeE (i := 5) (x1 := bor t111 t116) ti3 rfl rfl rfl (rdl_some h119) rfl) ?_
                          rintro _ _ ⟨rfl, rfl⟩
                          refine F.nil ?_
                          refine Nrm.block ?_
                          refine Nrm.seq ?_
                          refine Tri.reg (l := [0, 1]) rfl ?_
                          refine F.q rfl rfl rfl (wanted_none rfl) (r_add rfl rfl) ?_
                          refine F.q rfl rfl rfl (wanted_none rfl) (r_move rfl) ?_
                          refine F.nil ?_
                          refine Nrm.round ?_
                          refine Rnd.only [1, 2, 4, 5, 6, 9, 10, 11, 12, 45, 46, 47, 96, 97, 98] rfl ?_
                          refine Rnd.pick [0, 1, 2, 3, 4, 5, 6, 7, 8] rfl rfl ?_
                          exact ih_5 _ _ ⟨x10r.set t109.toNat (bor t111 t116), w64 (x98 + 1), hE_9, (len_set hl_x10r), rfl, rfl⟩
                        · replace hE_9 := if_ff g_6 hE_9
                          refine Tri.exit ?_
                          refine Exi.then ?_
                          refine Exi.then ?_
                          refine Exi.same ?_
                          cases hE_9
                          refine Nrm.block ?_
                          refine Nrm.seq ?_
                          refine Tri.reg (l := [0, 1]) rfl ?_
                          refine F.q rfl rfl rfl (wanted_none rfl) (r_add rfl rfl) ?_
                          refine F.q rfl rfl rfl (wanted_none rfl) (r_move rfl) ?_
                          refine F.nil ?_
                          refine Nrm.round ?_
                          refine Rnd.only [1, 2, 4, 5, 6, 9, 10, 45, 46, 47] rfl ?_
                          refine Rnd.pick [1, 2, 3, 5, 7, 8, 6] rfl rfl ?_
                          exact ih_3 _ _ ⟨x10r, w64 (x47 + 1), xq5_2_1rrr, wq5_2_1rrr, Tq5_2_1rrr, hE_4, hl_x10r, hl_wq5_2_1rrr, rfl, rfl⟩
                    · refine Tri.cond (b := y92) rfl (fun g_5 => ?_) (fun g_5 => ?_)
                      · replace hE_8 := if_tt g_5 hE_8
                        obtain ⟨t94, h94, hE_8⟩ := bind_some hE_8
                        refine Tri.reg (l := [0, 1, 2]) rfl ?_
                        refine F.q rfl rfl rfl (wanted_none rfl) (r_loadA ta55 ti55 rfl rfl (fun w hw => (box_cells (i := 0) rfl w hw))) ?_
                        refine F.qc rfl rfl rfl (wanted_none rfl) (q_callF (xs := _) rfl ok126 rfl rfl (fun w hw => impl_allNodes.ok h94 w ((fun _ hw => hr_v50_1.sep hw) w hw) ((fun _ hw => hr_v50_2.sep hw) w hw))) ?_
                        refine F.q rfl rfl rfl (wanted_none rfl) (r_assign rfl) ?_
                        refine F.nil ?_
                        cases hE_8
                        refine Nrm.only [1, 2, 4, 5, 6, 9, 10, 11, 12, 13, 45, 46, 47] rfl ?_
                        refine Nrm.pick [0, 1, 2, 3, 4, 5, 6, 7] rfl rfl ?_
                        exact hj_4 _ _ ⟨rfl, rfl⟩
                      · replace hE_8 := if_ff g_5 hE_8
                        refine Tri.skip ?_
                        cases hE_8
                        refine Nrm.only [1, 2, 4, 5, 6, 9, 10, 11, 12, 13, 45, 46, 47] rfl ?_
                        refine Nrm.pick [0, 1, 2, 3, 4, 5, 6, 7] rfl rfl ?_
                        exact hj_4 _ _ ⟨rfl, rfl⟩
                  · rcases Bool.eq_false_or_eq_true (a1) with g84 | g84
                    · replace hE_7 := if_tt g84 hE_7
                      obtain ⟨hs89, hE_7⟩ := ck hE_7
                      refine Tri.reg (l := [0, 1, 2, 3, 4, 5, 6, 7, 8, 9]) rfl ?_
                      refine F.q rfl rfl rfl (wanted_none rfl) (r_move rfl) ?_
                      refine F.q rfl rfl rfl (wanted_none rfl) (r_move rfl) ?_
                      refine F.q rfl rfl rfl (wg rfl rfl rfl g84) (r_move rfl) ?_
                      refine F.q rfl rfl rfl (wg rfl rfl rfl g84) (r_fieldAddr tf55_0 rfl) ?_
                      refine F.q rfl rfl rfl (wg rfl rfl rfl g84) (r_load ta3 rfl (fun w hw => cell_1 (box_cells (i := 0) rfl w hw) rfl)) ?_
                      refine F.q rfl rfl rfl (wg rfl rfl rfl g84) (r_sub rfl rfl) ?_
                      refine F.q rfl rfl rfl (wg rfl rfl rfl g84) (r_shr rfl rfl hs89) ?_
                      refine F.q rfl rfl rfl (wg rfl rfl rfl g84) (r_and rfl rfl) ?_
                      refine F.q rfl rfl rfl (wg rfl rfl rfl g84) (r_eql rfl rfl) ?_
                      refine F.q rfl rfl rfl (wanted_none rfl) (r_pick rfl rfl g84) ?_
                      refine F.nil ?_
                      cases hE_7
                      refine Nrm.only [1, 2, 4, 5, 6, 9, 10, 11, 12, 13, 45, 46, 47, 92] rfl ?_
                      refine Nrm.pick [0, 1, 2, 3, 5, 8, 6, 7] rfl rfl ?_
                      exact hj_3 _ _ ⟨rfl, rfl⟩
                    · replace hE_7 := if_ff g84 hE_7
                      refine Tri.reg (l := [0, 1, 2, 3, 4, 5, 6, 7, 8, 9]) rfl ?_
                      refine F.q rfl rfl rfl (wanted_none rfl) (r_move rfl) ?_
                      refine F.q rfl rfl rfl (wanted_none rfl) (r_move rfl) ?_
                      refine F.sk rfl rfl rfl (wf rfl rfl rfl g84) ?_
                      refine F.sk rfl rfl rfl (wf rfl rfl rfl g84) ?_
                      refine F.sk rfl rfl rfl (wf rfl rfl rfl g84) ?_
                      refine F.sk rfl rfl rfl (wf rfl rfl rfl g84) ?_
                      refine F.sk rfl rfl rfl (wf rfl rfl rfl g84) ?_
                      refine F.sk rfl rfl rfl (wf rfl rfl rfl g84) ?_
                      refine F.sk rfl rfl rfl (wf rfl rfl rfl g84) ?_
                      refine F.q rfl rfl rfl (wanted_none rfl) (r_pickf rfl rfl g84) ?_
                      refine F.nil ?_
                      cases hE_7
                      refine Nrm.only [1, 2, 4, 5, 6, 9, 10, 11, 12, 13, 45, 46, 47, 92] rfl ?_
                      refine Nrm.pick [0, 1, 2, 3, 5, 8, 6, 7] rfl rfl ?_
                      exact hj_3 _ _ ⟨rfl, rfl⟩
            · replace hE_4 := if_ff g_2 hE_4
              refine Tri.exit ?_
              refine Exi.then ?_
              refine Exi.then ?_
              refine Exi.same ?_
              cases hE_4
              refine Nrm.seq ?_
              refine Tri.seq ?_
              obtain ⟨t125, h125, hE_3⟩ := bind_some hE_3
              obtain ⟨hs127, hE_3⟩ := ck hE_3
              refine Tri.drawB mixedT Sep.up [(0, true), (1, true), (2, true), (3, false), (4, false)] [5, 6, 7] (by kernel_rfl) ?_
              refine B.q rfl rfl rfl (wanted_none rfl) (r_fieldAddr tf88_0 rfl) ?_
              refine B.q rfl rfl rfl (wanted_none rfl) (r_load ta23 rfl (fun w hw => cell_1 (box_cells (i := 2) rfl w hw) rfl)) ?_
              refine B.q rfl rfl rfl (wanted_none rfl) (r_move rfl) ?_
              refine B.ef rfl rfl rfl (wanted_none rfl) (Makes.does (m_callF (xs := _) rfl ok89 rfl rfl (fun w hw => slices_Clone_int_int.ok h125 w ((rd_sl (i := 6) rfl) w hw)))) (by rintro v125_2 _ ⟨_, ⟨S125_2, hl_v125_2, rfl⟩, rfl⟩; exact upd rfl [1, 2, 3, 4, 5, 6, 7] rfl rfl) ?_
              rintro v125_2 _ ⟨_, ⟨S125_2, hl_v125_2, rfl⟩, rfl⟩
              refine B.ef rfl rfl rfl (wanted_none rfl) (d_build1 (cells := [v125_2]) (x0 := (t125 : List Int)) (cs := [R.sl S125_2 v125_2 (t125 : List (Int))]) (rest := [R.box b4_1 88 [.slice none 0 0, .slice none 0 0], R.box b2_1 31 [va0_0, va0_1], R.box b5_2 88 [wq5_2_0, wq5_2_1rr], R.sl S43_1 v43_1 (x10 : List (Int)), R.sl Tq5_2_0 wq5_2_0 (xq5_2_0 : List (List Int)), R.sl Tq5_2_1rr wq5_2_1rr (xq5_2_1rr : List (List Int)), R.sl T6 w6 (x6 : List (Int))]) [0] [1, 2, 3, 4, 5, 6, 7] Try.underlying23 ti38 rfl (sl_cells hl_v125_2) rfl (lf_cons (sl_leaf hl_v125_2) lf_nil) rfl rfl (jn_sl (S := S125_2) (v := v125_2) (l := (t125 : List (Int))))) (by rintro v126_2 _ ⟨S126_2, hl_v126_2, rfl⟩; exact upd rfl [1, 2, 3, 4, 5, 6, 7] rfl rfl) ?_
              rintro v126_2 _ ⟨S126_2, hl_v126_2, rfl⟩
              refine B.nil ?_
              refine F.ef rfl rfl rfl (wanted_none rfl) (d_appendN (rest := [R.box b4_1 88 [.slice none 0 0, .slice none 0 0], R.box b2_1 31 [va0_0, va0_1], R.box b5_2 88 [wq5_2_0, wq5_2_1rr], R.sl S43_1 v43_1 (x10 : List (Int)), R.sl Tq5_2_1rr wq5_2_1rr (xq5_2_1rr : List (List Int)), R.sl T6 w6 (x6 : List (Int))]) 5 0 [1, 2, 3, 4, 6, 7] Try.underlying23 Try.underlying23 ti38 rfl (by decide) rfl rfl rfl rfl hs127) ?_
              rintro v127_2 _ ⟨S127_2, hl_v127_2, rfl⟩
              refine F.q rfl rfl rfl (wanted_none rfl) (r_fieldAddr tf88_0 rfl) ?_
              refine F.ef0 rfl rfl (wanted_none rfl) (d_storeG1 (i := 3) (cs2 := [v127_2]) ti23 rfl rfl rfl (sl_cells hl_v127_2) rfl (Nat.le_of_ble_eq_true rfl) (lf_cons (sl_leaf hl_v127_2) lf_nil)) ?_
              rintro _ _ ⟨rfl, rfl⟩
              refine F.nil ?_
              refine Nrm.seq ?_
              refine Tri.seq ?_
              refine Tri.seq ?_
              obtain ⟨t131, h131, hE_3⟩ := bind_some hE_3
              refine Tri.reg (l := [0, 1, 2]) rfl ?_
              refine F.q rfl rfl rfl (wanted_none rfl) (r_move rfl) ?_
              refine F.q rfl rfl rfl (wanted_none rfl) (r_move rfl) ?_
              refine F.qc rfl rfl rfl (wanted_none rfl) (q_callF (xs := _) rfl ok127 rfl rfl (fun w hw => slices_Equal_int_int.ok h131 w ((rd_sl (i := 4) rfl) w hw) ((rd_sl (i := 6) rfl) w hw))) ?_
              refine F.nil ?_
              refine Nrm.seq ?_
              refine Tri.cond (b := t131) rfl (fun g_7 => ?_) (fun g_7 => ?_)
              · replace hE_3 := if_tt g_7 hE_3
                refine Tri.seq ?_
                refine Tri.reg (l := [0, 1]) rfl ?_
                refine F.q rfl rfl rfl (wanted_none rfl) (r_loadA ta88 ti88 rfl rfl (fun w hw => (box_cells (i := 3) rfl w hw))) ?_
                refine F.ef0 rfl rfl (wanted_none rfl) (d_storeG0 (i := 1) (cs2 := [v127_2, wq5_2_1rr]) ti88 rfl rfl rfl rfl rfl (Nat.le_of_ble_eq_true rfl) (lf_cons (sl_leaf hl_v127_2) (lf_cons (sl_leaf hl_wq5_2_1rr) lf_nil))) ?_
                rintro _ _ ⟨rfl, rfl⟩
                refine F.nil ?_
                refine Nrm.seq ?_
                refine Tri.ret ?_
                refine Rtn.then ?_
                refine Rtn.block ?_
                refine Rtn.then ?_
                refine Rtn.then ?_
                refine Rtn.block ?_
                cases hE_3
                replace h := Lr_inr h
                cases h
                exact Rtn.body (.cell rfl ta88 ti88 rfl (fun _ hw => box_cells (i := 1) rfl _ hw) .nil) (fun w hw => ⟨_, _, rfl, ⟨v127_2, S127_2, wq5_2_1rr, Tq5_2_1rr, rfl, hl_v127_2, hl_wq5_2_1rr, rfl⟩, Sep.pick (is := [0, 5]) rfl rfl hw⟩)
              · replace hE_3 := if_ff g_7 hE_3
                refine Tri.skip ?_
                refine Nrm.seq ?_
                refine Tri.reg (l := [0, 1]) rfl ?_
                refine F.q rfl rfl rfl (wanted_none rfl) (r_move rfl) ?_
                refine F.q rfl rfl rfl (wanted_none rfl) (r_assign rfl) ?_
                refine F.nil ?_
                refine Nrm.block ?_
                refine Nrm.seq ?_
                refine Tri.reg (l := [0, 1, 2]) rfl ?_
                refine F.q rfl rfl rfl (wanted_none rfl) (r_move rfl) ?_
                refine F.q rfl rfl rfl (wanted_none rfl) (r_add rfl rfl) ?_
                refine F.q rfl rfl rfl (wanted_none rfl) (r_assign rfl) ?_
                refine F.nil ?_
                refine Nrm.round ?_
                refine Rnd.only [1, 2, 4, 5, 6, 9] rfl ?_
                refine Rnd.pick [1, 2, 3, 0, 5, 4] rfl rfl ?_
                exact ih_2 _ _ ⟨x10, w64 (x9 + 1), (xq5_2_0 : List (List Int)) ++ ([t125] : List (List Int)), xq5_2_1rr, v43_1, S43_1, v127_2, S127_2, wq5_2_1rr, Tq5_2_1rr, hE_3, hl_x10, hl_v127_2, hl_wq5_2_1rr, rfl, rfl⟩
  · obtain ⟨hm22, hE_1⟩ := ck hE_1
    refine Tri.drawT mixedT Sep.up [0, 1, 2, 3, 4, 5, 6] [7] (.q 0 (.q 1 (.q 2 (.q 3 (.alt 4 (.alt 5 (.alt 6 .nil .stop) .stop) (.alt 5 (.alt 4 (.alt 6 .nil .stop) (.alt 6 (.alt 4 .nil .stop) .stop)) .stop)))))) (by kernel_rfl) ?_
    refine T.q rfl rfl rfl (wanted_none rfl) (r_build (pl := [(0, 1), (1, 1)]) (qs := []) (cs := [.slice none 0 0, .slice none 0 0]) (by kernel_rfl) ti88 rfl .nil rfl rfl) ?_
    refine T.q rfl rfl rfl (wanted_none rfl) (r_fieldAddr tf31_0 rfl) ?_
    refine T.q rfl rfl rfl (wanted_none rfl) (r_load ta29 rfl (fun w hw => cell_1 (box_cells (i := 1) rfl w hw) rfl)) ?_
    refine T.q rfl rfl rfl (wanted_none rfl) (r_len Try.underlying29 rfl hl_va0_0) ?_
    refine T.ef rfl rfl rfl (wanted_none rfl) (Makes.does (m_make (x0 := (0 : Int)) Try.underlying38 ti3 rfl rfl rfl hm22.1 hm22.2 (by decide))) (by rintro v22_2 _ ⟨S22_2, hl_v22_2, rfl⟩; exact upd rfl [1, 2] rfl rfl) ?_ ?_
    · rintro v22_2 _ ⟨S22_2, hl_v22_2, rfl⟩
      refine T.ef rfl rfl rfl (wanted_none rfl) (Makes.does (m_alloc ti88)) (by rintro _ _ ⟨b5_3, rfl, rfl⟩; exact upd rfl [2, 3] rfl rfl) ?_ ?_
      · rintro _ _ ⟨b5_3, rfl, rfl⟩
        refine T.ef0 rfl rfl (wanted_none rfl) (d_storeG0 (i := 0) (cs2 := [.slice none 0 0, .slice none 0 0]) ti88 rfl rfl rfl rfl rfl (Nat.le_of_ble_eq_true rfl) (lf_cons rfl (lf_cons rfl lf_nil))) (by rintro _ _ ⟨rfl, rfl⟩; exact upd rfl [2, 3] rfl rfl) ?_ ?_
        · rintro _ _ ⟨rfl, rfl⟩
          refine T.nil ?_
          refine F.q rfl rfl rfl (wanted_none rfl) (r_assign rfl) ?_
          refine F.nil ?_
          cases hE_1
          refine Nrm.only [1, 2, 4, 5, 6] rfl ?_
          refine Nrm.pick [2, 3, 0, 1] rfl rfl ?_
          exact hj_1 _ _ ⟨v22_2, S22_2, b5_3, hl_v22_2, rfl, rfl⟩
        exact T.stop
      exact T.stop
    · refine T.ef rfl rfl rfl (wanted_none rfl) (Makes.does (m_alloc ti88)) (by rintro _ _ ⟨b5_4, rfl, rfl⟩; exact upd rfl [1, 2] rfl rfl) ?_ ?_
      · rintro _ _ ⟨b5_4, rfl, rfl⟩
        refine T.ef rfl rfl rfl (wanted_none rfl) (Makes.does (m_make (x0 := (0 : Int)) Try.underlying38 ti3 rfl rfl rfl hm22.1 hm22.2 (by decide))) (by rintro v22_3 _ ⟨S22_3, hl_v22_3, rfl⟩; exact upd rfl [2, 3] rfl rfl) ?_ ?_
        · rintro v22_3 _ ⟨S22_3, hl_v22_3, rfl⟩
          refine T.ef0 rfl rfl (wanted_none rfl) (d_storeG0 (i := 1) (cs2 := [.slice none 0 0, .slice none 0 0]) ti88 rfl rfl rfl rfl rfl (Nat.le_of_ble_eq_true rfl) (lf_cons rfl (lf_cons rfl lf_nil))) (by rintro _ _ ⟨rfl, rfl⟩; exact upd rfl [2, 3] rfl rfl) ?_ ?_
          · rintro _ _ ⟨rfl, rfl⟩
            refine T.nil ?_
            refine F.q rfl rfl rfl (wanted_none rfl) (r_assign rfl) ?_
            refine F.nil ?_
            cases hE_1
            refine Nrm.only [1, 2, 4, 5, 6] rfl ?_
            refine Nrm.pick [2, 3, 1, 0] rfl rfl ?_
            exact hj_1 _ _ ⟨v22_3, S22_3, b5_4, hl_v22_3, rfl, rfl⟩
          exact T.stop
        · refine T.ef0 rfl rfl (wanted_none rfl) (d_storeG0 (i := 0) (cs2 := [.slice none 0 0, .slice none 0 0]) ti88 rfl rfl rfl rfl rfl (Nat.le_of_ble_eq_true rfl) (lf_cons rfl (lf_cons rfl lf_nil))) (by rintro _ _ ⟨rfl, rfl⟩; exact upd rfl [1, 2] rfl rfl) ?_ ?_
          · rintro _ _ ⟨rfl, rfl⟩
            refine T.ef rfl rfl rfl (wanted_none rfl) (Makes.does (m_make (x0 := (0 : Int)) Try.underlying38 ti3 rfl rfl rfl hm22.1 hm22.2 (by decide))) (by rintro v22_4 _ ⟨S22_4, hl_v22_4, rfl⟩; exact upd rfl [2, 3] rfl rfl) ?_ ?_
            · rintro v22_4 _ ⟨S22_4, hl_v22_4, rfl⟩
              refine T.nil ?_
              refine F.q rfl rfl rfl (wanted_none rfl) (r_assign rfl) ?_
              refine F.nil ?_
              cases hE_1
              refine Nrm.only [1, 2, 4, 5, 6] rfl ?_
              refine Nrm.pick [2, 3, 1, 0] rfl rfl ?_
              exact hj_1 _ _ ⟨v22_4, S22_4, b5_4, hl_v22_4, rfl, rfl⟩
            exact T.stop
          exact T.stop
      exact T.stop

end Go.Proofs

/- (loop.example/g01158/impl.played).won -/

namespace Go.Proofs
open Go Go.Ga
set_option linter.unusedVariables false
set_option maxRecDepth 100000
set_option maxHeartbeats 4000000
def impl_played_won.l0 (k : Nat) (a0_1 : List (List Int)) : Nat → (List (Int)) → Int → Option ((List (Int)))
  | 0, _, _ => none
  | n + 1, x3, x10 => (if (decide (x10 < (a0_1.length : Int))) = true then (rdl a0_1 x10).bind fun t12 => (rdl t12 (w64 ((t12.length : Int) - 1))).bind fun t19 => if (x3 ++ ([t19] : List (Int))).length < 1099511627776 then impl_played_won.l0 k a0_1 n (x3 ++ ([t19] : List (Int))) (w64 (x10 + 1)) else none else some x3)

def impl_played_won.f (k : Nat) (a0_0 : List (List Int)) (a0_1 : List (List Int)) : Option ((List Int)) := (impl_played_won.l0 k a0_1 k ([] : List (Int)) 0).bind fun x3 => some x3

theorem impl_played_won.ok {k : Nat}  {a0_0 : List (List Int)} {a0_1 : List (List Int)} {r0 : List Int} (h : impl_played_won.f k a0_0 a0_1 = some r0) (w : World) {va0_0 : Value} {va0_1 : Value} (hr_a0_0 : Rd w va0_0 a0_0) (hr_a0_1 : Rd w va0_1 a0_1) :
    Calls Try.prog 69 ([.agg ([va0_0, va0_1].toArray)] : List Value).toArray w (Post (fun u ns => ∃ (Sr0 : Nat → Prop), SlLen u r0.length ∧ ns = [R.sl Sr0 u r0]) w) := by
  unfold impl_played_won.f at h
  have hl_va0_0 := hr_a0_0.len
  have hl_va0_1 := hr_a0_1.len
  refine Calls.of_tri (N := 25) Try.func69 rfl rfl rfl (Sep.nil (M := noM)) ?_
  refine Tri.seq ?_
  refine Tri.reg (l := [0, 1]) rfl ?_
  refine F.m rfl rfl rfl (wanted_none rfl) (m_boxG rfl rfl) ?_
  rintro _ _ ⟨b1_1, rfl, rfl⟩
  refine F.q rfl rfl rfl (wanted_none rfl) (r_assign rfl) ?_
  refine F.nil ?_
  refine Nrm.seq ?_
  refine Tri.seq ?_
  refine Tri.reg (l := [0, 1]) rfl ?_
  refine F.m rfl rfl rfl (wanted_none rfl) (m_build0 (α := Int) Try.underlying38 ti3) ?_
  rintro v6_1 _ ⟨S6_1, hl_v6_1, rfl⟩
  refine F.q rfl rfl rfl (wanted_none rfl) (r_assign rfl) ?_
  refine F.nil ?_
  refine Nrm.seq ?_
  refine Tri.seq ?_
  refine Tri.seq ?_
  refine Tri.reg (l := [0, 1, 2, 3]) rfl ?_
  refine F.q rfl rfl rfl (wanted_none rfl) (r_fieldAddr tf88_1 rfl) ?_
  refine F.q rfl rfl rfl (wanted_none rfl) (r_load ta23 rfl (fun w hw => cell_1 (box_cells (i := 1) rfl w hw) rfl)) ?_
  refine F.q rfl rfl rfl (wanted_none rfl) (r_len Try.underlying23 rfl hl_va0_1) ?_
  refine F.q rfl rfl rfl (wanted_none rfl) (r_move rfl) ?_
  refine F.nil ?_
  refine Nrm.seq ?_
  obtain ⟨x3, hE_1, h⟩ := bind_some h
  refine Tri.block ?_
  refine Tri.only [3, 8, 9, 10] rfl ?_
  refine Tri.pick [0] rfl rfl ?_
  refine Tri.rounds (fun n e' C' => ∃ (x3' : List (Int)) (x10' : Int) (w3 : Value) (T3 : Nat → Prop), impl_played_won.l0 k a0_1 n x3' x10' = some x3 ∧ SlLen w3 (x3').length ∧ e' = [(3, w3), (8, va0_1), (9, .int .i64 (a0_1.length : Int)), (10, .int .i64 x10')] ∧ C' = Sep w noM [R.sl T3 w3 (x3' : List (Int))]) k ?_ ?_ ?_
  · exact ⟨([] : List (Int)), 0, v6_1, S6_1, hE_1, hl_v6_1, rfl, rfl⟩
  · rintro _ _ ⟨_, _, _, _, hE_1, _⟩
    rw [impl_played_won.l0.eq_1] at hE_1; cases hE_1
  · rintro n_1 _ _ ⟨x3, x10, w3, T3, hE_1, hl_w3, rfl, rfl⟩ ih_1
    rw [impl_played_won.l0.eq_2] at hE_1
    refine Tri.seq ?_
    refine Tri.reg (l := [0]) rfl ?_
    refine F.q rfl rfl rfl (wanted_none rfl) (r_lss rfl rfl) ?_
    refine F.nil ?_
    refine Nrm.seq ?_
    refine Tri.seq ?_
    refine Tri.cond (b := decide (x10 < (a0_1.length : Int))) rfl (fun g_1 => ?_) (fun g_1 => ?_)
    · replace hE_1 := if_tt g_1 hE_1
      refine Tri.skip ?_
      refine Nrm.seq ?_
      refine Tri.seq ?_
      refine Tri.block ?_
      refine Tri.seq ?_
      obtain ⟨t12, h12, hE_1⟩ := bind_some hE_1
      obtain ⟨_, hc12, hp12⟩ := Rd.elem hr_a0_1 (rdl_some h12).2.2
      obtain ⟨v12_0, rfl, hr_v12_0⟩ := op38 hp12
      have hl_v12_0 := hr_v12_0.len
      refine Tri.reg (l := [0, 1, 2]) rfl ?_
      refine F.q rfl rfl rfl (wanted_none rfl) (r_indexAddrS Try.underlying23 ti38 rfl hl_va0_1 rfl (rdl_some h12).1 (rdl_some h12).2.1) ?_
      refine F.q rfl rfl rfl (wanted_none rfl) (r_load ta38 rfl (fun w hw => cell_0 (hc12.sep hw) rfl)) ?_
      refine F.q rfl rfl rfl (wanted_none rfl) (r_assign rfl) ?_
      refine F.nil ?_
      refine Nrm.seq ?_
      obtain ⟨t19, h19, hE_1⟩ := bind_some hE_1
      obtain ⟨hs22, hE_1⟩ := ck hE_1
      refine Tri.reg (l := [0, 1, 2, 3, 4, 5, 6, 7, 8, 9]) rfl ?_
      refine F.q rfl rfl rfl (wanted_none rfl) (r_move rfl) ?_
      refine F.q rfl rfl rfl (wanted_none rfl) (r_move rfl) ?_
      refine F.q rfl rfl rfl (wanted_none rfl) (r_move rfl) ?_
      refine F.q rfl rfl rfl (wanted_none rfl) (r_len Try.underlying38 rfl hl_v12_0) ?_
      refine F.q rfl rfl rfl (wanted_none rfl) (r_sub rfl rfl) ?_
      refine F.q rfl rfl rfl (wanted_none rfl) (r_indexAddrS Try.underlying38 ti3 rfl hl_v12_0 rfl (rdl_some h19).1 (rdl_some h19).2.1) ?_
      refine F.q rfl rfl rfl (wanted_none rfl) (r_load ta3 rfl (fun w hw => cell_0 (Rd.flat ((fun _ hw => hr_v12_0.sep hw) w hw) (rdl_some h19).2.2) rfl)) ?_
      refine F.m rfl rfl rfl (wanted_none rfl) (m_buildF (l := ([t19] : List (Int))) Try.underlying38 ti3 rfl rfl rfl rfl rfl) ?_
      rintro v21_1 _ ⟨S21_1, hl_v21_1, rfl⟩
      refine F.ef rfl rfl rfl (wanted_none rfl) (d_append (i := 1) Try.underlying38 Try.underlying38 ti3 rfl (by decide) rfl rfl rfl (rd_sl (i := 0) rfl) hs22) ?_
      rintro v22_1 _ ⟨S22_1, rfl, hl_v22_1⟩
      refine F.q rfl rfl rfl (wanted_none rfl) (r_assign rfl) ?_
      refine F.nil ?_
      refine Nrm.block ?_
      refine Nrm.seq ?_
      refine Tri.reg (l := [0, 1]) rfl ?_
      refine F.q rfl rfl rfl (wanted_none rfl) (r_add rfl rfl) ?_
      refine F.q rfl rfl rfl (wanted_none rfl) (r_move rfl) ?_
      refine F.nil ?_
      refine Nrm.round ?_
      refine Rnd.only [3, 8, 9, 10] rfl ?_
      refine Rnd.pick [1] rfl rfl ?_
      exact ih_1 _ _ ⟨x3 ++ ([t19] : List (Int)), w64 (x10 + 1), v22_1, S22_1, hE_1, hl_v22_1, rfl, rfl⟩
    · replace hE_1 := if_ff g_1 hE_1
      refine Tri.exit ?_
      refine Exi.then ?_
      refine Exi.then ?_
      refine Exi.same ?_
      cases hE_1
      refine Nrm.seq ?_
      refine Tri.seq ?_
      refine Tri.reg (l := [0, 1]) rfl ?_
      refine F.q rfl rfl rfl (wanted_none rfl) (r_move rfl) ?_
      refine F.q rfl rfl rfl (wanted_none rfl) (r_assign rfl) ?_
      refine F.nil ?_
      refine Nrm.seq ?_
      refine Tri.ret ?_
      cases h
      exact Rtn.body (.tmp rfl .nil) (fun w hw => ⟨_, _, rfl, ⟨T3, hl_w3, rfl⟩, Sep.pick (is := [0]) rfl rfl hw⟩)

end Go.Proofs

/- loop.example/g01158/impl.within -/

namespace Go.Proofs
open Go Go.Ga
set_option linter.unusedVariables false
set_option maxRecDepth 100000
set_option maxHeartbeats 4000000
def impl_within.f (k : Nat) (a0 : Int) (a1 : Int) (a2 : Int) : Option (Bool) := ((if (decide (a1 ≤ a0)) = true then some (decide (a0 ≤ a2)) else some false)).bind fun y6 => some y6

theorem impl_within.ok {k : Nat}  {a0 : Int} {a1 : Int} {a2 : Int} {r0 : Bool} (h : impl_within.f k a0 a1 a2 = some r0) (w : World) :
    Calls Try.prog 88 ([.int .i64 a0, .int .i64 a1, .int .i64 a2] : List Value).toArray w (fun e w' => e = .returned (.bool r0) ∧ Ext w w') := by
  unfold impl_within.f at h
  refine Calls.of_tri (N := 15) Try.func88 rfl rfl rfl (Sep.nil (M := noM)) ?_
  refine Tri.seq ?_
  refine Tri.reg (l := [0]) rfl ?_
  refine F.q rfl rfl rfl (wanted_none rfl) (r_assign rfl) ?_
  refine F.nil ?_
  refine Nrm.seq ?_
  refine Tri.seq ?_
  obtain ⟨y6, hE_1, h⟩ := bind_some h
  refine Tri.cut (fun e' C' => e' = [(6, .bool y6)] ∧ C' = Sep w noM []) ?_ (fun hj_1 => ?_)
  · rintro _ _ ⟨rfl, rfl⟩
    refine Nrm.seq ?_
    refine Tri.ret ?_
    cases h
    exact Rtn.body (.tmp rfl .nil) (fun w hw => ⟨rfl, hw.ext⟩)
  · rcases Bool.eq_false_or_eq_true (decide (a1 ≤ a0)) with g10 | g10
    · replace hE_1 := if_tt g10 hE_1
      refine Tri.reg (l := [0, 1, 2, 3, 4, 5, 6, 7, 8]) rfl ?_
      refine F.q rfl rfl rfl (wanted_none rfl) (r_move rfl) ?_
      refine F.q rfl rfl rfl (wanted_none rfl) (r_move rfl) ?_
      refine F.q rfl rfl rfl (wanted_none rfl) (r_leq rfl rfl) ?_
      refine F.q rfl rfl rfl (wanted_none rfl) (r_move rfl) ?_
      refine F.q rfl rfl rfl (wg rfl rfl rfl g10) (r_move rfl) ?_
      refine F.q rfl rfl rfl (wg rfl rfl rfl g10) (r_move rfl) ?_
      refine F.q rfl rfl rfl (wg rfl rfl rfl g10) (r_leq rfl rfl) ?_
      refine F.q rfl rfl rfl (wanted_none rfl) (r_pick rfl rfl g10) ?_
      refine F.q rfl rfl rfl (wanted_none rfl) (r_assign rfl) ?_
      refine F.nil ?_
      cases hE_1
      refine Nrm.only [6] rfl ?_
      refine Nrm.pick [] rfl rfl ?_
      exact hj_1 _ _ ⟨rfl, rfl⟩
    · replace hE_1 := if_ff g10 hE_1
      refine Tri.reg (l := [0, 1, 2, 3, 4, 5, 6, 7, 8]) rfl ?_
      refine F.q rfl rfl rfl (wanted_none rfl) (r_move rfl) ?_
      refine F.q rfl rfl rfl (wanted_none rfl) (r_move rfl) ?_
      refine F.q rfl rfl rfl (wanted_none rfl) (r_leq rfl rfl) ?_
      refine F.q rfl rfl rfl (wanted_none rfl) (r_move rfl) ?_
      refine F.sk rfl rfl rfl (wf rfl rfl rfl g10) ?_
      refine F.sk rfl rfl rfl (wf rfl rfl rfl g10) ?_
      refine F.sk rfl rfl rfl (wf rfl rfl rfl g10) ?_
      refine F.q rfl rfl rfl (wanted_none rfl) (r_pickf rfl rfl g10) ?_
      refine F.q rfl rfl rfl (wanted_none rfl) (r_assign rfl) ?_
      refine F.nil ?_
      cases hE_1
      refine Nrm.only [6] rfl ?_
      refine Nrm.pick [] rfl rfl ?_
      exact hj_1 _ _ ⟨rfl, rfl⟩

end Go.Proofs

/- slices.IndexFunc[[]int,int] -/

namespace Go.Proofs
open Go Go.Ga
set_option linter.unusedVariables false
set_option maxRecDepth 100000
set_option maxHeartbeats 4000000
def slices_IndexFunc_int_int.l0 (k : Nat) (a0 : List Int) (a1 : (Int → Option (Bool))) : Nat → Int → Option ((Unit) ⊕ (Int))
  | 0, _ => none
  | n + 1, x8 => (if (decide (x8 < (a0.length : Int))) = true then (rdl a0 x8).bind fun t14 => (a1 t14).bind fun t16 => (if t16 = true then some (Sum.inr x8) else slices_IndexFunc_int_int.l0 k a0 a1 n (w64 (x8 + 1))) else some (Sum.inl ()))

def slices_IndexFunc_int_int.f (k : Nat) (a0 : List Int) (a1 : (Int → Option (Bool))) : Option (Int) := (slices_IndexFunc_int_int.l0 k a0 a1 k 0).bind fun s => Lr s some fun _ => some (-1)

theorem slices_IndexFunc_int_int.ok {k : Nat}  {a0 : List Int} {a1 : (Int → Option (Bool))} {r0 : Int} (h : slices_IndexFunc_int_int.f k a0 a1 = some r0) (w : World) {va0 : Value} (hr_a0 : Rd w va0 a0) {fi_a1 : FuncId} {ca_a1 : Array Value} (ho_a1 : CallOk Try.prog fi_a1) (hf_a1 : ∀ w2, Ext w w2 → ∀ (z0 : Int) (y : Bool), a1 z0 = some y → Calls Try.prog fi_a1 (([.int .i64 z0] : List Value) ++ ca_a1.toList).toArray w2 (fun e w3 => e = .returned (.bool y) ∧ Ext w2 w3)) :
    Calls Try.prog 153 ([va0, .func (.func fi_a1) #[] ca_a1] : List Value).toArray w (fun e w' => e = .returned (.int .i64 r0) ∧ Ext w w') := by
  unfold slices_IndexFunc_int_int.f at h
  have hl_va0 := hr_a0.len
  refine Calls.of_tri (N := 19) Try.func153 rfl rfl rfl (Sep.nil (M := noM)) ?_
  refine Tri.seq ?_
  refine Tri.reg (l := [0]) rfl ?_
  refine F.q rfl rfl rfl (wanted_none rfl) (r_assign rfl) ?_
  refine F.nil ?_
  refine Nrm.seq ?_
  refine Tri.seq ?_
  refine Tri.seq ?_
  refine Tri.reg (l := [0, 1, 2]) rfl ?_
  refine F.q rfl rfl rfl (wanted_none rfl) (r_move rfl) ?_
  refine F.q rfl rfl rfl (wanted_none rfl) (r_len Try.underlying38 rfl hl_va0) ?_
  refine F.q rfl rfl rfl (wanted_none rfl) (r_move rfl) ?_
  refine F.nil ?_
  refine Nrm.seq ?_
  obtain ⟨s0, hE_1, h⟩ := bind_some h
  refine Tri.block ?_
  refine Tri.only [0, 1, 7, 8] rfl ?_
  refine Tri.pick [] rfl rfl ?_
  refine Tri.rounds (fun n e' C' => ∃ (x8' : Int), slices_IndexFunc_int_int.l0 k a0 a1 n x8' = some s0 ∧ e' = [(0, va0), (1, .func (.func fi_a1) #[] ca_a1), (7, .int .i64 (a0.length : Int)), (8, .int .i64 x8')] ∧ C' = Sep w noM []) k ?_ ?_ ?_
  · exact ⟨0, hE_1, rfl, rfl⟩
  · rintro _ _ ⟨_, hE_1, _⟩
    rw [slices_IndexFunc_int_int.l0.eq_1] at hE_1; cases hE_1
  · rintro n_1 _ _ ⟨x8, hE_1, rfl, rfl⟩ ih_1
    rw [slices_IndexFunc_int_int.l0.eq_2] at hE_1
    refine Tri.seq ?_
    refine Tri.reg (l := [0]) rfl ?_
    refine F.q rfl rfl rfl (wanted_none rfl) (r_lss rfl rfl) ?_
    refine F.nil ?_
    refine Nrm.seq ?_
    refine Tri.seq ?_
    refine Tri.cond (b := decide (x8 < (a0.length : Int))) rfl (fun g_1 => ?_) (fun g_1 => ?_)
    · replace hE_1 := if_tt g_1 hE_1
      refine Tri.skip ?_
      refine Nrm.seq ?_
      refine Tri.seq ?_
      refine Tri.block ?_
      refine Tri.seq ?_
      refine Tri.reg (l := [0, 1]) rfl ?_
      refine F.q rfl rfl rfl (wanted_none rfl) (r_move rfl) ?_
      refine F.q rfl rfl rfl (wanted_none rfl) (r_assign rfl) ?_
      refine F.nil ?_
      refine Nrm.seq ?_
      refine Tri.seq ?_
      obtain ⟨t14, h14, hE_1⟩ := bind_some hE_1
      obtain ⟨t16, h16, hE_1⟩ := bind_some hE_1
      refine Tri.reg (l := [0, 1, 2, 3, 4, 5]) rfl ?_
      refine F.q rfl rfl rfl (wanted_none rfl) (r_move rfl) ?_
      refine F.q rfl rfl rfl (wanted_none rfl) (r_move rfl) ?_
      refine F.q rfl rfl rfl (wanted_none rfl) (r_move rfl) ?_
      refine F.q rfl rfl rfl (wanted_none rfl) (r_indexAddrS Try.underlying38 ti3 rfl hl_va0 rfl (rdl_some h14).1 (rdl_some h14).2.1) ?_
      refine F.q rfl rfl rfl (wanted_none rfl) (r_load ta3 rfl (fun w hw => cell_0 (Rd.flat ((fun _ hw => hr_a0.sep hw) w hw) (rdl_some h14).2.2) rfl)) ?_
      refine F.qc rfl rfl rfl (wanted_none rfl) (q_callC (xs := _) rfl ho_a1 rfl rfl (fun w hw => hf_a1 w hw.ext _  _ h16)) ?_
      refine F.nil ?_
      refine Nrm.seq ?_
      refine Tri.cond (b := t16) rfl (fun g_2 => ?_) (fun g_2 => ?_)
      · replace hE_1 := if_tt g_2 hE_1
        refine Tri.seq ?_
        refine Tri.reg (l := [0, 1]) rfl ?_
        refine F.q rfl rfl rfl (wanted_none rfl) (r_move rfl) ?_
        refine F.q rfl rfl rfl (wanted_none rfl) (r_assign rfl) ?_
        refine F.nil ?_
        refine Nrm.seq ?_
        refine Tri.ret ?_
        refine Rtn.block ?_
        refine Rtn.then ?_
        refine Rtn.then ?_
        refine Rtn.block ?_
        refine Rtn.then ?_
        cases hE_1
        replace h := Lr_inr h
        cases h
        exact Rtn.body (.tmp rfl .nil) (fun w hw => ⟨rfl, hw.ext⟩)
      · replace hE_1 := if_ff g_2 hE_1
        refine Tri.skip ?_
        refine Nrm.block ?_
        refine Nrm.seq ?_
        refine Tri.reg (l := [0, 1]) rfl ?_
        refine F.q rfl rfl rfl (wanted_none rfl) (r_add rfl rfl) ?_
        refine F.q rfl rfl rfl (wanted_none rfl) (r_move rfl) ?_
        refine F.nil ?_
        refine Nrm.round ?_
        refine Rnd.only [0, 1, 7, 8] rfl ?_
        refine Rnd.pick [] rfl rfl ?_
        exact ih_1 _ _ ⟨w64 (x8 + 1), hE_1, rfl, rfl⟩
    · replace hE_1 := if_ff g_1 hE_1
      refine Tri.exit ?_
      refine Exi.then ?_
      refine Exi.then ?_
      refine Exi.same ?_
      cases hE_1
      replace h := Lr_inl h
      refine Nrm.seq ?_
      refine Tri.seq ?_
      refine Tri.reg (l := [0]) rfl ?_
      refine F.q rfl rfl rfl (wanted_none rfl) (r_assign rfl) ?_
      refine F.nil ?_
      refine Nrm.seq ?_
      refine Tri.ret ?_
      cases h
      exact Rtn.body (.tmp rfl .nil) (fun w hw => ⟨rfl, hw.ext⟩)

end Go.Proofs

/- slices.ContainsFunc[[]int,int] -/
namespace Go.Proofs
open Go Go.Ga
set_option linter.unusedVariables false
set_option maxRecDepth 100000
set_option maxHeartbeats 4000000
def slices_ContainsFunc_int_int.f (k : Nat) (a0 : List Int) (a1 : (Int → Option (Bool))) : Option (Bool) := (slices_IndexFunc_int_int.f k a0 a1).bind fun t7 => some (decide (t7 ≥ 0))

theorem slices_ContainsFunc_int_int.ok {k : Nat}  {a0 : List Int} {a1 : (Int → Option (Bool))} {r0 : Bool} (h : slices_ContainsFunc_int_int.f k a0 a1 = some r0) (w : World) {va0 : Value} (hr_a0 : Rd w va0 a0) {fi_a1 : FuncId} {ca_a1 : Array Value} (ho_a1 : CallOk Try.prog fi_a1) (hf_a1 : ∀ w2, Ext w w2 → ∀ (z0 : Int) (y : Bool), a1 z0 = some y → Calls Try.prog fi_a1 (([.int .i64 z0] : List Value) ++ ca_a1.toList).toArray w2 (fun e w3 => e = .returned (.bool y) ∧ Ext w2 w3)) :
    Calls Try.prog 122 ([va0, .func (.func fi_a1) #[] ca_a1] : List Value).toArray w (fun e w' => e = .returned (.bool r0) ∧ Ext w w') := by
  unfold slices_ContainsFunc_int_int.f at h
  have hl_va0 := hr_a0.len
  refine Calls.of_tri (N := 9) Try.func122 rfl rfl rfl (Sep.nil (M := noM)) ?_
  refine Tri.seq ?_
  refine Tri.reg (l := [0]) rfl ?_
  refine F.q rfl rfl rfl (wanted_none rfl) (r_assign rfl) ?_
  refine F.nil ?_
  refine Nrm.seq ?_
  refine Tri.seq ?_
  obtain ⟨t7, h7, h⟩ := bind_some h
  refine Tri.reg (l := [0, 1, 2, 3, 4]) rfl ?_
  refine F.q rfl rfl rfl (wanted_none rfl) (r_move rfl) ?_
  refine F.q rfl rfl rfl (wanted_none rfl) (r_move rfl) ?_
  refine F.qc rfl rfl rfl (wanted_none rfl) (q_callF (xs := _) rfl ok153 rfl rfl (fun w hw => slices_IndexFunc_int_int.ok h7 w ((fun _ hw => hr_a0.sep hw) w hw) ho_a1 (fun w2 he2 => hf_a1 w2 (hw.ext.trans he2)))) ?_
  refine F.q rfl rfl rfl (wanted_none rfl) (r_geq rfl rfl) ?_
  refine F.q rfl rfl rfl (wanted_none rfl) (r_assign rfl) ?_
  refine F.nil ?_
  refine Nrm.seq ?_
  refine Tri.ret ?_
  cases h
  exact Rtn.body (.tmp rfl .nil) (fun w hw => ⟨rfl, hw.ext⟩)

end Go.Proofs

/- loop.example/g01158/impl.isSet -/
namespace Go.Proofs
open Go Go.Ga
set_option linter.unusedVariables false
set_option maxRecDepth 100000
set_option maxHeartbeats 4000000
def impl_isSet.f (k : Nat) (a0 : Int) : Option (Bool) := (impl_within.f k a0 0 63).bind fun t4 => some t4

theorem impl_isSet.ok {k : Nat}  {a0 : Int} {r0 : Bool} (h : impl_isSet.f k a0 = some r0) (w : World) :
    Calls Try.prog 144 ([.int .i64 a0] : List Value).toArray w (fun e w' => e = .returned (.bool r0) ∧ Ext w w') := by
  unfold impl_isSet.f at h
  refine Calls.of_tri (N := 5) Try.func144 rfl rfl rfl (Sep.nil (M := noM)) ?_
  refine Tri.seq ?_
  refine Tri.reg (l := [0]) rfl ?_
  refine F.q rfl rfl rfl (wanted_none rfl) (r_assign rfl) ?_
  refine F.nil ?_
  refine Nrm.seq ?_
  refine Tri.seq ?_
  obtain ⟨t4, h4, h⟩ := bind_some h
  refine Tri.reg (l := [0, 1, 2]) rfl ?_
  refine F.q rfl rfl rfl (wanted_none rfl) (r_move rfl) ?_
  refine F.qc rfl rfl rfl (wanted_none rfl) (q_callF (xs := _) rfl ok88 rfl rfl (fun w hw => impl_within.ok h4 w )) ?_
  refine F.q rfl rfl rfl (wanted_none rfl) (r_assign rfl) ?_
  refine F.nil ?_
  refine Nrm.seq ?_
  refine Tri.ret ?_
  cases h
  exact Rtn.body (.tmp rfl .nil) (fun w hw => ⟨rfl, hw.ext⟩)

end Go.Proofs

/- cmp.Or[int] -/

namespace Go.Proofs
open Go Go.Ga
set_option linter.unusedVariables false
set_option maxRecDepth 100000
set_option maxHeartbeats 4000000
def cmp_Or_int.l0 (k : Nat) (a0 : List Int) : Nat → Int → Option ((Unit) ⊕ (Int))
  | 0, _ => none
  | n + 1, x8 => (if (decide (x8 < (a0.length : Int))) = true then (rdl a0 x8).bind fun t10 => (if (t10 != 0) = true then some (Sum.inr t10) else cmp_Or_int.l0 k a0 n (w64 (x8 + 1))) else some (Sum.inl ()))

def cmp_Or_int.f (k : Nat) (a0 : List Int) : Option (Int) := (cmp_Or_int.l0 k a0 k 0).bind fun s => Lr s some fun _ => some 0

theorem cmp_Or_int.ok {k : Nat}  {a0 : List Int} {r0 : Int} (h : cmp_Or_int.f k a0 = some r0) (w : World) {va0 : Value} (hr_a0 : Rd w va0 a0) :
    Calls Try.prog 171 ([va0] : List Value).toArray w (fun e w' => e = .returned (.int .i64 r0) ∧ Ext w w') := by
  unfold cmp_Or_int.f at h
  have hl_va0 := hr_a0.len
  refine Calls.of_tri (N := 18) Try.func171 rfl rfl rfl (Sep.nil (M := noM)) ?_
  refine Tri.seq ?_
  refine Tri.reg (l := [0]) rfl ?_
  refine F.q rfl rfl rfl (wanted_none rfl) (r_assign rfl) ?_
  refine F.nil ?_
  refine Nrm.seq ?_
  refine Tri.seq ?_
  refine Tri.reg (l := [0]) rfl ?_
  refine F.q rfl rfl rfl (wanted_none rfl) (r_assign rfl) ?_
  refine F.nil ?_
  refine Nrm.seq ?_
  refine Tri.seq ?_
  refine Tri.seq ?_
  refine Tri.reg (l := [0, 1, 2]) rfl ?_
  refine F.q rfl rfl rfl (wanted_none rfl) (r_move rfl) ?_
  refine F.q rfl rfl rfl (wanted_none rfl) (r_len Try.underlying38 rfl hl_va0) ?_
  refine F.q rfl rfl rfl (wanted_none rfl) (r_move rfl) ?_
  refine F.nil ?_
  refine Nrm.seq ?_
  obtain ⟨s0, hE_1, h⟩ := bind_some h
  refine Tri.block ?_
  refine Tri.only [3, 6, 7, 8] rfl ?_
  refine Tri.pick [] rfl rfl ?_
  refine Tri.rounds (fun n e' C' => ∃ (x8' : Int), cmp_Or_int.l0 k a0 n x8' = some s0 ∧ e' = [(3, .int .i64 0), (6, va0), (7, .int .i64 (a0.length : Int)), (8, .int .i64 x8')] ∧ C' = Sep w noM []) k ?_ ?_ ?_
  · exact ⟨0, hE_1, rfl, rfl⟩
  · rintro _ _ ⟨_, hE_1, _⟩
    rw [cmp_Or_int.l0.eq_1] at hE_1; cases hE_1
  · rintro n_1 _ _ ⟨x8, hE_1, rfl, rfl⟩ ih_1
    rw [cmp_Or_int.l0.eq_2] at hE_1
    refine Tri.seq ?_
    refine Tri.reg (l := [0]) rfl ?_
    refine F.q rfl rfl rfl (wanted_none rfl) (r_lss rfl rfl) ?_
    refine F.nil ?_
    refine Nrm.seq ?_
    refine Tri.seq ?_
    refine Tri.cond (b := decide (x8 < (a0.length : Int))) rfl (fun g_1 => ?_) (fun g_1 => ?_)
    · replace hE_1 := if_tt g_1 hE_1
      refine Tri.skip ?_
      refine Nrm.seq ?_
      refine Tri.seq ?_
      refine Tri.block ?_
      refine Tri.seq ?_
      obtain ⟨t10, h10, hE_1⟩ := bind_some hE_1
      refine Tri.reg (l := [0, 1, 2]) rfl ?_
      refine F.q rfl rfl rfl (wanted_none rfl) (r_indexAddrS Try.underlying38 ti3 rfl hl_va0 rfl (rdl_some h10).1 (rdl_some h10).2.1) ?_
      refine F.q rfl rfl rfl (wanted_none rfl) (r_load ta3 rfl (fun w hw => cell_0 (Rd.flat ((fun _ hw => hr_a0.sep hw) w hw) (rdl_some h10).2.2) rfl)) ?_
      refine F.q rfl rfl rfl (wanted_none rfl) (r_assign rfl) ?_
      refine F.nil ?_
      refine Nrm.seq ?_
      refine Tri.seq ?_
      refine Tri.reg (l := [0, 1, 2]) rfl ?_
      refine F.q rfl rfl rfl (wanted_none rfl) (r_move rfl) ?_
      refine F.q rfl rfl rfl (wanted_none rfl) (r_move rfl) ?_
      refine F.q rfl rfl rfl (wanted_none rfl) (r_neq rfl rfl) ?_
      refine F.nil ?_
      refine Nrm.seq ?_
      refine Tri.cond (b := t10 != 0) rfl (fun g_2 => ?_) (fun g_2 => ?_)
      · replace hE_1 := if_tt g_2 hE_1
        refine Tri.seq ?_
        refine Tri.reg (l := [0, 1]) rfl ?_
        refine F.q rfl rfl rfl (wanted_none rfl) (r_move rfl) ?_
        refine F.q rfl rfl rfl (wanted_none rfl) (r_assign rfl) ?_
        refine F.nil ?_
        refine Nrm.seq ?_
        refine Tri.ret ?_
        refine Rtn.block ?_
        refine Rtn.then ?_
        refine Rtn.then ?_
        refine Rtn.block ?_
        refine Rtn.then ?_
        cases hE_1
        replace h := Lr_inr h
        cases h
        exact Rtn.body (.tmp rfl .nil) (fun w hw => ⟨rfl, hw.ext⟩)
      · replace hE_1 := if_ff g_2 hE_1
        refine Tri.skip ?_
        refine Nrm.block ?_
        refine Nrm.seq ?_
        refine Tri.reg (l := [0, 1]) rfl ?_
        refine F.q rfl rfl rfl (wanted_none rfl) (r_add rfl rfl) ?_
        refine F.q rfl rfl rfl (wanted_none rfl) (r_move rfl) ?_
        refine F.nil ?_
        refine Nrm.round ?_
        refine Rnd.only [3, 6, 7, 8] rfl ?_
        refine Rnd.pick [] rfl rfl ?_
        exact ih_1 _ _ ⟨w64 (x8 + 1), hE_1, rfl, rfl⟩
    · replace hE_1 := if_ff g_1 hE_1
      refine Tri.exit ?_
      refine Exi.then ?_
      refine Exi.then ?_
      refine Exi.same ?_
      cases hE_1
      replace h := Lr_inl h
      refine Nrm.seq ?_
      refine Tri.seq ?_
      refine Tri.reg (l := [0, 1]) rfl ?_
      refine F.q rfl rfl rfl (wanted_none rfl) (r_move rfl) ?_
      refine F.q rfl rfl rfl (wanted_none rfl) (r_assign rfl) ?_
      refine F.nil ?_
      refine Nrm.seq ?_
      refine Tri.ret ?_
      cases h
      exact Rtn.body (.tmp rfl .nil) (fun w hw => ⟨rfl, hw.ext⟩)

end Go.Proofs

/- cmp.isNaN[int] -/

namespace Go.Proofs
open Go Go.Ga
set_option linter.unusedVariables false
set_option maxRecDepth 100000
set_option maxHeartbeats 4000000
def cmp_isNaN_int.f (k : Nat) (a0 : Int) : Option (Bool) := some (a0 != a0)

theorem cmp_isNaN_int.ok {k : Nat}  {a0 : Int} {r0 : Bool} (h : cmp_isNaN_int.f k a0 = some r0) (w : World) :
    Calls Try.prog 166 ([.int .i64 a0] : List Value).toArray w (fun e w' => e = .returned (.bool r0) ∧ Ext w w') := by
  unfold cmp_isNaN_int.f at h
  refine Calls.of_tri (N := 6) Try.func166 rfl rfl rfl (Sep.nil (M := noM)) ?_
  refine Tri.seq ?_
  refine Tri.reg (l := [0]) rfl ?_
  refine F.q rfl rfl rfl (wanted_none rfl) (r_assign rfl) ?_
  refine F.nil ?_
  refine Nrm.seq ?_
  refine Tri.seq ?_
  refine Tri.reg (l := [0, 1, 2, 3]) rfl ?_
  refine F.q rfl rfl rfl (wanted_none rfl) (r_move rfl) ?_
  refine F.q rfl rfl rfl (wanted_none rfl) (r_move rfl) ?_
  refine F.q rfl rfl rfl (wanted_none rfl) (r_neq rfl rfl) ?_
  refine F.q rfl rfl rfl (wanted_none rfl) (r_assign rfl) ?_
  refine F.nil ?_
  refine Nrm.seq ?_
  refine Tri.ret ?_
  cases h
  exact Rtn.body (.tmp rfl .nil) (fun w hw => ⟨rfl, hw.ext⟩)

end Go.Proofs

/- cmp.Compare[int] -/
namespace Go.Proofs
open Go Go.Ga
set_option linter.unusedVariables false
set_option maxRecDepth 100000
set_option maxHeartbeats 4000000
def cmp_Compare_int.f (k : Nat) (a0 : Int) (a1 : Int) : Option (Int) := (cmp_isNaN_int.f k a0).bind fun t8 => (cmp_isNaN_int.f k a1).bind fun t10 => (if t8 = true then (if t10 = true then some 0 else some (-1)) else (if t10 = true then some 1 else (if (decide (a0 < a1)) = true then some (-1) else (if (decide (a0 > a1)) = true then some 1 else some 0))))

theorem cmp_Compare_int.ok {k : Nat}  {a0 : Int} {a1 : Int} {r0 : Int} (h : cmp_Compare_int.f k a0 a1 = some r0) (w : World) :
    Calls Try.prog 172 ([.int .i64 a0, .int .i64 a1] : List Value).toArray w (fun e w' => e = .returned (.int .i64 r0) ∧ Ext w w') := by
  unfold cmp_Compare_int.f at h
  refine Calls.of_tri (N := 20) Try.func172 rfl rfl rfl (Sep.nil (M := noM)) ?_
  refine Tri.seq ?_
  refine Tri.reg (l := [0]) rfl ?_
  refine F.q rfl rfl rfl (wanted_none rfl) (r_assign rfl) ?_
  refine F.nil ?_
  refine Nrm.seq ?_
  refine Tri.seq ?_
  obtain ⟨t8, h8, h⟩ := bind_some h
  refine Tri.reg (l := [0, 1, 2]) rfl ?_
  refine F.q rfl rfl rfl (wanted_none rfl) (r_move rfl) ?_
  refine F.qc rfl rfl rfl (wanted_none rfl) (q_callF (xs := _) rfl ok166 rfl rfl (fun w hw => cmp_isNaN_int.ok h8 w )) ?_
  refine F.q rfl rfl rfl (wanted_none rfl) (r_assign rfl) ?_
  refine F.nil ?_
  refine Nrm.seq ?_
  refine Tri.seq ?_
  obtain ⟨t10, h10, h⟩ := bind_some h
  refine Tri.reg (l := [0, 1, 2]) rfl ?_
  refine F.q rfl rfl rfl (wanted_none rfl) (r_move rfl) ?_
  refine F.qc rfl rfl rfl (wanted_none rfl) (q_callF (xs := _) rfl ok166 rfl rfl (fun w hw => cmp_isNaN_int.ok h10 w )) ?_
  refine F.q rfl rfl rfl (wanted_none rfl) (r_assign rfl) ?_
  refine F.nil ?_
  refine Nrm.seq ?_
  refine Tri.seq ?_
  refine Tri.seq ?_
  refine Tri.reg (l := [0]) rfl ?_
  refine F.q rfl rfl rfl (wanted_none rfl) (r_move rfl) ?_
  refine F.nil ?_
  refine Nrm.seq ?_
  refine Tri.cond (b := t8) rfl (fun g_1 => ?_) (fun g_1 => ?_)
  · replace h := if_tt g_1 h
    refine Tri.seq ?_
    refine Tri.seq ?_
    refine Tri.reg (l := [0]) rfl ?_
    refine F.q rfl rfl rfl (wanted_none rfl) (r_move rfl) ?_
    refine F.nil ?_
    refine Nrm.seq ?_
    refine Tri.cond (b := t10) rfl (fun g_2 => ?_) (fun g_2 => ?_)
    · replace h := if_tt g_2 h
      refine Tri.seq ?_
      refine Tri.reg (l := [0]) rfl ?_
      refine F.q rfl rfl rfl (wanted_none rfl) (r_assign rfl) ?_
      refine F.nil ?_
      refine Nrm.seq ?_
      refine Tri.ret ?_
      refine Rtn.then ?_
      refine Rtn.then ?_
      cases h
      exact Rtn.body (.tmp rfl .nil) (fun w hw => ⟨rfl, hw.ext⟩)
    · replace h := if_ff g_2 h
      refine Tri.skip ?_
      refine Nrm.seq ?_
      refine Tri.seq ?_
      refine Tri.reg (l := [0]) rfl ?_
      refine F.q rfl rfl rfl (wanted_none rfl) (r_assign rfl) ?_
      refine F.nil ?_
      refine Nrm.seq ?_
      refine Tri.ret ?_
      refine Rtn.then ?_
      cases h
      exact Rtn.body (.tmp rfl .nil) (fun w hw => ⟨rfl, hw.ext⟩)
  · replace h := if_ff g_1 h
    refine Tri.skip ?_
    refine Nrm.seq ?_
    refine Tri.seq ?_
    refine Tri.seq ?_
    refine Tri.reg (l := [0]) rfl ?_
    refine F.q rfl rfl rfl (wanted_none rfl) (r_move rfl) ?_
    refine F.nil ?_
    refine Nrm.seq ?_
    refine Tri.cond (b := t10) rfl (fun g_3 => ?_) (fun g_3 => ?_)
    · replace h := if_tt g_3 h
      refine Tri.seq ?_
      refine Tri.reg (l := [0]) rfl ?_
      refine F.q rfl rfl rfl (wanted_none rfl) (r_assign rfl) ?_
      refine F.nil ?_
      refine Nrm.seq ?_
      refine Tri.ret ?_
      refine Rtn.then ?_
      cases h
      exact Rtn.body (.tmp rfl .nil) (fun w hw => ⟨rfl, hw.ext⟩)
    · replace h := if_ff g_3 h
      refine Tri.skip ?_
      refine Nrm.seq ?_
      refine Tri.seq ?_
      refine Tri.seq ?_
      refine Tri.reg (l := [0, 1, 2]) rfl ?_
      refine F.q rfl rfl rfl (wanted_none rfl) (r_move rfl) ?_
      refine F.q rfl rfl rfl (wanted_none rfl) (r_move rfl) ?_
      refine F.q rfl rfl rfl (wanted_none rfl) (r_lss rfl rfl) ?_
      refine F.nil ?_
      refine Nrm.seq ?_
      refine Tri.cond (b := decide (a0 < a1)) rfl (fun g_4 => ?_) (fun g_4 => ?_)
      · replace h := if_tt g_4 h
        refine Tri.seq ?_
        refine Tri.reg (l := [0]) rfl ?_
        refine F.q rfl rfl rfl (wanted_none rfl) (r_assign rfl) ?_
        refine F.nil ?_
        refine Nrm.seq ?_
        refine Tri.ret ?_
        refine Rtn.then ?_
        cases h
        exact Rtn.body (.tmp rfl .nil) (fun w hw => ⟨rfl, hw.ext⟩)
      · replace h := if_ff g_4 h
        refine Tri.skip ?_
        refine Nrm.seq ?_
        refine Tri.seq ?_
        refine Tri.seq ?_
        refine Tri.reg (l := [0, 1, 2]) rfl ?_
        refine F.q rfl rfl rfl (wanted_none rfl) (r_move rfl) ?_
        refine F.q rfl rfl rfl (wanted_none rfl) (r_move rfl) ?_
        refine F.q rfl rfl rfl (wanted_none rfl) (r_gtr rfl rfl) ?_
        refine F.nil ?_
        refine Nrm.seq ?_
        refine Tri.cond (b := decide (a0 > a1)) rfl (fun g_5 => ?_) (fun g_5 => ?_)
        · replace h := if_tt g_5 h
          refine Tri.seq ?_
          refine Tri.reg (l := [0]) rfl ?_
          refine F.q rfl rfl rfl (wanted_none rfl) (r_assign rfl) ?_
          refine F.nil ?_
          refine Nrm.seq ?_
          refine Tri.ret ?_
          refine Rtn.then ?_
          cases h
          exact Rtn.body (.tmp rfl .nil) (fun w hw => ⟨rfl, hw.ext⟩)
        · replace h := if_ff g_5 h
          refine Tri.skip ?_
          refine Nrm.seq ?_
          refine Tri.seq ?_
          refine Tri.reg (l := [0]) rfl ?_
          refine F.q rfl rfl rfl (wanted_none rfl) (r_assign rfl) ?_
          refine F.nil ?_
          refine Nrm.seq ?_
          refine Tri.ret ?_
          cases h
          exact Rtn.body (.tmp rfl .nil) (fun w hw => ⟨rfl, hw.ext⟩)

end Go.Proofs

/- loop.example/g01158/impl.compareDoors -/
namespace Go.Proofs
open Go Go.Ga
set_option linter.unusedVariables false
set_option maxRecDepth 100000
set_option maxHeartbeats 4000000
def impl_compareDoors.f (k : Nat) (a0_0 : Int) (a0_1 : Int) (a0_2 : Int) (a1_0 : Int) (a1_1 : Int) (a1_2 : Int) : Option (Int) := (cmp_Compare_int.f k a0_0 a1_0).bind fun t9 => (cmp_Compare_int.f k a0_1 a1_1).bind fun t14 => (cmp_Compare_int.f k a0_2 a1_2).bind fun t19 => (cmp_Or_int.f k ([t9, t14, t19] : List (Int))).bind fun t21 => some t21

theorem impl_compareDoors.ok {k : Nat}  {a0_0 : Int} {a0_1 : Int} {a0_2 : Int} {a1_0 : Int} {a1_1 : Int} {a1_2 : Int} {r0 : Int} (h : impl_compareDoors.f k a0_0 a0_1 a0_2 a1_0 a1_1 a1_2 = some r0) (w : World) :
    Calls Try.prog 159 ([.agg ([.int .i64 a0_0, .int .i64 a0_1, .int .i64 a0_2].toArray), .agg ([.int .i64 a1_0, .int .i64 a1_1, .int .i64 a1_2].toArray)] : List Value).toArray w (fun e w' => e = .returned (.int .i64 r0) ∧ Ext w w') := by
  unfold impl_compareDoors.f at h
  refine Calls.of_tri (N := 22) Try.func159 rfl rfl rfl (Sep.nil (M := noM)) ?_
  refine Tri.seq ?_
  refine Tri.reg (l := [0, 1, 2]) rfl ?_
  refine F.m rfl rfl rfl (wanted_none rfl) (m_boxG rfl rfl) ?_
  rintro _ _ ⟨b2_1, rfl, rfl⟩
  refine F.m rfl rfl rfl (wanted_none rfl) (m_boxG rfl rfl) ?_
  rintro _ _ ⟨b3_1, rfl, rfl⟩
  refine F.q rfl rfl rfl (wanted_none rfl) (r_assign rfl) ?_
  refine F.nil ?_
  refine Nrm.seq ?_
  refine Tri.seq ?_
  obtain ⟨t9, h9, h⟩ := bind_some h
  obtain ⟨t14, h14, h⟩ := bind_some h
  obtain ⟨t19, h19, h⟩ := bind_some h
  obtain ⟨t21, h21, h⟩ := bind_some h
  refine Tri.drawA mixedT Sep.up [(0, true), (1, true), (2, true), (3, true), (4, true), (5, true), (6, true), (7, true), (8, true), (9, true), (10, true), (11, true), (12, true), (13, true), (14, true), (15, false), (16, true), (17, true)] [] (by kernel_rfl) ?_
  refine S.q rfl rfl rfl (wanted_none rfl) (r_indexAddrA Try.underlying140 ti3 rfl rfl (by decide) (by decide)) ?_
  refine S.q rfl rfl rfl (wanted_none rfl) (r_load ta3 rfl (fun w hw => cell_1 (box_cells (i := 1) rfl w hw) rfl)) ?_
  refine S.q rfl rfl rfl (wanted_none rfl) (r_indexAddrA Try.underlying140 ti3 rfl rfl (by decide) (by decide)) ?_
  refine S.q rfl rfl rfl (wanted_none rfl) (r_load ta3 rfl (fun w hw => cell_1 (box_cells (i := 0) rfl w hw) rfl)) ?_
  refine S.qc rfl rfl rfl (wanted_none rfl) (q_callF (xs := _) rfl ok172 rfl rfl (fun w hw => cmp_Compare_int.ok h9 w )) ?_
  refine S.q rfl rfl rfl (wanted_none rfl) (r_indexAddrA Try.underlying140 ti3 rfl rfl (by decide) (by decide)) ?_
  refine S.q rfl rfl rfl (wanted_none rfl) (r_load ta3 rfl (fun w hw => cell_1 (box_cells (i := 1) rfl w hw) rfl)) ?_
  refine S.q rfl rfl rfl (wanted_none rfl) (r_indexAddrA Try.underlying140 ti3 rfl rfl (by decide) (by decide)) ?_
  refine S.q rfl rfl rfl (wanted_none rfl) (r_load ta3 rfl (fun w hw => cell_1 (box_cells (i := 0) rfl w hw) rfl)) ?_
  refine S.qc rfl rfl rfl (wanted_none rfl) (q_callF (xs := _) rfl ok172 rfl rfl (fun w hw => cmp_Compare_int.ok h14 w )) ?_
  refine S.q rfl rfl rfl (wanted_none rfl) (r_indexAddrA Try.underlying140 ti3 rfl rfl (by decide) (by decide)) ?_
  refine S.q rfl rfl rfl (wanted_none rfl) (r_load ta3 rfl (fun w hw => cell_1 (box_cells (i := 1) rfl w hw) rfl)) ?_
  refine S.q rfl rfl rfl (wanted_none rfl) (r_indexAddrA Try.underlying140 ti3 rfl rfl (by decide) (by decide)) ?_
  refine S.q rfl rfl rfl (wanted_none rfl) (r_load ta3 rfl (fun w hw => cell_1 (box_cells (i := 0) rfl w hw) rfl)) ?_
  refine S.qc rfl rfl rfl (wanted_none rfl) (q_callF (xs := _) rfl ok172 rfl rfl (fun w hw => cmp_Compare_int.ok h19 w )) ?_
  refine S.m rfl rfl rfl (wanted_none rfl) (m_buildF (l := ([t9, t14, t19] : List (Int))) Try.underlying38 ti3 rfl rfl rfl rfl rfl) ?_
  rintro v20_2 _ ⟨S20_2, hl_v20_2, rfl⟩
  refine S.qc rfl rfl rfl (wanted_none rfl) (q_callF (xs := _) rfl ok171 rfl rfl (fun w hw => cmp_Or_int.ok h21 w ((rd_sl (i := 0) rfl) w hw))) ?_
  refine S.q rfl rfl rfl (wanted_none rfl) (r_assign rfl) ?_
  refine S.nil ?_
  refine F.nil ?_
  refine Nrm.seq ?_
  refine Tri.ret ?_
  cases h
  exact Rtn.body (.tmp rfl .nil) (fun w hw => ⟨rfl, hw.ext⟩)

end Go.Proofs

/- loop.example/g01158/impl.IsMaze$1 -/
namespace Go.Proofs
open Go Go.Ga
set_option linter.unusedVariables false
set_option maxRecDepth 100000
set_option maxHeartbeats 4000000
def impl_IsMaze_1.f (k : Nat) (a0 : Int) : Option (Bool) := (impl_isSet.f k a0).bind fun t4 => some (!t4)

theorem impl_IsMaze_1.ok {k : Nat}  {a0 : Int} {r0 : Bool} (h : impl_IsMaze_1.f k a0 = some r0) (w : World) :
    Calls Try.prog 160 ([.int .i64 a0] : List Value).toArray w (fun e w' => e = .returned (.bool r0) ∧ Ext w w') := by
  unfold impl_IsMaze_1.f at h
  refine Calls.of_tri (N := 6) Try.func160 rfl rfl rfl (Sep.nil (M := noM)) ?_
  refine Tri.seq ?_
  refine Tri.reg (l := [0]) rfl ?_
  refine F.q rfl rfl rfl (wanted_none rfl) (r_assign rfl) ?_
  refine F.nil ?_
  refine Nrm.seq ?_
  refine Tri.seq ?_
  obtain ⟨t4, h4, h⟩ := bind_some h
  refine Tri.reg (l := [0, 1, 2, 3]) rfl ?_
  refine F.q rfl rfl rfl (wanted_none rfl) (r_move rfl) ?_
  refine F.qc rfl rfl rfl (wanted_none rfl) (q_callF (xs := _) rfl ok144 rfl rfl (fun w hw => impl_isSet.ok h4 w )) ?_
  refine F.q rfl rfl rfl (wanted_none rfl) (r_not rfl) ?_
  refine F.q rfl rfl rfl (wanted_none rfl) (r_assign rfl) ?_
  refine F.nil ?_
  refine Nrm.seq ?_
  refine Tri.ret ?_
  cases h
  exact Rtn.body (.tmp rfl .nil) (fun w hw => ⟨rfl, hw.ext⟩)

end Go.Proofs

/- loop.example/g01158/impl.IsMaze -/
namespace Go.Proofs
open Go Go.Ga
set_option linter.unusedVariables false
set_option maxRecDepth 100000
set_option maxHeartbeats 4000000
def impl_IsMaze.l0 (k : Nat) (a0_0 : Int) (a0_1 : List (Int × Int × Int)) : Nat → Int → Option ((Unit) ⊕ (Bool))
  | 0, _ => none
  | n + 1, x26 => (if (decide (x26 < (a0_1.length : Int))) = true then (rdl a0_1 x26).bind fun t29 => ((if (decide (t29.1 < 0)) = true then some true else (if (decide (t29.1 ≥ t29.2.1)) = true then some true else (if (decide (t29.2.1 ≥ a0_0)) = true then some true else (impl_isSet.f k t29.2.2).bind fun t51 => (if (!t51) = true then some true else (if (decide (x26 > 0)) = true then (rdl a0_1 (w64 (x26 - 1))).bind fun t62 => (impl_compareDoors.f k t62.1 t62.2.1 t62.2.2 t29.1 t29.2.1 t29.2.2).bind fun t65 => some (decide (t65 ≥ 0)) else some false)))))).bind fun y68 => (if y68 = true then some (Sum.inr false) else impl_IsMaze.l0 k a0_0 a0_1 n (w64 (x26 + 1))) else some (Sum.inl ()))

def impl_IsMaze.f (k : Nat) (a0_0 : Int) (a0_1 : List (Int × Int × Int)) (a0_2 : List Int) : Option (Bool) := ((impl_within.f k a0_0 1 12).bind fun t7 => (if (!t7) = true then some true else (if (decide ((a0_1.length : Int) > 30)) = true then some true else some ((a0_2.length : Int) != a0_0)))).bind fun y22 => (if y22 = true then some false else (impl_IsMaze.l0 k a0_0 a0_1 k 0).bind fun s => Lr s some fun _ => (slices_ContainsFunc_int_int.f k a0_2 (fun z0 => impl_IsMaze_1.f k z0)).bind fun t72 => some (!t72))

theorem impl_IsMaze.ok {k : Nat}  {a0_0 : Int} {a0_1 : List (Int × Int × Int)} {a0_2 : List Int} {r0 : Bool} (h : impl_IsMaze.f k a0_0 a0_1 a0_2 = some r0) (w : World) {va0_1 : Value} {va0_2 : Value} (hr_a0_1 : Rd w va0_1 a0_1) (hr_a0_2 : Rd w va0_2 a0_2) :
    Calls Try.prog 121 ([.agg ([.int .i64 a0_0, va0_1, va0_2].toArray)] : List Value).toArray w (fun e w' => e = .returned (.bool r0) ∧ Ext w w') := by
  unfold impl_IsMaze.f at h
  have hl_va0_1 := hr_a0_1.len
  have hl_va0_2 := hr_a0_2.len
  refine Calls.of_tri (N := 74) Try.func121 rfl rfl rfl (Sep.nil (M := noM)) ?_
  refine Tri.seq ?_
  refine Tri.reg (l := [0, 1]) rfl ?_
  refine F.m rfl rfl rfl (wanted_none rfl) (m_boxG rfl rfl) ?_
  rintro _ _ ⟨b1_1, rfl, rfl⟩
  refine F.q rfl rfl rfl (wanted_none rfl) (r_assign rfl) ?_
  refine F.nil ?_
  refine Nrm.seq ?_
  refine Tri.seq ?_
  refine Tri.seq ?_
  obtain ⟨y22, hE_1, h⟩ := bind_some h
  refine Tri.cut (fun e' C' => e' = [(1, .pointer (some ⟨b1_1, 0, none⟩)), (22, .bool y22)] ∧ C' = Sep w noM [R.box b1_1 55 [.int .i64 a0_0, va0_1, va0_2]]) ?_ (fun hj_1 => ?_)
  · rintro _ _ ⟨rfl, rfl⟩
    refine Nrm.seq ?_
    refine Tri.cond (b := y22) rfl (fun g_1 => ?_) (fun g_1 => ?_)
    · replace h := if_tt g_1 h
      refine Tri.seq ?_
      refine Tri.reg (l := [0]) rfl ?_
      refine F.q rfl rfl rfl (wanted_none rfl) (r_assign rfl) ?_
      refine F.nil ?_
      refine Nrm.seq ?_
      refine Tri.ret ?_
      refine Rtn.then ?_
      cases h
      exact Rtn.body (.tmp rfl .nil) (fun w hw => ⟨rfl, hw.ext⟩)
    · replace h := if_ff g_1 h
      refine Tri.skip ?_
      refine Nrm.seq ?_
      refine Tri.seq ?_
      refine Tri.seq ?_
      refine Tri.reg (l := [0, 1, 2, 3]) rfl ?_
      refine F.q rfl rfl rfl (wanted_none rfl) (r_fieldAddr tf55_1 rfl) ?_
      refine F.q rfl rfl rfl (wanted_none rfl) (r_load ta49 rfl (fun w hw => cell_1 (box_cells (i := 0) rfl w hw) rfl)) ?_
      refine F.q rfl rfl rfl (wanted_none rfl) (r_len Try.underlying49 rfl hl_va0_1) ?_
      refine F.q rfl rfl rfl (wanted_none rfl) (r_move rfl) ?_
      refine F.nil ?_
      refine Nrm.seq ?_
      obtain ⟨s0, hE_2, h⟩ := bind_some h
      refine Tri.block ?_
      refine Tri.only [1, 24, 25, 26] rfl ?_
      refine Tri.pick [0] rfl rfl ?_
      refine Tri.rounds (fun n e' C' => ∃ (x26' : Int), impl_IsMaze.l0 k a0_0 a0_1 n x26' = some s0 ∧ e' = [(1, .pointer (some ⟨b1_1, 0, none⟩)), (24, va0_1), (25, .int .i64 (a0_1.length : Int)), (26, .int .i64 x26')] ∧ C' = Sep w noM [R.box b1_1 55 [.int .i64 a0_0, va0_1, va0_2]]) k ?_ ?_ ?_
      · exact ⟨0, hE_2, rfl, rfl⟩
      · rintro _ _ ⟨_, hE_2, _⟩
        rw [impl_IsMaze.l0.eq_1] at hE_2; cases hE_2
      · rintro n_1 _ _ ⟨x26, hE_2, rfl, rfl⟩ ih_1
        rw [impl_IsMaze.l0.eq_2] at hE_2
        refine Tri.seq ?_
        refine Tri.reg (l := [0]) rfl ?_
        refine F.q rfl rfl rfl (wanted_none rfl) (r_lss rfl rfl) ?_
        refine F.nil ?_
        refine Nrm.seq ?_
        refine Tri.seq ?_
        refine Tri.cond (b := decide (x26 < (a0_1.length : Int))) rfl (fun g_2 => ?_) (fun g_2 => ?_)
        · replace hE_2 := if_tt g_2 hE_2
          refine Tri.skip ?_
          refine Nrm.seq ?_
          refine Tri.seq ?_
          refine Tri.block ?_
          refine Tri.seq ?_
          obtain ⟨t29, h29, hE_2⟩ := bind_some hE_2
          refine Tri.reg (l := [0, 1, 2, 3, 4, 5]) rfl ?_
          refine F.q rfl rfl rfl (wanted_none rfl) (r_move rfl) ?_
          refine F.q rfl rfl rfl (wanted_none rfl) (r_indexAddrS Try.underlying49 ti140 rfl hl_va0_1 rfl (rdl_some h29).1 (rdl_some h29).2.1) ?_
          refine F.q rfl rfl rfl (wanted_none rfl) (r_loadA ta140 ti140 rfl rfl (fun w hw => (Rd.flat ((fun _ hw => hr_a0_1.sep hw) w hw) (rdl_some h29).2.2))) ?_
          refine F.m rfl rfl rfl (wanted_none rfl) (m_alloc ti140) ?_
          rintro _ _ ⟨b4_1, rfl, rfl⟩
          refine F.q rfl rfl rfl (wanted_none rfl) (r_assign rfl) ?_
          refine F.ef0 rfl rfl (wanted_none rfl) (d_storeG0 (i := 0) (cs2 := [.int .i64 t29.1, .int .i64 t29.2.1, .int .i64 t29.2.2]) ti140 rfl rfl rfl rfl rfl (Nat.le_of_ble_eq_true rfl) (lf_cons rfl (lf_cons rfl (lf_cons rfl lf_nil)))) ?_
          rintro _ _ ⟨rfl, rfl⟩
          refine F.nil ?_
          refine Nrm.seq ?_
          refine Tri.seq ?_
          obtain ⟨y68, hE_3, hE_2⟩ := bind_some hE_2
          refine Tri.cut (fun e' C' => e' = [(1, .pointer (some ⟨b1_1, 0, none⟩)), (24, va0_1), (25, .int .i64 (a0_1.length : Int)), (26, .int .i64 x26), (68, .bool y68)] ∧ C' = Sep w noM [R.box b1_1 55 [.int .i64 a0_0, va0_1, va0_2]]) ?_ (fun hj_2 => ?_)
          · rintro _ _ ⟨rfl, rfl⟩
            refine Nrm.seq ?_
            refine Tri.cond (b := y68) rfl (fun g_3 => ?_) (fun g_3 => ?_)
            · replace hE_2 := if_tt g_3 hE_2
              refine Tri.seq ?_
              refine Tri.reg (l := [0]) rfl ?_
              refine F.q rfl rfl rfl (wanted_none rfl) (r_assign rfl) ?_
              refine F.nil ?_
              refine Nrm.seq ?_
              refine Tri.ret ?_
              refine Rtn.block ?_
              refine Rtn.then ?_
              refine Rtn.then ?_
              refine Rtn.block ?_
              refine Rtn.then ?_
              cases hE_2
              replace h := Lr_inr h
              cases h
              exact Rtn.body (.tmp rfl .nil) (fun w hw => ⟨rfl, hw.ext⟩)
            · replace hE_2 := if_ff g_3 hE_2
              refine Tri.skip ?_
              refine Nrm.block ?_
              refine Nrm.seq ?_
              refine Tri.reg (l := [0, 1]) rfl ?_
              refine F.q rfl rfl rfl (wanted_none rfl) (r_add rfl rfl) ?_
              refine F.q rfl rfl rfl (wanted_none rfl) (r_move rfl) ?_
              refine F.nil ?_
              refine Nrm.round ?_
              refine Rnd.only [1, 24, 25, 26] rfl ?_
              refine Rnd.pick [0] rfl rfl ?_
              exact ih_1 _ _ ⟨w64 (x26 + 1), hE_2, rfl, rfl⟩
          · rcases Bool.eq_false_or_eq_true (decide (t29.1 < 0)) with g34 | g34
            · replace hE_3 := if_tt g34 hE_3
              refine Tri.drawA mixedT Sep.up [(0, true), (1, true), (2, true), (3, true), (4, true), (5, true), (6, true), (7, true), (8, true), (9, true), (10, true), (11, true), (12, true), (13, true), (14, true), (15, true), (16, true), (17, true), (18, true), (19, true), (20, true), (21, true), (22, true), (23, true), (24, true), (25, true), (26, true), (27, true), (28, true), (29, true), (30, true), (31, true), (32, true), (33, true), (34, true), (35, true), (36, true), (37, true)] [] (by kernel_rfl) ?_
              refine S.q rfl rfl rfl (wanted_none rfl) (r_indexAddrA Try.underlying140 ti3 rfl rfl (by decide) (by decide)) ?_
              refine S.q rfl rfl rfl (wanted_none rfl) (r_load ta3 rfl (fun w hw => cell_1 (box_cells (i := 0) rfl w hw) rfl)) ?_
              refine S.q rfl rfl rfl (wanted_none rfl) (r_lss rfl rfl) ?_
              refine S.q rfl rfl rfl (wanted_none rfl) (r_move rfl) ?_
              refine S.sk rfl rfl rfl (wf rfl rfl rfl g34) ?_
              refine S.sk rfl rfl rfl (wf rfl rfl rfl g34) ?_
              refine S.sk rfl rfl rfl (wf rfl rfl rfl g34) ?_
              refine S.sk rfl rfl rfl (wf rfl rfl rfl g34) ?_
              refine S.sk rfl rfl rfl (wf rfl rfl rfl g34) ?_
              refine S.q rfl rfl rfl (wanted_none rfl) (r_pick rfl rfl g34) ?_
              refine S.q rfl rfl rfl (wanted_none rfl) (r_move rfl) ?_
              refine S.sk rfl rfl rfl (wf rfl rfl rfl rfl) ?_
              refine S.sk rfl rfl rfl (wf rfl rfl rfl rfl) ?_
              refine S.sk rfl rfl rfl (wf rfl rfl rfl rfl) ?_
              refine S.sk rfl rfl rfl (wf rfl rfl rfl rfl) ?_
              refine S.sk rfl rfl rfl (wf rfl rfl rfl rfl) ?_
              refine S.q rfl rfl rfl (wanted_none rfl) (r_pick rfl rfl rfl) ?_
              refine S.q rfl rfl rfl (wanted_none rfl) (r_move rfl) ?_
              refine S.sk rfl rfl rfl (wf rfl rfl rfl rfl) ?_
              refine S.sk rfl rfl rfl (wf rfl rfl rfl rfl) ?_
              refine S.sk rfl rfl rfl (wf rfl rfl rfl rfl) ?_
              refine S.sk rfl rfl rfl (wf rfl rfl rfl rfl) ?_
              refine S.q rfl rfl rfl (wanted_none rfl) (r_pick rfl rfl rfl) ?_
              refine S.q rfl rfl rfl (wanted_none rfl) (r_move rfl) ?_
              refine S.sk rfl rfl rfl (wf rfl rfl rfl rfl) ?_
              refine S.sk rfl rfl rfl (wf rfl rfl rfl rfl) ?_
              refine S.sk rfl rfl rfl (wf rfl rfl rfl rfl) ?_
              refine S.sk rfl rfl rfl (wanted_undef rfl rfl rfl) ?_
              refine S.sk rfl rfl rfl (wanted_undef rfl rfl rfl) ?_
              refine S.sk rfl rfl rfl (wanted_undef rfl rfl rfl) ?_
              refine S.sk rfl rfl rfl (wanted_undef rfl rfl rfl) ?_
              refine S.sk rfl rfl rfl (wanted_undef rfl rfl rfl) ?_
              refine S.sk rfl rfl rfl (wanted_undef rfl rfl rfl) ?_
              refine S.sk rfl rfl rfl (wanted_undef rfl rfl rfl) ?_
              refine S.sk rfl rfl rfl (wanted_undef rfl rfl rfl) ?_
              refine S.sk rfl rfl rfl (wanted_undef rfl rfl rfl) ?_
              refine S.sk rfl rfl rfl (wf rfl rfl rfl rfl) ?_
              refine S.q rfl rfl rfl (wanted_none rfl) (r_pick rfl rfl rfl) ?_
              refine S.nil ?_
              refine F.nil ?_
              cases hE_3
              refine Nrm.only [1, 24, 25, 26, 68] rfl ?_
              refine Nrm.pick [1] rfl rfl ?_
              exact hj_2 _ _ ⟨rfl, rfl⟩
            · replace hE_3 := if_ff g34 hE_3
              rcases Bool.eq_false_or_eq_true (decide (t29.1 ≥ t29.2.1)) with g41 | g41
              · replace hE_3 := if_tt g41 hE_3
                refine Tri.drawA mixedT Sep.up [(0, true), (1, true), (2, true), (3, true), (4, true), (5, true), (6, true), (7, true), (8, true), (9, true), (10, true), (11, true), (12, true), (13, true), (14, true), (15, true), (16, true), (17, true), (18, true), (19, true), (20, true), (21, true), (22, true), (23, true), (24, true), (25, true), (26, true), (27, true), (28, true), (29, true), (30, true), (31, true), (32, true), (33, true), (34, true), (35, true), (36, true), (37, true)] [] (by kernel_rfl) ?_
                refine S.q rfl rfl rfl (wanted_none rfl) (r_indexAddrA Try.underlying140 ti3 rfl rfl (by decide) (by decide)) ?_
                refine S.q rfl rfl rfl (wanted_none rfl) (r_load ta3 rfl (fun w hw => cell_1 (box_cells (i := 0) rfl w hw) rfl)) ?_
                refine S.q rfl rfl rfl (wanted_none rfl) (r_lss rfl rfl) ?_
                refine S.q rfl rfl rfl (wanted_none rfl) (r_move rfl) ?_
                refine S.q rfl rfl rfl (wg rfl rfl rfl g34) (r_indexAddrA Try.underlying140 ti3 rfl rfl (by decide) (by decide)) ?_
                refine S.q rfl rfl rfl (wg rfl rfl rfl g34) (r_load ta3 rfl (fun w hw => cell_1 (box_cells (i := 0) rfl w hw) rfl)) ?_
                refine S.q rfl rfl rfl (wg rfl rfl rfl g34) (r_indexAddrA Try.underlying140 ti3 rfl rfl (by decide) (by decide)) ?_
                refine S.q rfl rfl rfl (wg rfl rfl rfl g34) (r_load ta3 rfl (fun w hw => cell_1 (box_cells (i := 0) rfl w hw) rfl)) ?_
                refine S.q rfl rfl rfl (wg rfl rfl rfl g34) (r_geq rfl rfl) ?_
                refine S.q rfl rfl rfl (wanted_none rfl) (r_pickf rfl rfl g34) ?_
                refine S.q rfl rfl rfl (wanted_none rfl) (r_move rfl) ?_
                refine S.sk rfl rfl rfl (wf rfl rfl rfl g41) ?_
                refine S.sk rfl rfl rfl (wf rfl rfl rfl g41) ?_
                refine S.sk rfl rfl rfl (wf rfl rfl rfl g41) ?_
                refine S.sk rfl rfl rfl (wf rfl rfl rfl g41) ?_
                refine S.sk rfl rfl rfl (wf rfl rfl rfl g41) ?_
                refine S.q rfl rfl rfl (wanted_none rfl) (r_pick rfl rfl g41) ?_
                refine S.q rfl rfl rfl (wanted_none rfl) (r_move rfl) ?_
                refine S.sk rfl rfl rfl (wf rfl rfl rfl rfl) ?_
                refine S.sk rfl rfl rfl (wf rfl rfl rfl rfl) ?_
                refine S.sk rfl rfl rfl (wf rfl rfl rfl rfl) ?_
                refine S.sk rfl rfl rfl (wf rfl rfl rfl rfl) ?_
                refine S.q rfl rfl rfl (wanted_none rfl) (r_pick rfl rfl rfl) ?_
                refine S.q rfl rfl rfl (wanted_none rfl) (r_move rfl) ?_
                refine S.sk rfl rfl rfl (wf rfl rfl rfl rfl) ?_
                refine S.sk rfl rfl rfl (wf rfl rfl rfl rfl) ?_
                refine S.sk rfl rfl rfl (wf rfl rfl rfl rfl) ?_
                refine S.sk rfl rfl rfl (wanted_undef rfl rfl rfl) ?_
                refine S.sk rfl rfl rfl (wanted_undef rfl rfl rfl) ?_
                refine S.sk rfl rfl rfl (wanted_undef rfl rfl rfl) ?_
                refine S.sk rfl rfl rfl (wanted_undef rfl rfl rfl) ?_
                refine S.sk rfl rfl rfl (wanted_undef rfl rfl rfl) ?_
                refine S.sk rfl rfl rfl (wanted_undef rfl rfl rfl) ?_
                refine S.sk rfl rfl rfl (wanted_undef rfl rfl rfl) ?_
                refine S.sk rfl rfl rfl (wanted_undef rfl rfl rfl) ?_
                refine S.sk rfl rfl rfl (wanted_undef rfl rfl rfl) ?_
                refine S.sk rfl rfl rfl (wf rfl rfl rfl rfl) ?_
                refine S.q rfl rfl rfl (wanted_none rfl) (r_pick rfl rfl rfl) ?_
                refine S.nil ?_
                refine F.nil ?_
                cases hE_3
                refine Nrm.only [1, 24, 25, 26, 68] rfl ?_
                refine Nrm.pick [1] rfl rfl ?_
                exact hj_2 _ _ ⟨rfl, rfl⟩
              · replace hE_3 := if_ff g41 hE_3
                rcases Bool.eq_false_or_eq_true (decide (t29.2.1 ≥ a0_0)) with g48 | g48
                · replace hE_3 := if_tt g48 hE_3
                  refine Tri.drawA mixedT Sep.up [(0, true), (1, true), (2, true), (3, true), (4, true), (5, true), (6, true), (7, true), (8, true), (9, true), (10, true), (11, true), (12, true), (13, true), (14, true), (15, true), (16, true), (17, true), (18, true), (19, true), (20, true), (21, true), (22, true), (23, true), (24, true), (25, true), (26, true), (27, true), (28, true), (29, true), (30, true), (31, true), (32, true), (33, true), (34, true), (35, true), (36, true), (37, true)] [] (by kernel_rfl) ?_
                  refine S.q rfl rfl rfl (wanted_none rfl) (r_indexAddrA Try.underlying140 ti3 rfl rfl (by decide) (by decide)) ?_
                  refine S.q rfl rfl rfl (wanted_none rfl) (r_load ta3 rfl (fun w hw => cell_1 (box_cells (i := 0) rfl w hw) rfl)) ?_
                  refine S.q rfl rfl rfl (wanted_none rfl) (r_lss rfl rfl) ?_
                  refine S.q rfl rfl rfl (wanted_none rfl) (r_move rfl) ?_
                  refine S.q rfl rfl rfl (wg rfl rfl rfl g34) (r_indexAddrA Try.underlying140 ti3 rfl rfl (by decide) (by decide)) ?_
                  refine S.q rfl rfl rfl (wg rfl rfl rfl g34) (r_load ta3 rfl (fun w hw => cell_1 (box_cells (i := 0) rfl w hw) rfl)) ?_
                  refine S.q rfl rfl rfl (wg rfl rfl rfl g34) (r_indexAddrA Try.underlying140 ti3 rfl rfl (by decide) (by decide)) ?_
                  refine S.q rfl rfl rfl (wg rfl rfl rfl g34) (r_load ta3 rfl (fun w hw => cell_1 (box_cells (i := 0) rfl w hw) rfl)) ?_
                  refine S.q rfl rfl rfl (wg rfl rfl rfl g34) (r_geq rfl rfl) ?_
                  refine S.q rfl rfl rfl (wanted_none rfl) (r_pickf rfl rfl g34) ?_
                  refine S.q rfl rfl rfl (wanted_none rfl) (r_move rfl) ?_
                  refine S.q rfl rfl rfl (wg rfl rfl rfl g41) (r_indexAddrA Try.underlying140 ti3 rfl rfl (by decide) (by decide)) ?_
                  refine S.q rfl rfl rfl (wg rfl rfl rfl g41) (r_load ta3 rfl (fun w hw => cell_1 (box_cells (i := 0) rfl w hw) rfl)) ?_
                  refine S.q rfl rfl rfl (wg rfl rfl rfl g41) (r_fieldAddr tf55_0 rfl) ?_
                  refine S.q rfl rfl rfl (wg rfl rfl rfl g41) (r_load ta3 rfl (fun w hw => cell_1 (box_cells (i := 1) rfl w hw) rfl)) ?_
                  refine S.q rfl rfl rfl (wg rfl rfl rfl g41) (r_geq rfl rfl) ?_
                  refine S.q rfl rfl rfl (wanted_none rfl) (r_pickf rfl rfl g41) ?_
                  refine S.q rfl rfl rfl (wanted_none rfl) (r_move rfl) ?_
                  refine S.sk rfl rfl rfl (wf rfl rfl rfl g48) ?_
                  refine S.sk rfl rfl rfl (wf rfl rfl rfl g48) ?_
                  refine S.sk rfl rfl rfl (wf rfl rfl rfl g48) ?_
                  refine S.sk rfl rfl rfl (wf rfl rfl rfl g48) ?_
                  refine S.q rfl rfl rfl (wanted_none rfl) (r_pick rfl rfl g48) ?_
                  refine S.q rfl rfl rfl (wanted_none rfl) (r_move rfl) ?_
                  refine S.sk rfl rfl rfl (wf rfl rfl rfl rfl) ?_
                  refine S.sk rfl rfl rfl (wf rfl rfl rfl rfl) ?_
                  refine S.sk rfl rfl rfl (wf rfl rfl rfl rfl) ?_
                  refine S.sk rfl rfl rfl (wanted_undef rfl rfl rfl) ?_
                  refine S.sk rfl rfl rfl (wanted_undef rfl rfl rfl) ?_
                  refine S.sk rfl rfl rfl (wanted_undef rfl rfl rfl) ?_
                  refine S.sk rfl rfl rfl (wanted_undef rfl rfl rfl) ?_
                  refine S.sk rfl rfl rfl (wanted_undef rfl rfl rfl) ?_
                  refine S.sk rfl rfl rfl (wanted_undef rfl rfl rfl) ?_
                  refine S.sk rfl rfl rfl (wanted_undef rfl rfl rfl) ?_
                  refine S.sk rfl rfl rfl (wanted_undef rfl rfl rfl) ?_
                  refine S.sk rfl rfl rfl (wanted_undef rfl rfl rfl) ?_
                  refine S.sk rfl rfl rfl (wf rfl rfl rfl rfl) ?_
                  refine S.q rfl rfl rfl (wanted_none rfl) (r_pick rfl rfl rfl) ?_
                  refine S.nil ?_
                  refine F.nil ?_
                  cases hE_3
                  refine Nrm.only [1, 24, 25, 26, 68] rfl ?_
                  refine Nrm.pick [1] rfl rfl ?_
                  exact hj_2 _ _ ⟨rfl, rfl⟩
                · replace hE_3 := if_ff g48 hE_3
                  obtain ⟨t51, h51, hE_3⟩ := bind_some hE_3
                  rcases Bool.eq_false_or_eq_true (!t51) with g54 | g54
                  · replace hE_3 := if_tt g54 hE_3
                    refine Tri.drawA mixedT Sep.up [(0, true), (1, true), (2, true), (3, true), (4, true), (5, true), (6, true), (7, true), (8, true), (9, true), (10, true), (11, true), (12, true), (13, true), (14, true), (15, true), (16, true), (17, true), (18, true), (19, true), (20, true), (21, true), (22, true), (23, true), (24, true), (25, true), (26, true), (27, true), (28, true), (29, true), (30, true), (31, true), (32, true), (33, true), (34, true), (35, true), (36, true), (37, true)] [] (by kernel_rfl) ?_
                    refine S.q rfl rfl rfl (wanted_none rfl) (r_indexAddrA Try.underlying140 ti3 rfl rfl (by decide) (by decide)) ?_
                    refine S.q rfl rfl rfl (wanted_none rfl) (r_load ta3 rfl (fun w hw => cell_1 (box_cells (i := 0) rfl w hw) rfl)) ?_
                    refine S.q rfl rfl rfl (wanted_none rfl) (r_lss rfl rfl) ?_
                    refine S.q rfl rfl rfl (wanted_none rfl) (r_move rfl) ?_
                    refine S.q rfl rfl rfl (wg rfl rfl rfl g34) (r_indexAddrA Try.underlying140 ti3 rfl rfl (by decide) (by decide)) ?_
                    refine S.q rfl rfl rfl (wg rfl rfl rfl g34) (r_load ta3 rfl (fun w hw => cell_1 (box_cells (i := 0) rfl w hw) rfl)) ?_
                    refine S.q rfl rfl rfl (wg rfl rfl rfl g34) (r_indexAddrA Try.underlying140 ti3 rfl rfl (by decide) (by decide)) ?_
                    refine S.q rfl rfl rfl (wg rfl rfl rfl g34) (r_load ta3 rfl (fun w hw => cell_1 (box_cells (i := 0) rfl w hw) rfl)) ?_
                    refine S.q rfl rfl rfl (wg rfl rfl rfl g34) (r_geq rfl rfl) ?_
                    refine S.q rfl rfl rfl (wanted_none rfl) (r_pickf rfl rfl g34) ?_
                    refine S.q rfl rfl rfl (wanted_none rfl) (r_move rfl) ?_
                    refine S.q rfl rfl rfl (wg rfl rfl rfl g41) (r_indexAddrA Try.underlying140 ti3 rfl rfl (by decide) (by decide)) ?_
                    refine S.q rfl rfl rfl (wg rfl rfl rfl g41) (r_load ta3 rfl (fun w hw => cell_1 (box_cells (i := 0) rfl w hw) rfl)) ?_
                    refine S.q rfl rfl rfl (wg rfl rfl rfl g41) (r_fieldAddr tf55_0 rfl) ?_
                    refine S.q rfl rfl rfl (wg rfl rfl rfl g41) (r_load ta3 rfl (fun w hw => cell_1 (box_cells (i := 1) rfl w hw) rfl)) ?_
                    refine S.q rfl rfl rfl (wg rfl rfl rfl g41) (r_geq rfl rfl) ?_
                    refine S.q rfl rfl rfl (wanted_none rfl) (r_pickf rfl rfl g41) ?_
                    refine S.q rfl rfl rfl (wanted_none rfl) (r_move rfl) ?_
                    refine S.q rfl rfl rfl (wg rfl rfl rfl g48) (r_indexAddrA Try.underlying140 ti3 rfl rfl (by decide) (by decide)) ?_
                    refine S.q rfl rfl rfl (wg rfl rfl rfl g48) (r_load ta3 rfl (fun w hw => cell_1 (box_cells (i := 0) rfl w hw) rfl)) ?_
                    refine S.qc rfl rfl rfl (wg rfl rfl rfl g48) (q_callF (xs := _) rfl ok144 rfl rfl (fun w hw => impl_isSet.ok h51 w )) ?_
                    refine S.q rfl rfl rfl (wg rfl rfl rfl g48) (r_not rfl) ?_
                    refine S.q rfl rfl rfl (wanted_none rfl) (r_pickf rfl rfl g48) ?_
                    refine S.q rfl rfl rfl (wanted_none rfl) (r_move rfl) ?_
                    refine S.sk rfl rfl rfl (wf rfl rfl rfl g54) ?_
                    refine S.sk rfl rfl rfl (wf rfl rfl rfl g54) ?_
                    refine S.sk rfl rfl rfl (wf rfl rfl rfl g54) ?_
                    refine S.sk rfl rfl rfl (wanted_undef rfl rfl rfl) ?_
                    refine S.sk rfl rfl rfl (wanted_undef rfl rfl rfl) ?_
                    refine S.sk rfl rfl rfl (wanted_undef rfl rfl rfl) ?_
                    refine S.sk rfl rfl rfl (wanted_undef rfl rfl rfl) ?_
                    refine S.sk rfl rfl rfl (wanted_undef rfl rfl rfl) ?_
                    refine S.sk rfl rfl rfl (wanted_undef rfl rfl rfl) ?_
                    refine S.sk rfl rfl rfl (wanted_undef rfl rfl rfl) ?_
                    refine S.sk rfl rfl rfl (wanted_undef rfl rfl rfl) ?_
                    refine S.sk rfl rfl rfl (wanted_undef rfl rfl rfl) ?_
                    refine S.sk rfl rfl rfl (wf rfl rfl rfl g54) ?_
                    refine S.q rfl rfl rfl (wanted_none rfl) (r_pick rfl rfl g54) ?_
                    refine S.nil ?_
                    refine F.nil ?_
                    cases hE_3
                    refine Nrm.only [1, 24, 25, 26, 68] rfl ?_
                    refine Nrm.pick [1] rfl rfl ?_
                    exact hj_2 _ _ ⟨rfl, rfl⟩
                  · replace hE_3 := if_ff g54 hE_3
                    rcases Bool.eq_false_or_eq_true (decide (x26 > 0)) with g57 | g57
                    · replace hE_3 := if_tt g57 hE_3
                      obtain ⟨t62, h62, hE_3⟩ := bind_some hE_3
                      obtain ⟨t65, h65, hE_3⟩ := bind_some hE_3
                      refine Tri.drawA mixedT Sep.up [(0, true), (1, true), (2, true), (3, true), (4, true), (5, true), (6, true), (7, true), (8, true), (9, true), (10, true), (11, true), (12, true), (13, true), (14, true), (15, true), (16, true), (17, true), (18, true), (19, true), (20, true), (21, true), (22, true), (23, true), (24, true), (25, true), (26, true), (27, true), (28, true), (29, true), (30, true), (31, true), (32, true), (33, true), (34, true), (35, true), (36, true), (37, true)] [] (by kernel_rfl) ?_
                      refine S.q rfl rfl rfl (wanted_none rfl) (r_indexAddrA Try.underlying140 ti3 rfl rfl (by decide) (by decide)) ?_
                      refine S.q rfl rfl rfl (wanted_none rfl) (r_load ta3 rfl (fun w hw => cell_1 (box_cells (i := 0) rfl w hw) rfl)) ?_
                      refine S.q rfl rfl rfl (wanted_none rfl) (r_lss rfl rfl) ?_
                      refine S.q rfl rfl rfl (wanted_none rfl) (r_move rfl) ?_
                      refine S.q rfl rfl rfl (wg rfl rfl rfl g34) (r_indexAddrA Try.underlying140 ti3 rfl rfl (by decide) (by decide)) ?_
                      refine S.q rfl rfl rfl (wg rfl rfl rfl g34) (r_load ta3 rfl (fun w hw => cell_1 (box_cells (i := 0) rfl w hw) rfl)) ?_
                      refine S.q rfl rfl rfl (wg rfl rfl rfl g34) (r_indexAddrA Try.underlying140 ti3 rfl rfl (by decide) (by decide)) ?_
                      refine S.q rfl rfl rfl (wg rfl rfl rfl g34) (r_load ta3 rfl (fun w hw => cell_1 (box_cells (i := 0) rfl w hw) rfl)) ?_
                      refine S.q rfl rfl rfl (wg rfl rfl rfl g34) (r_geq rfl rfl) ?_
                      refine S.q rfl rfl rfl (wanted_none rfl) (r_pickf rfl rfl g34) ?_
                      refine S.q rfl rfl rfl (wanted_none rfl) (r_move rfl) ?_
                      refine S.q rfl rfl rfl (wg rfl rfl rfl g41) (r_indexAddrA Try.underlying140 ti3 rfl rfl (by decide) (by decide)) ?_
                      refine S.q rfl rfl rfl (wg rfl rfl rfl g41) (r_load ta3 rfl (fun w hw => cell_1 (box_cells (i := 0) rfl w hw) rfl)) ?_
                      refine S.q rfl rfl rfl (wg rfl rfl rfl g41) (r_fieldAddr tf55_0 rfl) ?_
                      refine S.q rfl rfl rfl (wg rfl rfl rfl g41) (r_load ta3 rfl (fun w hw => cell_1 (box_cells (i := 1) rfl w hw) rfl)) ?_
                      refine S.q rfl rfl rfl (wg rfl rfl rfl g41) (r_geq rfl rfl) ?_
                      refine S.q rfl rfl rfl (wanted_none rfl) (r_pickf rfl rfl g41) ?_
                      refine S.q rfl rfl rfl (wanted_none rfl) (r_move rfl) ?_
                      refine S.q rfl rfl rfl (wg rfl rfl rfl g48) (r_indexAddrA Try.underlying140 ti3 rfl rfl (by decide) (by decide)) ?_
                      refine S.q rfl rfl rfl (wg rfl rfl rfl g48) (r_load ta3 rfl (fun w hw => cell_1 (box_cells (i := 0) rfl w hw) rfl)) ?_
                      refine S.qc rfl rfl rfl (wg rfl rfl rfl g48) (q_callF (xs := _) rfl ok144 rfl rfl (fun w hw => impl_isSet.ok h51 w )) ?_
                      refine S.q rfl rfl rfl (wg rfl rfl rfl g48) (r_not rfl) ?_
                      refine S.q rfl rfl rfl (wanted_none rfl) (r_pickf rfl rfl g48) ?_
                      refine S.q rfl rfl rfl (wanted_none rfl) (r_move rfl) ?_
                      refine S.q rfl rfl rfl (wg rfl rfl rfl g54) (r_move rfl) ?_
                      refine S.q rfl rfl rfl (wg rfl rfl rfl g54) (r_gtr rfl rfl) ?_
                      refine S.q rfl rfl rfl (wg rfl rfl rfl g54) (r_move rfl) ?_
                      refine S.q rfl rfl rfl (wg rfl rfl rfl g57) (r_fieldAddr tf55_1 rfl) ?_
                      refine S.q rfl rfl rfl (wg rfl rfl rfl g57) (r_load ta49 rfl (fun w hw => cell_1 (box_cells (i := 1) rfl w hw) rfl)) ?_
                      refine S.q rfl rfl rfl (wg rfl rfl rfl g57) (r_move rfl) ?_
                      refine S.q rfl rfl rfl (wg rfl rfl rfl g57) (r_sub rfl rfl) ?_
                      refine S.q rfl rfl rfl (wg rfl rfl rfl g57) (r_indexAddrS Try.underlying49 ti140 rfl hl_va0_1 rfl (rdl_some h62).1 (rdl_some h62).2.1) ?_
                      refine S.q rfl rfl rfl (wg rfl rfl rfl g57) (r_loadA ta140 ti140 rfl rfl (fun w hw => (Rd.flat ((fun _ hw => hr_a0_1.sep hw) w hw) (rdl_some h62).2.2))) ?_
                      refine S.q rfl rfl rfl (wg rfl rfl rfl g57) (r_loadA ta140 ti140 rfl rfl (fun w hw => (box_cells (i := 0) rfl w hw))) ?_
                      refine S.qc rfl rfl rfl (wg rfl rfl rfl g57) (q_callF (xs := _) rfl ok159 rfl rfl (fun w hw => impl_compareDoors.ok h65 w )) ?_
                      refine S.q rfl rfl rfl (wg rfl rfl rfl g57) (r_geq rfl rfl) ?_
                      refine S.q rfl rfl rfl (wg rfl rfl rfl g54) (r_pick rfl rfl g57) ?_
                      refine S.q rfl rfl rfl (wanted_none rfl) (r_pickf rfl rfl g54) ?_
                      refine S.nil ?_
                      refine F.nil ?_
                      cases hE_3
                      refine Nrm.only [1, 24, 25, 26, 68] rfl ?_
                      refine Nrm.pick [1] rfl rfl ?_
                      exact hj_2 _ _ ⟨rfl, rfl⟩
                    · replace hE_3 := if_ff g57 hE_3
                      refine Tri.drawA mixedT Sep.up [(0, true), (1, true), (2, true), (3, true), (4, true), (5, true), (6, true), (7, true), (8, true), (9, true), (10, true), (11, true), (12, true), (13, true), (14, true), (15, true), (16, true), (17, true), (18, true), (19, true), (20, true), (21, true), (22, true), (23, true), (24, true), (25, true), (26, true), (27, true), (28, true), (29, true), (30, true), (31, true), (32, true), (33, true), (34, true), (35, true), (36, true), (37, true)] [] (by kernel_rfl) ?_
                      refine S.q rfl rfl rfl (wanted_none rfl) (r_indexAddrA Try.underlying140 ti3 rfl rfl (by decide) (by decide)) ?_
                      refine S.q rfl rfl rfl (wanted_none rfl) (r_load ta3 rfl (fun w hw => cell_1 (box_cells (i := 0) rfl w hw) rfl)) ?_
                      refine S.q rfl rfl rfl (wanted_none rfl) (r_lss rfl rfl) ?_
                      refine S.q rfl rfl rfl (wanted_none rfl) (r_move rfl) ?_
                      refine S.q rfl rfl rfl (wg rfl rfl rfl g34) (r_indexAddrA Try.underlying140 ti3 rfl rfl (by decide) (by decide)) ?_
                      refine S.q rfl rfl rfl (wg rfl rfl rfl g34) (r_load ta3 rfl (fun w hw => cell_1 (box_cells (i := 0) rfl w hw) rfl)) ?_
                      refine S.q rfl rfl rfl (wg rfl rfl rfl g34) (r_indexAddrA Try.underlying140 ti3 rfl rfl (by decide) (by decide)) ?_
                      refine S.q rfl rfl rfl (wg rfl rfl rfl g34) (r_load ta3 rfl (fun w hw => cell_1 (box_cells (i := 0) rfl w hw) rfl)) ?_
                      refine S.q rfl rfl rfl (wg rfl rfl rfl g34) (r_geq rfl rfl) ?_
                      refine S.q rfl rfl rfl (wanted_none rfl) (r_pickf rfl rfl g34) ?_
                      refine S.q rfl rfl rfl (wanted_none rfl) (r_move rfl) ?_
                      refine S.q rfl rfl rfl (wg rfl rfl rfl g41) (r_indexAddrA Try.underlying140 ti3 rfl rfl (by decide) (by decide)) ?_
                      refine S.q rfl rfl rfl (wg rfl rfl rfl g41) (r_load ta3 rfl (fun w hw => cell_1 (box_cells (i := 0) rfl w hw) rfl)) ?_
                      refine S.q rfl rfl rfl (wg rfl rfl rfl g41) (r_fieldAddr tf55_0 rfl) ?_
                      refine S.q rfl rfl rfl (wg rfl rfl rfl g41) (r_load ta3 rfl (fun w hw => cell_1 (box_cells (i := 1) rfl w hw) rfl)) ?_
                      refine S.q rfl rfl rfl (wg rfl rfl rfl g41) (r_geq rfl rfl) ?_
                      refine S.q rfl rfl rfl (wanted_none rfl) (r_pickf rfl rfl g41) ?_
                      refine S.q rfl rfl rfl (wanted_none rfl) (r_move rfl) ?_
                      refine S.q rfl rfl rfl (wg rfl rfl rfl g48) (r_indexAddrA Try.underlying140 ti3 rfl rfl (by decide) (by decide)) ?_
                      refine S.q rfl rfl rfl (wg rfl rfl rfl g48) (r_load ta3 rfl (fun w hw => cell_1 (box_cells (i := 0) rfl w hw) rfl)) ?_
                      refine S.qc rfl rfl rfl (wg rfl rfl rfl g48) (q_callF (xs := _) rfl ok144 rfl rfl (fun w hw => impl_isSet.ok h51 w )) ?_
                      refine S.q rfl rfl rfl (wg rfl rfl rfl g48) (r_not rfl) ?_
                      refine S.q rfl rfl rfl (wanted_none rfl) (r_pickf rfl rfl g48) ?_
                      refine S.q rfl rfl rfl (wanted_none rfl) (r_move rfl) ?_
                      refine S.q rfl rfl rfl (wg rfl rfl rfl g54) (r_move rfl) ?_
                      refine S.q rfl rfl rfl (wg rfl rfl rfl g54) (r_gtr rfl rfl) ?_
                      refine S.q rfl rfl rfl (wg rfl rfl rfl g54) (r_move rfl) ?_
                      refine S.sk rfl rfl rfl (wf rfl rfl rfl g57) ?_
                      refine S.sk rfl rfl rfl (wf rfl rfl rfl g57) ?_
                      refine S.sk rfl rfl rfl (wf rfl rfl rfl g57) ?_
                      refine S.sk rfl rfl rfl (wf rfl rfl rfl g57) ?_
                      refine S.sk rfl rfl rfl (wf rfl rfl rfl g57) ?_
                      refine S.sk rfl rfl rfl (wf rfl rfl rfl g57) ?_
                      refine S.sk rfl rfl rfl (wf rfl rfl rfl g57) ?_
                      refine S.sk rfl rfl rfl (wf rfl rfl rfl g57) ?_
                      refine S.sk rfl rfl rfl (wf rfl rfl rfl g57) ?_
                      refine S.q rfl rfl rfl (wg rfl rfl rfl g54) (r_pickf rfl rfl g57) ?_
                      refine S.q rfl rfl rfl (wanted_none rfl) (r_pickf rfl rfl g54) ?_
                      refine S.nil ?_
                      refine F.nil ?_
                      cases hE_3
                      refine Nrm.only [1, 24, 25, 26, 68] rfl ?_
                      refine Nrm.pick [1] rfl rfl ?_
                      exact hj_2 _ _ ⟨rfl, rfl⟩
        · replace hE_2 := if_ff g_2 hE_2
          refine Tri.exit ?_
          refine Exi.then ?_
          refine Exi.then ?_
          refine Exi.same ?_
          cases hE_2
          replace h := Lr_inl h
          refine Nrm.seq ?_
          refine Tri.seq ?_
          obtain ⟨t72, h72, h⟩ := bind_some h
          refine Tri.reg (l := [0, 1, 2, 3, 4]) rfl ?_
          refine F.q rfl rfl rfl (wanted_none rfl) (r_fieldAddr tf55_2 rfl) ?_
          refine F.q rfl rfl rfl (wanted_none rfl) (r_load ta38 rfl (fun w hw => cell_1 (box_cells (i := 0) rfl w hw) rfl)) ?_
          refine F.qc rfl rfl rfl (wanted_none rfl) (q_callF (xs := _) rfl ok122 rfl rfl (fun w hw => slices_ContainsFunc_int_int.ok h72 w ((fun _ hw => hr_a0_2.sep hw) w hw) ok160 (fun w2 he2 z0 y2 hy2 => impl_IsMaze_1.ok hy2 w2 ))) ?_
          refine F.q rfl rfl rfl (wanted_none rfl) (r_not rfl) ?_
          refine F.q rfl rfl rfl (wanted_none rfl) (r_assign rfl) ?_
          refine F.nil ?_
          refine Nrm.seq ?_
          refine Tri.ret ?_
          cases h
          exact Rtn.body (.tmp rfl .nil) (fun w hw => ⟨rfl, hw.ext⟩)
  · obtain ⟨t7, h7, hE_1⟩ := bind_some hE_1
    rcases Bool.eq_false_or_eq_true (!t7) with g9 | g9
    · replace hE_1 := if_tt g9 hE_1
      refine Tri.reg (l := [0, 1, 2, 3, 4, 5, 6, 7, 8, 9, 10, 11, 12, 13, 14, 15, 16, 17]) rfl ?_
      refine F.q rfl rfl rfl (wanted_none rfl) (r_fieldAddr tf55_0 rfl) ?_
      refine F.q rfl rfl rfl (wanted_none rfl) (r_load ta3 rfl (fun w hw => cell_1 (box_cells (i := 0) rfl w hw) rfl)) ?_
      refine F.qc rfl rfl rfl (wanted_none rfl) (q_callF (xs := _) rfl ok88 rfl rfl (fun w hw => impl_within.ok h7 w )) ?_
      refine F.q rfl rfl rfl (wanted_none rfl) (r_not rfl) ?_
      refine F.q rfl rfl rfl (wanted_none rfl) (r_move rfl) ?_
      refine F.sk rfl rfl rfl (wf rfl rfl rfl g9) ?_
      refine F.sk rfl rfl rfl (wf rfl rfl rfl g9) ?_
      refine F.sk rfl rfl rfl (wf rfl rfl rfl g9) ?_
      refine F.sk rfl rfl rfl (wf rfl rfl rfl g9) ?_
      refine F.q rfl rfl rfl (wanted_none rfl) (r_pick rfl rfl g9) ?_
      refine F.q rfl rfl rfl (wanted_none rfl) (r_move rfl) ?_
      refine F.sk rfl rfl rfl (wf rfl rfl rfl rfl) ?_
      refine F.sk rfl rfl rfl (wf rfl rfl rfl rfl) ?_
      refine F.sk rfl rfl rfl (wf rfl rfl rfl rfl) ?_
      refine F.sk rfl rfl rfl (wf rfl rfl rfl rfl) ?_
      refine F.sk rfl rfl rfl (wf rfl rfl rfl rfl) ?_
      refine F.sk rfl rfl rfl (wf rfl rfl rfl rfl) ?_
      refine F.q rfl rfl rfl (wanted_none rfl) (r_pick rfl rfl rfl) ?_
      refine F.nil ?_
      cases hE_1
      refine Nrm.only [1, 22] rfl ?_
      refine Nrm.pick [0] rfl rfl ?_
      exact hj_1 _ _ ⟨rfl, rfl⟩
    · replace hE_1 := if_ff g9 hE_1
      rcases Bool.eq_false_or_eq_true (decide ((a0_1.length : Int) > 30)) with g15 | g15
      · replace hE_1 := if_tt g15 hE_1
        refine Tri.reg (l := [0, 1, 2, 3, 4, 5, 6, 7, 8, 9, 10, 11, 12, 13, 14, 15, 16, 17]) rfl ?_
        refine F.q rfl rfl rfl (wanted_none rfl) (r_fieldAddr tf55_0 rfl) ?_
        refine F.q rfl rfl rfl (wanted_none rfl) (r_load ta3 rfl (fun w hw => cell_1 (box_cells (i := 0) rfl w hw) rfl)) ?_
        refine F.qc rfl rfl rfl (wanted_none rfl) (q_callF (xs := _) rfl ok88 rfl rfl (fun w hw => impl_within.ok h7 w )) ?_
        refine F.q rfl rfl rfl (wanted_none rfl) (r_not rfl) ?_
        refine F.q rfl rfl rfl (wanted_none rfl) (r_move rfl) ?_
        refine F.q rfl rfl rfl (wg rfl rfl rfl g9) (r_fieldAddr tf55_1 rfl) ?_
        refine F.q rfl rfl rfl (wg rfl rfl rfl g9) (r_load ta49 rfl (fun w hw => cell_1 (box_cells (i := 0) rfl w hw) rfl)) ?_
        refine F.q rfl rfl rfl (wg rfl rfl rfl g9) (r_len Try.underlying49 rfl hl_va0_1) ?_
        refine F.q rfl rfl rfl (wg rfl rfl rfl g9) (r_gtr rfl rfl) ?_
        refine F.q rfl rfl rfl (wanted_none rfl) (r_pickf rfl rfl g9) ?_
        refine F.q rfl rfl rfl (wanted_none rfl) (r_move rfl) ?_
        refine F.sk rfl rfl rfl (wf rfl rfl rfl g15) ?_
        refine F.sk rfl rfl rfl (wf rfl rfl rfl g15) ?_
        refine F.sk rfl rfl rfl (wf rfl rfl rfl g15) ?_
        refine F.sk rfl rfl rfl (wf rfl rfl rfl g15) ?_
        refine F.sk rfl rfl rfl (wf rfl rfl rfl g15) ?_
        refine F.sk rfl rfl rfl (wf rfl rfl rfl g15) ?_
        refine F.q rfl rfl rfl (wanted_none rfl) (r_pick rfl rfl g15) ?_
        refine F.nil ?_
        cases hE_1
        refine Nrm.only [1, 22] rfl ?_
        refine Nrm.pick [0] rfl rfl ?_
        exact hj_1 _ _ ⟨rfl, rfl⟩
      · replace hE_1 := if_ff g15 hE_1
        refine Tri.reg (l := [0, 1, 2, 3, 4, 5, 6, 7, 8, 9, 10, 11, 12, 13, 14, 15, 16, 17]) rfl ?_
        refine F.q rfl rfl rfl (wanted_none rfl) (r_fieldAddr tf55_0 rfl) ?_
        refine F.q rfl rfl rfl (wanted_none rfl) (r_load ta3 rfl (fun w hw => cell_1 (box_cells (i := 0) rfl w hw) rfl)) ?_
        refine F.qc rfl rfl rfl (wanted_none rfl) (q_callF (xs := _) rfl ok88 rfl rfl (fun w hw => impl_within.ok h7 w )) ?_
        refine F.q rfl rfl rfl (wanted_none rfl) (r_not rfl) ?_
        refine F.q rfl rfl rfl (wanted_none rfl) (r_move rfl) ?_
        refine F.q rfl rfl rfl (wg rfl rfl rfl g9) (r_fieldAddr tf55_1 rfl) ?_
        refine F.q rfl rfl rfl (wg rfl rfl rfl g9) (r_load ta49 rfl (fun w hw => cell_1 (box_cells (i := 0) rfl w hw) rfl)) ?_
        refine F.q rfl rfl rfl (wg rfl rfl rfl g9) (r_len Try.underlying49 rfl hl_va0_1) ?_
        refine F.q rfl rfl rfl (wg rfl rfl rfl g9) (r_gtr rfl rfl) ?_
        refine F.q rfl rfl rfl (wanted_none rfl) (r_pickf rfl rfl g9) ?_
        refine F.q rfl rfl rfl (wanted_none rfl) (r_move rfl) ?_
        refine F.q rfl rfl rfl (wg rfl rfl rfl g15) (r_fieldAddr tf55_2 rfl) ?_
        refine F.q rfl rfl rfl (wg rfl rfl rfl g15) (r_load ta38 rfl (fun w hw => cell_1 (box_cells (i := 0) rfl w hw) rfl)) ?_
        refine F.q rfl rfl rfl (wg rfl rfl rfl g15) (r_len Try.underlying38 rfl hl_va0_2) ?_
        refine F.q rfl rfl rfl (wg rfl rfl rfl g15) (r_fieldAddr tf55_0 rfl) ?_
        refine F.q rfl rfl rfl (wg rfl rfl rfl g15) (r_load ta3 rfl (fun w hw => cell_1 (box_cells (i := 0) rfl w hw) rfl)) ?_
        refine F.q rfl rfl rfl (wg rfl rfl rfl g15) (r_neq rfl rfl) ?_
        refine F.q rfl rfl rfl (wanted_none rfl) (r_pickf rfl rfl g15) ?_
        refine F.nil ?_
        cases hE_1
        refine Nrm.only [1, 22] rfl ?_
        refine Nrm.pick [0] rfl rfl ?_
        exact hj_1 _ _ ⟨rfl, rfl⟩

end Go.Proofs

/- loop.example/g01158/impl.IsWorlds$1 -/
namespace Go.Proofs
open Go Go.Ga
set_option linter.unusedVariables false
set_option maxRecDepth 100000
set_option maxHeartbeats 4000000
def impl_IsWorlds_1.f (k : Nat) (a0 : Int) (c0_0 : List (Int × List (Int × Int × Int) × List Int)) (c0_1 : List (List Int)) : Option (Bool) := (impl_within.f k a0 0 (w64 ((c0_0.length : Int) - 1))).bind fun t9 => some (!t9)

theorem impl_IsWorlds_1.ok {k : Nat} {pc0 : Addr} {a0 : Int} {c0_0 : List (Int × List (Int × Int × Int) × List Int)} {c0_1 : List (List Int)} {r0 : Bool} (h : impl_IsWorlds_1.f k a0 c0_0 c0_1 = some r0) (w : World) {vc0_0 : Value} {vc0_1 : Value} (hb_c0 : CellsAt w pc0 [vc0_0, vc0_1]) (hr_c0_0 : Rd w vc0_0 c0_0) (hr_c0_1 : Rd w vc0_1 c0_1) :
    Calls Try.prog 123 ([.int .i64 a0, .pointer (some pc0)] : List Value).toArray w (fun e w' => e = .returned (.bool r0) ∧ Ext w w') := by
  unfold impl_IsWorlds_1.f at h
  have hl_vc0_0 := hr_c0_0.len
  have hl_vc0_1 := hr_c0_1.len
  refine Calls.of_tri (N := 11) Try.func123 rfl rfl rfl (Sep.nil (M := noM)) ?_
  refine Tri.seq ?_
  refine Tri.reg (l := [0]) rfl ?_
  refine F.q rfl rfl rfl (wanted_none rfl) (r_assign rfl) ?_
  refine F.nil ?_
  refine Nrm.seq ?_
  refine Tri.seq ?_
  obtain ⟨t9, h9, h⟩ := bind_some h
  refine Tri.reg (l := [0, 1, 2, 3, 4, 5, 6, 7]) rfl ?_
  refine F.q rfl rfl rfl (wanted_none rfl) (r_move rfl) ?_
  refine F.q rfl rfl rfl (wanted_none rfl) (r_fieldAddr tf31_0 rfl) ?_
  refine F.q rfl rfl rfl (wanted_none rfl) (r_load ta29 rfl (fun w hw => cell_1 (hb_c0.sep hw) rfl)) ?_
  refine F.q rfl rfl rfl (wanted_none rfl) (r_len Try.underlying29 rfl hl_vc0_0) ?_
  refine F.q rfl rfl rfl (wanted_none rfl) (r_sub rfl rfl) ?_
  refine F.qc rfl rfl rfl (wanted_none rfl) (q_callF (xs := _) rfl ok88 rfl rfl (fun w hw => impl_within.ok h9 w )) ?_
  refine F.q rfl rfl rfl (wanted_none rfl) (r_not rfl) ?_
  refine F.q rfl rfl rfl (wanted_none rfl) (r_assign rfl) ?_
  refine F.nil ?_
  refine Nrm.seq ?_
  refine Tri.ret ?_
  cases h
  exact Rtn.body (.tmp rfl .nil) (fun w hw => ⟨rfl, hw.ext⟩)

end Go.Proofs

/- loop.example/g01158/impl.IsWorlds -/
namespace Go.Proofs
open Go Go.Ga
set_option linter.unusedVariables false
set_option maxRecDepth 100000
set_option maxHeartbeats 4000000
def impl_IsWorlds.l0 (k : Nat) (a0_0 : List (Int × List (Int × Int × Int) × List Int)) (a0_1 : List (List Int)) : Nat → Int → Option ((Unit) ⊕ (Bool))
  | 0, _ => none
  | n + 1, x22 => (if (decide (x22 < (a0_0.length : Int))) = true then (rdl a0_0 x22).bind fun t25 => ((impl_IsMaze.f k t25.1 t25.2.1 t25.2.2).bind fun t28 => (if (!t28) = true then some true else (rdl a0_1 x22).bind fun t34 => some ((t34.length : Int) != t25.1))).bind fun y40 => (if y40 = true then some (Sum.inr false) else (rdl a0_1 x22).bind fun t44 => (slices_ContainsFunc_int_int.f k t44 (fun z0 => impl_IsWorlds_1.f k z0 a0_0 a0_1)).bind fun t47 => (if t47 = true then some (Sum.inr false) else impl_IsWorlds.l0 k a0_0 a0_1 n (w64 (x22 + 1)))) else some (Sum.inl ()))

def impl_IsWorlds.f (k : Nat) (a0_0 : List (Int × List (Int × Int × Int) × List Int)) (a0_1 : List (List Int)) : Option (Bool) := ((impl_within.f k (a0_0.length : Int) 1 3).bind fun t8 => (if (!t8) = true then some true else some ((a0_1.length : Int) != (a0_0.length : Int)))).bind fun y18 => (if y18 = true then some false else (impl_IsWorlds.l0 k a0_0 a0_1 k 0).bind fun s => Lr s some fun _ => some true)

theorem impl_IsWorlds.ok {k : Nat}  {a0_0 : List (Int × List (Int × Int × Int) × List Int)} {a0_1 : List (List Int)} {r0 : Bool} (h : impl_IsWorlds.f k a0_0 a0_1 = some r0) (w : World) {va0_0 : Value} {va0_1 : Value} (hr_a0_0 : Rd w va0_0 a0_0) (hr_a0_1 : Rd w va0_1 a0_1) :
    Calls Try.prog 65 ([.agg ([va0_0, va0_1].toArray)] : List Value).toArray w (fun e w' => e = .returned (.bool r0) ∧ Ext w w') := by
  unfold impl_IsWorlds.f at h
  have hl_va0_0 := hr_a0_0.len
  have hl_va0_1 := hr_a0_1.len
  refine Calls.of_tri (N := 49) Try.func65 rfl rfl rfl (Sep.nil (M := noM)) ?_
  refine Tri.seq ?_
  refine Tri.reg (l := [0, 1]) rfl ?_
  refine F.m rfl rfl rfl (wanted_none rfl) (m_boxG rfl rfl) ?_
  rintro _ _ ⟨b1_1, rfl, rfl⟩
  refine F.q rfl rfl rfl (wanted_none rfl) (r_assign rfl) ?_
  refine F.nil ?_
  refine Nrm.seq ?_
  refine Tri.seq ?_
  refine Tri.seq ?_
  obtain ⟨y18, hE_1, h⟩ := bind_some h
  refine Tri.cut (fun e' C' => e' = [(1, .pointer (some ⟨b1_1, 0, none⟩)), (18, .bool y18)] ∧ C' = Sep w noM [R.box b1_1 31 [va0_0, va0_1]]) ?_ (fun hj_1 => ?_)
  · rintro _ _ ⟨rfl, rfl⟩
    refine Nrm.seq ?_
    refine Tri.cond (b := y18) rfl (fun g_1 => ?_) (fun g_1 => ?_)
    · replace h := if_tt g_1 h
      refine Tri.seq ?_
      refine Tri.reg (l := [0]) rfl ?_
      refine F.q rfl rfl rfl (wanted_none rfl) (r_assign rfl) ?_
      refine F.nil ?_
      refine Nrm.seq ?_
      refine Tri.ret ?_
      refine Rtn.then ?_
      cases h
      exact Rtn.body (.tmp rfl .nil) (fun w hw => ⟨rfl, hw.ext⟩)
    · replace h := if_ff g_1 h
      refine Tri.skip ?_
      refine Nrm.seq ?_
      refine Tri.seq ?_
      refine Tri.seq ?_
      refine Tri.reg (l := [0, 1, 2, 3]) rfl ?_
      refine F.q rfl rfl rfl (wanted_none rfl) (r_fieldAddr tf31_0 rfl) ?_
      refine F.q rfl rfl rfl (wanted_none rfl) (r_load ta29 rfl (fun w hw => cell_1 (box_cells (i := 0) rfl w hw) rfl)) ?_
      refine F.q rfl rfl rfl (wanted_none rfl) (r_len Try.underlying29 rfl hl_va0_0) ?_
      refine F.q rfl rfl rfl (wanted_none rfl) (r_move rfl) ?_
      refine F.nil ?_
      refine Nrm.seq ?_
      obtain ⟨s0, hE_2, h⟩ := bind_some h
      refine Tri.block ?_
      refine Tri.only [1, 20, 21, 22] rfl ?_
      refine Tri.pick [0] rfl rfl ?_
      refine Tri.rounds (fun n e' C' => ∃ (x22' : Int), impl_IsWorlds.l0 k a0_0 a0_1 n x22' = some s0 ∧ e' = [(1, .pointer (some ⟨b1_1, 0, none⟩)), (20, va0_0), (21, .int .i64 (a0_0.length : Int)), (22, .int .i64 x22')] ∧ C' = Sep w noM [R.box b1_1 31 [va0_0, va0_1]]) k ?_ ?_ ?_
      · exact ⟨0, hE_2, rfl, rfl⟩
      · rintro _ _ ⟨_, hE_2, _⟩
        rw [impl_IsWorlds.l0.eq_1] at hE_2; cases hE_2
      · rintro n_1 _ _ ⟨x22, hE_2, rfl, rfl⟩ ih_1
        rw [impl_IsWorlds.l0.eq_2] at hE_2
        refine Tri.seq ?_
        refine Tri.reg (l := [0]) rfl ?_
        refine F.q rfl rfl rfl (wanted_none rfl) (r_lss rfl rfl) ?_
        refine F.nil ?_
        refine Nrm.seq ?_
        refine Tri.seq ?_
        refine Tri.cond (b := decide (x22 < (a0_0.length : Int))) rfl (fun g_2 => ?_) (fun g_2 => ?_)
        · replace hE_2 := if_tt g_2 hE_2
          refine Tri.skip ?_
          refine Nrm.seq ?_
          refine Tri.seq ?_
          refine Tri.block ?_
          refine Tri.seq ?_
          obtain ⟨t25, h25, hE_2⟩ := bind_some hE_2
          obtain ⟨_, hc25, hp25⟩ := Rd.elem hr_a0_0 (rdl_some h25).2.2
          obtain ⟨v25_1, v25_2, rfl, hr_v25_1, hr_v25_2⟩ := op55 hp25
          have hl_v25_1 := hr_v25_1.len
          have hl_v25_2 := hr_v25_2.len
          refine Tri.reg (l := [0, 1, 2, 3, 4, 5]) rfl ?_
          refine F.q rfl rfl rfl (wanted_none rfl) (r_move rfl) ?_
          refine F.q rfl rfl rfl (wanted_none rfl) (r_indexAddrS Try.underlying29 ti55 rfl hl_va0_0 rfl (rdl_some h25).1 (rdl_some h25).2.1) ?_
          refine F.q rfl rfl rfl (wanted_none rfl) (r_loadA ta55 ti55 rfl rfl (fun w hw => (hc25.sep hw))) ?_
          refine F.m rfl rfl rfl (wanted_none rfl) (m_alloc ti55) ?_
          rintro _ _ ⟨b4_1, rfl, rfl⟩
          refine F.q rfl rfl rfl (wanted_none rfl) (r_assign rfl) ?_
          refine F.ef0 rfl rfl (wanted_none rfl) (d_storeG0 (i := 0) (cs2 := [.int .i64 t25.1, v25_1, v25_2]) ti55 rfl rfl rfl rfl rfl (Nat.le_of_ble_eq_true rfl) (lf_cons rfl (lf_cons (sl_leaf hl_v25_1) (lf_cons (sl_leaf hl_v25_2) lf_nil)))) ?_
          rintro _ _ ⟨rfl, rfl⟩
          refine F.nil ?_
          refine Nrm.seq ?_
          refine Tri.seq ?_
          refine Tri.seq ?_
          obtain ⟨y40, hE_3, hE_2⟩ := bind_some hE_2
          refine Tri.cut (fun e' C' => e' = [(1, .pointer (some ⟨b1_1, 0, none⟩)), (3, .int .i64 x22), (20, va0_0), (21, .int .i64 (a0_0.length : Int)), (22, .int .i64 x22), (40, .bool y40)] ∧ C' = Sep w noM [R.box b1_1 31 [va0_0, va0_1]]) ?_ (fun hj_2 => ?_)
          · rintro _ _ ⟨rfl, rfl⟩
            refine Nrm.seq ?_
            refine Tri.cond (b := y40) rfl (fun g_3 => ?_) (fun g_3 => ?_)
            · replace hE_2 := if_tt g_3 hE_2
              refine Tri.seq ?_
              refine Tri.reg (l := [0]) rfl ?_
              refine F.q rfl rfl rfl (wanted_none rfl) (r_assign rfl) ?_
              refine F.nil ?_
              refine Nrm.seq ?_
              refine Tri.ret ?_
              refine Rtn.then ?_
              refine Rtn.block ?_
              refine Rtn.then ?_
              refine Rtn.then ?_
              refine Rtn.block ?_
              refine Rtn.then ?_
              cases hE_2
              replace h := Lr_inr h
              cases h
              exact Rtn.body (.tmp rfl .nil) (fun w hw => ⟨rfl, hw.ext⟩)
            · replace hE_2 := if_ff g_3 hE_2
              refine Tri.skip ?_
              refine Nrm.seq ?_
              refine Tri.seq ?_
              obtain ⟨t44, h44, hE_2⟩ := bind_some hE_2
              obtain ⟨_, hc44, hp44⟩ := Rd.elem hr_a0_1 (rdl_some h44).2.2
              obtain ⟨v44_0, rfl, hr_v44_0⟩ := op38 hp44
              have hl_v44_0 := hr_v44_0.len
              obtain ⟨t47, h47, hE_2⟩ := bind_some hE_2
              refine Tri.reg (l := [0, 1, 2, 3, 4, 5, 6]) rfl ?_
              refine F.q rfl rfl rfl (wanted_none rfl) (r_fieldAddr tf31_1 rfl) ?_
              refine F.q rfl rfl rfl (wanted_none rfl) (r_load ta23 rfl (fun w hw => cell_1 (box_cells (i := 0) rfl w hw) rfl)) ?_
              refine F.q rfl rfl rfl (wanted_none rfl) (r_move rfl) ?_
              refine F.q rfl rfl rfl (wanted_none rfl) (r_indexAddrS Try.underlying23 ti38 rfl hl_va0_1 rfl (rdl_some h44).1 (rdl_some h44).2.1) ?_
              refine F.q rfl rfl rfl (wanted_none rfl) (r_load ta38 rfl (fun w hw => cell_0 (hc44.sep hw) rfl)) ?_
              refine F.q rfl rfl rfl (wanted_none rfl) (r_makeFunc rfl) ?_
              refine F.qc rfl rfl rfl (wanted_none rfl) (q_callF (xs := _) rfl ok122 rfl rfl (fun w hw => slices_ContainsFunc_int_int.ok h47 w ((fun _ hw => hr_v44_0.sep hw) w hw) ok123 (fun w2 he2 z0 y2 hy2 => impl_IsWorlds_1.ok hy2 w2 ((box_cells (i := 0) rfl w hw).ext he2) (((fun _ hw => hr_a0_0.sep hw) w hw).ext he2) (((fun _ hw => hr_a0_1.sep hw) w hw).ext he2)))) ?_
              refine F.nil ?_
              refine Nrm.seq ?_
              refine Tri.cond (b := t47) rfl (fun g_4 => ?_) (fun g_4 => ?_)
              · replace hE_2 := if_tt g_4 hE_2
                refine Tri.seq ?_
                refine Tri.reg (l := [0]) rfl ?_
                refine F.q rfl rfl rfl (wanted_none rfl) (r_assign rfl) ?_
                refine F.nil ?_
                refine Nrm.seq ?_
                refine Tri.ret ?_
                refine Rtn.block ?_
                refine Rtn.then ?_
                refine Rtn.then ?_
                refine Rtn.block ?_
                refine Rtn.then ?_
                cases hE_2
                replace h := Lr_inr h
                cases h
                exact Rtn.body (.tmp rfl .nil) (fun w hw => ⟨rfl, hw.ext⟩)
              · replace hE_2 := if_ff g_4 hE_2
                refine Tri.skip ?_
                refine Nrm.block ?_
                refine Nrm.seq ?_
                refine Tri.reg (l := [0, 1]) rfl ?_
                refine F.q rfl rfl rfl (wanted_none rfl) (r_add rfl rfl) ?_
                refine F.q rfl rfl rfl (wanted_none rfl) (r_move rfl) ?_
                refine F.nil ?_
                refine Nrm.round ?_
                refine Rnd.only [1, 20, 21, 22] rfl ?_
                refine Rnd.pick [0] rfl rfl ?_
                exact ih_1 _ _ ⟨w64 (x22 + 1), hE_2, rfl, rfl⟩
          · obtain ⟨t28, h28, hE_3⟩ := bind_some hE_3
            rcases Bool.eq_false_or_eq_true (!t28) with g30 | g30
            · replace hE_3 := if_tt g30 hE_3
              refine Tri.drawA mixedT Sep.up [(0, true), (1, true), (2, true), (3, true), (4, true), (5, true), (6, true), (7, true), (8, true), (9, true), (10, true), (11, true), (12, true), (13, true)] [] (by kernel_rfl) ?_
              refine S.q rfl rfl rfl (wanted_none rfl) (r_loadA ta55 ti55 rfl rfl (fun w hw => (box_cells (i := 0) rfl w hw))) ?_
              refine S.qc rfl rfl rfl (wanted_none rfl) (q_callF (xs := _) rfl ok121 rfl rfl (fun w hw => impl_IsMaze.ok h28 w ((fun _ hw => hr_v25_1.sep hw) w hw) ((fun _ hw => hr_v25_2.sep hw) w hw))) ?_
              refine S.q rfl rfl rfl (wanted_none rfl) (r_not rfl) ?_
              refine S.q rfl rfl rfl (wanted_none rfl) (r_move rfl) ?_
              refine S.sk rfl rfl rfl (wf rfl rfl rfl g30) ?_
              refine S.sk rfl rfl rfl (wf rfl rfl rfl g30) ?_
              refine S.sk rfl rfl rfl (wf rfl rfl rfl g30) ?_
              refine S.sk rfl rfl rfl (wf rfl rfl rfl g30) ?_
              refine S.sk rfl rfl rfl (wf rfl rfl rfl g30) ?_
              refine S.sk rfl rfl rfl (wf rfl rfl rfl g30) ?_
              refine S.sk rfl rfl rfl (wf rfl rfl rfl g30) ?_
              refine S.sk rfl rfl rfl (wf rfl rfl rfl g30) ?_
              refine S.sk rfl rfl rfl (wf rfl rfl rfl g30) ?_
              refine S.q rfl rfl rfl (wanted_none rfl) (r_pick rfl rfl g30) ?_
              refine S.nil ?_
              refine F.nil ?_
              cases hE_3
              refine Nrm.only [1, 3, 20, 21, 22, 40] rfl ?_
              refine Nrm.pick [1] rfl rfl ?_
              exact hj_2 _ _ ⟨rfl, rfl⟩
            · replace hE_3 := if_ff g30 hE_3
              obtain ⟨t34, h34, hE_3⟩ := bind_some hE_3
              obtain ⟨_, hc34, hp34⟩ := Rd.elem hr_a0_1 (rdl_some h34).2.2
              obtain ⟨v34_0, rfl, hr_v34_0⟩ := op38 hp34
              have hl_v34_0 := hr_v34_0.len
              refine Tri.drawA mixedT Sep.up [(0, true), (1, true), (2, true), (3, true), (4, true), (5, true), (6, true), (7, true), (8, true), (9, true), (10, true), (11, true), (12, true), (13, true)] [] (by kernel_rfl) ?_
              refine S.q rfl rfl rfl (wanted_none rfl) (r_loadA ta55 ti55 rfl rfl (fun w hw => (box_cells (i := 0) rfl w hw))) ?_
              refine S.qc rfl rfl rfl (wanted_none rfl) (q_callF (xs := _) rfl ok121 rfl rfl (fun w hw => impl_IsMaze.ok h28 w ((fun _ hw => hr_v25_1.sep hw) w hw) ((fun _ hw => hr_v25_2.sep hw) w hw))) ?_
              refine S.q rfl rfl rfl (wanted_none rfl) (r_not rfl) ?_
              refine S.q rfl rfl rfl (wanted_none rfl) (r_move rfl) ?_
              refine S.q rfl rfl rfl (wg rfl rfl rfl g30) (r_fieldAddr tf31_1 rfl) ?_
              refine S.q rfl rfl rfl (wg rfl rfl rfl g30) (r_load ta23 rfl (fun w hw => cell_1 (box_cells (i := 1) rfl w hw) rfl)) ?_
              refine S.q rfl rfl rfl (wg rfl rfl rfl g30) (r_move rfl) ?_
              refine S.q rfl rfl rfl (wg rfl rfl rfl g30) (r_indexAddrS Try.underlying23 ti38 rfl hl_va0_1 rfl (rdl_some h34).1 (rdl_some h34).2.1) ?_
              refine S.q rfl rfl rfl (wg rfl rfl rfl g30) (r_load ta38 rfl (fun w hw => cell_0 (hc34.sep hw) rfl)) ?_
              refine S.q rfl rfl rfl (wg rfl rfl rfl g30) (r_len Try.underlying38 rfl hl_v34_0) ?_
              refine S.q rfl rfl rfl (wg rfl rfl rfl g30) (r_fieldAddr tf55_0 rfl) ?_
              refine S.q rfl rfl rfl (wg rfl rfl rfl g30) (r_load ta3 rfl (fun w hw => cell_1 (box_cells (i := 0) rfl w hw) rfl)) ?_
              refine S.q rfl rfl rfl (wg rfl rfl rfl g30) (r_neq rfl rfl) ?_
              refine S.q rfl rfl rfl (wanted_none rfl) (r_pickf rfl rfl g30) ?_
              refine S.nil ?_
              refine F.nil ?_
              cases hE_3
              refine Nrm.only [1, 3, 20, 21, 22, 40] rfl ?_
              refine Nrm.pick [1] rfl rfl ?_
              exact hj_2 _ _ ⟨rfl, rfl⟩
        · replace hE_2 := if_ff g_2 hE_2
          refine Tri.exit ?_
          refine Exi.then ?_
          refine Exi.then ?_
          refine Exi.same ?_
          cases hE_2
          replace h := Lr_inl h
          refine Nrm.seq ?_
          refine Tri.seq ?_
          refine Tri.reg (l := [0]) rfl ?_
          refine F.q rfl rfl rfl (wanted_none rfl) (r_assign rfl) ?_
          refine F.nil ?_
          refine Nrm.seq ?_
          refine Tri.ret ?_
          cases h
          exact Rtn.body (.tmp rfl .nil) (fun w hw => ⟨rfl, hw.ext⟩)
  · obtain ⟨t8, h8, hE_1⟩ := bind_some hE_1
    rcases Bool.eq_false_or_eq_true (!t8) with g10 | g10
    · replace hE_1 := if_tt g10 hE_1
      refine Tri.reg (l := [0, 1, 2, 3, 4, 5, 6, 7, 8, 9, 10, 11, 12, 13]) rfl ?_
      refine F.q rfl rfl rfl (wanted_none rfl) (r_fieldAddr tf31_0 rfl) ?_
      refine F.q rfl rfl rfl (wanted_none rfl) (r_load ta29 rfl (fun w hw => cell_1 (box_cells (i := 0) rfl w hw) rfl)) ?_
      refine F.q rfl rfl rfl (wanted_none rfl) (r_len Try.underlying29 rfl hl_va0_0) ?_
      refine F.qc rfl rfl rfl (wanted_none rfl) (q_callF (xs := _) rfl ok88 rfl rfl (fun w hw => impl_within.ok h8 w )) ?_
      refine F.q rfl rfl rfl (wanted_none rfl) (r_not rfl) ?_
      refine F.q rfl rfl rfl (wanted_none rfl) (r_move rfl) ?_
      refine F.sk rfl rfl rfl (wf rfl rfl rfl g10) ?_
      refine F.sk rfl rfl rfl (wf rfl rfl rfl g10) ?_
      refine F.sk rfl rfl rfl (wf rfl rfl rfl g10) ?_
      refine F.sk rfl rfl rfl (wf rfl rfl rfl g10) ?_
      refine F.sk rfl rfl rfl (wf rfl rfl rfl g10) ?_
      refine F.sk rfl rfl rfl (wf rfl rfl rfl g10) ?_
      refine F.sk rfl rfl rfl (wf rfl rfl rfl g10) ?_
      refine F.q rfl rfl rfl (wanted_none rfl) (r_pick rfl rfl g10) ?_
      refine F.nil ?_
      cases hE_1
      refine Nrm.only [1, 18] rfl ?_
      refine Nrm.pick [0] rfl rfl ?_
      exact hj_1 _ _ ⟨rfl, rfl⟩
    · replace hE_1 := if_ff g10 hE_1
      refine Tri.reg (l := [0, 1, 2, 3, 4, 5, 6, 7, 8, 9, 10, 11, 12, 13]) rfl ?_
      refine F.q rfl rfl rfl (wanted_none rfl) (r_fieldAddr tf31_0 rfl) ?_
      refine F.q rfl rfl rfl (wanted_none rfl) (r_load ta29 rfl (fun w hw => cell_1 (box_cells (i := 0) rfl w hw) rfl)) ?_
      refine F.q rfl rfl rfl (wanted_none rfl) (r_len Try.underlying29 rfl hl_va0_0) ?_
      refine F.qc rfl rfl rfl (wanted_none rfl) (q_callF (xs := _) rfl ok88 rfl rfl (fun w hw => impl_within.ok h8 w )) ?_
      refine F.q rfl rfl rfl (wanted_none rfl) (r_not rfl) ?_
      refine F.q rfl rfl rfl (wanted_none rfl) (r_move rfl) ?_
      refine F.q rfl rfl rfl (wg rfl rfl rfl g10) (r_fieldAddr tf31_1 rfl) ?_
      refine F.q rfl rfl rfl (wg rfl rfl rfl g10) (r_load ta23 rfl (fun w hw => cell_1 (box_cells (i := 0) rfl w hw) rfl)) ?_
      refine F.q rfl rfl rfl (wg rfl rfl rfl g10) (r_len Try.underlying23 rfl hl_va0_1) ?_
      refine F.q rfl rfl rfl (wg rfl rfl rfl g10) (r_fieldAddr tf31_0 rfl) ?_
      refine F.q rfl rfl rfl (wg rfl rfl rfl g10) (r_load ta29 rfl (fun w hw => cell_1 (box_cells (i := 0) rfl w hw) rfl)) ?_
      refine F.q rfl rfl rfl (wg rfl rfl rfl g10) (r_len Try.underlying29 rfl hl_va0_0) ?_
      refine F.q rfl rfl rfl (wg rfl rfl rfl g10) (r_neq rfl rfl) ?_
      refine F.q rfl rfl rfl (wanted_none rfl) (r_pickf rfl rfl g10) ?_
      refine F.nil ?_
      cases hE_1
      refine Nrm.only [1, 18] rfl ?_
      refine Nrm.pick [0] rfl rfl ?_
      exact hj_1 _ _ ⟨rfl, rfl⟩

end Go.Proofs

/- loop.example/g01158/impl.isWorld -/
namespace Go.Proofs
open Go Go.Ga
set_option linter.unusedVariables false
set_option maxRecDepth 100000
set_option maxHeartbeats 4000000
def impl_isWorld.f (k : Nat) (a0_0 : List (Int × List (Int × Int × Int) × List Int)) (a0_1 : List (List Int)) (a1 : Int) : Option (Bool) := ((impl_IsWorlds.f k a0_0 a0_1).bind fun t6 => (if t6 = true then (impl_within.f k a1 0 (w64 ((a0_0.length : Int) - 1))).bind fun t13 => some t13 else some false)).bind fun y4 => some y4

theorem impl_isWorld.ok {k : Nat}  {a0_0 : List (Int × List (Int × Int × Int) × List Int)} {a0_1 : List (List Int)} {a1 : Int} {r0 : Bool} (h : impl_isWorld.f k a0_0 a0_1 a1 = some r0) (w : World) {va0_0 : Value} {va0_1 : Value} (hr_a0_0 : Rd w va0_0 a0_0) (hr_a0_1 : Rd w va0_1 a0_1) :
    Calls Try.prog 72 ([.agg ([va0_0, va0_1].toArray), .int .i64 a1] : List Value).toArray w (fun e w' => e = .returned (.bool r0) ∧ Ext w w') := by
  unfold impl_isWorld.f at h
  have hl_va0_0 := hr_a0_0.len
  have hl_va0_1 := hr_a0_1.len
  refine Calls.of_tri (N := 15) Try.func72 rfl rfl rfl (Sep.nil (M := noM)) ?_
  refine Tri.seq ?_
  refine Tri.reg (l := [0, 1]) rfl ?_
  refine F.m rfl rfl rfl (wanted_none rfl) (m_boxG rfl rfl) ?_
  rintro _ _ ⟨b2_1, rfl, rfl⟩
  refine F.q rfl rfl rfl (wanted_none rfl) (r_assign rfl) ?_
  refine F.nil ?_
  refine Nrm.seq ?_
  refine Tri.seq ?_
  obtain ⟨y4, hE_1, h⟩ := bind_some h
  refine Tri.cut (fun e' C' => e' = [(4, .bool y4)] ∧ C' = Sep w noM []) ?_ (fun hj_1 => ?_)
  · rintro _ _ ⟨rfl, rfl⟩
    refine Nrm.seq ?_
    refine Tri.ret ?_
    cases h
    exact Rtn.body (.tmp rfl .nil) (fun w hw => ⟨rfl, hw.ext⟩)
  · obtain ⟨t6, h6, hE_1⟩ := bind_some hE_1
    rcases Bool.eq_false_or_eq_true (t6) with g7 | g7
    · replace hE_1 := if_tt g7 hE_1
      obtain ⟨t13, h13, hE_1⟩ := bind_some hE_1
      refine Tri.reg (l := [0, 1, 2, 3, 4, 5, 6, 7, 8, 9, 10]) rfl ?_
      refine F.q rfl rfl rfl (wanted_none rfl) (r_loadA ta31 ti31 rfl rfl (fun w hw => (box_cells (i := 0) rfl w hw))) ?_
      refine F.qc rfl rfl rfl (wanted_none rfl) (q_callF (xs := _) rfl ok65 rfl rfl (fun w hw => impl_IsWorlds.ok h6 w ((fun _ hw => hr_a0_0.sep hw) w hw) ((fun _ hw => hr_a0_1.sep hw) w hw))) ?_
      refine F.q rfl rfl rfl (wanted_none rfl) (r_move rfl) ?_
      refine F.q rfl rfl rfl (wg rfl rfl rfl g7) (r_move rfl) ?_
      refine F.q rfl rfl rfl (wg rfl rfl rfl g7) (r_fieldAddr tf31_0 rfl) ?_
      refine F.q rfl rfl rfl (wg rfl rfl rfl g7) (r_load ta29 rfl (fun w hw => cell_1 (box_cells (i := 0) rfl w hw) rfl)) ?_
      refine F.q rfl rfl rfl (wg rfl rfl rfl g7) (r_len Try.underlying29 rfl hl_va0_0) ?_
      refine F.q rfl rfl rfl (wg rfl rfl rfl g7) (r_sub rfl rfl) ?_
      refine F.qc rfl rfl rfl (wg rfl rfl rfl g7) (q_callF (xs := _) rfl ok88 rfl rfl (fun w hw => impl_within.ok h13 w )) ?_
      refine F.q rfl rfl rfl (wanted_none rfl) (r_pick rfl rfl g7) ?_
      refine F.q rfl rfl rfl (wanted_none rfl) (r_assign rfl) ?_
      refine F.nil ?_
      cases hE_1
      refine Nrm.only [4] rfl ?_
      refine Nrm.pick [] rfl rfl ?_
      exact hj_1 _ _ ⟨rfl, rfl⟩
    · replace hE_1 := if_ff g7 hE_1
      refine Tri.reg (l := [0, 1, 2, 3, 4, 5, 6, 7, 8, 9, 10]) rfl ?_
      refine F.q rfl rfl rfl (wanted_none rfl) (r_loadA ta31 ti31 rfl rfl (fun w hw => (box_cells (i := 0) rfl w hw))) ?_
      refine F.qc rfl rfl rfl (wanted_none rfl) (q_callF (xs := _) rfl ok65 rfl rfl (fun w hw => impl_IsWorlds.ok h6 w ((fun _ hw => hr_a0_0.sep hw) w hw) ((fun _ hw => hr_a0_1.sep hw) w hw))) ?_
      refine F.q rfl rfl rfl (wanted_none rfl) (r_move rfl) ?_
      refine F.sk rfl rfl rfl (wf rfl rfl rfl g7) ?_
      refine F.sk rfl rfl rfl (wf rfl rfl rfl g7) ?_
      refine F.sk rfl rfl rfl (wf rfl rfl rfl g7) ?_
      refine F.sk rfl rfl rfl (wf rfl rfl rfl g7) ?_
      refine F.sk rfl rfl rfl (wf rfl rfl rfl g7) ?_
      refine F.sk rfl rfl rfl (wf rfl rfl rfl g7) ?_
      refine F.q rfl rfl rfl (wanted_none rfl) (r_pickf rfl rfl g7) ?_
      refine F.q rfl rfl rfl (wanted_none rfl) (r_assign rfl) ?_
      refine F.nil ?_
      cases hE_1
      refine Nrm.only [4] rfl ?_
      refine Nrm.pick [] rfl rfl ?_
      exact hj_1 _ _ ⟨rfl, rfl⟩

end Go.Proofs

/- slices.Clone[[]loop.example/g01158/impl.Maze,loop.example/g01158/impl.Maze] -/

namespace Go.Proofs
open Go Go.Ga
set_option linter.unusedVariables false
set_option maxRecDepth 100000
set_option maxHeartbeats 4000000
def slices_Clone_impl_Maze_impl_Maze_sh.f (k : Nat) (a0 : List (Int × (Sh (Int × Int × Int)) × (Sh (Int)))) : Option ((List (Int × (Sh (Int × Int × Int)) × (Sh (Int))))) := if (([] : List (Int × (Sh (Int × Int × Int)) × (Sh (Int)))) ++ a0).length < 1099511627776 then some (([] : List (Int × (Sh (Int × Int × Int)) × (Sh (Int)))) ++ a0) else none

theorem slices_Clone_impl_Maze_impl_Maze_sh.ok {k : Nat}  {a0 : List (Int × (Sh (Int × Int × Int)) × (Sh (Int)))} {r0 : List (Int × (Sh (Int × Int × Int)) × (Sh (Int)))} (h : slices_Clone_impl_Maze_impl_Maze_sh.f k a0 = some r0) (w : World) {va0 : Value} (hr_a0 : Rd w va0 a0) :
    Calls Try.prog 129 ([va0] : List Value).toArray w (Post (fun u ns => ∃ (Sr0 : Nat → Prop), SlLen u r0.length ∧ ns = [R.sl Sr0 u r0]) w) := by
  unfold slices_Clone_impl_Maze_impl_Maze_sh.f at h
  have hl_va0 := hr_a0.len
  rcases Rd.cases hr_a0 with ⟨rfl, rfl⟩ | ⟨pa0, ca0, rfl⟩
  · replace h : some [] = some r0 := by simpa using h
    refine Calls.of_tri (N := 8) Try.func129 rfl rfl rfl (Sep.nil (M := noM)) ?_
    refine Tri.seq ?_
    refine Tri.reg (l := [0]) rfl ?_
    refine F.q rfl rfl rfl (wanted_none rfl) (r_assign rfl) ?_
    refine F.nil ?_
    refine Nrm.seq ?_
    refine Tri.seq ?_
    refine Tri.seq ?_
    refine Tri.reg (l := [0, 1]) rfl ?_
    refine F.q rfl rfl rfl (wanted_none rfl) (r_move rfl) ?_
    refine F.q rfl rfl rfl (wanted_none rfl) (r_eqlNN Try.underlying29 rfl rfl) ?_
    refine F.nil ?_
    refine Nrm.seq ?_
    refine Tri.condT rfl rfl ?_
    refine Tri.seq ?_
    refine Tri.reg (l := [0]) rfl ?_
    refine F.q rfl rfl rfl (wanted_none rfl) (r_assign rfl) ?_
    refine F.nil ?_
    refine Nrm.seq ?_
    refine Tri.ret ?_
    refine Rtn.then ?_
    cases h
    exact Rtn.body (.tmp rfl .nil) (fun w hw => ⟨_, _, rfl, ⟨fun _ => False, len_nil, rfl⟩, Sep.pick (is := [0]) rfl rfl hw.pushNil⟩)
  · refine Calls.of_tri (N := 8) Try.func129 rfl rfl rfl (Sep.nil (M := noM)) ?_
    refine Tri.seq ?_
    refine Tri.reg (l := [0]) rfl ?_
    refine F.q rfl rfl rfl (wanted_none rfl) (r_assign rfl) ?_
    refine F.nil ?_
    refine Nrm.seq ?_
    refine Tri.seq ?_
    refine Tri.seq ?_
    refine Tri.reg (l := [0, 1]) rfl ?_
    refine F.q rfl rfl rfl (wanted_none rfl) (r_move rfl) ?_
    refine F.q rfl rfl rfl (wanted_none rfl) (r_eqlN Try.underlying29 rfl rfl ⟨_, _, rfl⟩) ?_
    refine F.nil ?_
    refine Nrm.seq ?_
    refine Tri.condF rfl rfl ?_
    refine Tri.skip ?_
    refine Nrm.seq ?_
    refine Tri.seq ?_
    obtain ⟨hs7, h⟩ := ck h
    refine Tri.reg (l := [0, 1, 2, 3]) rfl ?_
    refine F.m rfl rfl rfl (wanted_none rfl) (m_build0 (α := Int × (Sh (Int × Int × Int)) × (Sh (Int))) Try.underlying29 ti55) ?_
    rintro v5_1 _ ⟨S5_1, hl_v5_1, rfl⟩
    refine F.q rfl rfl rfl (wanted_none rfl) (r_move rfl) ?_
    refine F.ef rfl rfl rfl (wanted_none rfl) (d_append (i := 0) Try.underlying29 Try.underlying29 ti55 rfl (by decide) rfl rfl rfl (fun _ hw => hr_a0.sep hw) hs7) ?_
    rintro v7_1 _ ⟨S7_1, rfl, hl_v7_1⟩
    refine F.q rfl rfl rfl (wanted_none rfl) (r_assign rfl) ?_
    refine F.nil ?_
    refine Nrm.seq ?_
    refine Tri.ret ?_
    cases h
    exact Rtn.body (.tmp rfl .nil) (fun w hw => ⟨_, _, rfl, ⟨S7_1, hl_v7_1, rfl⟩, Sep.pick (is := [0]) rfl rfl hw⟩)

end Go.Proofs

/- loop.example/g01158/impl.withMaze -/
namespace Go.Proofs
open Go Go.Ga
set_option linter.unusedVariables false
set_option maxRecDepth 100000
set_option maxHeartbeats 4000000
def impl_withMaze_sh.f (k : Nat) (a0_0 : List (Int × (Sh (Int × Int × Int)) × (Sh (Int)))) (a0_1 : List (Sh (Int))) (a1 : Int) (a2_0 : Int) (a2_1 : Sh (Int × Int × Int)) (a2_2 : Sh (Int)) : Option ((List (Int × (Sh (Int × Int × Int)) × (Sh (Int))))) := ((slices_Clone_impl_Maze_impl_Maze_sh.f k a0_0).bind fun t10 => some t10).bind fun yb7_2_0 => (rdl yb7_2_0 a1).bind fun t18 => some (yb7_2_0.set a1.toNat (a2_0, a2_1, a2_2))

theorem impl_withMaze_sh.ok {k : Nat}  {a0_0 : List (Int × (Sh (Int × Int × Int)) × (Sh (Int)))} {a0_1 : List (Sh (Int))} {a1 : Int} {a2_0 : Int} {a2_1 : Sh (Int × Int × Int)} {a2_2 : Sh (Int)} {r0 : List (Int × (Sh (Int × Int × Int)) × (Sh (Int)))} (h : impl_withMaze_sh.f k a0_0 a0_1 a1 a2_0 a2_1 a2_2 = some r0) (w : World) {va0_0 : Value} {va0_1 : Value} (hr_a0_0 : Rd w va0_0 a0_0) (hr_a0_1 : Rd w va0_1 a0_1) :
    Calls Try.prog 73 ([.agg ([va0_0, va0_1].toArray), .int .i64 a1, .agg ([.int .i64 a2_0, a2_1.v, a2_2.v].toArray)] : List Value).toArray w (Post (fun u ns => ∃ (ur0 : Value) (Sr0 : Nat → Prop), u = .agg [ur0, va0_1].toArray ∧ SlLen ur0 r0.length ∧ ns = [R.sl Sr0 ur0 r0]) w) := by
  unfold impl_withMaze_sh.f at h
  have hl_va0_0 := hr_a0_0.len
  have hl_va0_1 := hr_a0_1.len
  refine Calls.of_tri (N := 20) Try.func73 rfl rfl rfl (Sep.nil (M := noM)) ?_
  refine Tri.seq ?_
  refine Tri.reg (l := [0, 1, 2]) rfl ?_
  refine F.m rfl rfl rfl (wanted_none rfl) (m_boxG rfl rfl) ?_
  rintro _ _ ⟨b3_1, rfl, rfl⟩
  refine F.m rfl rfl rfl (wanted_none rfl) (m_boxG rfl rfl) ?_
  rintro _ _ ⟨b5_1, rfl, rfl⟩
  refine F.m rfl rfl rfl (wanted_none rfl) (m_alloc ti31) ?_
  rintro _ _ ⟨b6_1, rfl, rfl⟩
  refine F.nil ?_
  refine Nrm.seq ?_
  refine Tri.seq ?_
  obtain ⟨yb7_2_0, hE_1, h⟩ := bind_some h
  refine Tri.cut (fun e' C' => ∃ (vb7_2_0_1 : Value) (Sb7_2_0_1 : Nat → Prop) (b7_2 : Nat), SlLen vb7_2_0_1 (yb7_2_0).length ∧ e' = [(1, .int .i64 a1), (5, .pointer (some ⟨b5_1, 0, none⟩)), (6, .pointer (some ⟨b6_1, 0, none⟩)), (7, .pointer (some ⟨b7_2, 0, none⟩))] ∧ C' = Sep w noM [R.box b6_1 31 [.slice none 0 0, .slice none 0 0], R.box b5_1 55 [.int .i64 a2_0, a2_1.v, a2_2.v], R.box b7_2 31 [vb7_2_0_1, va0_1], R.sl Sb7_2_0_1 vb7_2_0_1 (yb7_2_0 : List (Int × (Sh (Int × Int × Int)) × (Sh (Int))))]) ?_ (fun hj_1 => ?_)
  · rintro _ _ ⟨vb7_2_0_1, Sb7_2_0_1, b7_2, hl_vb7_2_0_1, rfl, rfl⟩
    refine Nrm.seq ?_
    refine Tri.seq ?_
    obtain ⟨t18, h18, h⟩ := bind_some h
    refine Tri.reg (l := [0, 1, 2, 3, 4, 5]) rfl ?_
    refine F.q rfl rfl rfl (wanted_none rfl) (r_fieldAddr tf31_0 rfl) ?_
    refine F.q rfl rfl rfl (wanted_none rfl) (r_load ta29 rfl (fun w hw => cell_1 (box_cells (i := 2) rfl w hw) rfl)) ?_
    refine F.q rfl rfl rfl (wanted_none rfl) (r_move rfl) ?_
    refine F.q rfl rfl rfl (wanted_none rfl) (r_loadA ta55 ti55 rfl rfl (fun w hw => (box_cells (i := 1) rfl w hw))) ?_
    refine F.q rfl rfl rfl (wanted_none rfl) (r_indexAddrS Try.underlying29 ti55 rfl hl_vb7_2_0_1 rfl (rdl_some h18).1 (rdl_some h18).2.1) ?_
    refine F.ef0 rfl rfl (wanted_none rfl) (d_storeE (i := 3) (x1 := (a2_0, a2_1, a2_2)) ti55 rfl rfl rfl (rdl_some h18) rfl) ?_
    rintro _ _ ⟨rfl, rfl⟩
    refine F.nil ?_
    refine Nrm.seq ?_
    refine Tri.seq ?_
    refine Tri.reg (l := [0, 1]) rfl ?_
    refine F.q rfl rfl rfl (wanted_none rfl) (r_loadA ta31 ti31 rfl rfl (fun w hw => (box_cells (i := 2) rfl w hw))) ?_
    refine F.ef0 rfl rfl (wanted_none rfl) (d_storeG0 (i := 0) (cs2 := [vb7_2_0_1, va0_1]) ti31 rfl rfl rfl rfl rfl (Nat.le_of_ble_eq_true rfl) (lf_cons (sl_leaf hl_vb7_2_0_1) (lf_cons (sl_leaf hl_va0_1) lf_nil))) ?_
    rintro _ _ ⟨rfl, rfl⟩
    refine F.nil ?_
    refine Nrm.seq ?_
    refine Tri.ret ?_
    cases h
    exact Rtn.body (.cell rfl ta31 ti31 rfl (fun _ hw => box_cells (i := 0) rfl _ hw) .nil) (fun w hw => ⟨_, _, rfl, ⟨vb7_2_0_1, Sb7_2_0_1, rfl, (len_set hl_vb7_2_0_1), rfl⟩, Sep.pick (is := [3]) rfl rfl hw⟩)
  · obtain ⟨t10, h10, hE_1⟩ := bind_some hE_1
    refine Tri.drawT mixedT Sep.up [0, 1, 3, 4, 2, 5, 6] [7] (.q 0 (.q 1 (.q 3 (.q 4 (.alt 2 (.alt 5 (.alt 6 .nil .stop) (.alt 6 (.alt 5 .nil .stop) .stop)) (.alt 6 (.alt 2 (.alt 5 .nil .stop) .stop) .stop)))))) (by kernel_rfl) ?_
    refine T.q rfl rfl rfl (wanted_none rfl) (r_fieldAddr tf31_0 rfl) ?_
    refine T.q rfl rfl rfl (wanted_none rfl) (r_load ta29 rfl (fun w hw => cell_1 (box_cells (i := 2) rfl w hw) rfl)) ?_
    refine T.q rfl rfl rfl (wanted_none rfl) (r_fieldAddr tf31_1 rfl) ?_
    refine T.q rfl rfl rfl (wanted_none rfl) (r_load ta23 rfl (fun w hw => cell_1 (box_cells (i := 2) rfl w hw) rfl)) ?_
    refine T.ef rfl rfl rfl (wanted_none rfl) (Makes.does (m_callF (xs := _) rfl ok129 rfl rfl (fun w hw => slices_Clone_impl_Maze_impl_Maze_sh.ok h10 w ((fun _ hw => hr_a0_0.sep hw) w hw)))) (by rintro v10_2 _ ⟨_, ⟨S10_2, hl_v10_2, rfl⟩, rfl⟩; exact upd rfl [1, 2, 3] rfl rfl) ?_ ?_
    · rintro v10_2 _ ⟨_, ⟨S10_2, hl_v10_2, rfl⟩, rfl⟩
      refine T.ef rfl rfl rfl (wanted_none rfl) (Runs.does (r_build (pl := [(0, 1), (1, 1)]) (qs := [(0, [v10_2]), (1, [va0_1])]) (cs := [v10_2, va0_1]) (by kernel_rfl) ti31 rfl (.cons (sl_cells hl_v10_2) rfl (Nat.le_of_ble_eq_true rfl) (.cons (sl_cells hl_va0_1) rfl (Nat.le_of_ble_eq_true rfl) .nil)) rfl rfl)) (by rintro _ _ ⟨rfl, rfl⟩; exact upd rfl [1, 2, 3] rfl rfl) ?_ ?_
      · rintro _ _ ⟨rfl, rfl⟩
        refine T.ef rfl rfl rfl (wanted_none rfl) (Makes.does (m_alloc ti31)) (by rintro _ _ ⟨b7_3, rfl, rfl⟩; exact upd rfl [2, 3, 4] rfl rfl) ?_ ?_
        · rintro _ _ ⟨b7_3, rfl, rfl⟩
          refine T.nil ?_
          refine F.ef0 rfl rfl (wanted_none rfl) (d_storeG0 (i := 0) (cs2 := [v10_2, va0_1]) ti31 rfl rfl rfl rfl rfl (Nat.le_of_ble_eq_true rfl) (lf_cons (sl_leaf hl_v10_2) (lf_cons (sl_leaf hl_va0_1) lf_nil))) ?_
          rintro _ _ ⟨rfl, rfl⟩
          refine F.nil ?_
          cases hE_1
          refine Nrm.only [1, 5, 6, 7] rfl ?_
          refine Nrm.pick [2, 3, 0, 1] rfl rfl ?_
          exact hj_1 _ _ ⟨v10_2, S10_2, b7_3, hl_v10_2, rfl, rfl⟩
        exact T.stop
      · refine T.ef rfl rfl rfl (wanted_none rfl) (Makes.does (m_alloc ti31)) (by rintro _ _ ⟨b7_4, rfl, rfl⟩; exact upd rfl [2, 3, 4] rfl rfl) ?_ ?_
        · rintro _ _ ⟨b7_4, rfl, rfl⟩
          refine T.ef rfl rfl rfl (wanted_none rfl) (Runs.does (r_build (pl := [(0, 1), (1, 1)]) (qs := [(0, [v10_2]), (1, [va0_1])]) (cs := [v10_2, va0_1]) (by kernel_rfl) ti31 rfl (.cons (sl_cells hl_v10_2) rfl (Nat.le_of_ble_eq_true rfl) (.cons (sl_cells hl_va0_1) rfl (Nat.le_of_ble_eq_true rfl) .nil)) rfl rfl)) (by rintro _ _ ⟨rfl, rfl⟩; exact upd rfl [2, 3, 4] rfl rfl) ?_ ?_
          · rintro _ _ ⟨rfl, rfl⟩
            refine T.nil ?_
            refine F.ef0 rfl rfl (wanted_none rfl) (d_storeG0 (i := 0) (cs2 := [v10_2, va0_1]) ti31 rfl rfl rfl rfl rfl (Nat.le_of_ble_eq_true rfl) (lf_cons (sl_leaf hl_v10_2) (lf_cons (sl_leaf hl_va0_1) lf_nil))) ?_
            rintro _ _ ⟨rfl, rfl⟩
            refine F.nil ?_
            cases hE_1
            refine Nrm.only [1, 5, 6, 7] rfl ?_
            refine Nrm.pick [2, 3, 0, 1] rfl rfl ?_
            exact hj_1 _ _ ⟨v10_2, S10_2, b7_4, hl_v10_2, rfl, rfl⟩
          exact T.stop
        exact T.stop
    · refine T.ef rfl rfl rfl (wanted_none rfl) (Makes.does (m_alloc ti31)) (by rintro _ _ ⟨b7_5, rfl, rfl⟩; exact upd rfl [1, 2, 3] rfl rfl) ?_ ?_
      · rintro _ _ ⟨b7_5, rfl, rfl⟩
        refine T.ef rfl rfl rfl (wanted_none rfl) (Makes.does (m_callF (xs := _) rfl ok129 rfl rfl (fun w hw => slices_Clone_impl_Maze_impl_Maze_sh.ok h10 w ((fun _ hw => hr_a0_0.sep hw) w hw)))) (by rintro v10_3 _ ⟨_, ⟨S10_3, hl_v10_3, rfl⟩, rfl⟩; exact upd rfl [2, 3, 4] rfl rfl) ?_ ?_
        · rintro v10_3 _ ⟨_, ⟨S10_3, hl_v10_3, rfl⟩, rfl⟩
          refine T.ef rfl rfl rfl (wanted_none rfl) (Runs.does (r_build (pl := [(0, 1), (1, 1)]) (qs := [(0, [v10_3]), (1, [va0_1])]) (cs := [v10_3, va0_1]) (by kernel_rfl) ti31 rfl (.cons (sl_cells hl_v10_3) rfl (Nat.le_of_ble_eq_true rfl) (.cons (sl_cells hl_va0_1) rfl (Nat.le_of_ble_eq_true rfl) .nil)) rfl rfl)) (by rintro _ _ ⟨rfl, rfl⟩; exact upd rfl [2, 3, 4] rfl rfl) ?_ ?_
          · rintro _ _ ⟨rfl, rfl⟩
            refine T.nil ?_
            refine F.ef0 rfl rfl (wanted_none rfl) (d_storeG0 (i := 1) (cs2 := [v10_3, va0_1]) ti31 rfl rfl rfl rfl rfl (Nat.le_of_ble_eq_true rfl) (lf_cons (sl_leaf hl_v10_3) (lf_cons (sl_leaf hl_va0_1) lf_nil))) ?_
            rintro _ _ ⟨rfl, rfl⟩
            refine F.nil ?_
            cases hE_1
            refine Nrm.only [1, 5, 6, 7] rfl ?_
            refine Nrm.pick [2, 3, 1, 0] rfl rfl ?_
            exact hj_1 _ _ ⟨v10_3, S10_3, b7_5, hl_v10_3, rfl, rfl⟩
          exact T.stop
        exact T.stop
      exact T.stop

end Go.Proofs

/- loop.example/g01158/impl.withMaze -/
namespace Go.Proofs
open Go Go.Ga
set_option linter.unusedVariables false
set_option maxRecDepth 100000
set_option maxHeartbeats 4000000
theorem impl_withMaze.okx {mz : List MzT} {ls : List SMz} {os : List (List Int)} {j n : Int} {d : List (Int × Int × Int)} {ks : List Int} (hj : 0 ≤ j ∧ j < mz.length) (hz : mz.length < 1099511627776) (w : World) {vM vO vd vk : Value} (hab : ls.map SMz.abs = mz) (hM : Rd w vM ls) (hO : Rd w vO os) (hd0 : isLeaf vd = true) (hk0 : isLeaf vk = true) :
    Calls Try.prog 73 ([.agg [vM, vO].toArray, .int .i64 j, .agg [.int .i64 n, vd, vk].toArray] : List Value).toArray w (Post (fun u ns => ∃ (u0 : Value) (S0 : Nat → Prop), u = .agg [u0, vO].toArray ∧ SlLen u0 mz.length ∧ ns = [R.sl S0 u0 (ls.set j.toNat (n, ⟨vd, d, hd0⟩, ⟨vk, ks, hk0⟩))]) w) := by
  obtain ⟨lo, _, hO'⟩ := sh_open hO
  have hll : ls.length = mz.length := by rw [← hab, List.length_map]
  have hlt : j.toNat < ls.length := by omega
  have hr : rdl ls j = some ls[j.toNat] := by
    obtain ⟨i, rfl⟩ := Int.eq_ofNat_of_zero_le hj.1
    exact rdl_lt hlt
  have e : impl_withMaze_sh.f 1 ls lo j n (⟨vd, d, hd0⟩ : Sh (Int × Int × Int)) (⟨vk, ks, hk0⟩ : Sh Int) = some (ls.set j.toNat (n, ⟨vd, d, hd0⟩, ⟨vk, ks, hk0⟩)) := by
    unfold impl_withMaze_sh.f slices_Clone_impl_Maze_impl_Maze_sh.f
    rw [if_pos (by simpa [hll] using hz)]
    simp only [Option.bind_some, List.nil_append, hr]
  refine (impl_withMaze_sh.ok e w hM hO').mono fun e' w' ⟨u, ns, h1, h2, h3⟩ => ?_
  obtain ⟨u0, S0, rfl, h4, rfl⟩ := h2
  exact ⟨_, _, h1, ⟨u0, S0, rfl, by rw [← hll]; simpa using h4, rfl⟩, h3⟩

end Go.Proofs

/- slices.Clone[[][3]int,[3]int] -/

namespace Go.Proofs
open Go Go.Ga
set_option linter.unusedVariables false
set_option maxRecDepth 100000
set_option maxHeartbeats 4000000
def slices_Clone__3int__3int.f (k : Nat) (a0 : List (Int × Int × Int)) : Option ((List (Int × Int × Int))) := if (([] : List (Int × Int × Int)) ++ a0).length < 1099511627776 then some (([] : List (Int × Int × Int)) ++ a0) else none

theorem slices_Clone__3int__3int.ok {k : Nat}  {a0 : List (Int × Int × Int)} {r0 : List (Int × Int × Int)} (h : slices_Clone__3int__3int.f k a0 = some r0) (w : World) {va0 : Value} (hr_a0 : Rd w va0 a0) :
    Calls Try.prog 132 ([va0] : List Value).toArray w (Post (fun u ns => ∃ (Sr0 : Nat → Prop), SlLen u r0.length ∧ ns = [R.sl Sr0 u r0]) w) := by
  unfold slices_Clone__3int__3int.f at h
  have hl_va0 := hr_a0.len
  rcases Rd.cases hr_a0 with ⟨rfl, rfl⟩ | ⟨pa0, ca0, rfl⟩
  · replace h : some [] = some r0 := by simpa using h
    refine Calls.of_tri (N := 8) Try.func132 rfl rfl rfl (Sep.nil (M := noM)) ?_
    refine Tri.seq ?_
    refine Tri.reg (l := [0]) rfl ?_
    refine F.q rfl rfl rfl (wanted_none rfl) (r_assign rfl) ?_
    refine F.nil ?_
    refine Nrm.seq ?_
    refine Tri.seq ?_
    refine Tri.seq ?_
    refine Tri.reg (l := [0, 1]) rfl ?_
    refine F.q rfl rfl rfl (wanted_none rfl) (r_move rfl) ?_
    refine F.q rfl rfl rfl (wanted_none rfl) (r_eqlNN Try.underlying49 rfl rfl) ?_
    refine F.nil ?_
    refine Nrm.seq ?_
    refine Tri.condT rfl rfl ?_
    refine Tri.seq ?_
    refine Tri.reg (l := [0]) rfl ?_
    refine F.q rfl rfl rfl (wanted_none rfl) (r_assign rfl) ?_
    refine F.nil ?_
    refine Nrm.seq ?_
    refine Tri.ret ?_
    refine Rtn.then ?_
    cases h
    exact Rtn.body (.tmp rfl .nil) (fun w hw => ⟨_, _, rfl, ⟨fun _ => False, len_nil, rfl⟩, Sep.pick (is := [0]) rfl rfl hw.pushNil⟩)
  · refine Calls.of_tri (N := 8) Try.func132 rfl rfl rfl (Sep.nil (M := noM)) ?_
    refine Tri.seq ?_
    refine Tri.reg (l := [0]) rfl ?_
    refine F.q rfl rfl rfl (wanted_none rfl) (r_assign rfl) ?_
    refine F.nil ?_
    refine Nrm.seq ?_
    refine Tri.seq ?_
    refine Tri.seq ?_
    refine Tri.reg (l := [0, 1]) rfl ?_
    refine F.q rfl rfl rfl (wanted_none rfl) (r_move rfl) ?_
    refine F.q rfl rfl rfl (wanted_none rfl) (r_eqlN Try.underlying49 rfl rfl ⟨_, _, rfl⟩) ?_
    refine F.nil ?_
    refine Nrm.seq ?_
    refine Tri.condF rfl rfl ?_
    refine Tri.skip ?_
    refine Nrm.seq ?_
    refine Tri.seq ?_
    obtain ⟨hs7, h⟩ := ck h
    refine Tri.reg (l := [0, 1, 2, 3]) rfl ?_
    refine F.m rfl rfl rfl (wanted_none rfl) (m_build0 (α := Int × Int × Int) Try.underlying49 ti140) ?_
    rintro v5_1 _ ⟨S5_1, hl_v5_1, rfl⟩
    refine F.q rfl rfl rfl (wanted_none rfl) (r_move rfl) ?_
    refine F.ef rfl rfl rfl (wanted_none rfl) (d_append (i := 0) Try.underlying49 Try.underlying49 ti140 rfl (by decide) rfl rfl rfl (fun _ hw => hr_a0.sep hw) hs7) ?_
    rintro v7_1 _ ⟨S7_1, rfl, hl_v7_1⟩
    refine F.q rfl rfl rfl (wanted_none rfl) (r_assign rfl) ?_
    refine F.nil ?_
    refine Nrm.seq ?_
    refine Tri.ret ?_
    cases h
    exact Rtn.body (.tmp rfl .nil) (fun w hw => ⟨_, _, rfl, ⟨S7_1, hl_v7_1, rfl⟩, Sep.pick (is := [0]) rfl rfl hw⟩)

end Go.Proofs

/- loop.example/g01158/impl.own -/
namespace Go.Proofs
open Go Go.Ga
set_option linter.unusedVariables false
set_option maxRecDepth 100000
set_option maxHeartbeats 4000000
def impl_own.f (k : Nat) (a0_0 : Int) (a0_1 : List (Int × Int × Int)) (a0_2 : List Int) : Option (Int × (List (Int × Int × Int)) × (List Int)) := (slices_Clone__3int__3int.f k a0_1).bind fun t7 => (slices_Clone_int_int.f k a0_2).bind fun t10 => some (a0_0, t7, t10)

theorem impl_own.ok {k : Nat}  {a0_0 : Int} {a0_1 : List (Int × Int × Int)} {a0_2 : List Int} {r0 : Int} {r1 : List (Int × Int × Int)} {r2 : List Int} (h : impl_own.f k a0_0 a0_1 a0_2 = some (r0, r1, r2)) (w : World) {va0_1 : Value} {va0_2 : Value} (hr_a0_1 : Rd w va0_1 a0_1) (hr_a0_2 : Rd w va0_2 a0_2) :
    Calls Try.prog 79 ([.agg ([.int .i64 a0_0, va0_1, va0_2].toArray)] : List Value).toArray w (Post (fun u ns => ∃ (ur1 : Value) (Sr1 : Nat → Prop) (ur2 : Value) (Sr2 : Nat → Prop), u = .agg [.int .i64 r0, ur1, ur2].toArray ∧ SlLen ur1 r1.length ∧ SlLen ur2 r2.length ∧ ns = [R.sl Sr1 ur1 r1, R.sl Sr2 ur2 r2]) w) := by
  unfold impl_own.f at h
  have hl_va0_1 := hr_a0_1.len
  have hl_va0_2 := hr_a0_2.len
  refine Calls.of_tri (N := 12) Try.func79 rfl rfl rfl (Sep.nil (M := noM)) ?_
  refine Tri.seq ?_
  refine Tri.reg (l := [0, 1]) rfl ?_
  refine F.m rfl rfl rfl (wanted_none rfl) (m_boxG rfl rfl) ?_
  rintro _ _ ⟨b1_1, rfl, rfl⟩
  refine F.m rfl rfl rfl (wanted_none rfl) (m_alloc ti55) ?_
  rintro _ _ ⟨b2_1, rfl, rfl⟩
  refine F.nil ?_
  refine Nrm.seq ?_
  refine Tri.seq ?_
  obtain ⟨t7, h7, h⟩ := bind_some h
  obtain ⟨t10, h10, h⟩ := bind_some h
  refine Tri.drawA mixedT Sep.up [(0, true), (1, true), (2, true), (3, true), (5, true), (6, true), (4, false), (7, false), (8, true)] [9] (by kernel_rfl) ?_
  refine S.q rfl rfl rfl (wanted_none rfl) (r_fieldAddr tf55_0 rfl) ?_
  refine S.q rfl rfl rfl (wanted_none rfl) (r_load ta3 rfl (fun w hw => cell_1 (box_cells (i := 1) rfl w hw) rfl)) ?_
  refine S.q rfl rfl rfl (wanted_none rfl) (r_fieldAddr tf55_1 rfl) ?_
  refine S.q rfl rfl rfl (wanted_none rfl) (r_load ta49 rfl (fun w hw => cell_1 (box_cells (i := 1) rfl w hw) rfl)) ?_
  refine S.q rfl rfl rfl (wanted_none rfl) (r_fieldAddr tf55_2 rfl) ?_
  refine S.q rfl rfl rfl (wanted_none rfl) (r_load ta38 rfl (fun w hw => cell_1 (box_cells (i := 1) rfl w hw) rfl)) ?_
  refine S.m rfl rfl rfl (wanted_none rfl) (m_callF (xs := _) rfl ok132 rfl rfl (fun w hw => slices_Clone__3int__3int.ok h7 w ((fun _ hw => hr_a0_1.sep hw) w hw))) ?_
  rintro v7_2 _ ⟨_, ⟨S7_2, hl_v7_2, rfl⟩, rfl⟩
  refine S.m rfl rfl rfl (wanted_none rfl) (m_callF (xs := _) rfl ok89 rfl rfl (fun w hw => slices_Clone_int_int.ok h10 w ((fun _ hw => hr_a0_2.sep hw) w hw))) ?_
  rintro v10_2 _ ⟨_, ⟨S10_2, hl_v10_2, rfl⟩, rfl⟩
  refine S.q rfl rfl rfl (wanted_none rfl) (r_build (pl := [(0, 1), (1, 1), (2, 1)]) (qs := [(0, [.int .i64 a0_0]), (1, [v7_2]), (2, [v10_2])]) (cs := [.int .i64 a0_0, v7_2, v10_2]) (by kernel_rfl) ti55 rfl (.cons rfl rfl (Nat.le_of_ble_eq_true rfl) (.cons (sl_cells hl_v7_2) rfl (Nat.le_of_ble_eq_true rfl) (.cons (sl_cells hl_v10_2) rfl (Nat.le_of_ble_eq_true rfl) .nil))) rfl rfl) ?_
  refine S.nil ?_
  refine F.ef0 rfl rfl (wanted_none rfl) (d_storeG0 (i := 2) (cs2 := [.int .i64 a0_0, v7_2, v10_2]) ti55 rfl rfl rfl rfl rfl (Nat.le_of_ble_eq_true rfl) (lf_cons rfl (lf_cons (sl_leaf hl_v7_2) (lf_cons (sl_leaf hl_v10_2) lf_nil)))) ?_
  rintro _ _ ⟨rfl, rfl⟩
  refine F.nil ?_
  refine Nrm.seq ?_
  refine Tri.ret ?_
  cases h
  exact Rtn.body (.cell rfl ta55 ti55 rfl (fun _ hw => box_cells (i := 2) rfl _ hw) .nil) (fun w hw => ⟨_, _, rfl, ⟨v7_2, S7_2, v10_2, S10_2, rfl, hl_v7_2, hl_v10_2, rfl⟩, Sep.pick (is := [1, 0]) rfl rfl hw⟩)

end Go.Proofs

/- loop.example/g01158/impl.laid -/
namespace Go.Proofs
open Go Go.Ga
set_option linter.unusedVariables false
set_option maxRecDepth 100000
set_option maxHeartbeats 4000000
def impl_laid.l0 (k : Nat) (a1 : List Int) (a2 : List Int) : Nat → Int → (List (Int)) → Option ((List (Int)))
  | 0, _, _ => none
  | n + 1, x16, xq7_1_2 => (if (decide (x16 < (a2.length : Int))) = true then (rdl a2 x16).bind fun t19 => (rdl xq7_1_2 t19).bind fun t24 => (rdl a1 x16).bind fun t28 => if ¬ t28 < 0 then (rdl xq7_1_2 t19).bind fun t32 => impl_laid.l0 k a1 a2 n (w64 (x16 + 1)) (xq7_1_2.set t19.toNat (bor t24 (shl 1 t28))) else none else some xq7_1_2)

def impl_laid.f (k : Nat) (a0_0 : Int) (a0_1 : List (Int × Int × Int)) (a0_2 : List Int) (a1 : List Int) (a2 : List Int) : Option (Int × (List (Int × Int × Int)) × (List Int)) := (impl_own.f k a0_0 a0_1 a0_2).bind fun (t11_1, t11_2, t11_3) => (impl_laid.l0 k a1 a2 k 0 (List.replicate t11_3.length (0 : Int))).bind fun xq7_1_2 => some (t11_1, t11_2, xq7_1_2)

theorem impl_laid.ok {k : Nat}  {a0_0 : Int} {a0_1 : List (Int × Int × Int)} {a0_2 : List Int} {a1 : List Int} {a2 : List Int} {r0 : Int} {r1 : List (Int × Int × Int)} {r2 : List Int} (h : impl_laid.f k a0_0 a0_1 a0_2 a1 a2 = some (r0, r1, r2)) (w : World) {va0_1 : Value} {va0_2 : Value} {va1 : Value} {va2 : Value} (hr_a0_1 : Rd w va0_1 a0_1) (hr_a0_2 : Rd w va0_2 a0_2) (hr_a1 : Rd w va1 a1) (hr_a2 : Rd w va2 a2) :
    Calls Try.prog 74 ([.agg ([.int .i64 a0_0, va0_1, va0_2].toArray), va1, va2] : List Value).toArray w (Post (fun u ns => ∃ (ur1 : Value) (Sr1 : Nat → Prop) (ur2 : Value) (Sr2 : Nat → Prop), u = .agg [.int .i64 r0, ur1, ur2].toArray ∧ SlLen ur1 r1.length ∧ SlLen ur2 r2.length ∧ ns = [R.sl Sr1 ur1 r1, R.sl Sr2 ur2 r2]) w) := by
  unfold impl_laid.f at h
  have hl_va0_1 := hr_a0_1.len
  have hl_va0_2 := hr_a0_2.len
  have hl_va1 := hr_a1.len
  have hl_va2 := hr_a2.len
  refine Calls.of_tri (N := 35) Try.func74 rfl rfl rfl (Sep.nil (M := noM)) ?_
  refine Tri.seq ?_
  refine Tri.reg (l := [0, 1]) rfl ?_
  refine F.m rfl rfl rfl (wanted_none rfl) (m_boxG rfl rfl) ?_
  rintro _ _ ⟨b3_1, rfl, rfl⟩
  refine F.m rfl rfl rfl (wanted_none rfl) (m_alloc ti55) ?_
  rintro _ _ ⟨b6_1, rfl, rfl⟩
  refine F.nil ?_
  refine Nrm.seq ?_
  refine Tri.seq ?_
  obtain ⟨⟨t11_1, t11_2, t11_3⟩, h11, h⟩ := bind_some h
  refine Tri.reg (l := [0, 1, 2, 3]) rfl ?_
  refine F.q rfl rfl rfl (wanted_none rfl) (r_loadA ta55 ti55 rfl rfl (fun w hw => (box_cells (i := 1) rfl w hw))) ?_
  refine F.m rfl rfl rfl (wanted_none rfl) (m_callF (xs := _) rfl ok79 rfl rfl (fun w hw => impl_own.ok h11 w ((fun _ hw => hr_a0_1.sep hw) w hw) ((fun _ hw => hr_a0_2.sep hw) w hw))) ?_
  rintro _ _ ⟨_, ⟨v11_1, S11_1, v11_2, S11_2, rfl, hl_v11_1, hl_v11_2, rfl⟩, rfl⟩
  refine F.m rfl rfl rfl (wanted_none rfl) (m_alloc ti55) ?_
  rintro _ _ ⟨b7_1, rfl, rfl⟩
  refine F.ef0 rfl rfl (wanted_none rfl) (d_storeG0 (i := 0) (cs2 := [.int .i64 t11_1, v11_1, v11_2]) ti55 rfl rfl rfl rfl rfl (Nat.le_of_ble_eq_true rfl) (lf_cons rfl (lf_cons (sl_leaf hl_v11_1) (lf_cons (sl_leaf hl_v11_2) lf_nil)))) ?_
  rintro _ _ ⟨rfl, rfl⟩
  refine F.nil ?_
  refine Nrm.seq ?_
  refine Tri.seq ?_
  refine Tri.reg (l := [0, 1, 2]) rfl ?_
  refine F.q rfl rfl rfl (wanted_none rfl) (r_fieldAddr tf55_2 rfl) ?_
  refine F.q rfl rfl rfl (wanted_none rfl) (r_load ta38 rfl (fun w hw => cell_1 (box_cells (i := 0) rfl w hw) rfl)) ?_
  refine F.ef0 rfl rfl (wanted_none rfl) (d_clear0 (i := 2) (x0 := (0 : Int)) Try.underlying38 ti3 rfl rfl rfl) ?_
  rintro _ _ rfl
  refine F.nil ?_
  refine Nrm.seq ?_
  refine Tri.seq ?_
  refine Tri.seq ?_
  refine Tri.reg (l := [0, 1, 2]) rfl ?_
  refine F.q rfl rfl rfl (wanted_none rfl) (r_move rfl) ?_
  refine F.q rfl rfl rfl (wanted_none rfl) (r_len Try.underlying38 rfl hl_va2) ?_
  refine F.q rfl rfl rfl (wanted_none rfl) (r_move rfl) ?_
  refine F.nil ?_
  refine Nrm.seq ?_
  obtain ⟨xq7_1_2, hE_1, h⟩ := bind_some h
  refine Tri.block ?_
  refine Tri.only [1, 6, 7, 14, 15, 16] rfl ?_
  refine Tri.pick [0, 3, 1, 2] rfl rfl ?_
  refine Tri.rounds (fun n e' C' => ∃ (x16' : Int) (xq7_1_2' : List (Int)), impl_laid.l0 k a1 a2 n x16' xq7_1_2' = some xq7_1_2 ∧ SlLen v11_2 (xq7_1_2').length ∧ e' = [(1, va1), (6, .pointer (some ⟨b6_1, 0, none⟩)), (7, .pointer (some ⟨b7_1, 0, none⟩)), (14, va2), (15, .int .i64 (a2.length : Int)), (16, .int .i64 x16')] ∧ C' = Sep w noM [R.box b7_1 55 [.int .i64 t11_1, v11_1, v11_2], R.box b6_1 55 [.int .i64 0, .slice none 0 0, .slice none 0 0], R.sl S11_1 v11_1 (t11_2 : List (Int × Int × Int)), R.sl S11_2 v11_2 (xq7_1_2' : List (Int))]) k ?_ ?_ ?_
  · exact ⟨0, List.replicate t11_3.length (0 : Int), hE_1, (clr0_len hl_v11_2), rfl, rfl⟩
  · rintro _ _ ⟨_, _, hE_1, _⟩
    rw [impl_laid.l0.eq_1] at hE_1; cases hE_1
  · rintro n_1 _ _ ⟨x16, xq7_1_2, hE_1, hl_xq7_1_2, rfl, rfl⟩ ih_1
    rw [impl_laid.l0.eq_2] at hE_1
    refine Tri.seq ?_
    refine Tri.reg (l := [0]) rfl ?_
    refine F.q rfl rfl rfl (wanted_none rfl) (r_lss rfl rfl) ?_
    refine F.nil ?_
    refine Nrm.seq ?_
    refine Tri.seq ?_
    refine Tri.cond (b := decide (x16 < (a2.length : Int))) rfl (fun g_1 => ?_) (fun g_1 => ?_)
    · replace hE_1 := if_tt g_1 hE_1
      refine Tri.skip ?_
      refine Nrm.seq ?_
      refine Tri.seq ?_
      refine Tri.block ?_
      refine Tri.seq ?_
      obtain ⟨t19, h19, hE_1⟩ := bind_some hE_1
      refine Tri.reg (l := [0, 1, 2, 3, 4]) rfl ?_
      refine F.q rfl rfl rfl (wanted_none rfl) (r_move rfl) ?_
      refine F.q rfl rfl rfl (wanted_none rfl) (r_indexAddrS Try.underlying38 ti3 rfl hl_va2 rfl (rdl_some h19).1 (rdl_some h19).2.1) ?_
      refine F.q rfl rfl rfl (wanted_none rfl) (r_load ta3 rfl (fun w hw => cell_0 (Rd.flat ((fun _ hw => hr_a2.sep hw) w hw) (rdl_some h19).2.2) rfl)) ?_
      refine F.q rfl rfl rfl (wanted_none rfl) (r_assign rfl) ?_
      refine F.q rfl rfl rfl (wanted_none rfl) (r_assign rfl) ?_
      refine F.nil ?_
      refine Nrm.seq ?_
      obtain ⟨t24, h24, hE_1⟩ := bind_some hE_1
      obtain ⟨t28, h28, hE_1⟩ := bind_some hE_1
      obtain ⟨hs30, hE_1⟩ := ck hE_1
      obtain ⟨t32, h32, hE_1⟩ := bind_some hE_1
      refine Tri.drawA mixedT Sep.up [(0, true), (1, true), (2, true), (3, true), (4, true), (5, true), (6, true), (7, true), (8, true), (9, true), (10, true), (11, true)] [12] (by kernel_rfl) ?_
      refine S.q rfl rfl rfl (wanted_none rfl) (r_fieldAddr tf55_2 rfl) ?_
      refine S.q rfl rfl rfl (wanted_none rfl) (r_load ta38 rfl (fun w hw => cell_1 (box_cells (i := 0) rfl w hw) rfl)) ?_
      refine S.q rfl rfl rfl (wanted_none rfl) (r_move rfl) ?_
      refine S.q rfl rfl rfl (wanted_none rfl) (r_indexAddrS Try.underlying38 ti3 rfl hl_xq7_1_2 rfl (rdl_some h24).1 (rdl_some h24).2.1) ?_
      refine S.q rfl rfl rfl (wanted_none rfl) (r_load ta3 rfl (fun w hw => cell_0 (Rd.flat ((rd_sl (i := 3) rfl) w hw) (rdl_some h24).2.2) rfl)) ?_
      refine S.q rfl rfl rfl (wanted_none rfl) (r_move rfl) ?_
      refine S.q rfl rfl rfl (wanted_none rfl) (r_move rfl) ?_
      refine S.q rfl rfl rfl (wanted_none rfl) (r_indexAddrS Try.underlying38 ti3 rfl hl_va1 rfl (rdl_some h28).1 (rdl_some h28).2.1) ?_
      refine S.q rfl rfl rfl (wanted_none rfl) (r_load ta3 rfl (fun w hw => cell_0 (Rd.flat ((fun _ hw => hr_a1.sep hw) w hw) (rdl_some h28).2.2) rfl)) ?_
      refine S.q rfl rfl rfl (wanted_none rfl) (r_shl rfl rfl hs30) ?_
      refine S.q rfl rfl rfl (wanted_none rfl) (r_or rfl rfl) ?_
      refine S.q rfl rfl rfl (wanted_none rfl) (r_indexAddrS Try.underlying38 ti3 rfl hl_xq7_1_2 rfl (rdl_some h32).1 (rdl_some h32).2.1) ?_
      refine S.nil ?_
      refine F.ef0 rfl rfl (wanted_none rfl) (d_storeE (i := 3) (x1 := bor t24 (shl 1 t28)) ti3 rfl rfl rfl (rdl_some h32) rfl) ?_
      rintro _ _ ⟨rfl, rfl⟩
      refine F.nil ?_
      refine Nrm.block ?_
      refine Nrm.seq ?_
      refine Tri.reg (l := [0, 1]) rfl ?_
      refine F.q rfl rfl rfl (wanted_none rfl) (r_add rfl rfl) ?_
      refine F.q rfl rfl rfl (wanted_none rfl) (r_move rfl) ?_
      refine F.nil ?_
      refine Nrm.round ?_
      refine Rnd.only [1, 6, 7, 14, 15, 16] rfl ?_
      refine Rnd.pick [0, 1, 2, 3] rfl rfl ?_
      exact ih_1 _ _ ⟨w64 (x16 + 1), xq7_1_2.set t19.toNat (bor t24 (shl 1 t28)), hE_1, (len_set hl_xq7_1_2), rfl, rfl⟩
    · replace hE_1 := if_ff g_1 hE_1
      refine Tri.exit ?_
      refine Exi.then ?_
      refine Exi.then ?_
      refine Exi.same ?_
      cases hE_1
      refine Nrm.seq ?_
      refine Tri.seq ?_
      refine Tri.reg (l := [0, 1]) rfl ?_
      refine F.q rfl rfl rfl (wanted_none rfl) (r_loadA ta55 ti55 rfl rfl (fun w hw => (box_cells (i := 0) rfl w hw))) ?_
      refine F.ef0 rfl rfl (wanted_none rfl) (d_storeG0 (i := 1) (cs2 := [.int .i64 t11_1, v11_1, v11_2]) ti55 rfl rfl rfl rfl rfl (Nat.le_of_ble_eq_true rfl) (lf_cons rfl (lf_cons (sl_leaf hl_v11_1) (lf_cons (sl_leaf hl_xq7_1_2) lf_nil)))) ?_
      rintro _ _ ⟨rfl, rfl⟩
      refine F.nil ?_
      refine Nrm.seq ?_
      refine Tri.ret ?_
      cases h
      exact Rtn.body (.cell rfl ta55 ti55 rfl (fun _ hw => box_cells (i := 1) rfl _ hw) .nil) (fun w hw => ⟨_, _, rfl, ⟨v11_1, S11_1, v11_2, S11_2, rfl, hl_v11_1, hl_xq7_1_2, rfl⟩, Sep.pick (is := [2, 3]) rfl rfl hw⟩)

end Go.Proofs
