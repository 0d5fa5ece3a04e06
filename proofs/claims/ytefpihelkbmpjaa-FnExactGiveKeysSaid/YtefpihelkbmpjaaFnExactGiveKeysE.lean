/- A part of the proof of FnExactGiveKeys: what the functions of the program compute, walked on the model. No condition. -/
import Derived.Test.YtefpihelkbmpjaaFnExactGiveKeysD
/- loop.example/g01158/impl.GiveKeys -/
namespace Go.Proofs
open Go Go.Ga
set_option linter.unusedVariables false
set_option maxRecDepth 100000
set_option maxHeartbeats 4000000
def impl_GiveKeys.l0 (k : Nat) (a0_0 : List (Int × List (Int × Int × Int) × List Int)) (a0_1 : List (List Int)) : Nat → Int → (List (Int × List (Int × Int × Int) × List Int)) → (List (List Int)) → Option ((List (Int × List (Int × Int × Int) × List Int)) × (List (List Int)))
  | 0, _, _, _ => none
  | n + 1, x39, xq10_1_0, xq10_1_1 => (if (decide (x39 < (a0_0.length : Int))) = true then (rdl a0_0 x39).bind fun t42 => (impl_own.f k t42.1 t42.2.1 t42.2.2).bind fun (t47_1, t47_2, t47_3) => if ((xq10_1_0 : List (Int × List (Int × Int × Int) × List Int)) ++ ([(t47_1, t47_2, t47_3)] : List (Int × List (Int × Int × Int) × List Int))).length < 1099511627776 then (rdl a0_1 x39).bind fun t56 => (slices_Clone_int_int.f k t56).bind fun t58 => if ((xq10_1_1 : List (List Int)) ++ ([t58] : List (List Int))).length < 1099511627776 then impl_GiveKeys.l0 k a0_0 a0_1 n (w64 (x39 + 1)) ((xq10_1_0 : List (Int × List (Int × Int × Int) × List Int)) ++ ([(t47_1, t47_2, t47_3)] : List (Int × List (Int × Int × Int) × List Int))) ((xq10_1_1 : List (List Int)) ++ ([t58] : List (List Int))) else none else none else some (xq10_1_0, xq10_1_1))

def impl_GiveKeys.f (k : Nat) (a0_0 : List (Int × List (Int × Int × Int) × List Int)) (a0_1 : List (List Int)) (a1 : Int) (a2 : Int) (a3 : Int) : Option ((List (Int × List (Int × Int × Int) × List Int)) × (List (List Int)) × Bool) := ((impl_isWorld.f k a0_0 a0_1 a1).bind fun t15 => (if (!t15) = true then some true else (impl_isWorld.f k a0_0 a0_1 a3).bind fun t20 => (if (!t20) = true then some true else (rdl a0_0 a1).bind fun t27 => (impl_isNode.f k t27.1 t27.2.1 t27.2.2 ([a2] : List (Int))).bind fun t31 => some (!t31)))).bind fun y33 => (if y33 = true then some ([], [], false) else (impl_GiveKeys.l0 k a0_0 a0_1 k 0 ([] : List (Int × List (Int × Int × Int) × List Int)) ([] : List (List Int))).bind fun (xq10_1_0, xq10_1_1) => (rdl (xq10_1_1 : List (List Int)) a1).bind fun t66 => (rdl t66 a2).bind fun t70 => some (xq10_1_0, (xq10_1_1 : List (List Int)).set (a1).toNat (t66.set a2.toNat a3), true))

theorem impl_GiveKeys.ok {k : Nat}  {a0_0 : List (Int × List (Int × Int × Int) × List Int)} {a0_1 : List (List Int)} {a1 : Int} {a2 : Int} {a3 : Int} {r0 : List (Int × List (Int × Int × Int) × List Int)} {r1 : List (List Int)} {r2 : Bool} (h : impl_GiveKeys.f k a0_0 a0_1 a1 a2 a3 = some (r0, r1, r2)) (w : World) {va0_0 : Value} {va0_1 : Value} (hr_a0_0 : Rd w va0_0 a0_0) (hr_a0_1 : Rd w va0_1 a0_1) :
    Calls Try.prog 51 ([.agg ([va0_0, va0_1].toArray), .int .i64 a1, .int .i64 a2, .int .i64 a3] : List Value).toArray w (Post (fun u ns => ∃ (ur0 : Value) (Sr0 : Nat → Prop) (ur1 : Value) (Sr1 : Nat → Prop), u = .tuple #[.agg [ur0, ur1].toArray, .bool r2] ∧ SlLen ur0 r0.length ∧ SlLen ur1 r1.length ∧ ns = [R.sl Sr0 ur0 r0, R.sl Sr1 ur1 r1]) w) := by
  unfold impl_GiveKeys.f at h
  have hl_va0_0 := hr_a0_0.len
  have hl_va0_1 := hr_a0_1.len
  refine Calls.of_tri (N := 72) Try.func51 rfl rfl rfl (Sep.nil (M := noM)) ?_
  refine Tri.seq ?_
  refine Tri.reg (l := [0, 1, 2]) rfl ?_
  refine F.m rfl rfl rfl (wanted_none rfl) (m_boxG rfl rfl) ?_
  rintro _ _ ⟨b4_1, rfl, rfl⟩
  refine F.m rfl rfl rfl (wanted_none rfl) (m_alloc ti73) ?_
  rintro _ _ ⟨b8_1, rfl, rfl⟩
  refine F.q rfl rfl rfl (wanted_none rfl) (r_assign rfl) ?_
  refine F.nil ?_
  refine Nrm.seq ?_
  refine Tri.seq ?_
  refine Tri.seq ?_
  obtain ⟨y33, hE_1, h⟩ := bind_some h
  refine Tri.cut (fun e' C' => e' = [(1, .int .i64 a1), (2, .int .i64 a2), (3, .int .i64 a3), (4, .pointer (some ⟨b4_1, 0, none⟩)), (8, .pointer (some ⟨b8_1, 0, none⟩)), (33, .bool y33)] ∧ C' = Sep w noM [R.box b8_1 73 [.slice none 0 0, .slice none 0 0], R.box b4_1 73 [va0_0, va0_1]]) ?_ (fun hj_1 => ?_)
  · rintro _ _ ⟨rfl, rfl⟩
    refine Nrm.seq ?_
    refine Tri.cond (b := y33) rfl (fun g_1 => ?_) (fun g_1 => ?_)
    · replace h := if_tt g_1 h
      refine Tri.seq ?_
      refine Tri.reg (l := [0, 1, 2]) rfl ?_
      refine F.q rfl rfl rfl (wanted_none rfl) (r_build (pl := [(0, 1), (1, 1)]) (qs := []) (cs := [.slice none 0 0, .slice none 0 0]) (by kernel_rfl) ti73 rfl .nil rfl rfl) ?_
      refine F.ef0 rfl rfl (wanted_none rfl) (d_storeG0 (i := 0) (cs2 := [.slice none 0 0, .slice none 0 0]) ti73 rfl rfl rfl rfl rfl (Nat.le_of_ble_eq_true rfl) (lf_cons rfl (lf_cons rfl lf_nil))) ?_
      rintro _ _ ⟨rfl, rfl⟩
      refine F.q rfl rfl rfl (wanted_none rfl) (r_assign rfl) ?_
      refine F.nil ?_
      refine Nrm.seq ?_
      refine Tri.ret ?_
      refine Rtn.then ?_
      cases h
      exact Rtn.body (.cell rfl ta73 ti73 rfl (fun _ hw => box_cells (i := 0) rfl _ hw) (.tmp rfl .nil)) (fun w hw => ⟨_, _, rfl, ⟨.slice none 0 0, fun _ => False, .slice none 0 0, fun _ => False, rfl, len_nil, len_nil, rfl⟩, Sep.pick (is := [0, 1]) rfl rfl hw.pushNil.pushNil⟩)
    · replace h := if_ff g_1 h
      refine Tri.skip ?_
      refine Nrm.seq ?_
      refine Tri.seq ?_
      refine Tri.reg (l := [0, 1, 2]) rfl ?_
      refine F.q rfl rfl rfl (wanted_none rfl) (r_build (pl := [(0, 1), (1, 1)]) (qs := []) (cs := [.slice none 0 0, .slice none 0 0]) (by kernel_rfl) ti73 rfl .nil rfl rfl) ?_
      refine F.m rfl rfl rfl (wanted_none rfl) (m_alloc ti73) ?_
      rintro _ _ ⟨b10_1, rfl, rfl⟩
      refine F.ef0 rfl rfl (wanted_none rfl) (d_storeG0 (i := 0) (cs2 := [.slice none 0 0, .slice none 0 0]) ti73 rfl rfl rfl rfl rfl (Nat.le_of_ble_eq_true rfl) (lf_cons rfl (lf_cons rfl lf_nil))) ?_
      rintro _ _ ⟨rfl, rfl⟩
      refine F.nil ?_
      refine Nrm.seq ?_
      refine Tri.seq ?_
      refine Tri.seq ?_
      refine Tri.reg (l := [0, 1, 2, 3]) rfl ?_
      refine F.q rfl rfl rfl (wanted_none rfl) (r_fieldAddr tf73_0 rfl) ?_
      refine F.q rfl rfl rfl (wanted_none rfl) (r_load ta71 rfl (fun w hw => cell_1 (box_cells (i := 2) rfl w hw) rfl)) ?_
      refine F.q rfl rfl rfl (wanted_none rfl) (r_len Try.underlying71 rfl hl_va0_0) ?_
      refine F.q rfl rfl rfl (wanted_none rfl) (r_move rfl) ?_
      refine F.nil ?_
      refine Nrm.seq ?_
      obtain ⟨⟨xq10_1_0, xq10_1_1⟩, hE_2, h⟩ := bind_some h
      refine Tri.imp (fun w hw => hw.pushNil (α := Int × List (Int × Int × Int) × List Int)) ?_
      refine Tri.imp (fun w hw => hw.pushNil (α := List Int)) ?_
      refine Tri.block ?_
      refine Tri.only [1, 2, 3, 4, 8, 10, 37, 38, 39] rfl ?_
      refine Tri.pick [2, 3, 4, 0, 1] rfl rfl ?_
      refine Tri.rounds (fun n e' C' => ∃ (x39' : Int) (xq10_1_0' : List (Int × List (Int × Int × Int) × List Int)) (xq10_1_1' : List (List Int)) (wq10_1_0 : Value) (Tq10_1_0 : Nat → Prop) (wq10_1_1 : Value) (Tq10_1_1 : Nat → Prop), impl_GiveKeys.l0 k a0_0 a0_1 n x39' xq10_1_0' xq10_1_1' = some (xq10_1_0, xq10_1_1) ∧ SlLen wq10_1_0 (xq10_1_0').length ∧ SlLen wq10_1_1 (xq10_1_1').length ∧ e' = [(1, .int .i64 a1), (2, .int .i64 a2), (3, .int .i64 a3), (4, .pointer (some ⟨b4_1, 0, none⟩)), (8, .pointer (some ⟨b8_1, 0, none⟩)), (10, .pointer (some ⟨b10_1, 0, none⟩)), (37, va0_0), (38, .int .i64 (a0_0.length : Int)), (39, .int .i64 x39')] ∧ C' = Sep w noM [R.box b10_1 73 [wq10_1_0, wq10_1_1], R.box b8_1 73 [.slice none 0 0, .slice none 0 0], R.box b4_1 73 [va0_0, va0_1], R.sl Tq10_1_1 wq10_1_1 (xq10_1_1' : List (List Int)), R.sl Tq10_1_0 wq10_1_0 (xq10_1_0' : List (Int × List (Int × Int × Int) × List Int))]) k ?_ ?_ ?_
      · exact ⟨0, ([] : List (Int × List (Int × Int × Int) × List Int)), ([] : List (List Int)), (nilv 0), (fun _ => False), (nilv 1), (fun _ => False), hE_2, len_nil, len_nil, rfl, rfl⟩
      · rintro _ _ ⟨_, _, _, _, _, _, _, hE_2, _⟩
        rw [impl_GiveKeys.l0.eq_1] at hE_2; cases hE_2
      · rintro n_1 _ _ ⟨x39, xq10_1_0, xq10_1_1, wq10_1_0, Tq10_1_0, wq10_1_1, Tq10_1_1, hE_2, hl_wq10_1_0, hl_wq10_1_1, rfl, rfl⟩ ih_1
        rw [impl_GiveKeys.l0.eq_2] at hE_2
        refine Tri.seq ?_
        refine Tri.reg (l := [0]) rfl ?_
        refine F.q rfl rfl rfl (wanted_none rfl) (r_lss rfl rfl) ?_
        refine F.nil ?_
        refine Nrm.seq ?_
        refine Tri.seq ?_
        refine Tri.cond (b := decide (x39 < (a0_0.length : Int))) rfl (fun g_2 => ?_) (fun g_2 => ?_)
        · replace hE_2 := if_tt g_2 hE_2
          refine Tri.skip ?_
          refine Nrm.seq ?_
          refine Tri.seq ?_
          refine Tri.block ?_
          refine Tri.seq ?_
          obtain ⟨t42, h42, hE_2⟩ := bind_some hE_2
          obtain ⟨_, hc42, hp42⟩ := Rd.elem hr_a0_0 (rdl_some h42).2.2
          obtain ⟨v42_1, v42_2, rfl, hr_v42_1, hr_v42_2⟩ := op31 hp42
          have hl_v42_1 := hr_v42_1.len
          have hl_v42_2 := hr_v42_2.len
          refine Tri.reg (l := [0, 1, 2, 3, 4, 5]) rfl ?_
          refine F.q rfl rfl rfl (wanted_none rfl) (r_move rfl) ?_
          refine F.q rfl rfl rfl (wanted_none rfl) (r_indexAddrS Try.underlying71 ti31 rfl hl_va0_0 rfl (rdl_some h42).1 (rdl_some h42).2.1) ?_
          refine F.q rfl rfl rfl (wanted_none rfl) (r_loadA ta31 ti31 rfl rfl (fun w hw => (hc42.sep hw))) ?_
          refine F.m rfl rfl rfl (wanted_none rfl) (m_alloc ti31) ?_
          rintro _ _ ⟨b12_1, rfl, rfl⟩
          refine F.q rfl rfl rfl (wanted_none rfl) (r_assign rfl) ?_
          refine F.ef0 rfl rfl (wanted_none rfl) (d_storeG0 (i := 0) (cs2 := [.int .i64 t42.1, v42_1, v42_2]) ti31 rfl rfl rfl rfl rfl (Nat.le_of_ble_eq_true rfl) (lf_cons rfl (lf_cons (sl_leaf hl_v42_1) (lf_cons (sl_leaf hl_v42_2) lf_nil)))) ?_
          rintro _ _ ⟨rfl, rfl⟩
          refine F.nil ?_
          refine Nrm.seq ?_
          refine Tri.seq ?_
          obtain ⟨⟨t47_1, t47_2, t47_3⟩, h47, hE_2⟩ := bind_some hE_2
          obtain ⟨hs49, hE_2⟩ := ck hE_2
          refine Tri.drawB mixedT Sep.up [(0, true), (1, true), (2, true), (3, false), (4, false)] [5, 6, 7] (by kernel_rfl) ?_
          refine B.q rfl rfl rfl (wanted_none rfl) (r_fieldAddr tf73_0 rfl) ?_
          refine B.q rfl rfl rfl (wanted_none rfl) (r_load ta71 rfl (fun w hw => cell_1 (box_cells (i := 1) rfl w hw) rfl)) ?_
          refine B.q rfl rfl rfl (wanted_none rfl) (r_loadA ta31 ti31 rfl rfl (fun w hw => (box_cells (i := 0) rfl w hw))) ?_
          refine B.ef rfl rfl rfl (wanted_none rfl) (Makes.does (m_callF (xs := _) rfl ok107 rfl rfl (fun w hw => impl_own.ok h47 w ((fun _ hw => hr_v42_1.sep hw) w hw) ((fun _ hw => hr_v42_2.sep hw) w hw)))) (by rintro _ _ ⟨_, ⟨v47_3, S47_3, v47_4, S47_4, rfl, hl_v47_3, hl_v47_4, rfl⟩, rfl⟩; exact upd rfl [2, 3, 4, 5, 6, 7] rfl rfl) ?_
          rintro _ _ ⟨_, ⟨v47_3, S47_3, v47_4, S47_4, rfl, hl_v47_3, hl_v47_4, rfl⟩, rfl⟩
          refine B.ef rfl rfl rfl (wanted_none rfl) (d_build1 (cells := [.int .i64 t47_1, v47_3, v47_4]) (x0 := ((t47_1, t47_2, t47_3) : Int × List (Int × Int × Int) × List Int)) (cs := [R.sl S47_3 v47_3 (t47_2 : List (Int × Int × Int)), R.sl S47_4 v47_4 (t47_3 : List (Int))]) (rest := [R.box b12_1 31 [.int .i64 t42.1, v42_1, v42_2], R.box b10_1 73 [wq10_1_0, wq10_1_1], R.box b8_1 73 [.slice none 0 0, .slice none 0 0], R.box b4_1 73 [va0_0, va0_1], R.sl Tq10_1_1 wq10_1_1 (xq10_1_1 : List (List Int)), R.sl Tq10_1_0 wq10_1_0 (xq10_1_0 : List (Int × List (Int × Int × Int) × List Int))]) [0, 1] [2, 3, 4, 5, 6, 7] Try.underlying71 ti31 rfl rfl rfl (lf_cons rfl (lf_cons (sl_leaf hl_v47_3) (lf_cons (sl_leaf hl_v47_4) lf_nil))) rfl rfl (jn_pair (jn_int (n := t47_1)) (jn_pair (jn_sl (S := S47_3) (v := v47_3) (l := (t47_2 : List (Int × Int × Int)))) (jn_sl (S := S47_4) (v := v47_4) (l := (t47_3 : List (Int))))))) (by rintro v48_2 _ ⟨S48_2, hl_v48_2, rfl⟩; exact upd rfl [1, 2, 3, 4, 5, 6] rfl rfl) ?_
          rintro v48_2 _ ⟨S48_2, hl_v48_2, rfl⟩
          refine B.nil ?_
          refine F.ef rfl rfl rfl (wanted_none rfl) (d_appendN (rest := [R.box b12_1 31 [.int .i64 t42.1, v42_1, v42_2], R.box b10_1 73 [wq10_1_0, wq10_1_1], R.box b8_1 73 [.slice none 0 0, .slice none 0 0], R.box b4_1 73 [va0_0, va0_1], R.sl Tq10_1_1 wq10_1_1 (xq10_1_1 : List (List Int))]) 6 0 [1, 2, 3, 4, 5] Try.underlying71 Try.underlying71 ti31 rfl (by decide) rfl rfl rfl rfl hs49) ?_
          rintro v49_2 _ ⟨S49_2, hl_v49_2, rfl⟩
          refine F.q rfl rfl rfl (wanted_none rfl) (r_fieldAddr tf73_0 rfl) ?_
          refine F.ef0 rfl rfl (wanted_none rfl) (d_storeG1 (i := 2) (cs2 := [v49_2]) ti71 rfl rfl rfl (sl_cells hl_v49_2) rfl (Nat.le_of_ble_eq_true rfl) (lf_cons (sl_leaf hl_v49_2) lf_nil)) ?_
          rintro _ _ ⟨rfl, rfl⟩
          refine F.nil ?_
          refine Nrm.seq ?_
          obtain ⟨t56, h56, hE_2⟩ := bind_some hE_2
          obtain ⟨_, hc56, hp56⟩ := Rd.elem hr_a0_1 (rdl_some h56).2.2
          obtain ⟨v56_0, rfl, hr_v56_0⟩ := op23 hp56
          have hl_v56_0 := hr_v56_0.len
          obtain ⟨t58, h58, hE_2⟩ := bind_some hE_2
          obtain ⟨hs60, hE_2⟩ := ck hE_2
          refine Tri.drawB mixedT Sep.up [(0, true), (1, true), (2, true), (3, true), (4, true), (5, true), (6, true), (7, false), (8, false)] [9, 10, 11] (by kernel_rfl) ?_
          refine B.q rfl rfl rfl (wanted_none rfl) (r_fieldAddr tf73_1 rfl) ?_
          refine B.q rfl rfl rfl (wanted_none rfl) (r_load ta65 rfl (fun w hw => cell_1 (box_cells (i := 2) rfl w hw) rfl)) ?_
          refine B.q rfl rfl rfl (wanted_none rfl) (r_fieldAddr tf73_1 rfl) ?_
          refine B.q rfl rfl rfl (wanted_none rfl) (r_load ta65 rfl (fun w hw => cell_1 (box_cells (i := 4) rfl w hw) rfl)) ?_
          refine B.q rfl rfl rfl (wanted_none rfl) (r_move rfl) ?_
          refine B.q rfl rfl rfl (wanted_none rfl) (r_indexAddrS Try.underlying65 ti23 rfl hl_va0_1 rfl (rdl_some h56).1 (rdl_some h56).2.1) ?_
          refine B.q rfl rfl rfl (wanted_none rfl) (r_load ta23 rfl (fun w hw => cell_0 (hc56.sep hw) rfl)) ?_
          refine B.ef rfl rfl rfl (wanted_none rfl) (Makes.does (m_callF (xs := _) rfl ok108 rfl rfl (fun w hw => slices_Clone_int_int.ok h58 w ((fun _ hw => hr_v56_0.sep hw) w hw)))) (by rintro v58_2 _ ⟨_, ⟨S58_2, hl_v58_2, rfl⟩, rfl⟩; exact upd rfl [1, 2, 3, 4, 5, 6] rfl rfl) ?_
          rintro v58_2 _ ⟨_, ⟨S58_2, hl_v58_2, rfl⟩, rfl⟩
          refine B.ef rfl rfl rfl (wanted_none rfl) (d_build1 (cells := [v58_2]) (x0 := (t58 : List Int)) (cs := [R.sl S58_2 v58_2 (t58 : List (Int))]) (rest := [R.sl S49_2 v49_2 ((xq10_1_0 : List (Int × List (Int × Int × Int) × List Int)) ++ ([(t47_1, t47_2, t47_3)] : List (Int × List (Int × Int × Int) × List Int)) : List (Int × List (Int × Int × Int) × List Int)), R.box b12_1 31 [.int .i64 t42.1, v42_1, v42_2], R.box b10_1 73 [v49_2, wq10_1_1], R.box b8_1 73 [.slice none 0 0, .slice none 0 0], R.box b4_1 73 [va0_0, va0_1], R.sl Tq10_1_1 wq10_1_1 (xq10_1_1 : List (List Int))]) [0] [1, 2, 3, 4, 5, 6] Try.underlying65 ti23 rfl (sl_cells hl_v58_2) rfl (lf_cons (sl_leaf hl_v58_2) lf_nil) rfl rfl (jn_sl (S := S58_2) (v := v58_2) (l := (t58 : List (Int))))) (by rintro v59_2 _ ⟨S59_2, hl_v59_2, rfl⟩; exact upd rfl [1, 2, 3, 4, 5, 6] rfl rfl) ?_
          rintro v59_2 _ ⟨S59_2, hl_v59_2, rfl⟩
          refine B.nil ?_
          refine F.ef rfl rfl rfl (wanted_none rfl) (d_appendN (rest := [R.sl S49_2 v49_2 ((xq10_1_0 : List (Int × List (Int × Int × Int) × List Int)) ++ ([(t47_1, t47_2, t47_3)] : List (Int × List (Int × Int × Int) × List Int)) : List (Int × List (Int × Int × Int) × List Int)), R.box b12_1 31 [.int .i64 t42.1, v42_1, v42_2], R.box b10_1 73 [v49_2, wq10_1_1], R.box b8_1 73 [.slice none 0 0, .slice none 0 0], R.box b4_1 73 [va0_0, va0_1]]) 6 0 [1, 2, 3, 4, 5] Try.underlying65 Try.underlying65 ti23 rfl (by decide) rfl rfl rfl rfl hs60) ?_
          rintro v60_2 _ ⟨S60_2, hl_v60_2, rfl⟩
          refine F.q rfl rfl rfl (wanted_none rfl) (r_fieldAddr tf73_1 rfl) ?_
          refine F.ef0 rfl rfl (wanted_none rfl) (d_storeG1 (i := 3) (cs2 := [v60_2]) ti65 rfl rfl rfl (sl_cells hl_v60_2) rfl (Nat.le_of_ble_eq_true rfl) (lf_cons (sl_leaf hl_v60_2) lf_nil)) ?_
          rintro _ _ ⟨rfl, rfl⟩
          refine F.nil ?_
          refine Nrm.block ?_
          refine Nrm.seq ?_
          refine Tri.reg (l := [0, 1]) rfl ?_
          refine F.q rfl rfl rfl (wanted_none rfl) (r_add rfl rfl) ?_
          refine F.q rfl rfl rfl (wanted_none rfl) (r_move rfl) ?_
          refine F.nil ?_
          refine Nrm.round ?_
          refine Rnd.only [1, 2, 3, 4, 8, 10, 37, 38, 39] rfl ?_
          refine Rnd.pick [3, 4, 5, 0, 1] rfl rfl ?_
          exact ih_1 _ _ ⟨w64 (x39 + 1), (xq10_1_0 : List (Int × List (Int × Int × Int) × List Int)) ++ ([(t47_1, t47_2, t47_3)] : List (Int × List (Int × Int × Int) × List Int)), (xq10_1_1 : List (List Int)) ++ ([t58] : List (List Int)), v49_2, S49_2, v60_2, S60_2, hE_2, hl_v49_2, hl_v60_2, rfl, rfl⟩
        · replace hE_2 := if_ff g_2 hE_2
          refine Tri.exit ?_
          refine Exi.then ?_
          refine Exi.then ?_
          refine Exi.same ?_
          cases hE_2
          refine Nrm.seq ?_
          refine Tri.seq ?_
          obtain ⟨t66, h66, h⟩ := bind_some h
          obtain ⟨t70, h70, h⟩ := bind_some h
          refine Tri.ex (on23 [3] [0, 1, 2, 4] rfl rfl (rdl_some h66).2.2) ?_
          rintro _ ⟨v66_0_1, S66_0_1, Sr66_1, hl_v66_0_1, hS66_1, rfl⟩
          refine Tri.reg (l := [0, 1, 2, 3, 4, 5, 6, 7, 8]) rfl ?_
          refine F.q rfl rfl rfl (wanted_none rfl) (r_fieldAddr tf73_1 rfl) ?_
          refine F.q rfl rfl rfl (wanted_none rfl) (r_load ta65 rfl (fun w hw => cell_1 (box_cells (i := 2) rfl w hw) rfl)) ?_
          refine F.q rfl rfl rfl (wanted_none rfl) (r_move rfl) ?_
          refine F.q rfl rfl rfl (wanted_none rfl) (r_indexAddrS Try.underlying65 ti23 rfl hl_wq10_1_1 rfl (rdl_some h66).1 (rdl_some h66).2.1) ?_
          refine F.q rfl rfl rfl (wanted_none rfl) (r_load ta23 rfl (fun w hw => cell_0 (hole_cells (p := 1) rfl w hw) rfl)) ?_
          refine F.q rfl rfl rfl (wanted_none rfl) (r_move rfl) ?_
          refine F.q rfl rfl rfl (wanted_none rfl) (r_move rfl) ?_
          refine F.q rfl rfl rfl (wanted_none rfl) (r_indexAddrS Try.underlying23 ti3 rfl hl_v66_0_1 rfl (rdl_some h70).1 (rdl_some h70).2.1) ?_
          refine F.ef0 rfl rfl (wanted_none rfl) (d_storeE (i := 0) (x1 := a3) ti3 rfl rfl rfl (rdl_some h70) rfl) ?_
          rintro _ _ ⟨rfl, rfl⟩
          refine F.nil ?_
          refine Nrm.imp (cloS1 (cs := [R.sl S66_0_1 v66_0_1 (t66.set a2.toNat a3 : List (Int))]) (rest := [R.box b10_1 73 [wq10_1_0, wq10_1_1], R.box b8_1 73 [.slice none 0 0, .slice none 0 0], R.box b4_1 73 [va0_0, va0_1], R.sl Tq10_1_0 wq10_1_0 (xq10_1_0 : List (Int × List (Int × Int × Int) × List Int))]) [0, 1] [2, 3, 4, 5] rfl rfl (jn_sl (S := S66_0_1) (v := v66_0_1) (l := (t66.set a2.toNat a3 : List (Int)))) hS66_1) ?_
          refine Nrm.seq ?_
          refine Tri.seq ?_
          refine Tri.reg (l := [0, 1, 2]) rfl ?_
          refine F.q rfl rfl rfl (wanted_none rfl) (r_loadA ta73 ti73 rfl rfl (fun w hw => (box_cells (i := 1) rfl w hw))) ?_
          refine F.ef0 rfl rfl (wanted_none rfl) (d_storeG0 (i := 2) (cs2 := [wq10_1_0, wq10_1_1]) ti73 rfl rfl rfl rfl rfl (Nat.le_of_ble_eq_true rfl) (lf_cons (sl_leaf hl_wq10_1_0) (lf_cons (sl_leaf hl_wq10_1_1) lf_nil))) ?_
          rintro _ _ ⟨rfl, rfl⟩
          refine F.q rfl rfl rfl (wanted_none rfl) (r_assign rfl) ?_
          refine F.nil ?_
          refine Nrm.seq ?_
          refine Tri.ret ?_
          cases h
          exact Rtn.body (.cell rfl ta73 ti73 rfl (fun _ hw => box_cells (i := 2) rfl _ hw) (.tmp rfl .nil)) (fun w hw => ⟨_, _, rfl, ⟨wq10_1_0, Tq10_1_0, wq10_1_1, Tq10_1_1, rfl, hl_wq10_1_0, (len_set hl_wq10_1_1), rfl⟩, Sep.pick (is := [4, 0]) rfl rfl hw⟩)
  · obtain ⟨t15, h15, hE_1⟩ := bind_some hE_1
    rcases Bool.eq_false_or_eq_true (!t15) with g17 | g17
    · replace hE_1 := if_tt g17 hE_1
      refine Tri.reg (l := [0, 1, 2, 3, 4, 5, 6, 7, 8, 9, 10, 11, 12, 13, 14, 15, 16, 17, 18, 19, 20]) rfl ?_
      refine F.q rfl rfl rfl (wanted_none rfl) (r_loadA ta73 ti73 rfl rfl (fun w hw => (box_cells (i := 1) rfl w hw))) ?_
      refine F.q rfl rfl rfl (wanted_none rfl) (r_move rfl) ?_
      refine F.qc rfl rfl rfl (wanted_none rfl) (q_callF (xs := _) rfl ok102 rfl rfl (fun w hw => impl_isWorld.ok h15 w ((fun _ hw => hr_a0_0.sep hw) w hw) ((fun _ hw => hr_a0_1.sep hw) w hw))) ?_
      refine F.q rfl rfl rfl (wanted_none rfl) (r_not rfl) ?_
      refine F.q rfl rfl rfl (wanted_none rfl) (r_move rfl) ?_
      refine F.sk rfl rfl rfl (wf rfl rfl rfl g17) ?_
      refine F.sk rfl rfl rfl (wf rfl rfl rfl g17) ?_
      refine F.sk rfl rfl rfl (wf rfl rfl rfl g17) ?_
      refine F.sk rfl rfl rfl (wf rfl rfl rfl g17) ?_
      refine F.q rfl rfl rfl (wanted_none rfl) (r_pick rfl rfl g17) ?_
      refine F.q rfl rfl rfl (wanted_none rfl) (r_move rfl) ?_
      refine F.sk rfl rfl rfl (wf rfl rfl rfl rfl) ?_
      refine F.sk rfl rfl rfl (wf rfl rfl rfl rfl) ?_
      refine F.sk rfl rfl rfl (wf rfl rfl rfl rfl) ?_
      refine F.sk rfl rfl rfl (wf rfl rfl rfl rfl) ?_
      refine F.sk rfl rfl rfl (wf rfl rfl rfl rfl) ?_
      refine F.sk rfl rfl rfl (wf rfl rfl rfl rfl) ?_
      refine F.sk rfl rfl rfl (wf rfl rfl rfl rfl) ?_
      refine F.sk rfl rfl rfl (wf rfl rfl rfl rfl) ?_
      refine F.sk rfl rfl rfl (wf rfl rfl rfl rfl) ?_
      refine F.q rfl rfl rfl (wanted_none rfl) (r_pick rfl rfl rfl) ?_
      refine F.nil ?_
      cases hE_1
      refine Nrm.only [1, 2, 3, 4, 8, 33] rfl ?_
      refine Nrm.pick [0, 1] rfl rfl ?_
      exact hj_1 _ _ ⟨rfl, rfl⟩
    · replace hE_1 := if_ff g17 hE_1
      obtain ⟨t20, h20, hE_1⟩ := bind_some hE_1
      rcases Bool.eq_false_or_eq_true (!t20) with g23 | g23
      · replace hE_1 := if_tt g23 hE_1
        refine Tri.reg (l := [0, 1, 2, 3, 4, 5, 6, 7, 8, 9, 10, 11, 12, 13, 14, 15, 16, 17, 18, 19, 20]) rfl ?_
        refine F.q rfl rfl rfl (wanted_none rfl) (r_loadA ta73 ti73 rfl rfl (fun w hw => (box_cells (i := 1) rfl w hw))) ?_
        refine F.q rfl rfl rfl (wanted_none rfl) (r_move rfl) ?_
        refine F.qc rfl rfl rfl (wanted_none rfl) (q_callF (xs := _) rfl ok102 rfl rfl (fun w hw => impl_isWorld.ok h15 w ((fun _ hw => hr_a0_0.sep hw) w hw) ((fun _ hw => hr_a0_1.sep hw) w hw))) ?_
        refine F.q rfl rfl rfl (wanted_none rfl) (r_not rfl) ?_
        refine F.q rfl rfl rfl (wanted_none rfl) (r_move rfl) ?_
        refine F.q rfl rfl rfl (wg rfl rfl rfl g17) (r_loadA ta73 ti73 rfl rfl (fun w hw => (box_cells (i := 1) rfl w hw))) ?_
        refine F.q rfl rfl rfl (wg rfl rfl rfl g17) (r_move rfl) ?_
        refine F.qc rfl rfl rfl (wg rfl rfl rfl g17) (q_callF (xs := _) rfl ok102 rfl rfl (fun w hw => impl_isWorld.ok h20 w ((fun _ hw => hr_a0_0.sep hw) w hw) ((fun _ hw => hr_a0_1.sep hw) w hw))) ?_
        refine F.q rfl rfl rfl (wg rfl rfl rfl g17) (r_not rfl) ?_
        refine F.q rfl rfl rfl (wanted_none rfl) (r_pickf rfl rfl g17) ?_
        refine F.q rfl rfl rfl (wanted_none rfl) (r_move rfl) ?_
        refine F.sk rfl rfl rfl (wf rfl rfl rfl g23) ?_
        refine F.sk rfl rfl rfl (wf rfl rfl rfl g23) ?_
        refine F.sk rfl rfl rfl (wf rfl rfl rfl g23) ?_
        refine F.sk rfl rfl rfl (wf rfl rfl rfl g23) ?_
        refine F.sk rfl rfl rfl (wf rfl rfl rfl g23) ?_
        refine F.sk rfl rfl rfl (wf rfl rfl rfl g23) ?_
        refine F.sk rfl rfl rfl (wf rfl rfl rfl g23) ?_
        refine F.sk rfl rfl rfl (wf rfl rfl rfl g23) ?_
        refine F.sk rfl rfl rfl (wf rfl rfl rfl g23) ?_
        refine F.q rfl rfl rfl (wanted_none rfl) (r_pick rfl rfl g23) ?_
        refine F.nil ?_
        cases hE_1
        refine Nrm.only [1, 2, 3, 4, 8, 33] rfl ?_
        refine Nrm.pick [0, 1] rfl rfl ?_
        exact hj_1 _ _ ⟨rfl, rfl⟩
      · replace hE_1 := if_ff g23 hE_1
        obtain ⟨t27, h27, hE_1⟩ := bind_some hE_1
        obtain ⟨_, hc27, hp27⟩ := Rd.elem hr_a0_0 (rdl_some h27).2.2
        obtain ⟨v27_1, v27_2, rfl, hr_v27_1, hr_v27_2⟩ := op31 hp27
        have hl_v27_1 := hr_v27_1.len
        have hl_v27_2 := hr_v27_2.len
        obtain ⟨t31, h31, hE_1⟩ := bind_some hE_1
        refine Tri.reg (l := [0, 1, 2, 3, 4, 5, 6, 7, 8, 9, 10, 11, 12, 13, 14, 15, 16, 17, 18, 19, 20]) rfl ?_
        refine F.q rfl rfl rfl (wanted_none rfl) (r_loadA ta73 ti73 rfl rfl (fun w hw => (box_cells (i := 1) rfl w hw))) ?_
        refine F.q rfl rfl rfl (wanted_none rfl) (r_move rfl) ?_
        refine F.qc rfl rfl rfl (wanted_none rfl) (q_callF (xs := _) rfl ok102 rfl rfl (fun w hw => impl_isWorld.ok h15 w ((fun _ hw => hr_a0_0.sep hw) w hw) ((fun _ hw => hr_a0_1.sep hw) w hw))) ?_
        refine F.q rfl rfl rfl (wanted_none rfl) (r_not rfl) ?_
        refine F.q rfl rfl rfl (wanted_none rfl) (r_move rfl) ?_
        refine F.q rfl rfl rfl (wg rfl rfl rfl g17) (r_loadA ta73 ti73 rfl rfl (fun w hw => (box_cells (i := 1) rfl w hw))) ?_
        refine F.q rfl rfl rfl (wg rfl rfl rfl g17) (r_move rfl) ?_
        refine F.qc rfl rfl rfl (wg rfl rfl rfl g17) (q_callF (xs := _) rfl ok102 rfl rfl (fun w hw => impl_isWorld.ok h20 w ((fun _ hw => hr_a0_0.sep hw) w hw) ((fun _ hw => hr_a0_1.sep hw) w hw))) ?_
        refine F.q rfl rfl rfl (wg rfl rfl rfl g17) (r_not rfl) ?_
        refine F.q rfl rfl rfl (wanted_none rfl) (r_pickf rfl rfl g17) ?_
        refine F.q rfl rfl rfl (wanted_none rfl) (r_move rfl) ?_
        refine F.q rfl rfl rfl (wg rfl rfl rfl g23) (r_fieldAddr tf73_0 rfl) ?_
        refine F.q rfl rfl rfl (wg rfl rfl rfl g23) (r_load ta71 rfl (fun w hw => cell_1 (box_cells (i := 1) rfl w hw) rfl)) ?_
        refine F.q rfl rfl rfl (wg rfl rfl rfl g23) (r_move rfl) ?_
        refine F.q rfl rfl rfl (wg rfl rfl rfl g23) (r_indexAddrS Try.underlying71 ti31 rfl hl_va0_0 rfl (rdl_some h27).1 (rdl_some h27).2.1) ?_
        refine F.q rfl rfl rfl (wg rfl rfl rfl g23) (r_loadA ta31 ti31 rfl rfl (fun w hw => (hc27.sep hw))) ?_
        refine F.q rfl rfl rfl (wg rfl rfl rfl g23) (r_move rfl) ?_
        refine F.m rfl rfl rfl (wg rfl rfl rfl g23) (m_buildF (l := ([a2] : List (Int))) Try.underlying23 ti3 rfl rfl rfl rfl rfl) ?_
        rintro v30_1 _ ⟨S30_1, hl_v30_1, rfl⟩
        refine F.qc rfl rfl rfl (wg rfl rfl rfl g23) (q_callF (xs := _) rfl ok106 rfl rfl (fun w hw => impl_isNode.ok h31 w ((fun _ hw => hr_v27_1.sep hw) w hw) ((fun _ hw => hr_v27_2.sep hw) w hw) ((rd_sl (i := 0) rfl) w hw))) ?_
        refine F.q rfl rfl rfl (wg rfl rfl rfl g23) (r_not rfl) ?_
        refine F.q rfl rfl rfl (wanted_none rfl) (r_pickf rfl rfl g23) ?_
        refine F.nil ?_
        cases hE_1
        refine Nrm.only [1, 2, 3, 4, 8, 33] rfl ?_
        refine Nrm.pick [1, 2] rfl rfl ?_
        exact hj_1 _ _ ⟨rfl, rfl⟩

end Go.Proofs

/- loop.example/g01158/laws.markIntS -/

namespace Go.Proofs
open Go Go.Ga
set_option linter.unusedVariables false
set_option maxRecDepth 100000
set_option maxHeartbeats 4000000
def laws_markIntS.l0 (k : Nat) : Nat → (List (Int)) → Int → Int → Option (Int × (List (Int)))
  | 0, _, _, _ => none
  | n + 1, x0, x1, x5 => (if (decide (x5 < (x0.length : Int))) = true then (rdl x0 x5).bind fun t15 => laws_markIntS.l0 k n (x0.set x5.toNat x1) (w64 (x1 + 1)) (w64 (x5 + 1)) else some (x1, x0))

def laws_markIntS.f (k : Nat) (a0 : List Int) (a1 : Int) : Option (Int × (List Int)) := (laws_markIntS.l0 k k a0 a1 0).bind fun (x1, x0) => some (x1, x0)

theorem laws_markIntS.ok {k : Nat}  {a0 : List Int} {a1 : Int} {r0 : Int} {r1 : List Int} (h : laws_markIntS.f k a0 a1 = some (r0, r1)) (w : World) {va0 : Value} {Sa0 : Nat → Prop} (hl_va0 : SlLen va0 a0.length) (hw0 : Sep w (footM [R.sl Sa0 va0 a0]) [R.sl Sa0 va0 a0] w) :
    Calls Try.prog 22 ([va0, .int .i64 a1] : List Value).toArray w (PostM (footM [R.sl Sa0 va0 a0]) (fun u ns => u = .int .i64 r0 ∧ SlLen va0 r1.length ∧ ns = [R.sl Sa0 va0 r1]) w) := by
  unfold laws_markIntS.f at h
  refine Calls.of_tri (N := 19) Try.func22 rfl rfl rfl hw0 ?_
  refine Tri.seq ?_
  refine Tri.reg (l := [0]) rfl ?_
  refine F.q rfl rfl rfl (wanted_none rfl) (r_assign rfl) ?_
  refine F.nil ?_
  refine Nrm.seq ?_
  refine Tri.seq ?_
  refine Tri.seq ?_
  refine Tri.reg (l := [0]) rfl ?_
  refine F.q rfl rfl rfl (wanted_none rfl) (r_assign rfl) ?_
  refine F.nil ?_
  refine Nrm.seq ?_
  obtain ⟨⟨x1, x0⟩, hE_1, h⟩ := bind_some h
  refine Tri.block ?_
  refine Tri.only [0, 1, 5] rfl ?_
  refine Tri.pick [0] rfl rfl ?_
  refine Tri.rounds (fun n e' C' => ∃ (x0' : List (Int)) (x1' : Int) (x5' : Int), laws_markIntS.l0 k n x0' x1' x5' = some (x1, x0) ∧ SlLen va0 (x0').length ∧ e' = [(0, va0), (1, .int .i64 x1'), (5, .int .i64 x5')] ∧ C' = Sep w (footM [R.sl Sa0 va0 a0]) [R.sl Sa0 va0 (x0' : List (Int))]) k ?_ ?_ ?_
  · exact ⟨a0, a1, 0, hE_1, hl_va0, rfl, rfl⟩
  · rintro _ _ ⟨_, _, _, hE_1, _⟩
    rw [laws_markIntS.l0.eq_1] at hE_1; cases hE_1
  · rintro n_1 _ _ ⟨x0, x1, x5, hE_1, hl_x0, rfl, rfl⟩ ih_1
    rw [laws_markIntS.l0.eq_2] at hE_1
    refine Tri.seq ?_
    refine Tri.seq ?_
    refine Tri.reg (l := [0, 1, 2, 3]) rfl ?_
    refine F.q rfl rfl rfl (wanted_none rfl) (r_move rfl) ?_
    refine F.q rfl rfl rfl (wanted_none rfl) (r_move rfl) ?_
    refine F.q rfl rfl rfl (wanted_none rfl) (r_len Try.underlying23 rfl hl_x0) ?_
    refine F.q rfl rfl rfl (wanted_none rfl) (r_lss rfl rfl) ?_
    refine F.nil ?_
    refine Nrm.seq ?_
    refine Tri.cond (b := decide (x5 < (x0.length : Int))) rfl (fun g_1 => ?_) (fun g_1 => ?_)
    · replace hE_1 := if_tt g_1 hE_1
      refine Tri.skip ?_
      refine Nrm.seq ?_
      refine Tri.seq ?_
      refine Tri.block ?_
      refine Tri.seq ?_
      obtain ⟨t15, h15, hE_1⟩ := bind_some hE_1
      refine Tri.reg (l := [0, 1, 2, 3, 4]) rfl ?_
      refine F.q rfl rfl rfl (wanted_none rfl) (r_move rfl) ?_
      refine F.q rfl rfl rfl (wanted_none rfl) (r_move rfl) ?_
      refine F.q rfl rfl rfl (wanted_none rfl) (r_move rfl) ?_
      refine F.q rfl rfl rfl (wanted_none rfl) (r_indexAddrS Try.underlying23 ti3 rfl hl_x0 rfl (rdl_some h15).1 (rdl_some h15).2.1) ?_
      refine F.ef0 rfl rfl (wanted_none rfl) (d_storeE (i := 0) (x1 := x1) ti3 rfl rfl rfl (rdl_some h15) rfl) ?_
      rintro _ _ ⟨rfl, rfl⟩
      refine F.nil ?_
      refine Nrm.seq ?_
      refine Tri.reg (l := [0, 1, 2]) rfl ?_
      refine F.q rfl rfl rfl (wanted_none rfl) (r_move rfl) ?_
      refine F.q rfl rfl rfl (wanted_none rfl) (r_add rfl rfl) ?_
      refine F.q rfl rfl rfl (wanted_none rfl) (r_assign rfl) ?_
      refine F.nil ?_
      refine Nrm.block ?_
      refine Nrm.seq ?_
      refine Tri.reg (l := [0, 1, 2]) rfl ?_
      refine F.q rfl rfl rfl (wanted_none rfl) (r_move rfl) ?_
      refine F.q rfl rfl rfl (wanted_none rfl) (r_add rfl rfl) ?_
      refine F.q rfl rfl rfl (wanted_none rfl) (r_assign rfl) ?_
      refine F.nil ?_
      refine Nrm.round ?_
      refine Rnd.only [0, 1, 5] rfl ?_
      refine Rnd.pick [0] rfl rfl ?_
      exact ih_1 _ _ ⟨x0.set x5.toNat x1, w64 (x1 + 1), w64 (x5 + 1), hE_1, (len_set hl_x0), rfl, rfl⟩
    · replace hE_1 := if_ff g_1 hE_1
      refine Tri.exit ?_
      refine Exi.then ?_
      refine Exi.then ?_
      refine Exi.same ?_
      cases hE_1
      refine Nrm.seq ?_
      refine Tri.seq ?_
      refine Tri.reg (l := [0, 1]) rfl ?_
      refine F.q rfl rfl rfl (wanted_none rfl) (r_move rfl) ?_
      refine F.q rfl rfl rfl (wanted_none rfl) (r_assign rfl) ?_
      refine F.nil ?_
      refine Nrm.seq ?_
      refine Tri.ret ?_
      cases h
      exact Rtn.body (.tmp rfl .nil) (fun w hw => ⟨_, _, rfl, ⟨rfl, hl_x0, rfl⟩, Sep.pick (is := [0]) rfl rfl hw⟩)

end Go.Proofs

/- loop.example/g01158/laws.markIntSS -/
namespace Go.Proofs
open Go Go.Ga
set_option linter.unusedVariables false
set_option maxRecDepth 100000
set_option maxHeartbeats 4000000
def laws_markIntSS.l0 (k : Nat) : Nat → (List (List Int)) → Int → Int → Option (Int × (List (List Int)))
  | 0, _, _, _ => none
  | n + 1, x0, x1, x5 => (if (decide (x5 < (x0.length : Int))) = true then (rdl (x0 : List (List Int)) x5).bind fun t14 => (laws_markIntS.f k t14 x1).bind fun (t17_1, t17_2) => laws_markIntSS.l0 k n ((x0 : List (List Int)).set (x5).toNat t17_2) t17_1 (w64 (x5 + 1)) else some (x1, x0))

def laws_markIntSS.f (k : Nat) (a0 : List (List Int)) (a1 : Int) : Option (Int × (List (List Int))) := (laws_markIntSS.l0 k k a0 a1 0).bind fun (x1, x0) => some (x1, x0)

theorem laws_markIntSS.ok {k : Nat}  {a0 : List (List Int)} {a1 : Int} {r0 : Int} {r1 : List (List Int)} (h : laws_markIntSS.f k a0 a1 = some (r0, r1)) (w : World) {va0 : Value} {Sa0 : Nat → Prop} (hl_va0 : SlLen va0 a0.length) (hw0 : Sep w (footM [R.sl Sa0 va0 a0]) [R.sl Sa0 va0 a0] w) :
    Calls Try.prog 57 ([va0, .int .i64 a1] : List Value).toArray w (PostM (footM [R.sl Sa0 va0 a0]) (fun u ns => u = .int .i64 r0 ∧ SlLen va0 r1.length ∧ ns = [R.sl Sa0 va0 r1]) w) := by
  unfold laws_markIntSS.f at h
  refine Calls.of_tri (N := 19) Try.func57 rfl rfl rfl hw0 ?_
  refine Tri.seq ?_
  refine Tri.reg (l := [0]) rfl ?_
  refine F.q rfl rfl rfl (wanted_none rfl) (r_assign rfl) ?_
  refine F.nil ?_
  refine Nrm.seq ?_
  refine Tri.seq ?_
  refine Tri.seq ?_
  refine Tri.reg (l := [0]) rfl ?_
  refine F.q rfl rfl rfl (wanted_none rfl) (r_assign rfl) ?_
  refine F.nil ?_
  refine Nrm.seq ?_
  obtain ⟨⟨x1, x0⟩, hE_1, h⟩ := bind_some h
  refine Tri.block ?_
  refine Tri.only [0, 1, 5] rfl ?_
  refine Tri.pick [0] rfl rfl ?_
  refine Tri.rounds (fun n e' C' => ∃ (x0' : List (List Int)) (x1' : Int) (x5' : Int), laws_markIntSS.l0 k n x0' x1' x5' = some (x1, x0) ∧ SlLen va0 (x0').length ∧ e' = [(0, va0), (1, .int .i64 x1'), (5, .int .i64 x5')] ∧ C' = Sep w (footM [R.sl Sa0 va0 a0]) [R.sl Sa0 va0 (x0' : List (List Int))]) k ?_ ?_ ?_
  · exact ⟨a0, a1, 0, hE_1, hl_va0, rfl, rfl⟩
  · rintro _ _ ⟨_, _, _, hE_1, _⟩
    rw [laws_markIntSS.l0.eq_1] at hE_1; cases hE_1
  · rintro n_1 _ _ ⟨x0, x1, x5, hE_1, hl_x0, rfl, rfl⟩ ih_1
    rw [laws_markIntSS.l0.eq_2] at hE_1
    refine Tri.seq ?_
    refine Tri.seq ?_
    refine Tri.reg (l := [0, 1, 2, 3]) rfl ?_
    refine F.q rfl rfl rfl (wanted_none rfl) (r_move rfl) ?_
    refine F.q rfl rfl rfl (wanted_none rfl) (r_move rfl) ?_
    refine F.q rfl rfl rfl (wanted_none rfl) (r_len Try.underlying65 rfl hl_x0) ?_
    refine F.q rfl rfl rfl (wanted_none rfl) (r_lss rfl rfl) ?_
    refine F.nil ?_
    refine Nrm.seq ?_
    refine Tri.cond (b := decide (x5 < (x0.length : Int))) rfl (fun g_1 => ?_) (fun g_1 => ?_)
    · replace hE_1 := if_tt g_1 hE_1
      refine Tri.skip ?_
      refine Nrm.seq ?_
      refine Tri.seq ?_
      refine Tri.block ?_
      obtain ⟨t14, h14, hE_1⟩ := bind_some hE_1
      obtain ⟨⟨t17_1, t17_2⟩, h17, hE_1⟩ := bind_some hE_1
      refine Tri.ex (on23 [0] [] rfl rfl (rdl_some h14).2.2) ?_
      rintro _ ⟨v14_0_1, S14_0_1, Sr14_1, hl_v14_0_1, hS14_1, rfl⟩
      refine Tri.reg (l := [0, 1, 2, 3, 4, 5, 6]) rfl ?_
      refine F.q rfl rfl rfl (wanted_none rfl) (r_move rfl) ?_
      refine F.q rfl rfl rfl (wanted_none rfl) (r_move rfl) ?_
      refine F.q rfl rfl rfl (wanted_none rfl) (r_indexAddrS Try.underlying65 ti23 rfl hl_x0 rfl (rdl_some h14).1 (rdl_some h14).2.1) ?_
      refine F.q rfl rfl rfl (wanted_none rfl) (r_load ta23 rfl (fun w hw => cell_0 (hole_cells (p := 1) rfl w hw) rfl)) ?_
      refine F.q rfl rfl rfl (wanted_none rfl) (r_move rfl) ?_
      refine F.ef rfl rfl rfl (wanted_none rfl) (d_callM (xs := _) (cs := [R.sl S14_0_1 v14_0_1 (t14 : List (Int))]) (rest := [R.hole Sr14_1 va0 (x0 : List (List Int)) (x5).toNat [v14_0_1]]) [0] [1] rfl ok22 rfl rfl rfl rfl (fun w hw => laws_markIntS.ok h17 w hl_v14_0_1 (Sep.sub hw))) ?_
      rintro _ _ ⟨_, ⟨rfl, hl_t17_2, rfl⟩, rfl⟩
      refine F.q rfl rfl rfl (wanted_none rfl) (r_assign rfl) ?_
      refine F.nil ?_
      refine Nrm.imp (cloS1 (cs := [R.sl S14_0_1 v14_0_1 (t17_2 : List (Int))]) (rest := []) [0, 1] [] rfl rfl (jn_sl (S := S14_0_1) (v := v14_0_1) (l := (t17_2 : List (Int)))) hS14_1) ?_
      refine Nrm.block ?_
      refine Nrm.seq ?_
      refine Tri.reg (l := [0, 1, 2]) rfl ?_
      refine F.q rfl rfl rfl (wanted_none rfl) (r_move rfl) ?_
      refine F.q rfl rfl rfl (wanted_none rfl) (r_add rfl rfl) ?_
      refine F.q rfl rfl rfl (wanted_none rfl) (r_assign rfl) ?_
      refine F.nil ?_
      refine Nrm.round ?_
      refine Rnd.only [0, 1, 5] rfl ?_
      refine Rnd.pick [0] rfl rfl ?_
      exact ih_1 _ _ ⟨(x0 : List (List Int)).set (x5).toNat t17_2, t17_1, w64 (x5 + 1), hE_1, (len_set hl_x0), rfl, rfl⟩
    · replace hE_1 := if_ff g_1 hE_1
      refine Tri.exit ?_
      refine Exi.then ?_
      refine Exi.then ?_
      refine Exi.same ?_
      cases hE_1
      refine Nrm.seq ?_
      refine Tri.seq ?_
      refine Tri.reg (l := [0, 1]) rfl ?_
      refine F.q rfl rfl rfl (wanted_none rfl) (r_move rfl) ?_
      refine F.q rfl rfl rfl (wanted_none rfl) (r_assign rfl) ?_
      refine F.nil ?_
      refine Nrm.seq ?_
      refine Tri.ret ?_
      cases h
      exact Rtn.body (.tmp rfl .nil) (fun w hw => ⟨_, _, rfl, ⟨rfl, hl_x0, rfl⟩, Sep.pick (is := [0]) rfl rfl hw⟩)

end Go.Proofs

/- loop.example/g01158/laws.markIntA3S -/

namespace Go.Proofs
open Go Go.Ga
set_option linter.unusedVariables false
set_option maxRecDepth 100000
set_option maxHeartbeats 4000000
def laws_markIntA3S.l1 (k : Nat) (x5 : Int) : Nat → (List (Int × Int × Int)) → Int → Int → Option ((List (Int × Int × Int)) × Int)
  | 0, _, _, _ => none
  | n + 1, x0r, x1r, x6 => (if (decide (x6 < 3)) = true then (rdl x0r x5).bind fun t21 => (rdl [t21.1, t21.2.1, t21.2.2] x6).bind fun t22 => laws_markIntA3S.l1 k x5 n (x0r.set x5.toNat (if x6 = 0 then x1r else t21.1, if x6 = 1 then x1r else t21.2.1, if x6 = 2 then x1r else t21.2.2)) (w64 (x1r + 1)) (w64 (x6 + 1)) else some (x0r, x1r))

def laws_markIntA3S.l0 (k : Nat) : Nat → (List (Int × Int × Int)) → Int → Int → Option (Int × (List (Int × Int × Int)))
  | 0, _, _, _ => none
  | n + 1, x0, x1, x5 => (if (decide (x5 < (x0.length : Int))) = true then (laws_markIntA3S.l1 k x5 k x0 x1 0).bind fun (x0r, x1r) => laws_markIntA3S.l0 k n x0r x1r (w64 (x5 + 1)) else some (x1, x0))

def laws_markIntA3S.f (k : Nat) (a0 : List (Int × Int × Int)) (a1 : Int) : Option (Int × (List (Int × Int × Int))) := (laws_markIntA3S.l0 k k a0 a1 0).bind fun (x1, x0) => some (x1, x0)

theorem laws_markIntA3S.ok {k : Nat}  {a0 : List (Int × Int × Int)} {a1 : Int} {r0 : Int} {r1 : List (Int × Int × Int)} (h : laws_markIntA3S.f k a0 a1 = some (r0, r1)) (w : World) {va0 : Value} {Sa0 : Nat → Prop} (hl_va0 : SlLen va0 a0.length) (hw0 : Sep w (footM [R.sl Sa0 va0 a0]) [R.sl Sa0 va0 a0] w) :
    Calls Try.prog 81 ([va0, .int .i64 a1] : List Value).toArray w (PostM (footM [R.sl Sa0 va0 a0]) (fun u ns => u = .int .i64 r0 ∧ SlLen va0 r1.length ∧ ns = [R.sl Sa0 va0 r1]) w) := by
  unfold laws_markIntA3S.f at h
  refine Calls.of_tri (N := 26) Try.func81 rfl rfl rfl hw0 ?_
  refine Tri.seq ?_
  refine Tri.reg (l := [0]) rfl ?_
  refine F.q rfl rfl rfl (wanted_none rfl) (r_assign rfl) ?_
  refine F.nil ?_
  refine Nrm.seq ?_
  refine Tri.seq ?_
  refine Tri.seq ?_
  refine Tri.reg (l := [0]) rfl ?_
  refine F.q rfl rfl rfl (wanted_none rfl) (r_assign rfl) ?_
  refine F.nil ?_
  refine Nrm.seq ?_
  obtain ⟨⟨x1, x0⟩, hE_1, h⟩ := bind_some h
  refine Tri.block ?_
  refine Tri.only [0, 1, 5] rfl ?_
  refine Tri.pick [0] rfl rfl ?_
  refine Tri.rounds (fun n e' C' => ∃ (x0' : List (Int × Int × Int)) (x1' : Int) (x5' : Int), laws_markIntA3S.l0 k n x0' x1' x5' = some (x1, x0) ∧ SlLen va0 (x0').length ∧ e' = [(0, va0), (1, .int .i64 x1'), (5, .int .i64 x5')] ∧ C' = Sep w (footM [R.sl Sa0 va0 a0]) [R.sl Sa0 va0 (x0' : List (Int × Int × Int))]) k ?_ ?_ ?_
  · exact ⟨a0, a1, 0, hE_1, hl_va0, rfl, rfl⟩
  · rintro _ _ ⟨_, _, _, hE_1, _⟩
    rw [laws_markIntA3S.l0.eq_1] at hE_1; cases hE_1
  · rintro n_1 _ _ ⟨x0, x1, x5, hE_1, hl_x0, rfl, rfl⟩ ih_1
    rw [laws_markIntA3S.l0.eq_2] at hE_1
    refine Tri.seq ?_
    refine Tri.seq ?_
    refine Tri.reg (l := [0, 1, 2, 3]) rfl ?_
    refine F.q rfl rfl rfl (wanted_none rfl) (r_move rfl) ?_
    refine F.q rfl rfl rfl (wanted_none rfl) (r_move rfl) ?_
    refine F.q rfl rfl rfl (wanted_none rfl) (r_len Try.underlying22 rfl hl_x0) ?_
    refine F.q rfl rfl rfl (wanted_none rfl) (r_lss rfl rfl) ?_
    refine F.nil ?_
    refine Nrm.seq ?_
    refine Tri.cond (b := decide (x5 < (x0.length : Int))) rfl (fun g_1 => ?_) (fun g_1 => ?_)
    · replace hE_1 := if_tt g_1 hE_1
      refine Tri.skip ?_
      refine Nrm.seq ?_
      refine Tri.seq ?_
      refine Tri.block ?_
      refine Tri.seq ?_
      refine Tri.reg (l := [0]) rfl ?_
      refine F.q rfl rfl rfl (wanted_none rfl) (r_assign rfl) ?_
      refine F.nil ?_
      refine Nrm.seq ?_
      obtain ⟨⟨x0r, x1r⟩, hE_2, hE_1⟩ := bind_some hE_1
      refine Tri.block ?_
      refine Tri.only [0, 1, 5, 6] rfl ?_
      refine Tri.pick [0] rfl rfl ?_
      refine Tri.rounds (fun n e' C' => ∃ (x0r' : List (Int × Int × Int)) (x1r' : Int) (x6' : Int), laws_markIntA3S.l1 k x5 n x0r' x1r' x6' = some (x0r, x1r) ∧ SlLen va0 (x0r').length ∧ e' = [(0, va0), (1, .int .i64 x1r'), (5, .int .i64 x5), (6, .int .i64 x6')] ∧ C' = Sep w (footM [R.sl Sa0 va0 a0]) [R.sl Sa0 va0 (x0r' : List (Int × Int × Int))]) k ?_ ?_ ?_
      · exact ⟨x0, x1, 0, hE_2, hl_x0, rfl, rfl⟩
      · rintro _ _ ⟨_, _, _, hE_2, _⟩
        rw [laws_markIntA3S.l1.eq_1] at hE_2; cases hE_2
      · rintro n_2 _ _ ⟨x0r, x1r, x6, hE_2, hl_x0r, rfl, rfl⟩ ih_2
        rw [laws_markIntA3S.l1.eq_2] at hE_2
        refine Tri.seq ?_
        refine Tri.seq ?_
        refine Tri.reg (l := [0, 1]) rfl ?_
        refine F.q rfl rfl rfl (wanted_none rfl) (r_move rfl) ?_
        refine F.q rfl rfl rfl (wanted_none rfl) (r_lss rfl rfl) ?_
        refine F.nil ?_
        refine Nrm.seq ?_
        refine Tri.cond (b := decide (x6 < 3)) rfl (fun g_2 => ?_) (fun g_2 => ?_)
        · replace hE_2 := if_tt g_2 hE_2
          refine Tri.skip ?_
          refine Nrm.seq ?_
          refine Tri.seq ?_
          refine Tri.block ?_
          refine Tri.seq ?_
          obtain ⟨t21, h21, hE_2⟩ := bind_some hE_2
          obtain ⟨t22, h22, hE_2⟩ := bind_some hE_2
          refine Tri.reg (l := [0, 1, 2, 3, 4, 5, 6]) rfl ?_
          refine F.q rfl rfl rfl (wanted_none rfl) (r_move rfl) ?_
          refine F.q rfl rfl rfl (wanted_none rfl) (r_move rfl) ?_
          refine F.q rfl rfl rfl (wanted_none rfl) (r_move rfl) ?_
          refine F.q rfl rfl rfl (wanted_none rfl) (r_move rfl) ?_
          refine F.q rfl rfl rfl (wanted_none rfl) (r_indexAddrS Try.underlying22 ti130 rfl hl_x0r rfl (rdl_some h21).1 (rdl_some h21).2.1) ?_
          refine F.q rfl rfl rfl (wanted_none rfl) (r_indexAddrA Try.underlying130 ti3 rfl rfl (rdl_some h22).1 (rdl_some h22).2.1) ?_
          refine F.ef0 rfl rfl (wanted_none rfl) (d_storeP (i := 0) (k := (x6.toNat * 1)) (x0 := t21) (x1 := (if x6 = 0 then x1r else t21.1, if x6 = 1 then x1r else t21.2.1, if x6 = 2 then x1r else t21.2.2)) ti3 rfl rfl rfl (rdl_some h21) rfl (dlt (rdl_some h22).1 (rdl_some h22).2.1) (setV3 (rdl_some h22).1 (rdl_some h22).2.1) rfl) ?_
          rintro _ _ ⟨rfl, rfl⟩
          refine F.nil ?_
          refine Nrm.seq ?_
          refine Tri.reg (l := [0, 1, 2]) rfl ?_
          refine F.q rfl rfl rfl (wanted_none rfl) (r_move rfl) ?_
          refine F.q rfl rfl rfl (wanted_none rfl) (r_add rfl rfl) ?_
          refine F.q rfl rfl rfl (wanted_none rfl) (r_assign rfl) ?_
          refine F.nil ?_
          refine Nrm.block ?_
          refine Nrm.seq ?_
          refine Tri.reg (l := [0, 1, 2]) rfl ?_
          refine F.q rfl rfl rfl (wanted_none rfl) (r_move rfl) ?_
          refine F.q rfl rfl rfl (wanted_none rfl) (r_add rfl rfl) ?_
          refine F.q rfl rfl rfl (wanted_none rfl) (r_assign rfl) ?_
          refine F.nil ?_
          refine Nrm.round ?_
          refine Rnd.only [0, 1, 5, 6] rfl ?_
          refine Rnd.pick [0] rfl rfl ?_
          exact ih_2 _ _ ⟨x0r.set x5.toNat (if x6 = 0 then x1r else t21.1, if x6 = 1 then x1r else t21.2.1, if x6 = 2 then x1r else t21.2.2), w64 (x1r + 1), w64 (x6 + 1), hE_2, (len_set hl_x0r), rfl, rfl⟩
        · replace hE_2 := if_ff g_2 hE_2
          refine Tri.exit ?_
          refine Exi.then ?_
          refine Exi.then ?_
          refine Exi.same ?_
          cases hE_2
          refine Nrm.block ?_
          refine Nrm.seq ?_
          refine Tri.reg (l := [0, 1, 2]) rfl ?_
          refine F.q rfl rfl rfl (wanted_none rfl) (r_move rfl) ?_
          refine F.q rfl rfl rfl (wanted_none rfl) (r_add rfl rfl) ?_
          refine F.q rfl rfl rfl (wanted_none rfl) (r_assign rfl) ?_
          refine F.nil ?_
          refine Nrm.round ?_
          refine Rnd.only [0, 1, 5] rfl ?_
          refine Rnd.pick [0] rfl rfl ?_
          exact ih_1 _ _ ⟨x0r, x1r, w64 (x5 + 1), hE_1, hl_x0r, rfl, rfl⟩
    · replace hE_1 := if_ff g_1 hE_1
      refine Tri.exit ?_
      refine Exi.then ?_
      refine Exi.then ?_
      refine Exi.same ?_
      cases hE_1
      refine Nrm.seq ?_
      refine Tri.seq ?_
      refine Tri.reg (l := [0, 1]) rfl ?_
      refine F.q rfl rfl rfl (wanted_none rfl) (r_move rfl) ?_
      refine F.q rfl rfl rfl (wanted_none rfl) (r_assign rfl) ?_
      refine F.nil ?_
      refine Nrm.seq ?_
      refine Tri.ret ?_
      cases h
      exact Rtn.body (.tmp rfl .nil) (fun w hw => ⟨_, _, rfl, ⟨rfl, hl_x0, rfl⟩, Sep.pick (is := [0]) rfl rfl hw⟩)

end Go.Proofs

/- loop.example/g01158/laws.markMazeS -/
namespace Go.Proofs
open Go Go.Ga
set_option linter.unusedVariables false
set_option maxRecDepth 100000
set_option maxHeartbeats 4000000
def laws_markMazeS.l0 (k : Nat) : Nat → (List (Int × List (Int × Int × Int) × List Int)) → Int → Int → Option (Int × (List (Int × List (Int × Int × Int) × List Int)))
  | 0, _, _, _ => none
  | n + 1, x0, x1, x5 => (if (decide (x5 < (x0.length : Int))) = true then (rdl (x0 : List (Int × List (Int × Int × Int) × List Int)) x5).bind fun t15 => (rdl ((x0 : List (Int × List (Int × Int × Int) × List Int)).set (x5).toNat (x1, t15.2.1, t15.2.2) : List (Int × List (Int × Int × Int) × List Int)) x5).bind fun t21 => (laws_markIntA3S.f k t21.2.1 (w64 (x1 + 1))).bind fun (t25_1, t25_2) => (rdl (((x0 : List (Int × List (Int × Int × Int) × List Int)).set (x5).toNat (x1, t15.2.1, t15.2.2) : List (Int × List (Int × Int × Int) × List Int)).set (x5).toNat (t21.1, t25_2, t21.2.2) : List (Int × List (Int × Int × Int) × List Int)) x5).bind fun t28 => (laws_markIntS.f k t28.2.2 t25_1).bind fun (t32_1, t32_2) => laws_markMazeS.l0 k n ((((x0 : List (Int × List (Int × Int × Int) × List Int)).set (x5).toNat (x1, t15.2.1, t15.2.2) : List (Int × List (Int × Int × Int) × List Int)).set (x5).toNat (t21.1, t25_2, t21.2.2) : List (Int × List (Int × Int × Int) × List Int)).set (x5).toNat (t28.1, t28.2.1, t32_2)) t32_1 (w64 (x5 + 1)) else some (x1, x0))

def laws_markMazeS.f (k : Nat) (a0 : List (Int × List (Int × Int × Int) × List Int)) (a1 : Int) : Option (Int × (List (Int × List (Int × Int × Int) × List Int))) := (laws_markMazeS.l0 k k a0 a1 0).bind fun (x1, x0) => some (x1, x0)

theorem laws_markMazeS.ok {k : Nat}  {a0 : List (Int × List (Int × Int × Int) × List Int)} {a1 : Int} {r0 : Int} {r1 : List (Int × List (Int × Int × Int) × List Int)} (h : laws_markMazeS.f k a0 a1 = some (r0, r1)) (w : World) {va0 : Value} {Sa0 : Nat → Prop} (hl_va0 : SlLen va0 a0.length) (hw0 : Sep w (footM [R.sl Sa0 va0 a0]) [R.sl Sa0 va0 a0] w) :
    Calls Try.prog 109 ([va0, .int .i64 a1] : List Value).toArray w (PostM (footM [R.sl Sa0 va0 a0]) (fun u ns => u = .int .i64 r0 ∧ SlLen va0 r1.length ∧ ns = [R.sl Sa0 va0 r1]) w) := by
  unfold laws_markMazeS.f at h
  refine Calls.of_tri (N := 34) Try.func109 rfl rfl rfl hw0 ?_
  refine Tri.seq ?_
  refine Tri.reg (l := [0]) rfl ?_
  refine F.q rfl rfl rfl (wanted_none rfl) (r_assign rfl) ?_
  refine F.nil ?_
  refine Nrm.seq ?_
  refine Tri.seq ?_
  refine Tri.seq ?_
  refine Tri.reg (l := [0]) rfl ?_
  refine F.q rfl rfl rfl (wanted_none rfl) (r_assign rfl) ?_
  refine F.nil ?_
  refine Nrm.seq ?_
  obtain ⟨⟨x1, x0⟩, hE_1, h⟩ := bind_some h
  refine Tri.block ?_
  refine Tri.only [0, 1, 5] rfl ?_
  refine Tri.pick [0] rfl rfl ?_
  refine Tri.rounds (fun n e' C' => ∃ (x0' : List (Int × List (Int × Int × Int) × List Int)) (x1' : Int) (x5' : Int), laws_markMazeS.l0 k n x0' x1' x5' = some (x1, x0) ∧ SlLen va0 (x0').length ∧ e' = [(0, va0), (1, .int .i64 x1'), (5, .int .i64 x5')] ∧ C' = Sep w (footM [R.sl Sa0 va0 a0]) [R.sl Sa0 va0 (x0' : List (Int × List (Int × Int × Int) × List Int))]) k ?_ ?_ ?_
  · exact ⟨a0, a1, 0, hE_1, hl_va0, rfl, rfl⟩
  · rintro _ _ ⟨_, _, _, hE_1, _⟩
    rw [laws_markMazeS.l0.eq_1] at hE_1; cases hE_1
  · rintro n_1 _ _ ⟨x0, x1, x5, hE_1, hl_x0, rfl, rfl⟩ ih_1
    rw [laws_markMazeS.l0.eq_2] at hE_1
    refine Tri.seq ?_
    refine Tri.seq ?_
    refine Tri.reg (l := [0, 1, 2, 3]) rfl ?_
    refine F.q rfl rfl rfl (wanted_none rfl) (r_move rfl) ?_
    refine F.q rfl rfl rfl (wanted_none rfl) (r_move rfl) ?_
    refine F.q rfl rfl rfl (wanted_none rfl) (r_len Try.underlying71 rfl hl_x0) ?_
    refine F.q rfl rfl rfl (wanted_none rfl) (r_lss rfl rfl) ?_
    refine F.nil ?_
    refine Nrm.seq ?_
    refine Tri.cond (b := decide (x5 < (x0.length : Int))) rfl (fun g_1 => ?_) (fun g_1 => ?_)
    · replace hE_1 := if_tt g_1 hE_1
      refine Tri.skip ?_
      refine Nrm.seq ?_
      refine Tri.seq ?_
      refine Tri.block ?_
      refine Tri.seq ?_
      obtain ⟨t15, h15, hE_1⟩ := bind_some hE_1
      refine Tri.ex (on31 [0] [] rfl rfl (rdl_some h15).2.2) ?_
      rintro _ ⟨v15_1_1, S15_1_1, v15_2_1, S15_2_1, Sr15_1, hl_v15_1_1, hl_v15_2_1, hS15_1, rfl⟩
      refine Tri.reg (l := [0, 1, 2, 3, 4, 5]) rfl ?_
      refine F.q rfl rfl rfl (wanted_none rfl) (r_move rfl) ?_
      refine F.q rfl rfl rfl (wanted_none rfl) (r_move rfl) ?_
      refine F.q rfl rfl rfl (wanted_none rfl) (r_move rfl) ?_
      refine F.q rfl rfl rfl (wanted_none rfl) (r_indexAddrS Try.underlying71 ti31 rfl hl_x0 rfl (rdl_some h15).1 (rdl_some h15).2.1) ?_
      refine F.q rfl rfl rfl (wanted_none rfl) (r_fieldAddr tf31_0 rfl) ?_
      refine F.ef0 rfl rfl (wanted_none rfl) (d_storeH1 (α := Int × List (Int × Int × Int) × List Int) (p := 2) (k := 0) (cs2 := [.int .i64 x1]) ti3 rfl rfl rfl rfl rfl (Nat.le_of_ble_eq_true rfl) (lf_cons rfl lf_nil)) ?_
      rintro _ _ ⟨rfl, rfl⟩
      refine F.nil ?_
      refine Nrm.imp (cloS2 (cs := [R.sl S15_1_1 v15_1_1 (t15.2.1 : List (Int × Int × Int)), R.sl S15_2_1 v15_2_1 (t15.2.2 : List (Int))]) (rest := []) [0, 1, 2] [] rfl rfl (jn_pair (jn_int (n := x1)) (jn_pair (jn_sl (S := S15_1_1) (v := v15_1_1) (l := (t15.2.1 : List (Int × Int × Int)))) (jn_sl (S := S15_2_1) (v := v15_2_1) (l := (t15.2.2 : List (Int)))))) hS15_1) ?_
      refine Nrm.seq ?_
      refine Tri.seq ?_
      refine Tri.reg (l := [0, 1, 2]) rfl ?_
      refine F.q rfl rfl rfl (wanted_none rfl) (r_move rfl) ?_
      refine F.q rfl rfl rfl (wanted_none rfl) (r_add rfl rfl) ?_
      refine F.q rfl rfl rfl (wanted_none rfl) (r_assign rfl) ?_
      refine F.nil ?_
      refine Nrm.seq ?_
      refine Tri.seq ?_
      obtain ⟨t21, h21, hE_1⟩ := bind_some hE_1
      obtain ⟨⟨t25_1, t25_2⟩, h25, hE_1⟩ := bind_some hE_1
      refine Tri.ex (on31 [0] [] rfl rfl (rdl_some h21).2.2) ?_
      rintro _ ⟨v21_1_1, S21_1_1, v21_2_1, S21_2_1, Sr21_1, hl_v21_1_1, hl_v21_2_1, hS21_1, rfl⟩
      refine Tri.reg (l := [0, 1, 2, 3, 4, 5, 6, 7]) rfl ?_
      refine F.q rfl rfl rfl (wanted_none rfl) (r_move rfl) ?_
      refine F.q rfl rfl rfl (wanted_none rfl) (r_move rfl) ?_
      refine F.q rfl rfl rfl (wanted_none rfl) (r_indexAddrS Try.underlying71 ti31 rfl (len_set hl_x0) rfl (rdl_some h21).1 (rdl_some h21).2.1) ?_
      refine F.q rfl rfl rfl (wanted_none rfl) (r_fieldAddr tf31_1 rfl) ?_
      refine F.q rfl rfl rfl (wanted_none rfl) (r_load ta22 rfl (fun w hw => cell_1 (hole_cells (p := 2) rfl w hw) rfl)) ?_
      refine F.q rfl rfl rfl (wanted_none rfl) (r_move rfl) ?_
      refine F.ef rfl rfl rfl (wanted_none rfl) (d_callM (xs := _) (cs := [R.sl S21_1_1 v21_1_1 (t21.2.1 : List (Int × Int × Int))]) (rest := [R.sl S21_2_1 v21_2_1 (t21.2.2 : List (Int)), R.hole Sr21_1 va0 ((x0 : List (Int × List (Int × Int × Int) × List Int)).set (x5).toNat (x1, t15.2.1, t15.2.2) : List (Int × List (Int × Int × Int) × List Int)) (x5).toNat [.int .i64 t21.1, v21_1_1, v21_2_1]]) [0] [1, 2] rfl ok81 rfl rfl rfl rfl (fun w hw => laws_markIntA3S.ok h25 w hl_v21_1_1 (Sep.sub hw))) ?_
      rintro _ _ ⟨_, ⟨rfl, hl_t25_2, rfl⟩, rfl⟩
      refine F.q rfl rfl rfl (wanted_none rfl) (r_assign rfl) ?_
      refine F.nil ?_
      refine Nrm.imp (cloS2 (cs := [R.sl S21_1_1 v21_1_1 (t25_2 : List (Int × Int × Int)), R.sl S21_2_1 v21_2_1 (t21.2.2 : List (Int))]) (rest := []) [0, 1, 2] [] rfl rfl (jn_pair (jn_int (n := t21.1)) (jn_pair (jn_sl (S := S21_1_1) (v := v21_1_1) (l := (t25_2 : List (Int × Int × Int)))) (jn_sl (S := S21_2_1) (v := v21_2_1) (l := (t21.2.2 : List (Int)))))) hS21_1) ?_
      refine Nrm.seq ?_
      obtain ⟨t28, h28, hE_1⟩ := bind_some hE_1
      obtain ⟨⟨t32_1, t32_2⟩, h32, hE_1⟩ := bind_some hE_1
      refine Tri.ex (on31 [0] [] rfl rfl (rdl_some h28).2.2) ?_
      rintro _ ⟨v28_1_1, S28_1_1, v28_2_1, S28_2_1, Sr28_1, hl_v28_1_1, hl_v28_2_1, hS28_1, rfl⟩
      refine Tri.reg (l := [0, 1, 2, 3, 4, 5, 6, 7]) rfl ?_
      refine F.q rfl rfl rfl (wanted_none rfl) (r_move rfl) ?_
      refine F.q rfl rfl rfl (wanted_none rfl) (r_move rfl) ?_
      refine F.q rfl rfl rfl (wanted_none rfl) (r_indexAddrS Try.underlying71 ti31 rfl (len_set (len_set hl_x0)) rfl (rdl_some h28).1 (rdl_some h28).2.1) ?_
      refine F.q rfl rfl rfl (wanted_none rfl) (r_fieldAddr tf31_2 rfl) ?_
      refine F.q rfl rfl rfl (wanted_none rfl) (r_load ta23 rfl (fun w hw => cell_1 (hole_cells (p := 2) rfl w hw) rfl)) ?_
      refine F.q rfl rfl rfl (wanted_none rfl) (r_move rfl) ?_
      refine F.ef rfl rfl rfl (wanted_none rfl) (d_callM (xs := _) (cs := [R.sl S28_2_1 v28_2_1 (t28.2.2 : List (Int))]) (rest := [R.sl S28_1_1 v28_1_1 (t28.2.1 : List (Int × Int × Int)), R.hole Sr28_1 va0 (((x0 : List (Int × List (Int × Int × Int) × List Int)).set (x5).toNat (x1, t15.2.1, t15.2.2) : List (Int × List (Int × Int × Int) × List Int)).set (x5).toNat (t21.1, t25_2, t21.2.2) : List (Int × List (Int × Int × Int) × List Int)) (x5).toNat [.int .i64 t28.1, v28_1_1, v28_2_1]]) [1] [0, 2] rfl ok22 rfl rfl rfl rfl (fun w hw => laws_markIntS.ok h32 w hl_v28_2_1 (Sep.sub hw))) ?_
      rintro _ _ ⟨_, ⟨rfl, hl_t32_2, rfl⟩, rfl⟩
      refine F.q rfl rfl rfl (wanted_none rfl) (r_assign rfl) ?_
      refine F.nil ?_
      refine Nrm.imp (cloS2 (cs := [R.sl S28_1_1 v28_1_1 (t28.2.1 : List (Int × Int × Int)), R.sl S28_2_1 v28_2_1 (t32_2 : List (Int))]) (rest := []) [1, 0, 2] [] rfl rfl (jn_pair (jn_int (n := t28.1)) (jn_pair (jn_sl (S := S28_1_1) (v := v28_1_1) (l := (t28.2.1 : List (Int × Int × Int)))) (jn_sl (S := S28_2_1) (v := v28_2_1) (l := (t32_2 : List (Int)))))) hS28_1) ?_
      refine Nrm.block ?_
      refine Nrm.seq ?_
      refine Tri.reg (l := [0, 1, 2]) rfl ?_
      refine F.q rfl rfl rfl (wanted_none rfl) (r_move rfl) ?_
      refine F.q rfl rfl rfl (wanted_none rfl) (r_add rfl rfl) ?_
      refine F.q rfl rfl rfl (wanted_none rfl) (r_assign rfl) ?_
      refine F.nil ?_
      refine Nrm.round ?_
      refine Rnd.only [0, 1, 5] rfl ?_
      refine Rnd.pick [0] rfl rfl ?_
      exact ih_1 _ _ ⟨(((x0 : List (Int × List (Int × Int × Int) × List Int)).set (x5).toNat (x1, t15.2.1, t15.2.2) : List (Int × List (Int × Int × Int) × List Int)).set (x5).toNat (t21.1, t25_2, t21.2.2) : List (Int × List (Int × Int × Int) × List Int)).set (x5).toNat (t28.1, t28.2.1, t32_2), t32_1, w64 (x5 + 1), hE_1, (len_set (len_set (len_set hl_x0))), rfl, rfl⟩
    · replace hE_1 := if_ff g_1 hE_1
      refine Tri.exit ?_
      refine Exi.then ?_
      refine Exi.then ?_
      refine Exi.same ?_
      cases hE_1
      refine Nrm.seq ?_
      refine Tri.seq ?_
      refine Tri.reg (l := [0, 1]) rfl ?_
      refine F.q rfl rfl rfl (wanted_none rfl) (r_move rfl) ?_
      refine F.q rfl rfl rfl (wanted_none rfl) (r_assign rfl) ?_
      refine F.nil ?_
      refine Nrm.seq ?_
      refine Tri.ret ?_
      cases h
      exact Rtn.body (.tmp rfl .nil) (fun w hw => ⟨_, _, rfl, ⟨rfl, hl_x0, rfl⟩, Sep.pick (is := [0]) rfl rfl hw⟩)

end Go.Proofs

/- loop.example/g01158/laws.markWorlds -/
namespace Go.Proofs
open Go Go.Ga
set_option linter.unusedVariables false
set_option maxRecDepth 100000
set_option maxHeartbeats 4000000
def laws_markWorlds.f (k : Nat) (a0_0 : List (Int × List (Int × Int × Int) × List Int)) (a0_1 : List (List Int)) (a1 : Int) : Option (Int × (List (Int × List (Int × Int × Int) × List Int)) × (List (List Int))) := (laws_markMazeS.f k a0_0 a1).bind fun (t8_1, t8_2) => (laws_markIntSS.f k a0_1 t8_1).bind fun (t12_1, t12_2) => some (t12_1, t8_2, t12_2)

theorem laws_markWorlds.ok {k : Nat}  {a0_0 : List (Int × List (Int × Int × Int) × List Int)} {a0_1 : List (List Int)} {a1 : Int} {r0 : Int} {r1 : List (Int × List (Int × Int × Int) × List Int)} {r2 : List (List Int)} (h : laws_markWorlds.f k a0_0 a0_1 a1 = some (r0, r1, r2)) (w : World) {va0_0 : Value} {Sa0_0 : Nat → Prop} (hl_va0_0 : SlLen va0_0 a0_0.length) {va0_1 : Value} {Sa0_1 : Nat → Prop} (hl_va0_1 : SlLen va0_1 a0_1.length) (hw0 : Sep w (footM [R.sl Sa0_0 va0_0 a0_0, R.sl Sa0_1 va0_1 a0_1]) [R.sl Sa0_0 va0_0 a0_0, R.sl Sa0_1 va0_1 a0_1] w) :
    Calls Try.prog 52 ([.agg ([va0_0, va0_1].toArray), .int .i64 a1] : List Value).toArray w (PostM (footM [R.sl Sa0_0 va0_0 a0_0, R.sl Sa0_1 va0_1 a0_1]) (fun u ns => u = .int .i64 r0 ∧ SlLen va0_0 r1.length ∧ SlLen va0_1 r2.length ∧ ns = [R.sl Sa0_0 va0_0 r1, R.sl Sa0_1 va0_1 r2]) w) := by
  unfold laws_markWorlds.f at h
  refine Calls.of_tri (N := 14) Try.func52 rfl rfl rfl hw0 ?_
  refine Tri.seq ?_
  refine Tri.reg (l := [0, 1]) rfl ?_
  refine F.m rfl rfl rfl (wanted_none rfl) (m_boxG rfl rfl) ?_
  rintro _ _ ⟨b2_1, rfl, rfl⟩
  refine F.q rfl rfl rfl (wanted_none rfl) (r_assign rfl) ?_
  refine F.nil ?_
  refine Nrm.seq ?_
  refine Tri.seq ?_
  obtain ⟨⟨t8_1, t8_2⟩, h8, h⟩ := bind_some h
  refine Tri.reg (l := [0, 1, 2, 3, 4]) rfl ?_
  refine F.q rfl rfl rfl (wanted_none rfl) (r_fieldAddr tf73_0 rfl) ?_
  refine F.q rfl rfl rfl (wanted_none rfl) (r_load ta71 rfl (fun w hw => cell_1 (box_cells (i := 0) rfl w hw) rfl)) ?_
  refine F.q rfl rfl rfl (wanted_none rfl) (r_move rfl) ?_
  refine F.ef rfl rfl rfl (wanted_none rfl) (d_callM (xs := _) (cs := [R.sl Sa0_0 va0_0 (a0_0 : List (Int × List (Int × Int × Int) × List Int))]) (rest := [R.box b2_1 73 [va0_0, va0_1], R.sl Sa0_1 va0_1 (a0_1 : List (List Int))]) [1] [0, 2] rfl ok109 rfl rfl rfl rfl (fun w hw => laws_markMazeS.ok h8 w hl_va0_0 (Sep.sub hw))) ?_
  rintro _ _ ⟨_, ⟨rfl, hl_t8_2, rfl⟩, rfl⟩
  refine F.q rfl rfl rfl (wanted_none rfl) (r_assign rfl) ?_
  refine F.nil ?_
  refine Nrm.seq ?_
  refine Tri.seq ?_
  obtain ⟨⟨t12_1, t12_2⟩, h12, h⟩ := bind_some h
  refine Tri.reg (l := [0, 1, 2, 3, 4]) rfl ?_
  refine F.q rfl rfl rfl (wanted_none rfl) (r_fieldAddr tf73_1 rfl) ?_
  refine F.q rfl rfl rfl (wanted_none rfl) (r_load ta65 rfl (fun w hw => cell_1 (box_cells (i := 1) rfl w hw) rfl)) ?_
  refine F.q rfl rfl rfl (wanted_none rfl) (r_move rfl) ?_
  refine F.ef rfl rfl rfl (wanted_none rfl) (d_callM (xs := _) (cs := [R.sl Sa0_1 va0_1 (a0_1 : List (List Int))]) (rest := [R.sl Sa0_0 va0_0 (t8_2 : List (Int × List (Int × Int × Int) × List Int)), R.box b2_1 73 [va0_0, va0_1]]) [2] [0, 1] rfl ok57 rfl rfl rfl rfl (fun w hw => laws_markIntSS.ok h12 w hl_va0_1 (Sep.sub hw))) ?_
  rintro _ _ ⟨_, ⟨rfl, hl_t12_2, rfl⟩, rfl⟩
  refine F.q rfl rfl rfl (wanted_none rfl) (r_assign rfl) ?_
  refine F.nil ?_
  refine Nrm.seq ?_
  refine Tri.seq ?_
  refine Tri.reg (l := [0, 1]) rfl ?_
  refine F.q rfl rfl rfl (wanted_none rfl) (r_move rfl) ?_
  refine F.q rfl rfl rfl (wanted_none rfl) (r_assign rfl) ?_
  refine F.nil ?_
  refine Nrm.seq ?_
  refine Tri.ret ?_
  cases h
  exact Rtn.body (.tmp rfl .nil) (fun w hw => ⟨_, _, rfl, ⟨rfl, hl_t8_2, hl_t12_2, rfl⟩, Sep.pick (is := [1, 0]) rfl rfl hw⟩)

end Go.Proofs

/- loop.example/g01158/laws.heldIntS -/

namespace Go.Proofs
open Go Go.Ga
set_option linter.unusedVariables false
set_option maxRecDepth 100000
set_option maxHeartbeats 4000000
def laws_heldIntS.l0 (k : Nat) (a0 : List Int) : Nat → Int → Int → Option ((Int) ⊕ (Int))
  | 0, _, _ => none
  | n + 1, x1, x5 => (if (decide (x5 < (a0.length : Int))) = true then (rdl a0 x5).bind fun t14 => (if (t14 != x1) = true then some (Sum.inr (-1)) else laws_heldIntS.l0 k a0 n (w64 (x1 + 1)) (w64 (x5 + 1))) else some (Sum.inl x1))

def laws_heldIntS.f (k : Nat) (a0 : List Int) (a1 : Int) : Option (Int) := (laws_heldIntS.l0 k a0 k a1 0).bind fun s => Lr s some fun x1 => some x1

theorem laws_heldIntS.ok {k : Nat}  {a0 : List Int} {a1 : Int} {r0 : Int} (h : laws_heldIntS.f k a0 a1 = some r0) (w : World) {va0 : Value} (hr_a0 : Rd w va0 a0) :
    Calls Try.prog 23 ([va0, .int .i64 a1] : List Value).toArray w (fun e w' => e = .returned (.int .i64 r0) ∧ Ext w w') := by
  unfold laws_heldIntS.f at h
  have hl_va0 := hr_a0.len
  refine Calls.of_tri (N := 21) Try.func23 rfl rfl rfl (Sep.nil (M := noM)) ?_
  refine Tri.seq ?_
  refine Tri.reg (l := [0]) rfl ?_
  refine F.q rfl rfl rfl (wanted_none rfl) (r_assign rfl) ?_
  refine F.nil ?_
  refine Nrm.seq ?_
  refine Tri.seq ?_
  refine Tri.seq ?_
  refine Tri.reg (l := [0]) rfl ?_
  refine F.q rfl rfl rfl (wanted_none rfl) (r_assign rfl) ?_
  refine F.nil ?_
  refine Nrm.seq ?_
  obtain ⟨s0, hE_1, h⟩ := bind_some h
  refine Tri.block ?_
  refine Tri.only [0, 1, 5] rfl ?_
  refine Tri.pick [] rfl rfl ?_
  refine Tri.rounds (fun n e' C' => ∃ (x1' : Int) (x5' : Int), laws_heldIntS.l0 k a0 n x1' x5' = some s0 ∧ e' = [(0, va0), (1, .int .i64 x1'), (5, .int .i64 x5')] ∧ C' = Sep w noM []) k ?_ ?_ ?_
  · exact ⟨a1, 0, hE_1, rfl, rfl⟩
  · rintro _ _ ⟨_, _, hE_1, _⟩
    rw [laws_heldIntS.l0.eq_1] at hE_1; cases hE_1
  · rintro n_1 _ _ ⟨x1, x5, hE_1, rfl, rfl⟩ ih_1
    rw [laws_heldIntS.l0.eq_2] at hE_1
    refine Tri.seq ?_
    refine Tri.seq ?_
    refine Tri.reg (l := [0, 1, 2, 3]) rfl ?_
    refine F.q rfl rfl rfl (wanted_none rfl) (r_move rfl) ?_
    refine F.q rfl rfl rfl (wanted_none rfl) (r_move rfl) ?_
    refine F.q rfl rfl rfl (wanted_none rfl) (r_len Try.underlying23 rfl hl_va0) ?_
    refine F.q rfl rfl rfl (wanted_none rfl) (r_lss rfl rfl) ?_
    refine F.nil ?_
    refine Nrm.seq ?_
    refine Tri.cond (b := decide (x5 < (a0.length : Int))) rfl (fun g_1 => ?_) (fun g_1 => ?_)
    · replace hE_1 := if_tt g_1 hE_1
      refine Tri.skip ?_
      refine Nrm.seq ?_
      refine Tri.seq ?_
      refine Tri.block ?_
      refine Tri.seq ?_
      refine Tri.seq ?_
      obtain ⟨t14, h14, hE_1⟩ := bind_some hE_1
      refine Tri.reg (l := [0, 1, 2, 3, 4, 5]) rfl ?_
      refine F.q rfl rfl rfl (wanted_none rfl) (r_move rfl) ?_
      refine F.q rfl rfl rfl (wanted_none rfl) (r_move rfl) ?_
      refine F.q rfl rfl rfl (wanted_none rfl) (r_indexAddrS Try.underlying23 ti3 rfl hl_va0 rfl (rdl_some h14).1 (rdl_some h14).2.1) ?_
      refine F.q rfl rfl rfl (wanted_none rfl) (r_load ta3 rfl (fun w hw => cell_0 (Rd.flat ((fun _ hw => hr_a0.sep hw) w hw) (rdl_some h14).2.2) rfl)) ?_
      refine F.q rfl rfl rfl (wanted_none rfl) (r_move rfl) ?_
      refine F.q rfl rfl rfl (wanted_none rfl) (r_neq rfl rfl) ?_
      refine F.nil ?_
      refine Nrm.seq ?_
      refine Tri.cond (b := t14 != x1) rfl (fun g_2 => ?_) (fun g_2 => ?_)
      · replace hE_1 := if_tt g_2 hE_1
        refine Tri.seq ?_
        refine Tri.reg (l := [0]) rfl ?_
        refine F.q rfl rfl rfl (wanted_none rfl) (r_assign rfl) ?_
        refine F.nil ?_
        refine Nrm.seq ?_
        refine Tri.ret ?_
        refine Rtn.then ?_
        refine Rtn.block ?_
        refine Rtn.then ?_
        refine Rtn.then ?_
        refine Rtn.block ?_
        refine Rtn.then ?_
        cases hE_1
        replace h := Lr_inr h
        cases h
        exact Rtn.body (.tmp rfl .nil) (fun w hw => ⟨rfl, hw.ext⟩)
      · replace hE_1 := if_ff g_2 hE_1
        refine Tri.skip ?_
        refine Nrm.seq ?_
        refine Tri.reg (l := [0, 1, 2]) rfl ?_
        refine F.q rfl rfl rfl (wanted_none rfl) (r_move rfl) ?_
        refine F.q rfl rfl rfl (wanted_none rfl) (r_add rfl rfl) ?_
        refine F.q rfl rfl rfl (wanted_none rfl) (r_assign rfl) ?_
        refine F.nil ?_
        refine Nrm.block ?_
        refine Nrm.seq ?_
        refine Tri.reg (l := [0, 1, 2]) rfl ?_
        refine F.q rfl rfl rfl (wanted_none rfl) (r_move rfl) ?_
        refine F.q rfl rfl rfl (wanted_none rfl) (r_add rfl rfl) ?_
        refine F.q rfl rfl rfl (wanted_none rfl) (r_assign rfl) ?_
        refine F.nil ?_
        refine Nrm.round ?_
        refine Rnd.only [0, 1, 5] rfl ?_
        refine Rnd.pick [] rfl rfl ?_
        exact ih_1 _ _ ⟨w64 (x1 + 1), w64 (x5 + 1), hE_1, rfl, rfl⟩
    · replace hE_1 := if_ff g_1 hE_1
      refine Tri.exit ?_
      refine Exi.then ?_
      refine Exi.then ?_
      refine Exi.same ?_
      cases hE_1
      replace h := Lr_inl h
      refine Nrm.seq ?_
      refine Tri.seq ?_
      refine Tri.reg (l := [0, 1]) rfl ?_
      refine F.q rfl rfl rfl (wanted_none rfl) (r_move rfl) ?_
      refine F.q rfl rfl rfl (wanted_none rfl) (r_assign rfl) ?_
      refine F.nil ?_
      refine Nrm.seq ?_
      refine Tri.ret ?_
      cases h
      exact Rtn.body (.tmp rfl .nil) (fun w hw => ⟨rfl, hw.ext⟩)

end Go.Proofs

/- loop.example/g01158/laws.heldIntSS -/
namespace Go.Proofs
open Go Go.Ga
set_option linter.unusedVariables false
set_option maxRecDepth 100000
set_option maxHeartbeats 4000000
def laws_heldIntSS.l0 (k : Nat) (a0 : List (List Int)) : Nat → Int → Int → Option ((Int) ⊕ (Int))
  | 0, _, _ => none
  | n + 1, x1, x5 => (if (decide (x5 < (a0.length : Int))) = true then (rdl a0 x5).bind fun t14 => (laws_heldIntS.f k t14 x1).bind fun t17 => (if (decide (t17 < 0)) = true then some (Sum.inr (-1)) else laws_heldIntSS.l0 k a0 n t17 (w64 (x5 + 1))) else some (Sum.inl x1))

def laws_heldIntSS.f (k : Nat) (a0 : List (List Int)) (a1 : Int) : Option (Int) := (laws_heldIntSS.l0 k a0 k a1 0).bind fun s => Lr s some fun x1 => some x1

theorem laws_heldIntSS.ok {k : Nat}  {a0 : List (List Int)} {a1 : Int} {r0 : Int} (h : laws_heldIntSS.f k a0 a1 = some r0) (w : World) {va0 : Value} (hr_a0 : Rd w va0 a0) :
    Calls Try.prog 58 ([va0, .int .i64 a1] : List Value).toArray w (fun e w' => e = .returned (.int .i64 r0) ∧ Ext w w') := by
  unfold laws_heldIntSS.f at h
  have hl_va0 := hr_a0.len
  refine Calls.of_tri (N := 21) Try.func58 rfl rfl rfl (Sep.nil (M := noM)) ?_
  refine Tri.seq ?_
  refine Tri.reg (l := [0]) rfl ?_
  refine F.q rfl rfl rfl (wanted_none rfl) (r_assign rfl) ?_
  refine F.nil ?_
  refine Nrm.seq ?_
  refine Tri.seq ?_
  refine Tri.seq ?_
  refine Tri.reg (l := [0]) rfl ?_
  refine F.q rfl rfl rfl (wanted_none rfl) (r_assign rfl) ?_
  refine F.nil ?_
  refine Nrm.seq ?_
  obtain ⟨s0, hE_1, h⟩ := bind_some h
  refine Tri.block ?_
  refine Tri.only [0, 1, 5] rfl ?_
  refine Tri.pick [] rfl rfl ?_
  refine Tri.rounds (fun n e' C' => ∃ (x1' : Int) (x5' : Int), laws_heldIntSS.l0 k a0 n x1' x5' = some s0 ∧ e' = [(0, va0), (1, .int .i64 x1'), (5, .int .i64 x5')] ∧ C' = Sep w noM []) k ?_ ?_ ?_
  · exact ⟨a1, 0, hE_1, rfl, rfl⟩
  · rintro _ _ ⟨_, _, hE_1, _⟩
    rw [laws_heldIntSS.l0.eq_1] at hE_1; cases hE_1
  · rintro n_1 _ _ ⟨x1, x5, hE_1, rfl, rfl⟩ ih_1
    rw [laws_heldIntSS.l0.eq_2] at hE_1
    refine Tri.seq ?_
    refine Tri.seq ?_
    refine Tri.reg (l := [0, 1, 2, 3]) rfl ?_
    refine F.q rfl rfl rfl (wanted_none rfl) (r_move rfl) ?_
    refine F.q rfl rfl rfl (wanted_none rfl) (r_move rfl) ?_
    refine F.q rfl rfl rfl (wanted_none rfl) (r_len Try.underlying65 rfl hl_va0) ?_
    refine F.q rfl rfl rfl (wanted_none rfl) (r_lss rfl rfl) ?_
    refine F.nil ?_
    refine Nrm.seq ?_
    refine Tri.cond (b := decide (x5 < (a0.length : Int))) rfl (fun g_1 => ?_) (fun g_1 => ?_)
    · replace hE_1 := if_tt g_1 hE_1
      refine Tri.skip ?_
      refine Nrm.seq ?_
      refine Tri.seq ?_
      refine Tri.block ?_
      refine Tri.seq ?_
      obtain ⟨t14, h14, hE_1⟩ := bind_some hE_1
      obtain ⟨_, hc14, hp14⟩ := Rd.elem hr_a0 (rdl_some h14).2.2
      obtain ⟨v14_0, rfl, hr_v14_0⟩ := op23 hp14
      have hl_v14_0 := hr_v14_0.len
      obtain ⟨t17, h17, hE_1⟩ := bind_some hE_1
      refine Tri.reg (l := [0, 1, 2, 3, 4, 5, 6]) rfl ?_
      refine F.q rfl rfl rfl (wanted_none rfl) (r_move rfl) ?_
      refine F.q rfl rfl rfl (wanted_none rfl) (r_move rfl) ?_
      refine F.q rfl rfl rfl (wanted_none rfl) (r_indexAddrS Try.underlying65 ti23 rfl hl_va0 rfl (rdl_some h14).1 (rdl_some h14).2.1) ?_
      refine F.q rfl rfl rfl (wanted_none rfl) (r_load ta23 rfl (fun w hw => cell_0 (hc14.sep hw) rfl)) ?_
      refine F.q rfl rfl rfl (wanted_none rfl) (r_move rfl) ?_
      refine F.qc rfl rfl rfl (wanted_none rfl) (q_callF (xs := _) rfl ok23 rfl rfl (fun w hw => laws_heldIntS.ok h17 w ((fun _ hw => hr_v14_0.sep hw) w hw))) ?_
      refine F.q rfl rfl rfl (wanted_none rfl) (r_assign rfl) ?_
      refine F.nil ?_
      refine Nrm.seq ?_
      refine Tri.seq ?_
      refine Tri.reg (l := [0, 1]) rfl ?_
      refine F.q rfl rfl rfl (wanted_none rfl) (r_move rfl) ?_
      refine F.q rfl rfl rfl (wanted_none rfl) (r_lss rfl rfl) ?_
      refine F.nil ?_
      refine Nrm.seq ?_
      refine Tri.cond (b := decide (t17 < 0)) rfl (fun g_2 => ?_) (fun g_2 => ?_)
      · replace hE_1 := if_tt g_2 hE_1
        refine Tri.seq ?_
        refine Tri.reg (l := [0]) rfl ?_
        refine F.q rfl rfl rfl (wanted_none rfl) (r_assign rfl) ?_
        refine F.nil ?_
        refine Nrm.seq ?_
        refine Tri.ret ?_
        refine Rtn.block ?_
        refine Rtn.then ?_
        refine Rtn.then ?_
        refine Rtn.block ?_
        refine Rtn.then ?_
        cases hE_1
        replace h := Lr_inr h
        cases h
        exact Rtn.body (.tmp rfl .nil) (fun w hw => ⟨rfl, hw.ext⟩)
      · replace hE_1 := if_ff g_2 hE_1
        refine Tri.skip ?_
        refine Nrm.block ?_
        refine Nrm.seq ?_
        refine Tri.reg (l := [0, 1, 2]) rfl ?_
        refine F.q rfl rfl rfl (wanted_none rfl) (r_move rfl) ?_
        refine F.q rfl rfl rfl (wanted_none rfl) (r_add rfl rfl) ?_
        refine F.q rfl rfl rfl (wanted_none rfl) (r_assign rfl) ?_
        refine F.nil ?_
        refine Nrm.round ?_
        refine Rnd.only [0, 1, 5] rfl ?_
        refine Rnd.pick [] rfl rfl ?_
        exact ih_1 _ _ ⟨t17, w64 (x5 + 1), hE_1, rfl, rfl⟩
    · replace hE_1 := if_ff g_1 hE_1
      refine Tri.exit ?_
      refine Exi.then ?_
      refine Exi.then ?_
      refine Exi.same ?_
      cases hE_1
      replace h := Lr_inl h
      refine Nrm.seq ?_
      refine Tri.seq ?_
      refine Tri.reg (l := [0, 1]) rfl ?_
      refine F.q rfl rfl rfl (wanted_none rfl) (r_move rfl) ?_
      refine F.q rfl rfl rfl (wanted_none rfl) (r_assign rfl) ?_
      refine F.nil ?_
      refine Nrm.seq ?_
      refine Tri.ret ?_
      cases h
      exact Rtn.body (.tmp rfl .nil) (fun w hw => ⟨rfl, hw.ext⟩)

end Go.Proofs

/- loop.example/g01158/laws.heldIntA3S -/

namespace Go.Proofs
open Go Go.Ga
set_option linter.unusedVariables false
set_option maxRecDepth 100000
set_option maxHeartbeats 4000000
def laws_heldIntA3S.l1 (k : Nat) (a0 : List (Int × Int × Int)) (x5 : Int) : Nat → Int → Int → Option ((Int) ⊕ (Int))
  | 0, _, _ => none
  | n + 1, x1r, x6 => (if (decide (x6 < 3)) = true then (rdl a0 x5).bind fun t20 => (rdl [t20.1, t20.2.1, t20.2.2] x6).bind fun t21 => (if (t21 != x1r) = true then some (Sum.inr (-1)) else laws_heldIntA3S.l1 k a0 x5 n (w64 (x1r + 1)) (w64 (x6 + 1))) else some (Sum.inl x1r))

def laws_heldIntA3S.l0 (k : Nat) (a0 : List (Int × Int × Int)) : Nat → Int → Int → Option ((Int) ⊕ (Int))
  | 0, _, _ => none
  | n + 1, x1, x5 => (if (decide (x5 < (a0.length : Int))) = true then (laws_heldIntA3S.l1 k a0 x5 k x1 0).bind fun s => Lr s (fun r => some (Sum.inr r)) fun x1r => laws_heldIntA3S.l0 k a0 n x1r (w64 (x5 + 1)) else some (Sum.inl x1))

def laws_heldIntA3S.f (k : Nat) (a0 : List (Int × Int × Int)) (a1 : Int) : Option (Int) := (laws_heldIntA3S.l0 k a0 k a1 0).bind fun s => Lr s some fun x1 => some x1

theorem laws_heldIntA3S.ok {k : Nat}  {a0 : List (Int × Int × Int)} {a1 : Int} {r0 : Int} (h : laws_heldIntA3S.f k a0 a1 = some r0) (w : World) {va0 : Value} (hr_a0 : Rd w va0 a0) :
    Calls Try.prog 148 ([va0, .int .i64 a1] : List Value).toArray w (fun e w' => e = .returned (.int .i64 r0) ∧ Ext w w') := by
  unfold laws_heldIntA3S.f at h
  have hl_va0 := hr_a0.len
  refine Calls.of_tri (N := 28) Try.func148 rfl rfl rfl (Sep.nil (M := noM)) ?_
  refine Tri.seq ?_
  refine Tri.reg (l := [0]) rfl ?_
  refine F.q rfl rfl rfl (wanted_none rfl) (r_assign rfl) ?_
  refine F.nil ?_
  refine Nrm.seq ?_
  refine Tri.seq ?_
  refine Tri.seq ?_
  refine Tri.reg (l := [0]) rfl ?_
  refine F.q rfl rfl rfl (wanted_none rfl) (r_assign rfl) ?_
  refine F.nil ?_
  refine Nrm.seq ?_
  obtain ⟨s0, hE_1, h⟩ := bind_some h
  refine Tri.block ?_
  refine Tri.only [0, 1, 5] rfl ?_
  refine Tri.pick [] rfl rfl ?_
  refine Tri.rounds (fun n e' C' => ∃ (x1' : Int) (x5' : Int), laws_heldIntA3S.l0 k a0 n x1' x5' = some s0 ∧ e' = [(0, va0), (1, .int .i64 x1'), (5, .int .i64 x5')] ∧ C' = Sep w noM []) k ?_ ?_ ?_
  · exact ⟨a1, 0, hE_1, rfl, rfl⟩
  · rintro _ _ ⟨_, _, hE_1, _⟩
    rw [laws_heldIntA3S.l0.eq_1] at hE_1; cases hE_1
  · rintro n_1 _ _ ⟨x1, x5, hE_1, rfl, rfl⟩ ih_1
    rw [laws_heldIntA3S.l0.eq_2] at hE_1
    refine Tri.seq ?_
    refine Tri.seq ?_
    refine Tri.reg (l := [0, 1, 2, 3]) rfl ?_
    refine F.q rfl rfl rfl (wanted_none rfl) (r_move rfl) ?_
    refine F.q rfl rfl rfl (wanted_none rfl) (r_move rfl) ?_
    refine F.q rfl rfl rfl (wanted_none rfl) (r_len Try.underlying22 rfl hl_va0) ?_
    refine F.q rfl rfl rfl (wanted_none rfl) (r_lss rfl rfl) ?_
    refine F.nil ?_
    refine Nrm.seq ?_
    refine Tri.cond (b := decide (x5 < (a0.length : Int))) rfl (fun g_1 => ?_) (fun g_1 => ?_)
    · replace hE_1 := if_tt g_1 hE_1
      refine Tri.skip ?_
      refine Nrm.seq ?_
      refine Tri.seq ?_
      refine Tri.block ?_
      refine Tri.seq ?_
      refine Tri.reg (l := [0]) rfl ?_
      refine F.q rfl rfl rfl (wanted_none rfl) (r_assign rfl) ?_
      refine F.nil ?_
      refine Nrm.seq ?_
      obtain ⟨s1, hE_2, hE_1⟩ := bind_some hE_1
      refine Tri.block ?_
      refine Tri.only [0, 1, 5, 6] rfl ?_
      refine Tri.pick [] rfl rfl ?_
      refine Tri.rounds (fun n e' C' => ∃ (x1r' : Int) (x6' : Int), laws_heldIntA3S.l1 k a0 x5 n x1r' x6' = some s1 ∧ e' = [(0, va0), (1, .int .i64 x1r'), (5, .int .i64 x5), (6, .int .i64 x6')] ∧ C' = Sep w noM []) k ?_ ?_ ?_
      · exact ⟨x1, 0, hE_2, rfl, rfl⟩
      · rintro _ _ ⟨_, _, hE_2, _⟩
        rw [laws_heldIntA3S.l1.eq_1] at hE_2; cases hE_2
      · rintro n_2 _ _ ⟨x1r, x6, hE_2, rfl, rfl⟩ ih_2
        rw [laws_heldIntA3S.l1.eq_2] at hE_2
        refine Tri.seq ?_
        refine Tri.seq ?_
        refine Tri.reg (l := [0, 1]) rfl ?_
        refine F.q rfl rfl rfl (wanted_none rfl) (r_move rfl) ?_
        refine F.q rfl rfl rfl (wanted_none rfl) (r_lss rfl rfl) ?_
        refine F.nil ?_
        refine Nrm.seq ?_
        refine Tri.cond (b := decide (x6 < 3)) rfl (fun g_2 => ?_) (fun g_2 => ?_)
        · replace hE_2 := if_tt g_2 hE_2
          refine Tri.skip ?_
          refine Nrm.seq ?_
          refine Tri.seq ?_
          refine Tri.block ?_
          refine Tri.seq ?_
          refine Tri.seq ?_
          obtain ⟨t20, h20, hE_2⟩ := bind_some hE_2
          obtain ⟨t21, h21, hE_2⟩ := bind_some hE_2
          refine Tri.reg (l := [0, 1, 2, 3, 4, 5, 6, 7]) rfl ?_
          refine F.q rfl rfl rfl (wanted_none rfl) (r_move rfl) ?_
          refine F.q rfl rfl rfl (wanted_none rfl) (r_move rfl) ?_
          refine F.q rfl rfl rfl (wanted_none rfl) (r_move rfl) ?_
          refine F.q rfl rfl rfl (wanted_none rfl) (r_indexAddrS Try.underlying22 ti130 rfl hl_va0 rfl (rdl_some h20).1 (rdl_some h20).2.1) ?_
          refine F.q rfl rfl rfl (wanted_none rfl) (r_indexAddrA Try.underlying130 ti3 rfl rfl (rdl_some h21).1 (rdl_some h21).2.1) ?_
          refine F.q rfl rfl rfl (wanted_none rfl) (r_load ta3 rfl (fun w hw => cell_dynB (Rd.flat ((fun _ hw => hr_a0.sep hw) w hw) (rdl_some h20).2.2) rfl h21)) ?_
          refine F.q rfl rfl rfl (wanted_none rfl) (r_move rfl) ?_
          refine F.q rfl rfl rfl (wanted_none rfl) (r_neq rfl rfl) ?_
          refine F.nil ?_
          refine Nrm.seq ?_
          refine Tri.cond (b := t21 != x1r) rfl (fun g_3 => ?_) (fun g_3 => ?_)
          · replace hE_2 := if_tt g_3 hE_2
            refine Tri.seq ?_
            refine Tri.reg (l := [0]) rfl ?_
            refine F.q rfl rfl rfl (wanted_none rfl) (r_assign rfl) ?_
            refine F.nil ?_
            refine Nrm.seq ?_
            refine Tri.ret ?_
            refine Rtn.then ?_
            refine Rtn.block ?_
            refine Rtn.then ?_
            refine Rtn.then ?_
            refine Rtn.block ?_
            refine Rtn.block ?_
            refine Rtn.then ?_
            refine Rtn.then ?_
            refine Rtn.block ?_
            refine Rtn.then ?_
            cases hE_2
            replace hE_1 := Lr_inr hE_1
            cases hE_1
            replace h := Lr_inr h
            cases h
            exact Rtn.body (.tmp rfl .nil) (fun w hw => ⟨rfl, hw.ext⟩)
          · replace hE_2 := if_ff g_3 hE_2
            refine Tri.skip ?_
            refine Nrm.seq ?_
            refine Tri.reg (l := [0, 1, 2]) rfl ?_
            refine F.q rfl rfl rfl (wanted_none rfl) (r_move rfl) ?_
            refine F.q rfl rfl rfl (wanted_none rfl) (r_add rfl rfl) ?_
            refine F.q rfl rfl rfl (wanted_none rfl) (r_assign rfl) ?_
            refine F.nil ?_
            refine Nrm.block ?_
            refine Nrm.seq ?_
            refine Tri.reg (l := [0, 1, 2]) rfl ?_
            refine F.q rfl rfl rfl (wanted_none rfl) (r_move rfl) ?_
            refine F.q rfl rfl rfl (wanted_none rfl) (r_add rfl rfl) ?_
            refine F.q rfl rfl rfl (wanted_none rfl) (r_assign rfl) ?_
            refine F.nil ?_
            refine Nrm.round ?_
            refine Rnd.only [0, 1, 5, 6] rfl ?_
            refine Rnd.pick [] rfl rfl ?_
            exact ih_2 _ _ ⟨w64 (x1r + 1), w64 (x6 + 1), hE_2, rfl, rfl⟩
        · replace hE_2 := if_ff g_2 hE_2
          refine Tri.exit ?_
          refine Exi.then ?_
          refine Exi.then ?_
          refine Exi.same ?_
          cases hE_2
          replace hE_1 := Lr_inl hE_1
          refine Nrm.block ?_
          refine Nrm.seq ?_
          refine Tri.reg (l := [0, 1, 2]) rfl ?_
          refine F.q rfl rfl rfl (wanted_none rfl) (r_move rfl) ?_
          refine F.q rfl rfl rfl (wanted_none rfl) (r_add rfl rfl) ?_
          refine F.q rfl rfl rfl (wanted_none rfl) (r_assign rfl) ?_
          refine F.nil ?_
          refine Nrm.round ?_
          refine Rnd.only [0, 1, 5] rfl ?_
          refine Rnd.pick [] rfl rfl ?_
          exact ih_1 _ _ ⟨x1r, w64 (x5 + 1), hE_1, rfl, rfl⟩
    · replace hE_1 := if_ff g_1 hE_1
      refine Tri.exit ?_
      refine Exi.then ?_
      refine Exi.then ?_
      refine Exi.same ?_
      cases hE_1
      replace h := Lr_inl h
      refine Nrm.seq ?_
      refine Tri.seq ?_
      refine Tri.reg (l := [0, 1]) rfl ?_
      refine F.q rfl rfl rfl (wanted_none rfl) (r_move rfl) ?_
      refine F.q rfl rfl rfl (wanted_none rfl) (r_assign rfl) ?_
      refine F.nil ?_
      refine Nrm.seq ?_
      refine Tri.ret ?_
      cases h
      exact Rtn.body (.tmp rfl .nil) (fun w hw => ⟨rfl, hw.ext⟩)

end Go.Proofs

/- loop.example/g01158/laws.heldMazeS -/
namespace Go.Proofs
open Go Go.Ga
set_option linter.unusedVariables false
set_option maxRecDepth 100000
set_option maxHeartbeats 4000000
def laws_heldMazeS.l0 (k : Nat) (a0 : List (Int × List (Int × Int × Int) × List Int)) : Nat → Int → Int → Option ((Int) ⊕ (Int))
  | 0, _, _ => none
  | n + 1, x1, x5 => (if (decide (x5 < (a0.length : Int))) = true then (rdl a0 x5).bind fun t14 => (if (t14.1 != x1) = true then some (Sum.inr (-1)) else (rdl a0 x5).bind fun t23 => (laws_heldIntA3S.f k t23.2.1 (w64 (x1 + 1))).bind fun t27 => (if (decide (t27 < 0)) = true then some (Sum.inr (-1)) else (rdl a0 x5).bind fun t32 => (laws_heldIntS.f k t32.2.2 t27).bind fun t36 => (if (decide (t36 < 0)) = true then some (Sum.inr (-1)) else laws_heldMazeS.l0 k a0 n t36 (w64 (x5 + 1))))) else some (Sum.inl x1))

def laws_heldMazeS.f (k : Nat) (a0 : List (Int × List (Int × Int × Int) × List Int)) (a1 : Int) : Option (Int) := (laws_heldMazeS.l0 k a0 k a1 0).bind fun s => Lr s some fun x1 => some x1

theorem laws_heldMazeS.ok {k : Nat}  {a0 : List (Int × List (Int × Int × Int) × List Int)} {a1 : Int} {r0 : Int} (h : laws_heldMazeS.f k a0 a1 = some r0) (w : World) {va0 : Value} (hr_a0 : Rd w va0 a0) :
    Calls Try.prog 110 ([va0, .int .i64 a1] : List Value).toArray w (fun e w' => e = .returned (.int .i64 r0) ∧ Ext w w') := by
  unfold laws_heldMazeS.f at h
  have hl_va0 := hr_a0.len
  refine Calls.of_tri (N := 40) Try.func110 rfl rfl rfl (Sep.nil (M := noM)) ?_
  refine Tri.seq ?_
  refine Tri.reg (l := [0]) rfl ?_
  refine F.q rfl rfl rfl (wanted_none rfl) (r_assign rfl) ?_
  refine F.nil ?_
  refine Nrm.seq ?_
  refine Tri.seq ?_
  refine Tri.seq ?_
  refine Tri.reg (l := [0]) rfl ?_
  refine F.q rfl rfl rfl (wanted_none rfl) (r_assign rfl) ?_
  refine F.nil ?_
  refine Nrm.seq ?_
  obtain ⟨s0, hE_1, h⟩ := bind_some h
  refine Tri.block ?_
  refine Tri.only [0, 1, 5] rfl ?_
  refine Tri.pick [] rfl rfl ?_
  refine Tri.rounds (fun n e' C' => ∃ (x1' : Int) (x5' : Int), laws_heldMazeS.l0 k a0 n x1' x5' = some s0 ∧ e' = [(0, va0), (1, .int .i64 x1'), (5, .int .i64 x5')] ∧ C' = Sep w noM []) k ?_ ?_ ?_
  · exact ⟨a1, 0, hE_1, rfl, rfl⟩
  · rintro _ _ ⟨_, _, hE_1, _⟩
    rw [laws_heldMazeS.l0.eq_1] at hE_1; cases hE_1
  · rintro n_1 _ _ ⟨x1, x5, hE_1, rfl, rfl⟩ ih_1
    rw [laws_heldMazeS.l0.eq_2] at hE_1
    refine Tri.seq ?_
    refine Tri.seq ?_
    refine Tri.reg (l := [0, 1, 2, 3]) rfl ?_
    refine F.q rfl rfl rfl (wanted_none rfl) (r_move rfl) ?_
    refine F.q rfl rfl rfl (wanted_none rfl) (r_move rfl) ?_
    refine F.q rfl rfl rfl (wanted_none rfl) (r_len Try.underlying71 rfl hl_va0) ?_
    refine F.q rfl rfl rfl (wanted_none rfl) (r_lss rfl rfl) ?_
    refine F.nil ?_
    refine Nrm.seq ?_
    refine Tri.cond (b := decide (x5 < (a0.length : Int))) rfl (fun g_1 => ?_) (fun g_1 => ?_)
    · replace hE_1 := if_tt g_1 hE_1
      refine Tri.skip ?_
      refine Nrm.seq ?_
      refine Tri.seq ?_
      refine Tri.block ?_
      refine Tri.seq ?_
      refine Tri.seq ?_
      obtain ⟨t14, h14, hE_1⟩ := bind_some hE_1
      obtain ⟨_, hc14, hp14⟩ := Rd.elem hr_a0 (rdl_some h14).2.2
      obtain ⟨v14_1, v14_2, rfl, hr_v14_1, hr_v14_2⟩ := op31 hp14
      have hl_v14_1 := hr_v14_1.len
      have hl_v14_2 := hr_v14_2.len
      refine Tri.reg (l := [0, 1, 2, 3, 4, 5, 6]) rfl ?_
      refine F.q rfl rfl rfl (wanted_none rfl) (r_move rfl) ?_
      refine F.q rfl rfl rfl (wanted_none rfl) (r_move rfl) ?_
      refine F.q rfl rfl rfl (wanted_none rfl) (r_indexAddrS Try.underlying71 ti31 rfl hl_va0 rfl (rdl_some h14).1 (rdl_some h14).2.1) ?_
      refine F.q rfl rfl rfl (wanted_none rfl) (r_fieldAddr tf31_0 rfl) ?_
      refine F.q rfl rfl rfl (wanted_none rfl) (r_load ta3 rfl (fun w hw => cell_1 (hc14.sep hw) rfl)) ?_
      refine F.q rfl rfl rfl (wanted_none rfl) (r_move rfl) ?_
      refine F.q rfl rfl rfl (wanted_none rfl) (r_neq rfl rfl) ?_
      refine F.nil ?_
      refine Nrm.seq ?_
      refine Tri.cond (b := t14.1 != x1) rfl (fun g_2 => ?_) (fun g_2 => ?_)
      · replace hE_1 := if_tt g_2 hE_1
        refine Tri.seq ?_
        refine Tri.reg (l := [0]) rfl ?_
        refine F.q rfl rfl rfl (wanted_none rfl) (r_assign rfl) ?_
        refine F.nil ?_
        refine Nrm.seq ?_
        refine Tri.ret ?_
        refine Rtn.then ?_
        refine Rtn.block ?_
        refine Rtn.then ?_
        refine Rtn.then ?_
        refine Rtn.block ?_
        refine Rtn.then ?_
        cases hE_1
        replace h := Lr_inr h
        cases h
        exact Rtn.body (.tmp rfl .nil) (fun w hw => ⟨rfl, hw.ext⟩)
      · replace hE_1 := if_ff g_2 hE_1
        refine Tri.skip ?_
        refine Nrm.seq ?_
        refine Tri.seq ?_
        refine Tri.reg (l := [0, 1, 2]) rfl ?_
        refine F.q rfl rfl rfl (wanted_none rfl) (r_move rfl) ?_
        refine F.q rfl rfl rfl (wanted_none rfl) (r_add rfl rfl) ?_
        refine F.q rfl rfl rfl (wanted_none rfl) (r_assign rfl) ?_
        refine F.nil ?_
        refine Nrm.seq ?_
        refine Tri.seq ?_
        obtain ⟨t23, h23, hE_1⟩ := bind_some hE_1
        obtain ⟨_, hc23, hp23⟩ := Rd.elem hr_a0 (rdl_some h23).2.2
        obtain ⟨v23_1, v23_2, rfl, hr_v23_1, hr_v23_2⟩ := op31 hp23
        have hl_v23_1 := hr_v23_1.len
        have hl_v23_2 := hr_v23_2.len
        obtain ⟨t27, h27, hE_1⟩ := bind_some hE_1
        refine Tri.reg (l := [0, 1, 2, 3, 4, 5, 6, 7]) rfl ?_
        refine F.q rfl rfl rfl (wanted_none rfl) (r_move rfl) ?_
        refine F.q rfl rfl rfl (wanted_none rfl) (r_move rfl) ?_
        refine F.q rfl rfl rfl (wanted_none rfl) (r_indexAddrS Try.underlying71 ti31 rfl hl_va0 rfl (rdl_some h23).1 (rdl_some h23).2.1) ?_
        refine F.q rfl rfl rfl (wanted_none rfl) (r_fieldAddr tf31_1 rfl) ?_
        refine F.q rfl rfl rfl (wanted_none rfl) (r_load ta22 rfl (fun w hw => cell_1 (hc23.sep hw) rfl)) ?_
        refine F.q rfl rfl rfl (wanted_none rfl) (r_move rfl) ?_
        refine F.qc rfl rfl rfl (wanted_none rfl) (q_callF (xs := _) rfl ok148 rfl rfl (fun w hw => laws_heldIntA3S.ok h27 w ((fun _ hw => hr_v23_1.sep hw) w hw))) ?_
        refine F.q rfl rfl rfl (wanted_none rfl) (r_assign rfl) ?_
        refine F.nil ?_
        refine Nrm.seq ?_
        refine Tri.seq ?_
        refine Tri.seq ?_
        refine Tri.reg (l := [0, 1]) rfl ?_
        refine F.q rfl rfl rfl (wanted_none rfl) (r_move rfl) ?_
        refine F.q rfl rfl rfl (wanted_none rfl) (r_lss rfl rfl) ?_
        refine F.nil ?_
        refine Nrm.seq ?_
        refine Tri.cond (b := decide (t27 < 0)) rfl (fun g_3 => ?_) (fun g_3 => ?_)
        · replace hE_1 := if_tt g_3 hE_1
          refine Tri.seq ?_
          refine Tri.reg (l := [0]) rfl ?_
          refine F.q rfl rfl rfl (wanted_none rfl) (r_assign rfl) ?_
          refine F.nil ?_
          refine Nrm.seq ?_
          refine Tri.ret ?_
          refine Rtn.then ?_
          refine Rtn.block ?_
          refine Rtn.then ?_
          refine Rtn.then ?_
          refine Rtn.block ?_
          refine Rtn.then ?_
          cases hE_1
          replace h := Lr_inr h
          cases h
          exact Rtn.body (.tmp rfl .nil) (fun w hw => ⟨rfl, hw.ext⟩)
        · replace hE_1 := if_ff g_3 hE_1
          refine Tri.skip ?_
          refine Nrm.seq ?_
          refine Tri.seq ?_
          obtain ⟨t32, h32, hE_1⟩ := bind_some hE_1
          obtain ⟨_, hc32, hp32⟩ := Rd.elem hr_a0 (rdl_some h32).2.2
          obtain ⟨v32_1, v32_2, rfl, hr_v32_1, hr_v32_2⟩ := op31 hp32
          have hl_v32_1 := hr_v32_1.len
          have hl_v32_2 := hr_v32_2.len
          obtain ⟨t36, h36, hE_1⟩ := bind_some hE_1
          refine Tri.reg (l := [0, 1, 2, 3, 4, 5, 6, 7]) rfl ?_
          refine F.q rfl rfl rfl (wanted_none rfl) (r_move rfl) ?_
          refine F.q rfl rfl rfl (wanted_none rfl) (r_move rfl) ?_
          refine F.q rfl rfl rfl (wanted_none rfl) (r_indexAddrS Try.underlying71 ti31 rfl hl_va0 rfl (rdl_some h32).1 (rdl_some h32).2.1) ?_
          refine F.q rfl rfl rfl (wanted_none rfl) (r_fieldAddr tf31_2 rfl) ?_
          refine F.q rfl rfl rfl (wanted_none rfl) (r_load ta23 rfl (fun w hw => cell_1 (hc32.sep hw) rfl)) ?_
          refine F.q rfl rfl rfl (wanted_none rfl) (r_move rfl) ?_
          refine F.qc rfl rfl rfl (wanted_none rfl) (q_callF (xs := _) rfl ok23 rfl rfl (fun w hw => laws_heldIntS.ok h36 w ((fun _ hw => hr_v32_2.sep hw) w hw))) ?_
          refine F.q rfl rfl rfl (wanted_none rfl) (r_assign rfl) ?_
          refine F.nil ?_
          refine Nrm.seq ?_
          refine Tri.seq ?_
          refine Tri.reg (l := [0, 1]) rfl ?_
          refine F.q rfl rfl rfl (wanted_none rfl) (r_move rfl) ?_
          refine F.q rfl rfl rfl (wanted_none rfl) (r_lss rfl rfl) ?_
          refine F.nil ?_
          refine Nrm.seq ?_
          refine Tri.cond (b := decide (t36 < 0)) rfl (fun g_4 => ?_) (fun g_4 => ?_)
          · replace hE_1 := if_tt g_4 hE_1
            refine Tri.seq ?_
            refine Tri.reg (l := [0]) rfl ?_
            refine F.q rfl rfl rfl (wanted_none rfl) (r_assign rfl) ?_
            refine F.nil ?_
            refine Nrm.seq ?_
            refine Tri.ret ?_
            refine Rtn.block ?_
            refine Rtn.then ?_
            refine Rtn.then ?_
            refine Rtn.block ?_
            refine Rtn.then ?_
            cases hE_1
            replace h := Lr_inr h
            cases h
            exact Rtn.body (.tmp rfl .nil) (fun w hw => ⟨rfl, hw.ext⟩)
          · replace hE_1 := if_ff g_4 hE_1
            refine Tri.skip ?_
            refine Nrm.block ?_
            refine Nrm.seq ?_
            refine Tri.reg (l := [0, 1, 2]) rfl ?_
            refine F.q rfl rfl rfl (wanted_none rfl) (r_move rfl) ?_
            refine F.q rfl rfl rfl (wanted_none rfl) (r_add rfl rfl) ?_
            refine F.q rfl rfl rfl (wanted_none rfl) (r_assign rfl) ?_
            refine F.nil ?_
            refine Nrm.round ?_
            refine Rnd.only [0, 1, 5] rfl ?_
            refine Rnd.pick [] rfl rfl ?_
            exact ih_1 _ _ ⟨t36, w64 (x5 + 1), hE_1, rfl, rfl⟩
    · replace hE_1 := if_ff g_1 hE_1
      refine Tri.exit ?_
      refine Exi.then ?_
      refine Exi.then ?_
      refine Exi.same ?_
      cases hE_1
      replace h := Lr_inl h
      refine Nrm.seq ?_
      refine Tri.seq ?_
      refine Tri.reg (l := [0, 1]) rfl ?_
      refine F.q rfl rfl rfl (wanted_none rfl) (r_move rfl) ?_
      refine F.q rfl rfl rfl (wanted_none rfl) (r_assign rfl) ?_
      refine F.nil ?_
      refine Nrm.seq ?_
      refine Tri.ret ?_
      cases h
      exact Rtn.body (.tmp rfl .nil) (fun w hw => ⟨rfl, hw.ext⟩)

end Go.Proofs

/- loop.example/g01158/laws.heldWorlds -/
namespace Go.Proofs
open Go Go.Ga
set_option linter.unusedVariables false
set_option maxRecDepth 100000
set_option maxHeartbeats 4000000
def laws_heldWorlds.f (k : Nat) (a0_0 : List (Int × List (Int × Int × Int) × List Int)) (a0_1 : List (List Int)) (a1 : Int) : Option (Int) := (laws_heldMazeS.f k a0_0 a1).bind fun t8 => (if (decide (t8 < 0)) = true then some (-1) else (laws_heldIntSS.f k a0_1 t8).bind fun t14 => (if (decide (t14 < 0)) = true then some (-1) else some t14))

theorem laws_heldWorlds.ok {k : Nat}  {a0_0 : List (Int × List (Int × Int × Int) × List Int)} {a0_1 : List (List Int)} {a1 : Int} {r0 : Int} (h : laws_heldWorlds.f k a0_0 a0_1 a1 = some r0) (w : World) {va0_0 : Value} {va0_1 : Value} (hr_a0_0 : Rd w va0_0 a0_0) (hr_a0_1 : Rd w va0_1 a0_1) :
    Calls Try.prog 53 ([.agg ([va0_0, va0_1].toArray), .int .i64 a1] : List Value).toArray w (fun e w' => e = .returned (.int .i64 r0) ∧ Ext w w') := by
  unfold laws_heldWorlds.f at h
  have hl_va0_0 := hr_a0_0.len
  have hl_va0_1 := hr_a0_1.len
  refine Calls.of_tri (N := 18) Try.func53 rfl rfl rfl (Sep.nil (M := noM)) ?_
  refine Tri.seq ?_
  refine Tri.reg (l := [0, 1]) rfl ?_
  refine F.m rfl rfl rfl (wanted_none rfl) (m_boxG rfl rfl) ?_
  rintro _ _ ⟨b2_1, rfl, rfl⟩
  refine F.q rfl rfl rfl (wanted_none rfl) (r_assign rfl) ?_
  refine F.nil ?_
  refine Nrm.seq ?_
  refine Tri.seq ?_
  obtain ⟨t8, h8, h⟩ := bind_some h
  refine Tri.reg (l := [0, 1, 2, 3, 4]) rfl ?_
  refine F.q rfl rfl rfl (wanted_none rfl) (r_fieldAddr tf73_0 rfl) ?_
  refine F.q rfl rfl rfl (wanted_none rfl) (r_load ta71 rfl (fun w hw => cell_1 (box_cells (i := 0) rfl w hw) rfl)) ?_
  refine F.q rfl rfl rfl (wanted_none rfl) (r_move rfl) ?_
  refine F.qc rfl rfl rfl (wanted_none rfl) (q_callF (xs := _) rfl ok110 rfl rfl (fun w hw => laws_heldMazeS.ok h8 w ((fun _ hw => hr_a0_0.sep hw) w hw))) ?_
  refine F.q rfl rfl rfl (wanted_none rfl) (r_assign rfl) ?_
  refine F.nil ?_
  refine Nrm.seq ?_
  refine Tri.seq ?_
  refine Tri.seq ?_
  refine Tri.reg (l := [0, 1]) rfl ?_
  refine F.q rfl rfl rfl (wanted_none rfl) (r_move rfl) ?_
  refine F.q rfl rfl rfl (wanted_none rfl) (r_lss rfl rfl) ?_
  refine F.nil ?_
  refine Nrm.seq ?_
  refine Tri.cond (b := decide (t8 < 0)) rfl (fun g_1 => ?_) (fun g_1 => ?_)
  · replace h := if_tt g_1 h
    refine Tri.seq ?_
    refine Tri.reg (l := [0]) rfl ?_
    refine F.q rfl rfl rfl (wanted_none rfl) (r_assign rfl) ?_
    refine F.nil ?_
    refine Nrm.seq ?_
    refine Tri.ret ?_
    refine Rtn.then ?_
    cases h
    exact Rtn.body (.tmp rfl .nil) (fun w hw => ⟨rfl, hw.ext⟩)
  · replace h := if_ff g_1 h
    refine Tri.skip ?_
    refine Nrm.seq ?_
    refine Tri.seq ?_
    obtain ⟨t14, h14, h⟩ := bind_some h
    refine Tri.reg (l := [0, 1, 2, 3, 4]) rfl ?_
    refine F.q rfl rfl rfl (wanted_none rfl) (r_fieldAddr tf73_1 rfl) ?_
    refine F.q rfl rfl rfl (wanted_none rfl) (r_load ta65 rfl (fun w hw => cell_1 (box_cells (i := 0) rfl w hw) rfl)) ?_
    refine F.q rfl rfl rfl (wanted_none rfl) (r_move rfl) ?_
    refine F.qc rfl rfl rfl (wanted_none rfl) (q_callF (xs := _) rfl ok58 rfl rfl (fun w hw => laws_heldIntSS.ok h14 w ((fun _ hw => hr_a0_1.sep hw) w hw))) ?_
    refine F.q rfl rfl rfl (wanted_none rfl) (r_assign rfl) ?_
    refine F.nil ?_
    refine Nrm.seq ?_
    refine Tri.seq ?_
    refine Tri.seq ?_
    refine Tri.reg (l := [0, 1]) rfl ?_
    refine F.q rfl rfl rfl (wanted_none rfl) (r_move rfl) ?_
    refine F.q rfl rfl rfl (wanted_none rfl) (r_lss rfl rfl) ?_
    refine F.nil ?_
    refine Nrm.seq ?_
    refine Tri.cond (b := decide (t14 < 0)) rfl (fun g_2 => ?_) (fun g_2 => ?_)
    · replace h := if_tt g_2 h
      refine Tri.seq ?_
      refine Tri.reg (l := [0]) rfl ?_
      refine F.q rfl rfl rfl (wanted_none rfl) (r_assign rfl) ?_
      refine F.nil ?_
      refine Nrm.seq ?_
      refine Tri.ret ?_
      refine Rtn.then ?_
      cases h
      exact Rtn.body (.tmp rfl .nil) (fun w hw => ⟨rfl, hw.ext⟩)
    · replace h := if_ff g_2 h
      refine Tri.skip ?_
      refine Nrm.seq ?_
      refine Tri.seq ?_
      refine Tri.reg (l := [0, 1]) rfl ?_
      refine F.q rfl rfl rfl (wanted_none rfl) (r_move rfl) ?_
      refine F.q rfl rfl rfl (wanted_none rfl) (r_assign rfl) ?_
      refine F.nil ?_
      refine Nrm.seq ?_
      refine Tri.ret ?_
      cases h
      exact Rtn.body (.tmp rfl .nil) (fun w hw => ⟨rfl, hw.ext⟩)

end Go.Proofs

/- loop.example/g01158/laws.FnExactGiveKeys -/
namespace Go.Proofs
open Go Go.Ga
set_option linter.unusedVariables false
set_option maxRecDepth 100000
set_option maxHeartbeats 4000000
def laws_FnExactGiveKeys.f (k : Nat) (a0_0 : List (Int × List (Int × Int × Int) × List Int)) (a0_1 : List (List Int)) (a1 : Int) (a2 : Int) (a3 : Int) : Option (Bool) := (laws_szWorlds.f k a0_0 a0_1 1048576).bind fun t22 => (if (decide (t22 < 0)) = true then some true else (laws_toWorlds.f k a0_0 a0_1).bind fun (t27_1, t27_2) => (spec_GiveKeys.f k t27_1 t27_2 a1 a2 a3).bind fun (t31_1, t31_2, t31_3) => (laws_toWorlds.f k a0_0 a0_1).bind fun (t35_1, t35_2) => (impl_GiveKeys.f k t35_1 t35_2 a1 a2 a3).bind fun (t41_1, t41_2, t41_3) => ((laws_eqWorlds.f k t41_1 t41_2 t31_1 t31_2).bind fun t46 => (if (!t46) = true then some true else some (t41_3 != t31_3))).bind fun y52 => (if y52 = true then some false else (laws_toWorlds.f k a0_0 a0_1).bind fun (t55_1, t55_2) => (laws_eqWorlds.f k t35_1 t35_2 t55_1 t55_2).bind fun t56 => (if (!t56) = true then some false else (laws_markWorlds.f k t35_1 t35_2 1).bind fun (t60_1, t60_2, t60_3) => ((if (decide (t60_1 < 0)) = true then some true else (laws_eqWorlds.f k t41_1 t41_2 t31_1 t31_2).bind fun t66 => (if (!t66) = true then some true else some (t41_3 != t31_3)))).bind fun y73 => (if y73 = true then some false else (laws_markWorlds.f k t41_1 t41_2 1).bind fun (t76_1, t76_2, t76_3) => (laws_heldWorlds.f k t76_2 t76_3 1).bind fun t79 => (if (decide (t79 < 0)) = true then some false else (if (t79 != t76_1) = true then some false else (laws_toWorlds.f k a0_0 a0_1).bind fun (t87_1, t87_2) => (impl_GiveKeys.f k t87_1 t87_2 a1 a2 a3).bind fun (t91_1, t91_2, t91_3) => ((laws_eqWorlds.f k t91_1 t91_2 t31_1 t31_2).bind fun t96 => (if (!t96) = true then some true else some (t91_3 != t31_3))).bind fun y102 => (if y102 = true then some false else (laws_heldWorlds.f k t76_2 t76_3 1).bind fun t105 => (if (decide (t105 < 0)) = true then some false else (if (t105 != t76_1) = true then some false else some true)))))))))

theorem laws_FnExactGiveKeys.ok {k : Nat}  {a0_0 : List (Int × List (Int × Int × Int) × List Int)} {a0_1 : List (List Int)} {a1 : Int} {a2 : Int} {a3 : Int} {r0 : Bool} (h : laws_FnExactGiveKeys.f k a0_0 a0_1 a1 a2 a3 = some r0) (w : World) {va0_0 : Value} {va0_1 : Value} (hr_a0_0 : Rd w va0_0 a0_0) (hr_a0_1 : Rd w va0_1 a0_1) :
    Calls Try.prog 10 ([.agg ([va0_0, va0_1].toArray), .int .i64 a1, .int .i64 a2, .int .i64 a3] : List Value).toArray w (fun e w' => e = .returned (.bool r0) ∧ Ext w w') := by
  unfold laws_FnExactGiveKeys.f at h
  have hl_va0_0 := hr_a0_0.len
  have hl_va0_1 := hr_a0_1.len
  refine Calls.of_tri (N := 111) Try.func10 rfl rfl rfl (Sep.nil (M := noM)) ?_
  refine Tri.seq ?_
  refine Tri.reg (l := [0, 1]) rfl ?_
  refine F.m rfl rfl rfl (wanted_none rfl) (m_boxG rfl rfl) ?_
  rintro _ _ ⟨b4_1, rfl, rfl⟩
  refine F.q rfl rfl rfl (wanted_none rfl) (r_assign rfl) ?_
  refine F.nil ?_
  refine Nrm.seq ?_
  refine Tri.seq ?_
  refine Tri.reg (l := [0]) rfl ?_
  refine F.q rfl rfl rfl (wanted_none rfl) (r_assign rfl) ?_
  refine F.nil ?_
  refine Nrm.seq ?_
  refine Tri.seq ?_
  obtain ⟨t22, h22, h⟩ := bind_some h
  refine Tri.reg (l := [0, 1, 2, 3]) rfl ?_
  refine F.q rfl rfl rfl (wanted_none rfl) (r_loadA ta67 ti67 rfl rfl (fun w hw => (box_cells (i := 0) rfl w hw))) ?_
  refine F.q rfl rfl rfl (wanted_none rfl) (r_move rfl) ?_
  refine F.qc rfl rfl rfl (wanted_none rfl) (q_callF (xs := _) rfl ok45 rfl rfl (fun w hw => laws_szWorlds.ok h22 w ((fun _ hw => hr_a0_0.sep hw) w hw) ((fun _ hw => hr_a0_1.sep hw) w hw))) ?_
  refine F.q rfl rfl rfl (wanted_none rfl) (r_assign rfl) ?_
  refine F.nil ?_
  refine Nrm.seq ?_
  refine Tri.seq ?_
  refine Tri.seq ?_
  refine Tri.reg (l := [0, 1]) rfl ?_
  refine F.q rfl rfl rfl (wanted_none rfl) (r_move rfl) ?_
  refine F.q rfl rfl rfl (wanted_none rfl) (r_lss rfl rfl) ?_
  refine F.nil ?_
  refine Nrm.seq ?_
  refine Tri.cond (b := decide (t22 < 0)) rfl (fun g_1 => ?_) (fun g_1 => ?_)
  · replace h := if_tt g_1 h
    refine Tri.seq ?_
    refine Tri.reg (l := [0]) rfl ?_
    refine F.q rfl rfl rfl (wanted_none rfl) (r_assign rfl) ?_
    refine F.nil ?_
    refine Nrm.seq ?_
    refine Tri.ret ?_
    refine Rtn.then ?_
    cases h
    exact Rtn.body (.tmp rfl .nil) (fun w hw => ⟨rfl, hw.ext⟩)
  · replace h := if_ff g_1 h
    refine Tri.skip ?_
    refine Nrm.seq ?_
    refine Tri.seq ?_
    obtain ⟨⟨t27_1, t27_2⟩, h27, h⟩ := bind_some h
    obtain ⟨⟨t31_1, t31_2, t31_3⟩, h31, h⟩ := bind_some h
    refine Tri.reg (l := [0, 1, 2, 3, 4, 5, 6, 7, 8, 9, 10, 11]) rfl ?_
    refine F.q rfl rfl rfl (wanted_none rfl) (r_loadA ta67 ti67 rfl rfl (fun w hw => (box_cells (i := 0) rfl w hw))) ?_
    refine F.m rfl rfl rfl (wanted_none rfl) (m_callF (xs := _) rfl ok47 rfl rfl (fun w hw => laws_toWorlds.ok h27 w ((fun _ hw => hr_a0_0.sep hw) w hw) ((fun _ hw => hr_a0_1.sep hw) w hw))) ?_
    rintro _ _ ⟨_, ⟨v27_1, S27_1, v27_2, S27_2, rfl, hl_v27_1, hl_v27_2, rfl⟩, rfl⟩
    refine F.q rfl rfl rfl (wanted_none rfl) (r_move rfl) ?_
    refine F.q rfl rfl rfl (wanted_none rfl) (r_move rfl) ?_
    refine F.q rfl rfl rfl (wanted_none rfl) (r_move rfl) ?_
    refine F.m rfl rfl rfl (wanted_none rfl) (m_callF (xs := _) rfl ok50 rfl rfl (fun w hw => spec_GiveKeys.ok h31 w ((rd_sl (i := 0) rfl) w hw) ((rd_sl (i := 1) rfl) w hw))) ?_
    rintro _ _ ⟨_, ⟨v31_1, S31_1, v31_2, S31_2, rfl, hl_v31_1, hl_v31_2, rfl⟩, rfl⟩
    refine F.q rfl rfl rfl (wanted_none rfl) (r_move rfl) ?_
    refine F.q rfl rfl rfl (wanted_none rfl) (r_extract rfl rfl) ?_
    refine F.q rfl rfl rfl (wanted_none rfl) (r_extract rfl rfl) ?_
    refine F.m rfl rfl rfl (wanted_none rfl) (m_alloc ti73) ?_
    rintro _ _ ⟨b10_1, rfl, rfl⟩
    refine F.ef0 rfl rfl (wanted_none rfl) (d_storeG0 (i := 0) (cs2 := [v31_1, v31_2]) ti73 rfl rfl rfl rfl rfl (Nat.le_of_ble_eq_true rfl) (lf_cons (sl_leaf hl_v31_1) (lf_cons (sl_leaf hl_v31_2) lf_nil))) ?_
    rintro _ _ ⟨rfl, rfl⟩
    refine F.q rfl rfl rfl (wanted_none rfl) (r_assign rfl) ?_
    refine F.nil ?_
    refine Nrm.seq ?_
    refine Tri.seq ?_
    obtain ⟨⟨t35_1, t35_2⟩, h35, h⟩ := bind_some h
    refine Tri.reg (l := [0, 1, 2, 3]) rfl ?_
    refine F.q rfl rfl rfl (wanted_none rfl) (r_loadA ta67 ti67 rfl rfl (fun w hw => (box_cells (i := 5) rfl w hw))) ?_
    refine F.m rfl rfl rfl (wanted_none rfl) (m_callF (xs := _) rfl ok47 rfl rfl (fun w hw => laws_toWorlds.ok h35 w ((fun _ hw => hr_a0_0.sep hw) w hw) ((fun _ hw => hr_a0_1.sep hw) w hw))) ?_
    rintro _ _ ⟨_, ⟨v35_1, S35_1, v35_2, S35_2, rfl, hl_v35_1, hl_v35_2, rfl⟩, rfl⟩
    refine F.m rfl rfl rfl (wanted_none rfl) (m_alloc ti73) ?_
    rintro _ _ ⟨b12_1, rfl, rfl⟩
    refine F.ef0 rfl rfl (wanted_none rfl) (d_storeG0 (i := 0) (cs2 := [v35_1, v35_2]) ti73 rfl rfl rfl rfl rfl (Nat.le_of_ble_eq_true rfl) (lf_cons (sl_leaf hl_v35_1) (lf_cons (sl_leaf hl_v35_2) lf_nil))) ?_
    rintro _ _ ⟨rfl, rfl⟩
    refine F.nil ?_
    refine Nrm.seq ?_
    refine Tri.seq ?_
    obtain ⟨⟨t41_1, t41_2, t41_3⟩, h41, h⟩ := bind_some h
    refine Tri.reg (l := [0, 1, 2, 3, 4, 5, 6, 7, 8, 9, 10]) rfl ?_
    refine F.q rfl rfl rfl (wanted_none rfl) (r_loadA ta73 ti73 rfl rfl (fun w hw => (box_cells (i := 0) rfl w hw))) ?_
    refine F.q rfl rfl rfl (wanted_none rfl) (r_move rfl) ?_
    refine F.q rfl rfl rfl (wanted_none rfl) (r_move rfl) ?_
    refine F.q rfl rfl rfl (wanted_none rfl) (r_move rfl) ?_
    refine F.m rfl rfl rfl (wanted_none rfl) (m_callF (xs := _) rfl ok51 rfl rfl (fun w hw => impl_GiveKeys.ok h41 w ((rd_sl (i := 1) rfl) w hw) ((rd_sl (i := 2) rfl) w hw))) ?_
    rintro _ _ ⟨_, ⟨v41_1, S41_1, v41_2, S41_2, rfl, hl_v41_1, hl_v41_2, rfl⟩, rfl⟩
    refine F.q rfl rfl rfl (wanted_none rfl) (r_move rfl) ?_
    refine F.q rfl rfl rfl (wanted_none rfl) (r_extract rfl rfl) ?_
    refine F.q rfl rfl rfl (wanted_none rfl) (r_extract rfl rfl) ?_
    refine F.m rfl rfl rfl (wanted_none rfl) (m_alloc ti73) ?_
    rintro _ _ ⟨b13_1, rfl, rfl⟩
    refine F.ef0 rfl rfl (wanted_none rfl) (d_storeG0 (i := 0) (cs2 := [v41_1, v41_2]) ti73 rfl rfl rfl rfl rfl (Nat.le_of_ble_eq_true rfl) (lf_cons (sl_leaf hl_v41_1) (lf_cons (sl_leaf hl_v41_2) lf_nil))) ?_
    rintro _ _ ⟨rfl, rfl⟩
    refine F.q rfl rfl rfl (wanted_none rfl) (r_assign rfl) ?_
    refine F.nil ?_
    refine Nrm.seq ?_
    refine Tri.seq ?_
    refine Tri.seq ?_
    obtain ⟨y52, hE_1, h⟩ := bind_some h
    refine Tri.cut (fun e' C' => e' = [(1, .int .i64 a1), (2, .int .i64 a2), (3, .int .i64 a3), (4, .pointer (some ⟨b4_1, 0, none⟩)), (10, .pointer (some ⟨b10_1, 0, none⟩)), (11, .bool t31_3), (12, .pointer (some ⟨b12_1, 0, none⟩)), (13, .pointer (some ⟨b13_1, 0, none⟩)), (14, .bool t41_3), (52, .bool y52)] ∧ C' = Sep w noM [R.box b13_1 73 [v41_1, v41_2], R.box b12_1 73 [v35_1, v35_2], R.box b10_1 73 [v31_1, v31_2], R.box b4_1 67 [va0_0, va0_1], R.sl S31_1 v31_1 (t31_1 : List (Int × List (Int × Int × Int) × List Int)), R.sl S31_2 v31_2 (t31_2 : List (List Int)), R.sl S35_1 v35_1 (t35_1 : List (Int × List (Int × Int × Int) × List Int)), R.sl S35_2 v35_2 (t35_2 : List (List Int)), R.sl S41_1 v41_1 (t41_1 : List (Int × List (Int × Int × Int) × List Int)), R.sl S41_2 v41_2 (t41_2 : List (List Int))]) ?_ (fun hj_1 => ?_)
    · rintro _ _ ⟨rfl, rfl⟩
      refine Nrm.seq ?_
      refine Tri.cond (b := y52) rfl (fun g_2 => ?_) (fun g_2 => ?_)
      · replace h := if_tt g_2 h
        refine Tri.seq ?_
        refine Tri.reg (l := [0]) rfl ?_
        refine F.q rfl rfl rfl (wanted_none rfl) (r_assign rfl) ?_
        refine F.nil ?_
        refine Nrm.seq ?_
        refine Tri.ret ?_
        refine Rtn.then ?_
        cases h
        exact Rtn.body (.tmp rfl .nil) (fun w hw => ⟨rfl, hw.ext⟩)
      · replace h := if_ff g_2 h
        refine Tri.skip ?_
        refine Nrm.seq ?_
        refine Tri.seq ?_
        refine Tri.seq ?_
        obtain ⟨⟨t55_1, t55_2⟩, h55, h⟩ := bind_some h
        obtain ⟨t56, h56, h⟩ := bind_some h
        refine Tri.drawA mixedT Sep.up [(0, true), (1, true), (2, false), (3, true), (4, true)] [] (by kernel_rfl) ?_
        refine S.q rfl rfl rfl (wanted_none rfl) (r_loadA ta73 ti73 rfl rfl (fun w hw => (box_cells (i := 1) rfl w hw))) ?_
        refine S.q rfl rfl rfl (wanted_none rfl) (r_loadA ta67 ti67 rfl rfl (fun w hw => (box_cells (i := 3) rfl w hw))) ?_
        refine S.m rfl rfl rfl (wanted_none rfl) (m_callF (xs := _) rfl ok47 rfl rfl (fun w hw => laws_toWorlds.ok h55 w ((fun _ hw => hr_a0_0.sep hw) w hw) ((fun _ hw => hr_a0_1.sep hw) w hw))) ?_
        rintro _ _ ⟨_, ⟨v55_3, S55_3, v55_4, S55_4, rfl, hl_v55_3, hl_v55_4, rfl⟩, rfl⟩
        refine S.qc rfl rfl rfl (wanted_none rfl) (q_callF (xs := _) rfl ok49 rfl rfl (fun w hw => laws_eqWorlds.ok h56 w ((rd_sl (i := 8) rfl) w hw) ((rd_sl (i := 9) rfl) w hw) ((rd_sl (i := 0) rfl) w hw) ((rd_sl (i := 1) rfl) w hw))) ?_
        refine S.q rfl rfl rfl (wanted_none rfl) (r_not rfl) ?_
        refine S.nil ?_
        refine F.nil ?_
        refine Nrm.seq ?_
        refine Tri.cond (b := !t56) rfl (fun g_3 => ?_) (fun g_3 => ?_)
        · replace h := if_tt g_3 h
          refine Tri.seq ?_
          refine Tri.reg (l := [0]) rfl ?_
          refine F.q rfl rfl rfl (wanted_none rfl) (r_assign rfl) ?_
          refine F.nil ?_
          refine Nrm.seq ?_
          refine Tri.ret ?_
          refine Rtn.then ?_
          cases h
          exact Rtn.body (.tmp rfl .nil) (fun w hw => ⟨rfl, hw.ext⟩)
        · replace h := if_ff g_3 h
          refine Tri.skip ?_
          refine Nrm.seq ?_
          refine Tri.seq ?_
          refine Tri.reg (l := [0]) rfl ?_
          refine F.q rfl rfl rfl (wanted_none rfl) (r_assign rfl) ?_
          refine F.nil ?_
          refine Nrm.seq ?_
          refine Tri.seq ?_
          obtain ⟨⟨t60_1, t60_2, t60_3⟩, h60, h⟩ := bind_some h
          refine Tri.reg (l := [0, 1, 2, 3]) rfl ?_
          refine F.q rfl rfl rfl (wanted_none rfl) (r_loadA ta73 ti73 rfl rfl (fun w hw => (box_cells (i := 3) rfl w hw))) ?_
          refine F.q rfl rfl rfl (wanted_none rfl) (r_move rfl) ?_
          refine F.ef rfl rfl rfl (wanted_none rfl) (d_callM (xs := _) (cs := [R.sl S35_1 v35_1 (t35_1 : List (Int × List (Int × Int × Int) × List Int)), R.sl S35_2 v35_2 (t35_2 : List (List Int))]) (rest := [R.sl S55_3 v55_3 (t55_1 : List (Int × List (Int × Int × Int) × List Int)), R.sl S55_4 v55_4 (t55_2 : List (List Int)), R.box b13_1 73 [v41_1, v41_2], R.box b12_1 73 [v35_1, v35_2], R.box b10_1 73 [v31_1, v31_2], R.box b4_1 67 [va0_0, va0_1], R.sl S31_1 v31_1 (t31_1 : List (Int × List (Int × Int × Int) × List Int)), R.sl S31_2 v31_2 (t31_2 : List (List Int)), R.sl S41_1 v41_1 (t41_1 : List (Int × List (Int × Int × Int) × List Int)), R.sl S41_2 v41_2 (t41_2 : List (List Int))]) [8, 9] [0, 1, 2, 3, 4, 5, 6, 7, 10, 11] rfl ok52 rfl rfl rfl rfl (fun w hw => laws_markWorlds.ok h60 w hl_v35_1 hl_v35_2 (Sep.sub hw))) ?_
          rintro _ _ ⟨_, ⟨rfl, hl_t60_2, hl_t60_3, rfl⟩, rfl⟩
          refine F.q rfl rfl rfl (wanted_none rfl) (r_assign rfl) ?_
          refine F.nil ?_
          refine Nrm.seq ?_
          refine Tri.seq ?_
          refine Tri.seq ?_
          obtain ⟨y73, hE_2, h⟩ := bind_some h
          refine Tri.cut (fun e' C' => e' = [(1, .int .i64 a1), (2, .int .i64 a2), (3, .int .i64 a3), (4, .pointer (some ⟨b4_1, 0, none⟩)), (10, .pointer (some ⟨b10_1, 0, none⟩)), (11, .bool t31_3), (13, .pointer (some ⟨b13_1, 0, none⟩)), (73, .bool y73)] ∧ C' = Sep w noM [R.box b13_1 73 [v41_1, v41_2], R.box b10_1 73 [v31_1, v31_2], R.box b4_1 67 [va0_0, va0_1], R.sl S31_1 v31_1 (t31_1 : List (Int × List (Int × Int × Int) × List Int)), R.sl S31_2 v31_2 (t31_2 : List (List Int)), R.sl S41_1 v41_1 (t41_1 : List (Int × List (Int × Int × Int) × List Int)), R.sl S41_2 v41_2 (t41_2 : List (List Int))]) ?_ (fun hj_2 => ?_)
          · rintro _ _ ⟨rfl, rfl⟩
            refine Nrm.seq ?_
            refine Tri.cond (b := y73) rfl (fun g_4 => ?_) (fun g_4 => ?_)
            · replace h := if_tt g_4 h
              refine Tri.seq ?_
              refine Tri.reg (l := [0]) rfl ?_
              refine F.q rfl rfl rfl (wanted_none rfl) (r_assign rfl) ?_
              refine F.nil ?_
              refine Nrm.seq ?_
              refine Tri.ret ?_
              refine Rtn.then ?_
              cases h
              exact Rtn.body (.tmp rfl .nil) (fun w hw => ⟨rfl, hw.ext⟩)
            · replace h := if_ff g_4 h
              refine Tri.skip ?_
              refine Nrm.seq ?_
              refine Tri.seq ?_
              refine Tri.reg (l := [0]) rfl ?_
              refine F.q rfl rfl rfl (wanted_none rfl) (r_assign rfl) ?_
              refine F.nil ?_
              refine Nrm.seq ?_
              refine Tri.seq ?_
              obtain ⟨⟨t76_1, t76_2, t76_3⟩, h76, h⟩ := bind_some h
              refine Tri.reg (l := [0, 1, 2, 3]) rfl ?_
              refine F.q rfl rfl rfl (wanted_none rfl) (r_loadA ta73 ti73 rfl rfl (fun w hw => (box_cells (i := 0) rfl w hw))) ?_
              refine F.q rfl rfl rfl (wanted_none rfl) (r_move rfl) ?_
              refine F.ef rfl rfl rfl (wanted_none rfl) (d_callM (xs := _) (cs := [R.sl S41_1 v41_1 (t41_1 : List (Int × List (Int × Int × Int) × List Int)), R.sl S41_2 v41_2 (t41_2 : List (List Int))]) (rest := [R.box b13_1 73 [v41_1, v41_2], R.box b10_1 73 [v31_1, v31_2], R.box b4_1 67 [va0_0, va0_1], R.sl S31_1 v31_1 (t31_1 : List (Int × List (Int × Int × Int) × List Int)), R.sl S31_2 v31_2 (t31_2 : List (List Int))]) [5, 6] [0, 1, 2, 3, 4] rfl ok52 rfl rfl rfl rfl (fun w hw => laws_markWorlds.ok h76 w hl_v41_1 hl_v41_2 (Sep.sub hw))) ?_
              rintro _ _ ⟨_, ⟨rfl, hl_t76_2, hl_t76_3, rfl⟩, rfl⟩
              refine F.q rfl rfl rfl (wanted_none rfl) (r_assign rfl) ?_
              refine F.nil ?_
              refine Nrm.seq ?_
              refine Tri.seq ?_
              refine Tri.reg (l := [0]) rfl ?_
              refine F.q rfl rfl rfl (wanted_none rfl) (r_assign rfl) ?_
              refine F.nil ?_
              refine Nrm.seq ?_
              refine Tri.seq ?_
              obtain ⟨t79, h79, h⟩ := bind_some h
              refine Tri.reg (l := [0, 1, 2, 3]) rfl ?_
              refine F.q rfl rfl rfl (wanted_none rfl) (r_loadA ta73 ti73 rfl rfl (fun w hw => (box_cells (i := 2) rfl w hw))) ?_
              refine F.q rfl rfl rfl (wanted_none rfl) (r_move rfl) ?_
              refine F.qc rfl rfl rfl (wanted_none rfl) (q_callF (xs := _) rfl ok53 rfl rfl (fun w hw => laws_heldWorlds.ok h79 w ((rd_sl (i := 0) rfl) w hw) ((rd_sl (i := 1) rfl) w hw))) ?_
              refine F.q rfl rfl rfl (wanted_none rfl) (r_assign rfl) ?_
              refine F.nil ?_
              refine Nrm.seq ?_
              refine Tri.seq ?_
              refine Tri.seq ?_
              refine Tri.reg (l := [0, 1]) rfl ?_
              refine F.q rfl rfl rfl (wanted_none rfl) (r_move rfl) ?_
              refine F.q rfl rfl rfl (wanted_none rfl) (r_lss rfl rfl) ?_
              refine F.nil ?_
              refine Nrm.seq ?_
              refine Tri.cond (b := decide (t79 < 0)) rfl (fun g_5 => ?_) (fun g_5 => ?_)
              · replace h := if_tt g_5 h
                refine Tri.seq ?_
                refine Tri.reg (l := [0]) rfl ?_
                refine F.q rfl rfl rfl (wanted_none rfl) (r_assign rfl) ?_
                refine F.nil ?_
                refine Nrm.seq ?_
                refine Tri.ret ?_
                refine Rtn.then ?_
                cases h
                exact Rtn.body (.tmp rfl .nil) (fun w hw => ⟨rfl, hw.ext⟩)
              · replace h := if_ff g_5 h
                refine Tri.skip ?_
                refine Nrm.seq ?_
                refine Tri.seq ?_
                refine Tri.seq ?_
                refine Tri.reg (l := [0, 1, 2]) rfl ?_
                refine F.q rfl rfl rfl (wanted_none rfl) (r_move rfl) ?_
                refine F.q rfl rfl rfl (wanted_none rfl) (r_move rfl) ?_
                refine F.q rfl rfl rfl (wanted_none rfl) (r_neq rfl rfl) ?_
                refine F.nil ?_
                refine Nrm.seq ?_
                refine Tri.cond (b := t79 != t76_1) rfl (fun g_6 => ?_) (fun g_6 => ?_)
                · replace h := if_tt g_6 h
                  refine Tri.seq ?_
                  refine Tri.reg (l := [0]) rfl ?_
                  refine F.q rfl rfl rfl (wanted_none rfl) (r_assign rfl) ?_
                  refine F.nil ?_
                  refine Nrm.seq ?_
                  refine Tri.ret ?_
                  refine Rtn.then ?_
                  cases h
                  exact Rtn.body (.tmp rfl .nil) (fun w hw => ⟨rfl, hw.ext⟩)
                · replace h := if_ff g_6 h
                  refine Tri.skip ?_
                  refine Nrm.seq ?_
                  refine Tri.seq ?_
                  obtain ⟨⟨t87_1, t87_2⟩, h87, h⟩ := bind_some h
                  obtain ⟨⟨t91_1, t91_2, t91_3⟩, h91, h⟩ := bind_some h
                  refine Tri.reg (l := [0, 1, 2, 3, 4, 5, 6, 7, 8, 9, 10, 11]) rfl ?_
                  refine F.q rfl rfl rfl (wanted_none rfl) (r_loadA ta67 ti67 rfl rfl (fun w hw => (box_cells (i := 4) rfl w hw))) ?_
                  refine F.m rfl rfl rfl (wanted_none rfl) (m_callF (xs := _) rfl ok47 rfl rfl (fun w hw => laws_toWorlds.ok h87 w ((fun _ hw => hr_a0_0.sep hw) w hw) ((fun _ hw => hr_a0_1.sep hw) w hw))) ?_
                  rintro _ _ ⟨_, ⟨v87_1, S87_1, v87_2, S87_2, rfl, hl_v87_1, hl_v87_2, rfl⟩, rfl⟩
                  refine F.q rfl rfl rfl (wanted_none rfl) (r_move rfl) ?_
                  refine F.q rfl rfl rfl (wanted_none rfl) (r_move rfl) ?_
                  refine F.q rfl rfl rfl (wanted_none rfl) (r_move rfl) ?_
                  refine F.m rfl rfl rfl (wanted_none rfl) (m_callF (xs := _) rfl ok51 rfl rfl (fun w hw => impl_GiveKeys.ok h91 w ((rd_sl (i := 0) rfl) w hw) ((rd_sl (i := 1) rfl) w hw))) ?_
                  rintro _ _ ⟨_, ⟨v91_1, S91_1, v91_2, S91_2, rfl, hl_v91_1, hl_v91_2, rfl⟩, rfl⟩
                  refine F.q rfl rfl rfl (wanted_none rfl) (r_move rfl) ?_
                  refine F.q rfl rfl rfl (wanted_none rfl) (r_extract rfl rfl) ?_
                  refine F.q rfl rfl rfl (wanted_none rfl) (r_extract rfl rfl) ?_
                  refine F.m rfl rfl rfl (wanted_none rfl) (m_alloc ti73) ?_
                  rintro _ _ ⟨b18_1, rfl, rfl⟩
                  refine F.ef0 rfl rfl (wanted_none rfl) (d_storeG0 (i := 0) (cs2 := [v91_1, v91_2]) ti73 rfl rfl rfl rfl rfl (Nat.le_of_ble_eq_true rfl) (lf_cons (sl_leaf hl_v91_1) (lf_cons (sl_leaf hl_v91_2) lf_nil))) ?_
                  rintro _ _ ⟨rfl, rfl⟩
                  refine F.q rfl rfl rfl (wanted_none rfl) (r_assign rfl) ?_
                  refine F.nil ?_
                  refine Nrm.seq ?_
                  refine Tri.seq ?_
                  refine Tri.seq ?_
                  obtain ⟨y102, hE_3, h⟩ := bind_some h
                  refine Tri.cut (fun e' C' => e' = [(13, .pointer (some ⟨b13_1, 0, none⟩)), (16, .int .i64 t76_1), (102, .bool y102)] ∧ C' = Sep w noM [R.box b13_1 73 [v41_1, v41_2], R.sl S41_1 v41_1 (t76_2 : List (Int × List (Int × Int × Int) × List Int)), R.sl S41_2 v41_2 (t76_3 : List (List Int))]) ?_ (fun hj_3 => ?_)
                  · rintro _ _ ⟨rfl, rfl⟩
                    refine Nrm.seq ?_
                    refine Tri.cond (b := y102) rfl (fun g_7 => ?_) (fun g_7 => ?_)
                    · replace h := if_tt g_7 h
                      refine Tri.seq ?_
                      refine Tri.reg (l := [0]) rfl ?_
                      refine F.q rfl rfl rfl (wanted_none rfl) (r_assign rfl) ?_
                      refine F.nil ?_
                      refine Nrm.seq ?_
                      refine Tri.ret ?_
                      refine Rtn.then ?_
                      cases h
                      exact Rtn.body (.tmp rfl .nil) (fun w hw => ⟨rfl, hw.ext⟩)
                    · replace h := if_ff g_7 h
                      refine Tri.skip ?_
                      refine Nrm.seq ?_
                      refine Tri.seq ?_
                      refine Tri.reg (l := [0]) rfl ?_
                      refine F.q rfl rfl rfl (wanted_none rfl) (r_assign rfl) ?_
                      refine F.nil ?_
                      refine Nrm.seq ?_
                      refine Tri.seq ?_
                      obtain ⟨t105, h105, h⟩ := bind_some h
                      refine Tri.reg (l := [0, 1, 2, 3]) rfl ?_
                      refine F.q rfl rfl rfl (wanted_none rfl) (r_loadA ta73 ti73 rfl rfl (fun w hw => (box_cells (i := 0) rfl w hw))) ?_
                      refine F.q rfl rfl rfl (wanted_none rfl) (r_move rfl) ?_
                      refine F.qc rfl rfl rfl (wanted_none rfl) (q_callF (xs := _) rfl ok53 rfl rfl (fun w hw => laws_heldWorlds.ok h105 w ((rd_sl (i := 1) rfl) w hw) ((rd_sl (i := 2) rfl) w hw))) ?_
                      refine F.q rfl rfl rfl (wanted_none rfl) (r_assign rfl) ?_
                      refine F.nil ?_
                      refine Nrm.seq ?_
                      refine Tri.seq ?_
                      refine Tri.seq ?_
                      refine Tri.reg (l := [0, 1]) rfl ?_
                      refine F.q rfl rfl rfl (wanted_none rfl) (r_move rfl) ?_
                      refine F.q rfl rfl rfl (wanted_none rfl) (r_lss rfl rfl) ?_
                      refine F.nil ?_
                      refine Nrm.seq ?_
                      refine Tri.cond (b := decide (t105 < 0)) rfl (fun g_8 => ?_) (fun g_8 => ?_)
                      · replace h := if_tt g_8 h
                        refine Tri.seq ?_
                        refine Tri.reg (l := [0]) rfl ?_
                        refine F.q rfl rfl rfl (wanted_none rfl) (r_assign rfl) ?_
                        refine F.nil ?_
                        refine Nrm.seq ?_
                        refine Tri.ret ?_
                        refine Rtn.then ?_
                        cases h
                        exact Rtn.body (.tmp rfl .nil) (fun w hw => ⟨rfl, hw.ext⟩)
                      · replace h := if_ff g_8 h
                        refine Tri.skip ?_
                        refine Nrm.seq ?_
                        refine Tri.seq ?_
                        refine Tri.seq ?_
                        refine Tri.reg (l := [0, 1, 2]) rfl ?_
                        refine F.q rfl rfl rfl (wanted_none rfl) (r_move rfl) ?_
                        refine F.q rfl rfl rfl (wanted_none rfl) (r_move rfl) ?_
                        refine F.q rfl rfl rfl (wanted_none rfl) (r_neq rfl rfl) ?_
                        refine F.nil ?_
                        refine Nrm.seq ?_
                        refine Tri.cond (b := t105 != t76_1) rfl (fun g_9 => ?_) (fun g_9 => ?_)
                        · replace h := if_tt g_9 h
                          refine Tri.seq ?_
                          refine Tri.reg (l := [0]) rfl ?_
                          refine F.q rfl rfl rfl (wanted_none rfl) (r_assign rfl) ?_
                          refine F.nil ?_
                          refine Nrm.seq ?_
                          refine Tri.ret ?_
                          refine Rtn.then ?_
                          cases h
                          exact Rtn.body (.tmp rfl .nil) (fun w hw => ⟨rfl, hw.ext⟩)
                        · replace h := if_ff g_9 h
                          refine Tri.skip ?_
                          refine Nrm.seq ?_
                          refine Tri.seq ?_
                          refine Tri.reg (l := [0]) rfl ?_
                          refine F.q rfl rfl rfl (wanted_none rfl) (r_assign rfl) ?_
                          refine F.nil ?_
                          refine Nrm.seq ?_
                          refine Tri.ret ?_
                          cases h
                          exact Rtn.body (.tmp rfl .nil) (fun w hw => ⟨rfl, hw.ext⟩)
                  · obtain ⟨t96, h96, hE_3⟩ := bind_some hE_3
                    rcases Bool.eq_false_or_eq_true (!t96) with g98 | g98
                    · replace hE_3 := if_tt g98 hE_3
                      refine Tri.reg (l := [0, 1, 2, 3, 4, 5, 6, 7, 8]) rfl ?_
                      refine F.q rfl rfl rfl (wanted_none rfl) (r_loadA ta73 ti73 rfl rfl (fun w hw => (box_cells (i := 0) rfl w hw))) ?_
                      refine F.q rfl rfl rfl (wanted_none rfl) (r_loadA ta73 ti73 rfl rfl (fun w hw => (box_cells (i := 8) rfl w hw))) ?_
                      refine F.qc rfl rfl rfl (wanted_none rfl) (q_callF (xs := _) rfl ok49 rfl rfl (fun w hw => laws_eqWorlds.ok h96 w ((rd_sl (i := 1) rfl) w hw) ((rd_sl (i := 2) rfl) w hw) ((rd_sl (i := 10) rfl) w hw) ((rd_sl (i := 11) rfl) w hw))) ?_
                      refine F.q rfl rfl rfl (wanted_none rfl) (r_not rfl) ?_
                      refine F.q rfl rfl rfl (wanted_none rfl) (r_move rfl) ?_
                      refine F.sk rfl rfl rfl (wf rfl rfl rfl g98) ?_
                      refine F.sk rfl rfl rfl (wf rfl rfl rfl g98) ?_
                      refine F.sk rfl rfl rfl (wf rfl rfl rfl g98) ?_
                      refine F.q rfl rfl rfl (wanted_none rfl) (r_pick rfl rfl g98) ?_
                      refine F.nil ?_
                      cases hE_3
                      refine Nrm.only [13, 16, 102] rfl ?_
                      refine Nrm.pick [7, 5, 6] rfl rfl ?_
                      exact hj_3 _ _ ⟨rfl, rfl⟩
                    · replace hE_3 := if_ff g98 hE_3
                      refine Tri.reg (l := [0, 1, 2, 3, 4, 5, 6, 7, 8]) rfl ?_
                      refine F.q rfl rfl rfl (wanted_none rfl) (r_loadA ta73 ti73 rfl rfl (fun w hw => (box_cells (i := 0) rfl w hw))) ?_
                      refine F.q rfl rfl rfl (wanted_none rfl) (r_loadA ta73 ti73 rfl rfl (fun w hw => (box_cells (i := 8) rfl w hw))) ?_
                      refine F.qc rfl rfl rfl (wanted_none rfl) (q_callF (xs := _) rfl ok49 rfl rfl (fun w hw => laws_eqWorlds.ok h96 w ((rd_sl (i := 1) rfl) w hw) ((rd_sl (i := 2) rfl) w hw) ((rd_sl (i := 10) rfl) w hw) ((rd_sl (i := 11) rfl) w hw))) ?_
                      refine F.q rfl rfl rfl (wanted_none rfl) (r_not rfl) ?_
                      refine F.q rfl rfl rfl (wanted_none rfl) (r_move rfl) ?_
                      refine F.q rfl rfl rfl (wg rfl rfl rfl g98) (r_move rfl) ?_
                      refine F.q rfl rfl rfl (wg rfl rfl rfl g98) (r_move rfl) ?_
                      refine F.q rfl rfl rfl (wg rfl rfl rfl g98) (r_neqB Try.underlying4 rfl rfl) ?_
                      refine F.q rfl rfl rfl (wanted_none rfl) (r_pickf rfl rfl g98) ?_
                      refine F.nil ?_
                      cases hE_3
                      refine Nrm.only [13, 16, 102] rfl ?_
                      refine Nrm.pick [7, 5, 6] rfl rfl ?_
                      exact hj_3 _ _ ⟨rfl, rfl⟩
          · rcases Bool.eq_false_or_eq_true (decide (t60_1 < 0)) with g63 | g63
            · replace hE_2 := if_tt g63 hE_2
              refine Tri.reg (l := [0, 1, 2, 3, 4, 5, 6, 7, 8, 9, 10, 11, 12]) rfl ?_
              refine F.q rfl rfl rfl (wanted_none rfl) (r_move rfl) ?_
              refine F.q rfl rfl rfl (wanted_none rfl) (r_lss rfl rfl) ?_
              refine F.q rfl rfl rfl (wanted_none rfl) (r_move rfl) ?_
              refine F.sk rfl rfl rfl (wf rfl rfl rfl g63) ?_
              refine F.sk rfl rfl rfl (wf rfl rfl rfl g63) ?_
              refine F.sk rfl rfl rfl (wf rfl rfl rfl g63) ?_
              refine F.sk rfl rfl rfl (wf rfl rfl rfl g63) ?_
              refine F.q rfl rfl rfl (wanted_none rfl) (r_pick rfl rfl g63) ?_
              refine F.q rfl rfl rfl (wanted_none rfl) (r_move rfl) ?_
              refine F.sk rfl rfl rfl (wf rfl rfl rfl rfl) ?_
              refine F.sk rfl rfl rfl (wf rfl rfl rfl rfl) ?_
              refine F.sk rfl rfl rfl (wf rfl rfl rfl rfl) ?_
              refine F.q rfl rfl rfl (wanted_none rfl) (r_pick rfl rfl rfl) ?_
              refine F.nil ?_
              cases hE_2
              refine Nrm.only [1, 2, 3, 4, 10, 11, 13, 73] rfl ?_
              refine Nrm.pick [4, 6, 7, 8, 9, 10, 11] rfl rfl ?_
              exact hj_2 _ _ ⟨rfl, rfl⟩
            · replace hE_2 := if_ff g63 hE_2
              obtain ⟨t66, h66, hE_2⟩ := bind_some hE_2
              rcases Bool.eq_false_or_eq_true (!t66) with g69 | g69
              · replace hE_2 := if_tt g69 hE_2
                refine Tri.reg (l := [0, 1, 2, 3, 4, 5, 6, 7, 8, 9, 10, 11, 12]) rfl ?_
                refine F.q rfl rfl rfl (wanted_none rfl) (r_move rfl) ?_
                refine F.q rfl rfl rfl (wanted_none rfl) (r_lss rfl rfl) ?_
                refine F.q rfl rfl rfl (wanted_none rfl) (r_move rfl) ?_
                refine F.q rfl rfl rfl (wg rfl rfl rfl g63) (r_loadA ta73 ti73 rfl rfl (fun w hw => (box_cells (i := 4) rfl w hw))) ?_
                refine F.q rfl rfl rfl (wg rfl rfl rfl g63) (r_loadA ta73 ti73 rfl rfl (fun w hw => (box_cells (i := 6) rfl w hw))) ?_
                refine F.qc rfl rfl rfl (wg rfl rfl rfl g63) (q_callF (xs := _) rfl ok49 rfl rfl (fun w hw => laws_eqWorlds.ok h66 w ((rd_sl (i := 10) rfl) w hw) ((rd_sl (i := 11) rfl) w hw) ((rd_sl (i := 8) rfl) w hw) ((rd_sl (i := 9) rfl) w hw))) ?_
                refine F.q rfl rfl rfl (wg rfl rfl rfl g63) (r_not rfl) ?_
                refine F.q rfl rfl rfl (wanted_none rfl) (r_pickf rfl rfl g63) ?_
                refine F.q rfl rfl rfl (wanted_none rfl) (r_move rfl) ?_
                refine F.sk rfl rfl rfl (wf rfl rfl rfl g69) ?_
                refine F.sk rfl rfl rfl (wf rfl rfl rfl g69) ?_
                refine F.sk rfl rfl rfl (wf rfl rfl rfl g69) ?_
                refine F.q rfl rfl rfl (wanted_none rfl) (r_pick rfl rfl g69) ?_
                refine F.nil ?_
                cases hE_2
                refine Nrm.only [1, 2, 3, 4, 10, 11, 13, 73] rfl ?_
                refine Nrm.pick [4, 6, 7, 8, 9, 10, 11] rfl rfl ?_
                exact hj_2 _ _ ⟨rfl, rfl⟩
              · replace hE_2 := if_ff g69 hE_2
                refine Tri.reg (l := [0, 1, 2, 3, 4, 5, 6, 7, 8, 9, 10, 11, 12]) rfl ?_
                refine F.q rfl rfl rfl (wanted_none rfl) (r_move rfl) ?_
                refine F.q rfl rfl rfl (wanted_none rfl) (r_lss rfl rfl) ?_
                refine F.q rfl rfl rfl (wanted_none rfl) (r_move rfl) ?_
                refine F.q rfl rfl rfl (wg rfl rfl rfl g63) (r_loadA ta73 ti73 rfl rfl (fun w hw => (box_cells (i := 4) rfl w hw))) ?_
                refine F.q rfl rfl rfl (wg rfl rfl rfl g63) (r_loadA ta73 ti73 rfl rfl (fun w hw => (box_cells (i := 6) rfl w hw))) ?_
                refine F.qc rfl rfl rfl (wg rfl rfl rfl g63) (q_callF (xs := _) rfl ok49 rfl rfl (fun w hw => laws_eqWorlds.ok h66 w ((rd_sl (i := 10) rfl) w hw) ((rd_sl (i := 11) rfl) w hw) ((rd_sl (i := 8) rfl) w hw) ((rd_sl (i := 9) rfl) w hw))) ?_
                refine F.q rfl rfl rfl (wg rfl rfl rfl g63) (r_not rfl) ?_
                refine F.q rfl rfl rfl (wanted_none rfl) (r_pickf rfl rfl g63) ?_
                refine F.q rfl rfl rfl (wanted_none rfl) (r_move rfl) ?_
                refine F.q rfl rfl rfl (wg rfl rfl rfl g69) (r_move rfl) ?_
                refine F.q rfl rfl rfl (wg rfl rfl rfl g69) (r_move rfl) ?_
                refine F.q rfl rfl rfl (wg rfl rfl rfl g69) (r_neqB Try.underlying4 rfl rfl) ?_
                refine F.q rfl rfl rfl (wanted_none rfl) (r_pickf rfl rfl g69) ?_
                refine F.nil ?_
                cases hE_2
                refine Nrm.only [1, 2, 3, 4, 10, 11, 13, 73] rfl ?_
                refine Nrm.pick [4, 6, 7, 8, 9, 10, 11] rfl rfl ?_
                exact hj_2 _ _ ⟨rfl, rfl⟩
    · obtain ⟨t46, h46, hE_1⟩ := bind_some hE_1
      rcases Bool.eq_false_or_eq_true (!t46) with g48 | g48
      · replace hE_1 := if_tt g48 hE_1
        refine Tri.reg (l := [0, 1, 2, 3, 4, 5, 6, 7, 8]) rfl ?_
        refine F.q rfl rfl rfl (wanted_none rfl) (r_loadA ta73 ti73 rfl rfl (fun w hw => (box_cells (i := 0) rfl w hw))) ?_
        refine F.q rfl rfl rfl (wanted_none rfl) (r_loadA ta73 ti73 rfl rfl (fun w hw => (box_cells (i := 6) rfl w hw))) ?_
        refine F.qc rfl rfl rfl (wanted_none rfl) (q_callF (xs := _) rfl ok49 rfl rfl (fun w hw => laws_eqWorlds.ok h46 w ((rd_sl (i := 1) rfl) w hw) ((rd_sl (i := 2) rfl) w hw) ((rd_sl (i := 7) rfl) w hw) ((rd_sl (i := 8) rfl) w hw))) ?_
        refine F.q rfl rfl rfl (wanted_none rfl) (r_not rfl) ?_
        refine F.q rfl rfl rfl (wanted_none rfl) (r_move rfl) ?_
        refine F.sk rfl rfl rfl (wf rfl rfl rfl g48) ?_
        refine F.sk rfl rfl rfl (wf rfl rfl rfl g48) ?_
        refine F.sk rfl rfl rfl (wf rfl rfl rfl g48) ?_
        refine F.q rfl rfl rfl (wanted_none rfl) (r_pick rfl rfl g48) ?_
        refine F.nil ?_
        cases hE_1
        refine Nrm.only [1, 2, 3, 4, 10, 11, 12, 13, 14, 52] rfl ?_
        refine Nrm.pick [0, 3, 6, 11, 7, 8, 4, 5, 1, 2] rfl rfl ?_
        exact hj_1 _ _ ⟨rfl, rfl⟩
      · replace hE_1 := if_ff g48 hE_1
        refine Tri.reg (l := [0, 1, 2, 3, 4, 5, 6, 7, 8]) rfl ?_
        refine F.q rfl rfl rfl (wanted_none rfl) (r_loadA ta73 ti73 rfl rfl (fun w hw => (box_cells (i := 0) rfl w hw))) ?_
        refine F.q rfl rfl rfl (wanted_none rfl) (r_loadA ta73 ti73 rfl rfl (fun w hw => (box_cells (i := 6) rfl w hw))) ?_
        refine F.qc rfl rfl rfl (wanted_none rfl) (q_callF (xs := _) rfl ok49 rfl rfl (fun w hw => laws_eqWorlds.ok h46 w ((rd_sl (i := 1) rfl) w hw) ((rd_sl (i := 2) rfl) w hw) ((rd_sl (i := 7) rfl) w hw) ((rd_sl (i := 8) rfl) w hw))) ?_
        refine F.q rfl rfl rfl (wanted_none rfl) (r_not rfl) ?_
        refine F.q rfl rfl rfl (wanted_none rfl) (r_move rfl) ?_
        refine F.q rfl rfl rfl (wg rfl rfl rfl g48) (r_move rfl) ?_
        refine F.q rfl rfl rfl (wg rfl rfl rfl g48) (r_move rfl) ?_
        refine F.q rfl rfl rfl (wg rfl rfl rfl g48) (r_neqB Try.underlying4 rfl rfl) ?_
        refine F.q rfl rfl rfl (wanted_none rfl) (r_pickf rfl rfl g48) ?_
        refine F.nil ?_
        cases hE_1
        refine Nrm.only [1, 2, 3, 4, 10, 11, 12, 13, 14, 52] rfl ?_
        refine Nrm.pick [0, 3, 6, 11, 7, 8, 4, 5, 1, 2] rfl rfl ?_
        exact hj_1 _ _ ⟨rfl, rfl⟩

end Go.Proofs
