/- A part of the proof of FnVisits: what the functions of the program compute, walked on the model. No condition. -/
import Derived.Shelf.SlGeneric
import Derived.Shelf.SlSortCmp.NoneTotal
import Derived.Test.YtebbaacgalipaaaGreatChecked
import Derived.Test.YtebbaacgalipaaaGreatFnVisitsB
import Derived.Test.YtebbaacgalipaaaGreatFnVisitsC
import Derived.Test.YtebbaacgalipaaaGreatFnVisitsD
set_option linter.unusedSimpArgs false
/- loop.example/g01158/spec.DropDoor -/
namespace Go.Proofs
open Go Go.Ga
set_option linter.unusedVariables false
set_option maxRecDepth 100000
set_option maxHeartbeats 4000000
def spec_DropDoor.f (k : Nat) (a0_0 : Int) (a0_1 : List (Int × Int × Int)) (a0_2 : List Int) (a1 : Int) : Option (Int × (List (Int × Int × Int)) × (List Int) × Bool) := ((spec_l2Maze.f k a0_0 a0_1 a0_2).bind fun t8 => (if (!t8) = true then some true else (spec_l1In.f k a1 0 (w64 ((a0_1.length : Int) - 1))).bind fun t16 => some (!t16))).bind fun y18 => (if y18 = true then some (0, [], [], false) else (spec_l2Own.f k a0_0 a0_1 a0_2).bind fun (t21_1, t21_2, t21_3) => (slc a0_1 0 a1).bind fun t26 => (slc a0_1 (w64 (a1 + 1)) (a0_1.length : Int)).bind fun t32 => if (([] : List (Int × Int × Int)) ++ t26).length < 1099511627776 then if ((([] : List (Int × Int × Int)) ++ t26) ++ t32).length < 1099511627776 then some (t21_1, (([] : List (Int × Int × Int)) ++ t26) ++ t32, t21_3, true) else none else none)

theorem spec_DropDoor.ok {k : Nat}  {a0_0 : Int} {a0_1 : List (Int × Int × Int)} {a0_2 : List Int} {a1 : Int} {r0 : Int} {r1 : List (Int × Int × Int)} {r2 : List Int} {r3 : Bool} (h : spec_DropDoor.f k a0_0 a0_1 a0_2 a1 = some (r0, r1, r2, r3)) (w : World) {va0_1 : Value} {va0_2 : Value} (hr_a0_1 : Rd w va0_1 a0_1) (hr_a0_2 : Rd w va0_2 a0_2) :
  Calls Tryz.prog 243 ([.agg ([.int .i64 a0_0, va0_1, va0_2].toArray), .int .i64 a1] : List Value).toArray w (Post (fun u ns => ∃ (ur1 : Value) (Sr1 : Nat → Prop) (ur2 : Value) (Sr2 : Nat → Prop), u = .tuple #[.agg [.int .i64 r0, ur1, ur2].toArray, .bool r3] ∧ SlLen ur1 r1.length ∧ SlLen ur2 r2.length ∧ ns = [R.sl Sr1 ur1 r1, R.sl Sr2 ur2 r2]) w) := by
 unfold spec_DropDoor.f at h
 have hl_va0_1 := hr_a0_1.len
 have hl_va0_2 := hr_a0_2.len
 refine Calls.of_tri (N := 36) Tryz.func243 rfl rfl rfl (Sep.nil (M := noM)) ?_
 refine Tri.seq (Tri.reg (l := [0, 1, 2]) rfl ?_)
 refine F.mn rfl (m_boxG rfl rfl) ?_
 rintro _ _ ⟨b2_1, rfl, rfl⟩
 refine F.mn rfl (m_alloc ti27) ?_
 rintro _ _ ⟨b4_1, rfl, rfl⟩
 refine F.qn rfl (r_assign rfl) (F.nil (Nrm.seq (Tri.seq (Tri.seq ?_))))
 obtain ⟨y18, hE_1, h⟩ := bind_some h
 refine Tri.cut (fun e' C' => e' = [(1, .int .i64 a1), (2, .pointer (some ⟨b2_1, 0, none⟩)), (4, .pointer (some ⟨b4_1, 0, none⟩)), (18, .bool y18)] ∧ C' = Sep w noM [R.box b4_1 27 [.int .i64 0, .slice none 0 0, .slice none 0 0], R.box b2_1 27 [.int .i64 a0_0, va0_1, va0_2]]) ?_ (fun hj_1 => ?_)
 ·rintro _ _ ⟨rfl, rfl⟩
  refine Nrm.seq (Tri.cond (b := y18) rfl (fun g_1 => ?_) (fun g_1 => ?_))
  ·replace h := if_tt g_1 h
   refine Tri.seq (Tri.reg (l := [0, 1, 2]) rfl ?_)
   refine F.qn rfl (r_build (pl := [(0, 1), (1, 1), (2, 1)]) (qs := []) (cs := [.int .i64 0, .slice none 0 0, .slice none 0 0]) (by kernel_rfl) ti27 rfl .nil rfl rfl) ?_
   refine F.ef0 rfl rfl (wanted_none rfl) (d_storeG0 (i := 0) (cs2 := [.int .i64 0, .slice none 0 0, .slice none 0 0]) ti27 rfl rfl rfl rfl rfl (Nat.le_of_ble_eq_true rfl) (lf_cons rfl (lf_cons rfl (lf_cons rfl lf_nil)))) ?_
   rintro _ _ ⟨rfl, rfl⟩
   refine F.qn rfl (r_assign rfl) (F.nil (Nrm.seq (Tri.ret ?_)))
   refine Rtn.then ?_
   cases h
   exact Rtn.body (.cell rfl ta27 ti27 rfl (fun _ hw => box_cells (i := 0) rfl _ hw) (.tmp rfl .nil)) (fun w hw => ⟨_, _, rfl, ⟨.slice none 0 0, fun _ => False, .slice none 0 0, fun _ => False, rfl, len_nil, len_nil, rfl⟩, Sep.pick (is := [0, 1]) rfl rfl hw.pushNil.pushNil⟩)
  ·replace h := if_ff g_1 h
   refine Tri.skip (Nrm.seq (Tri.seq ?_))
   obtain ⟨⟨t21_1, t21_2, t21_3⟩, h21, h⟩ := bind_some h
   refine Tri.reg (l := [0, 1, 2, 3]) rfl ?_
   refine F.qn rfl (r_loadA ta27 ti27 rfl rfl (fun w hw => (box_cells (i := 1) rfl w hw))) ?_
   refine F.mn rfl (m_callF (xs := _) rfl ok141 rfl rfl (fun w hw => spec_l2Own.ok h21 w ((fun _ hw => hr_a0_1.sep hw) w hw) ((fun _ hw => hr_a0_2.sep hw) w hw))) ?_
   rintro _ _ ⟨_, ⟨v21_1, S21_1, v21_2, S21_2, rfl, hl_v21_1, hl_v21_2, rfl⟩, rfl⟩
   refine F.mn rfl (m_alloc ti27) ?_
   rintro _ _ ⟨b6_1, rfl, rfl⟩
   refine F.ef0 rfl rfl (wanted_none rfl) (d_storeG0 (i := 0) (cs2 := [.int .i64 t21_1, v21_1, v21_2]) ti27 rfl rfl rfl rfl rfl (Nat.le_of_ble_eq_true rfl) (lf_cons rfl (lf_cons (sl_leaf hl_v21_1) (lf_cons (sl_leaf hl_v21_2) lf_nil)))) ?_
   rintro _ _ ⟨rfl, rfl⟩
   refine F.nil (Nrm.seq (Tri.seq ?_))
   obtain ⟨t26, h26, h⟩ := bind_some h
   obtain ⟨t32, h32, h⟩ := bind_some h
   obtain ⟨hs27, h⟩ := ck h
   obtain ⟨hs33, h⟩ := ck h
   refine Tri.drawB mixedT Sep.up [(1, true), (2, true), (3, true), (4, true), (6, true), (7, true), (8, true), (9, true), (10, true), (0, false), (5, false)] [11, 12, 13] (by kernel_rfl) ?_
   refine B.q rfl rfl rfl (wanted_none rfl) (r_fieldAddr tf27_1 rfl) ?_
   refine B.q rfl rfl rfl (wanted_none rfl) (r_load ta24 rfl (fun w hw => cell_1 (box_cells (i := 4) rfl w hw) rfl)) ?_
   refine B.q rfl rfl rfl (wanted_none rfl) (r_move rfl) ?_
   refine B.q rfl rfl rfl (wanted_none rfl) (r_sliceH Tryz.underlying24 ti168 rfl (fun _ hw => hr_a0_1.sep hw) rfl h26) ?_
   refine B.q rfl rfl rfl (wanted_none rfl) (r_fieldAddr tf27_1 rfl) ?_
   refine B.q rfl rfl rfl (wanted_none rfl) (r_load ta24 rfl (fun w hw => cell_1 (box_cells (i := 4) rfl w hw) rfl)) ?_
   refine B.q rfl rfl rfl (wanted_none rfl) (r_move rfl) ?_
   refine B.q rfl rfl rfl (wanted_none rfl) (r_add rfl rfl) ?_
   refine B.q rfl rfl rfl (wanted_none rfl) (r_sliceL Tryz.underlying24 ti168 rfl (fun _ hw => hr_a0_1.sep hw) rfl h32) ?_
   refine B.ef rfl rfl rfl (wanted_none rfl) (Makes.does (m_build0 (α := Int × Int × Int) Tryz.underlying24 ti168)) (by rintro v22_2 _ ⟨S22_2, hl_v22_2, rfl⟩; exact upd rfl [1, 2, 3, 4, 5] rfl rfl) ?_
   rintro v22_2 _ ⟨S22_2, hl_v22_2, rfl⟩
   refine B.ef rfl rfl rfl (wanted_none rfl) (d_append (i := 0) Tryz.underlying24 Tryz.underlying24 ti168 rfl (by decide) rfl rfl rfl (fun w hw => rd_slc ((fun _ hw => hr_a0_1.sep hw) w hw) h26) hs27) (by rintro v27_2 _ ⟨S27_2, rfl, hl_v27_2⟩; exact upd rfl [1, 2, 3, 4, 5] rfl rfl) ?_
   rintro v27_2 _ ⟨S27_2, rfl, hl_v27_2⟩
   refine B.nil ?_
   refine F.efn rfl (d_append (i := 0) Tryz.underlying24 Tryz.underlying24 ti168 rfl (by decide) rfl rfl rfl (fun w hw => rd_slc ((fun _ hw => hr_a0_1.sep hw) w hw) h32) hs33) ?_
   rintro v33_2 _ ⟨S33_2, rfl, hl_v33_2⟩
   refine F.qn rfl (r_fieldAddr tf27_1 rfl) ?_
   refine F.ef0 rfl rfl (wanted_none rfl) (d_storeG1 (i := 1) (cs2 := [v33_2]) ti24 rfl rfl rfl (sl_cells hl_v33_2) rfl (Nat.le_of_ble_eq_true rfl) (lf_cons (sl_leaf hl_v33_2) lf_nil)) ?_
   rintro _ _ ⟨rfl, rfl⟩
   refine F.nil (Nrm.seq (Tri.seq (Tri.reg (l := [0, 1, 2]) rfl ?_)))
   refine F.qn rfl (r_loadA ta27 ti27 rfl rfl (fun w hw => (box_cells (i := 1) rfl w hw))) ?_
   refine F.ef0 rfl rfl (wanted_none rfl) (d_storeG0 (i := 4) (cs2 := [.int .i64 t21_1, v33_2, v21_2]) ti27 rfl rfl rfl rfl rfl (Nat.le_of_ble_eq_true rfl) (lf_cons rfl (lf_cons (sl_leaf hl_v33_2) (lf_cons (sl_leaf hl_v21_2) lf_nil)))) ?_
   rintro _ _ ⟨rfl, rfl⟩
   refine F.qn rfl (r_assign rfl) (F.nil (Nrm.seq (Tri.ret ?_)))
   cases h
   exact Rtn.body (.cell rfl ta27 ti27 rfl (fun _ hw => box_cells (i := 4) rfl _ hw) (.tmp rfl .nil)) (fun w hw => ⟨_, _, rfl, ⟨v33_2, S33_2, v21_2, S21_2, rfl, hl_v33_2, hl_v21_2, rfl⟩, Sep.pick (is := [0, 3]) rfl rfl hw⟩)
 ·obtain ⟨t8, h8, hE_1⟩ := bind_some hE_1
  rcases Bool.eq_false_or_eq_true (!t8) with g10 | g10
  ·replace hE_1 := if_tt g10 hE_1
   refine Tri.reg (l := List.range 12) rfl ?_
   refine F.qn rfl (r_loadA ta27 ti27 rfl rfl (fun w hw => (box_cells (i := 1) rfl w hw))) ?_
   refine F.qcn rfl (q_callF (xs := _) rfl ok108 rfl rfl (fun w hw => spec_l2Maze.ok h8 w ((fun _ hw => hr_a0_1.sep hw) w hw) ((fun _ hw => hr_a0_2.sep hw) w hw))) ?_
   refine F.qn rfl (r_not rfl) (F.qn rfl (r_move rfl) ?_)
   iterate 7 refine F.skf rfl g10 ?_
   refine F.qn rfl (r_pick rfl rfl g10) (F.nil ?_)
   cases hE_1
   refine Nrm.only [1, 2, 4, 18] rfl ?_
   refine Nrm.pick [0, 1] rfl rfl ?_
   exact hj_1 _ _ ⟨rfl, rfl⟩
  ·replace hE_1 := if_ff g10 hE_1
   obtain ⟨t16, h16, hE_1⟩ := bind_some hE_1
   refine Tri.reg (l := List.range 12) rfl ?_
   refine F.qn rfl (r_loadA ta27 ti27 rfl rfl (fun w hw => (box_cells (i := 1) rfl w hw))) ?_
   refine F.qcn rfl (q_callF (xs := _) rfl ok108 rfl rfl (fun w hw => spec_l2Maze.ok h8 w ((fun _ hw => hr_a0_1.sep hw) w hw) ((fun _ hw => hr_a0_2.sep hw) w hw))) ?_
   refine F.qn rfl (r_not rfl) ?_
   refine F.qn rfl (r_move rfl) (F.qg rfl g10 (r_move rfl) (F.qg rfl g10 (r_fieldAddr tf27_1 rfl) (F.qg rfl g10 (r_load ta24 rfl (fun w hw => cell_1 (box_cells (i := 1) rfl w hw) rfl)) (F.qg rfl g10 (r_len Tryz.underlying24 rfl hl_va0_1) (F.qg rfl g10 (r_sub rfl rfl) ?_)))))
   refine F.qc rfl rfl rfl (wg rfl rfl rfl g10) (q_callF (xs := _) rfl ok148 rfl rfl (fun w hw => spec_l1In.ok h16 w )) ?_
   refine F.qg rfl g10 (r_not rfl) (F.qn rfl (r_pickf rfl rfl g10) (F.nil ?_))
   cases hE_1
   refine Nrm.only [1, 2, 4, 18] rfl ?_
   refine Nrm.pick [0, 1] rfl rfl ?_
   exact hj_1 _ _ ⟨rfl, rfl⟩


def spec_l12Make.f (k : Nat) (a0_0 : Int) (a0_1 : List (Int × Int × Int)) (a0_2 : List Int) (a0_3 : List Int) (a0_4 : Int) (a1_0 : Int) (a1_1 : Int) (a1_2 : Int) (a1_3 : Int) : Option (Int × (List (Int × Int × Int)) × (List Int) × (List Int) × Int × Bool) := (if (a1_0 == 1) = true then if (a0_3 ++ ([a1_1] : List (Int))).length < 1099511627776 then ((if (a1_2 == 0) = true then some (a1_3 == 0) else some false)).bind fun y6 => some (a0_0, a0_1, a0_2, a0_3 ++ ([a1_1] : List (Int)), a0_4, y6) else none else (if (a1_0 == 2) = true then ((if (decide ((a0_3.length : Int) > 1)) = true then (if (a1_1 == 0) = true then (if (a1_2 == 0) = true then some (a1_3 == 0) else some false) else some false) else some false)).bind fun y6r => (spec_l1Most.f k 1 (w64 ((a0_3.length : Int) - 1))).bind fun t54 => (slc a0_3 0 t54).bind fun t55 => some (a0_0, a0_1, a0_2, t55, a0_4, y6r) else (if (a1_0 == 3) = true then ((spec_l1In.f k a1_1 0 (w64 (a0_0 - 1))).bind fun t65 => (if (!t65) = true then some true else some (a1_3 != 0))).bind fun y71 => (if y71 = true then some (a0_0, a0_1, a0_2, a0_3, a0_4, false) else (rdl a0_2 a1_1).bind fun t80 => some (a0_0, a0_1, a0_2.set a1_1.toNat a1_2, a0_3, a0_4, true)) else (if (a1_0 == 4) = true then (spec_AddDoor.f k a0_0 a0_1 a0_2 a1_1 a1_2 a1_3).bind fun (t92_1, t92_2, t92_3, t92_4) => some (t92_1, t92_2, t92_3, a0_3, a0_4, t92_4) else (if (a1_0 == 5) = true then (spec_DropDoor.f k a0_0 a0_1 a0_2 a1_1).bind fun (t103_1, t103_2, t103_3, t103_4) => ((if t103_4 = true then (if (a1_2 == 0) = true then some (a1_3 == 0) else some false) else some false)).bind fun y6rr => some (t103_1, t103_2, t103_3, a0_3, a0_4, y6rr) else some (a0_0, a0_1, a0_2, a0_3, a0_4, false))))))

theorem spec_l12Make.ok {k : Nat}  {a0_0 : Int} {a0_1 : List (Int × Int × Int)} {a0_2 : List Int} {a0_3 : List Int} {a0_4 : Int} {a1_0 : Int} {a1_1 : Int} {a1_2 : Int} {a1_3 : Int} {r0 : Int} {r1 : List (Int × Int × Int)} {r2 : List Int} {r3 : List Int} {r4 : Int} {r5 : Bool} (h : spec_l12Make.f k a0_0 a0_1 a0_2 a0_3 a0_4 a1_0 a1_1 a1_2 a1_3 = some (r0, r1, r2, r3, r4, r5)) (w : World) {va0_1 : Value} {Sa0_1 : Nat → Prop} (hl_va0_1 : SlLen va0_1 a0_1.length) {va0_2 : Value} {Sa0_2 : Nat → Prop} (hl_va0_2 : SlLen va0_2 a0_2.length) {va0_3 : Value} {Sa0_3 : Nat → Prop} (hl_va0_3 : SlLen va0_3 a0_3.length) (hw0 : Sep w (footM [R.sl Sa0_1 va0_1 a0_1, R.sl Sa0_2 va0_2 a0_2, R.sl Sa0_3 va0_3 a0_3]) [R.sl Sa0_1 va0_1 a0_1, R.sl Sa0_2 va0_2 a0_2, R.sl Sa0_3 va0_3 a0_3] w) :
  Calls Tryz.prog 205 ([.agg ([.int .i64 a0_0, va0_1, va0_2, va0_3, .int .i64 a0_4].toArray), .agg ([.int .i64 a1_0, .int .i64 a1_1, .int .i64 a1_2, .int .i64 a1_3].toArray)] : List Value).toArray w (PostM (footM [R.sl Sa0_1 va0_1 a0_1, R.sl Sa0_2 va0_2 a0_2, R.sl Sa0_3 va0_3 a0_3]) (fun u ns => ∃ (ur1 : Value) (Sr1 : Nat → Prop) (ur2 : Value) (Sr2 : Nat → Prop) (ur3 : Value) (Sr3 : Nat → Prop), u = .tuple #[.agg [.int .i64 r0, ur1, ur2, ur3, .int .i64 r4].toArray, .bool r5] ∧ SlLen ur1 r1.length ∧ SlLen ur2 r2.length ∧ SlLen ur3 r3.length ∧ ns = [R.sl Sr1 ur1 r1, R.sl Sr2 ur2 r2, R.sl Sr3 ur3 r3]) w) := by
 unfold spec_l12Make.f at h
 refine Calls.of_tri (N := 120) Tryz.func205 rfl rfl rfl hw0 ?_
 refine Tri.seq (Tri.reg (l := [0, 1, 2, 3]) rfl ?_)
 refine F.mn rfl (m_boxG rfl rfl) ?_
 rintro _ _ ⟨b2_1, rfl, rfl⟩
 refine F.mn rfl (m_boxG rfl rfl) ?_
 rintro _ _ ⟨b3_1, rfl, rfl⟩
 refine F.mn rfl (m_alloc ti44) ?_
 rintro _ _ ⟨b4_1, rfl, rfl⟩
 refine F.qn rfl (r_assign rfl) (F.nil (Nrm.seq (Tri.seq (Tri.reg (l := [0]) rfl ?_))))
 refine F.qn rfl (r_assign rfl) (F.nil (Nrm.seq (Tri.seq (Tri.seq (Tri.reg (l := [0, 1]) rfl ?_)))))
 refine F.qn rfl (r_fieldAddr tf48_0 rfl) (F.qn rfl (r_load ta3 rfl (fun w hw => cell_1 (box_cells (i := 1) rfl w hw) rfl)) (F.nil (Nrm.seq (Tri.block ?_))))
 refine Tri.seq (Tri.reg (l := [0, 1]) rfl ?_)
 refine F.qn rfl (r_eql rfl rfl) (F.qn rfl (r_assign rfl) (F.nil (Nrm.seq (Tri.cond (b := a1_0 == 1) rfl (fun g_1 => ?_) (fun g_1 => ?_)))))
 ·replace h := if_tt g_1 h
  refine Tri.seq ?_
  obtain ⟨hs17, h⟩ := ck h
  refine Tri.reg (l := [0, 1, 2, 3, 4, 5, 6, 7]) rfl ?_
  refine F.qn rfl (r_fieldAddr tf44_1 rfl) (F.qn rfl (r_load ta25 rfl (fun w hw => cell_1 (box_cells (i := 2) rfl w hw) rfl)) (F.qn rfl (r_fieldAddr tf48_1 rfl) (F.qn rfl (r_load ta3 rfl (fun w hw => cell_1 (box_cells (i := 1) rfl w hw) rfl)) ?_)))
  refine F.mn rfl (m_buildF (l := ([a1_1] : List (Int))) Tryz.underlying25 ti3 rfl rfl rfl rfl rfl) ?_
  rintro v16_1 _ ⟨S16_1, hl_v16_1, rfl⟩
  refine F.efn rfl (d_append (i := 6) Tryz.underlying25 Tryz.underlying25 ti3 rfl (by decide) rfl rfl rfl (rd_sl (i := 0) rfl) hs17) ?_
  rintro v17_1 _ ⟨S17_1, rfl, hl_v17_1⟩
  refine F.qn rfl (r_fieldAddr tf44_1 rfl) ?_
  refine F.ef0 rfl rfl (wanted_none rfl) (d_storeG1 (i := 3) (cs2 := [v17_1]) ti25 rfl rfl rfl (sl_cells hl_v17_1) rfl (Nat.le_of_ble_eq_true rfl) (lf_cons (sl_leaf hl_v17_1) lf_nil)) ?_
  rintro _ _ ⟨rfl, rfl⟩
  refine F.nil (Nrm.seq ?_)
  obtain ⟨y6, hE_1, h⟩ := bind_some h
  refine Tri.cut (fun e' C' => e' = [(2, .pointer (some ⟨b2_1, 0, none⟩)), (4, .pointer (some ⟨b4_1, 0, none⟩)), (6, .bool y6)] ∧ C' = Sep w (footM [R.sl Sa0_1 va0_1 a0_1, R.sl Sa0_2 va0_2 a0_2, R.sl Sa0_3 va0_3 a0_3]) [R.box b4_1 44 [.int .i64 0, .slice none 0 0, .slice none 0 0, .slice none 0 0, .int .i64 0], R.box b2_1 44 [.int .i64 a0_0, va0_1, va0_2, v17_1, .int .i64 a0_4], R.sl S17_1 v17_1 (a0_3 ++ ([a1_1] : List (Int)) : List (Int)), R.sl Sa0_1 va0_1 (a0_1 : List (Int × Int × Int)), R.sl Sa0_2 va0_2 (a0_2 : List (Int))]) ?_ (fun hj_1 => ?_)
  ·rintro _ _ ⟨rfl, rfl⟩
   refine Nrm.block ?_
   refine Nrm.seq (Tri.seq (Tri.reg (l := [0, 1, 2, 3]) rfl ?_))
   refine F.qn rfl (r_loadA ta44 ti44 rfl rfl (fun w hw => (box_cells (i := 1) rfl w hw))) (F.qn rfl (r_move rfl) ?_)
   refine F.ef0 rfl rfl (wanted_none rfl) (d_storeG0 (i := 0) (cs2 := [.int .i64 a0_0, va0_1, va0_2, v17_1, .int .i64 a0_4]) ti44 rfl rfl rfl rfl rfl (Nat.le_of_ble_eq_true rfl) (lf_cons rfl (lf_cons (sl_leaf hl_va0_1) (lf_cons (sl_leaf hl_va0_2) (lf_cons (sl_leaf hl_v17_1) (lf_cons rfl lf_nil)))))) ?_
   rintro _ _ ⟨rfl, rfl⟩
   refine F.qn rfl (r_assign rfl) (F.nil (Nrm.seq (Tri.ret ?_)))
   cases h
   exact Rtn.body (.cell rfl ta44 ti44 rfl (fun _ hw => box_cells (i := 0) rfl _ hw) (.tmp rfl .nil)) (fun w hw => ⟨_, _, rfl, ⟨va0_1, Sa0_1, va0_2, Sa0_2, v17_1, S17_1, rfl, hl_va0_1, hl_va0_2, hl_v17_1, rfl⟩, Sep.pick (is := [3, 4, 2]) rfl rfl hw⟩)
  ·rcases Bool.eq_false_or_eq_true (a1_2 == 0) with g22 | g22
   ·replace hE_1 := if_tt g22 hE_1
    refine Tri.reg (l := [0, 1, 2, 3, 4, 5, 6, 7, 8]) rfl ?_
    refine F.qn rfl (r_fieldAddr tf48_2 rfl) (F.qn rfl (r_load ta3 rfl (fun w hw => cell_1 (box_cells (i := 2) rfl w hw) rfl)) (F.qn rfl (r_eql rfl rfl) ?_))
    refine F.qn rfl (r_move rfl) (F.qg rfl g22 (r_fieldAddr tf48_3 rfl) (F.qg rfl g22 (r_load ta3 rfl (fun w hw => cell_1 (box_cells (i := 2) rfl w hw) rfl)) (F.qg rfl g22 (r_eql rfl rfl) (F.qn rfl (r_pick rfl rfl g22) (F.qn rfl (r_assign rfl) (F.nil ?_))))))
    cases hE_1
    refine Nrm.only [2, 4, 6] rfl ?_
    refine Nrm.pick [1, 3, 6, 4, 5] rfl rfl ?_
    exact hj_1 _ _ ⟨rfl, rfl⟩
   ·replace hE_1 := if_ff g22 hE_1
    refine Tri.reg (l := [0, 1, 2, 3, 4, 5, 6, 7, 8]) rfl ?_
    refine F.qn rfl (r_fieldAddr tf48_2 rfl) (F.qn rfl (r_load ta3 rfl (fun w hw => cell_1 (box_cells (i := 2) rfl w hw) rfl)) (F.qn rfl (r_eql rfl rfl) (F.qn rfl (r_move rfl) ?_)))
    iterate 3 refine F.skf rfl g22 ?_
    refine F.qn rfl (r_pickf rfl rfl g22) (F.qn rfl (r_assign rfl) (F.nil ?_))
    cases hE_1
    refine Nrm.only [2, 4, 6] rfl ?_
    refine Nrm.pick [1, 3, 6, 4, 5] rfl rfl ?_
    exact hj_1 _ _ ⟨rfl, rfl⟩
 ·replace h := if_ff g_1 h
  refine Tri.seq (Tri.reg (l := [0, 1]) rfl ?_)
  refine F.qn rfl (r_eql rfl rfl) (F.qn rfl (r_assign rfl) (F.nil (Nrm.seq (Tri.cond (b := a1_0 == 2) rfl (fun g_2 => ?_) (fun g_2 => ?_)))))
  ·replace h := if_tt g_2 h
   refine Tri.seq ?_
   obtain ⟨y6r, hE_2, h⟩ := bind_some h
   refine Tri.cut (fun e' C' => e' = [(2, .pointer (some ⟨b2_1, 0, none⟩)), (4, .pointer (some ⟨b4_1, 0, none⟩)), (6, .bool y6r)] ∧ C' = Sep w (footM [R.sl Sa0_1 va0_1 a0_1, R.sl Sa0_2 va0_2 a0_2, R.sl Sa0_3 va0_3 a0_3]) [R.box b4_1 44 [.int .i64 0, .slice none 0 0, .slice none 0 0, .slice none 0 0, .int .i64 0], R.box b2_1 44 [.int .i64 a0_0, va0_1, va0_2, va0_3, .int .i64 a0_4], R.sl Sa0_1 va0_1 (a0_1 : List (Int × Int × Int)), R.sl Sa0_2 va0_2 (a0_2 : List (Int)), R.sl Sa0_3 va0_3 (a0_3 : List (Int))]) ?_ (fun hj_2 => ?_)
   ·rintro _ _ ⟨rfl, rfl⟩
    refine Nrm.seq ?_
    obtain ⟨t54, h54, h⟩ := bind_some h
    obtain ⟨t55, h55, h⟩ := bind_some h
    refine Tri.drawA mixedT Sep.up [(0, true), (1, true), (2, true), (3, true), (4, true), (5, true), (6, true), (7, true), (8, true)] [9] (by kernel_rfl) ?_
    refine S.qn rfl (r_fieldAddr tf44_1 rfl) (S.qn rfl (r_load ta25 rfl (fun w hw => cell_1 (box_cells (i := 1) rfl w hw) rfl)) (S.qn rfl (r_fieldAddr tf44_1 rfl) (S.qn rfl (r_load ta25 rfl (fun w hw => cell_1 (box_cells (i := 1) rfl w hw) rfl)) (S.qn rfl (r_len Tryz.underlying25 rfl hl_va0_3) (S.qn rfl (r_sub rfl rfl) ?_)))))
    refine S.qcn rfl (q_callF (xs := _) rfl ok198 rfl rfl (fun w hw => spec_l1Most.ok h54 w )) ?_
    refine S.qn rfl (r_sliceH Tryz.underlying25 ti3 rfl (rd_sl (i := 4) rfl) rfl h55) (S.qn rfl (r_fieldAddr tf44_1 rfl) (S.nil (F.ef0 rfl rfl (wanted_none rfl) (d_storeG1 (i := 1) (cs2 := [(slSub va0_3 1 (0 : Int).toNat (t54 : Int).toNat)]) ti25 rfl rfl rfl (sl_cells (slc_len hl_va0_3 h55)) rfl (Nat.le_of_ble_eq_true rfl) (lf_cons (sl_leaf (slc_len hl_va0_3 h55)) lf_nil)) ?_)))
    rintro _ _ ⟨rfl, rfl⟩
    refine F.nil (Nrm.imp (fun w hw => Sep.resl (i := 4) rfl h55 hw) ?_)
    refine Nrm.block ?_
    refine Nrm.seq (Tri.seq (Tri.reg (l := [0, 1, 2, 3]) rfl ?_))
    refine F.qn rfl (r_loadA ta44 ti44 rfl rfl (fun w hw => (box_cells (i := 1) rfl w hw))) (F.qn rfl (r_move rfl) ?_)
    refine F.ef0 rfl rfl (wanted_none rfl) (d_storeG0 (i := 0) (cs2 := [.int .i64 a0_0, va0_1, va0_2, (slSub va0_3 1 (0 : Int).toNat (t54 : Int).toNat), .int .i64 a0_4]) ti44 rfl rfl rfl rfl rfl (Nat.le_of_ble_eq_true rfl) (lf_cons rfl (lf_cons (sl_leaf hl_va0_1) (lf_cons (sl_leaf hl_va0_2) (lf_cons (sl_leaf (slc_len hl_va0_3 h55)) (lf_cons rfl lf_nil)))))) ?_
    rintro _ _ ⟨rfl, rfl⟩
    refine F.qn rfl (r_assign rfl) (F.nil (Nrm.seq (Tri.ret ?_)))
    cases h
    exact Rtn.body (.cell rfl ta44 ti44 rfl (fun _ hw => box_cells (i := 0) rfl _ hw) (.tmp rfl .nil)) (fun w hw => ⟨_, _, rfl, ⟨va0_1, Sa0_1, va0_2, Sa0_2, (slSub va0_3 1 (0 : Int).toNat (t54 : Int).toNat), Sa0_3, rfl, hl_va0_1, hl_va0_2, (slc_len hl_va0_3 h55), rfl⟩, Sep.pick (is := [2, 3, 4]) rfl rfl hw⟩)
   ·rcases Bool.eq_false_or_eq_true (decide ((a0_3.length : Int) > 1)) with g33 | g33
    ·replace hE_2 := if_tt g33 hE_2
     rcases Bool.eq_false_or_eq_true (a1_1 == 0) with g38 | g38
     ·replace hE_2 := if_tt g38 hE_2
      rcases Bool.eq_false_or_eq_true (a1_2 == 0) with g43 | g43
      ·replace hE_2 := if_tt g43 hE_2
       refine Tri.reg (l := List.range 20) rfl ?_
       refine F.qn rfl (r_fieldAddr tf44_1 rfl) (F.qn rfl (r_load ta25 rfl (fun w hw => cell_1 (box_cells (i := 2) rfl w hw) rfl)) ?_)
       refine F.qn rfl (r_len Tryz.underlying25 rfl hl_va0_3) (F.qn rfl (r_gtr rfl rfl) (F.qn rfl (r_move rfl) (F.qg rfl g33 (r_fieldAddr tf48_1 rfl) (F.qg rfl g33 (r_load ta3 rfl (fun w hw => cell_1 (box_cells (i := 1) rfl w hw) rfl)) (F.qg rfl g33 (r_eql rfl rfl) ?_)))))
       refine F.qn rfl (r_pick rfl rfl g33) (F.qn rfl (r_move rfl) (F.qg rfl g38 (r_fieldAddr tf48_2 rfl) (F.qg rfl g38 (r_load ta3 rfl (fun w hw => cell_1 (box_cells (i := 1) rfl w hw) rfl)) (F.qg rfl g38 (r_eql rfl rfl) (F.qn rfl (r_pick rfl rfl g38) ?_)))))
       refine F.qn rfl (r_move rfl) (F.qg rfl g43 (r_fieldAddr tf48_3 rfl) (F.qg rfl g43 (r_load ta3 rfl (fun w hw => cell_1 (box_cells (i := 1) rfl w hw) rfl)) (F.qg rfl g43 (r_eql rfl rfl) (F.qn rfl (r_pick rfl rfl g43) (F.qn rfl (r_assign rfl) (F.nil ?_))))))
       cases hE_2
       refine Nrm.only [2, 4, 6] rfl ?_
       refine Nrm.pick [0, 2, 3, 4, 5] rfl rfl ?_
       exact hj_2 _ _ ⟨rfl, rfl⟩
      ·replace hE_2 := if_ff g43 hE_2
       refine Tri.reg (l := List.range 20) rfl ?_
       refine F.qn rfl (r_fieldAddr tf44_1 rfl) (F.qn rfl (r_load ta25 rfl (fun w hw => cell_1 (box_cells (i := 2) rfl w hw) rfl)) (F.qn rfl (r_len Tryz.underlying25 rfl hl_va0_3) ?_))
       refine F.qn rfl (r_gtr rfl rfl) (F.qn rfl (r_move rfl) (F.qg rfl g33 (r_fieldAddr tf48_1 rfl) (F.qg rfl g33 (r_load ta3 rfl (fun w hw => cell_1 (box_cells (i := 1) rfl w hw) rfl)) (F.qg rfl g33 (r_eql rfl rfl) (F.qn rfl (r_pick rfl rfl g33) ?_)))))
       refine F.qn rfl (r_move rfl) (F.qg rfl g38 (r_fieldAddr tf48_2 rfl) (F.qg rfl g38 (r_load ta3 rfl (fun w hw => cell_1 (box_cells (i := 1) rfl w hw) rfl)) (F.qg rfl g38 (r_eql rfl rfl) (F.qn rfl (r_pick rfl rfl g38) (F.qn rfl (r_move rfl) ?_)))))
       iterate 3 refine F.skf rfl g43 ?_
       refine F.qn rfl (r_pickf rfl rfl g43) (F.qn rfl (r_assign rfl) (F.nil ?_))
       cases hE_2
       refine Nrm.only [2, 4, 6] rfl ?_
       refine Nrm.pick [0, 2, 3, 4, 5] rfl rfl ?_
       exact hj_2 _ _ ⟨rfl, rfl⟩
     ·replace hE_2 := if_ff g38 hE_2
      refine Tri.reg (l := List.range 20) rfl ?_
      refine F.qn rfl (r_fieldAddr tf44_1 rfl) (F.qn rfl (r_load ta25 rfl (fun w hw => cell_1 (box_cells (i := 2) rfl w hw) rfl)) (F.qn rfl (r_len Tryz.underlying25 rfl hl_va0_3) (F.qn rfl (r_gtr rfl rfl) ?_)))
      refine F.qn rfl (r_move rfl) (F.qg rfl g33 (r_fieldAddr tf48_1 rfl) (F.qg rfl g33 (r_load ta3 rfl (fun w hw => cell_1 (box_cells (i := 1) rfl w hw) rfl)) (F.qg rfl g33 (r_eql rfl rfl) (F.qn rfl (r_pick rfl rfl g33) (F.qn rfl (r_move rfl) ?_)))))
      iterate 3 refine F.skf rfl g38 ?_
      refine F.qn rfl (r_pickf rfl rfl g38) (F.qn rfl (r_move rfl) ?_)
      iterate 3 refine F.skf rfl rfl ?_
      refine F.qn rfl (r_pickf rfl rfl rfl) (F.qn rfl (r_assign rfl) (F.nil ?_))
      cases hE_2
      refine Nrm.only [2, 4, 6] rfl ?_
      refine Nrm.pick [0, 2, 3, 4, 5] rfl rfl ?_
      exact hj_2 _ _ ⟨rfl, rfl⟩
    ·replace hE_2 := if_ff g33 hE_2
     refine Tri.reg (l := List.range 20) rfl ?_
     refine F.qn rfl (r_fieldAddr tf44_1 rfl) (F.qn rfl (r_load ta25 rfl (fun w hw => cell_1 (box_cells (i := 2) rfl w hw) rfl)) (F.qn rfl (r_len Tryz.underlying25 rfl hl_va0_3) (F.qn rfl (r_gtr rfl rfl) (F.qn rfl (r_move rfl) ?_))))
     iterate 3 refine F.skf rfl g33 ?_
     refine F.qn rfl (r_pickf rfl rfl g33) (F.qn rfl (r_move rfl) ?_)
     iterate 3 refine F.skf rfl rfl ?_
     refine F.qn rfl (r_pickf rfl rfl rfl) (F.qn rfl (r_move rfl) ?_)
     iterate 3 refine F.skf rfl rfl ?_
     refine F.qn rfl (r_pickf rfl rfl rfl) (F.qn rfl (r_assign rfl) (F.nil ?_))
     cases hE_2
     refine Nrm.only [2, 4, 6] rfl ?_
     refine Nrm.pick [0, 2, 3, 4, 5] rfl rfl ?_
     exact hj_2 _ _ ⟨rfl, rfl⟩
  ·replace h := if_ff g_2 h
   refine Tri.seq (Tri.reg (l := [0, 1]) rfl ?_)
   refine F.qn rfl (r_eql rfl rfl) (F.qn rfl (r_assign rfl) (F.nil (Nrm.seq (Tri.cond (b := a1_0 == 3) rfl (fun g_3 => ?_) (fun g_3 => ?_)))))
   ·replace h := if_tt g_3 h
    refine Tri.seq (Tri.seq ?_)
    obtain ⟨y71, hE_3, h⟩ := bind_some h
    refine Tri.cut (fun e' C' => e' = [(2, .pointer (some ⟨b2_1, 0, none⟩)), (3, .pointer (some ⟨b3_1, 0, none⟩)), (4, .pointer (some ⟨b4_1, 0, none⟩)), (6, .bool true), (71, .bool y71)] ∧ C' = Sep w (footM [R.sl Sa0_1 va0_1 a0_1, R.sl Sa0_2 va0_2 a0_2, R.sl Sa0_3 va0_3 a0_3]) [R.box b4_1 44 [.int .i64 0, .slice none 0 0, .slice none 0 0, .slice none 0 0, .int .i64 0], R.box b3_1 48 [.int .i64 a1_0, .int .i64 a1_1, .int .i64 a1_2, .int .i64 a1_3], R.box b2_1 44 [.int .i64 a0_0, va0_1, va0_2, va0_3, .int .i64 a0_4], R.sl Sa0_1 va0_1 (a0_1 : List (Int × Int × Int)), R.sl Sa0_2 va0_2 (a0_2 : List (Int)), R.sl Sa0_3 va0_3 (a0_3 : List (Int))]) ?_ (fun hj_3 => ?_)
    ·rintro _ _ ⟨rfl, rfl⟩
     refine Nrm.seq (Tri.cond (b := y71) rfl (fun g_4 => ?_) (fun g_4 => ?_))
     ·replace h := if_tt g_4 h
      refine Tri.seq (Tri.reg (l := [0, 1, 2]) rfl ?_)
      refine F.qn rfl (r_loadA ta44 ti44 rfl rfl (fun w hw => (box_cells (i := 2) rfl w hw))) ?_
      refine F.ef0 rfl rfl (wanted_none rfl) (d_storeG0 (i := 0) (cs2 := [.int .i64 a0_0, va0_1, va0_2, va0_3, .int .i64 a0_4]) ti44 rfl rfl rfl rfl rfl (Nat.le_of_ble_eq_true rfl) (lf_cons rfl (lf_cons (sl_leaf hl_va0_1) (lf_cons (sl_leaf hl_va0_2) (lf_cons (sl_leaf hl_va0_3) (lf_cons rfl lf_nil)))))) ?_
      rintro _ _ ⟨rfl, rfl⟩
      refine F.qn rfl (r_assign rfl) (F.nil (Nrm.seq (Tri.ret ?_)))
      refine Rtn.then ?_
      refine Rtn.block ?_
      refine Rtn.then ?_
      cases h
      exact Rtn.body (.cell rfl ta44 ti44 rfl (fun _ hw => box_cells (i := 0) rfl _ hw) (.tmp rfl .nil)) (fun w hw => ⟨_, _, rfl, ⟨va0_1, Sa0_1, va0_2, Sa0_2, va0_3, Sa0_3, rfl, hl_va0_1, hl_va0_2, hl_va0_3, rfl⟩, Sep.pick (is := [3, 4, 5]) rfl rfl hw⟩)
     ·replace h := if_ff g_4 h
      refine Tri.skip (Nrm.seq ?_)
      obtain ⟨t80, h80, h⟩ := bind_some h
      refine Tri.reg (l := [0, 1, 2, 3, 4, 5, 6, 7, 8]) rfl ?_
      refine F.qn rfl (r_fieldAddr tf44_0 rfl) (F.qn rfl (r_fieldAddr tf27_2 rfl) ?_)
      refine F.qn rfl (r_load ta25 rfl (fun w hw => cell_2 (box_cells (i := 2) rfl w hw) rfl)) (F.qn rfl (r_fieldAddr tf48_1 rfl) (F.qn rfl (r_load ta3 rfl (fun w hw => cell_1 (box_cells (i := 1) rfl w hw) rfl)) (F.qn rfl (r_fieldAddr tf48_2 rfl) (F.qn rfl (r_load ta3 rfl (fun w hw => cell_1 (box_cells (i := 1) rfl w hw) rfl)) (F.qn rfl (r_indexAddrS Tryz.underlying25 ti3 rfl hl_va0_2 rfl (rdl_some h80).1 (rdl_some h80).2.1) ?_)))))
      refine F.ef0 rfl rfl (wanted_none rfl) (d_storeE (i := 4) (x1 := a1_2) ti3 rfl rfl rfl (rdl_some h80) rfl) ?_
      rintro _ _ ⟨rfl, rfl⟩
      refine F.nil (Nrm.block ?_)
      refine Nrm.seq (Tri.seq (Tri.reg (l := [0, 1, 2, 3]) rfl ?_))
      refine F.qn rfl (r_loadA ta44 ti44 rfl rfl (fun w hw => (box_cells (i := 2) rfl w hw))) (F.qn rfl (r_move rfl) ?_)
      refine F.ef0 rfl rfl (wanted_none rfl) (d_storeG0 (i := 0) (cs2 := [.int .i64 a0_0, va0_1, va0_2, va0_3, .int .i64 a0_4]) ti44 rfl rfl rfl rfl rfl (Nat.le_of_ble_eq_true rfl) (lf_cons rfl (lf_cons (sl_leaf hl_va0_1) (lf_cons (sl_leaf hl_va0_2) (lf_cons (sl_leaf hl_va0_3) (lf_cons rfl lf_nil)))))) ?_
      rintro _ _ ⟨rfl, rfl⟩
      refine F.qn rfl (r_assign rfl) (F.nil (Nrm.seq (Tri.ret ?_)))
      cases h
      exact Rtn.body (.cell rfl ta44 ti44 rfl (fun _ hw => box_cells (i := 0) rfl _ hw) (.tmp rfl .nil)) (fun w hw => ⟨_, _, rfl, ⟨va0_1, Sa0_1, va0_2, Sa0_2, va0_3, Sa0_3, rfl, hl_va0_1, (len_set hl_va0_2), hl_va0_3, rfl⟩, Sep.pick (is := [3, 4, 5]) rfl rfl hw⟩)
    ·obtain ⟨t65, h65, hE_3⟩ := bind_some hE_3
     rcases Bool.eq_false_or_eq_true (!t65) with g67 | g67
     ·replace hE_3 := if_tt g67 hE_3
      refine Tri.reg (l := List.range 13) rfl ?_
      refine F.qn rfl (r_fieldAddr tf48_1 rfl) (F.qn rfl (r_load ta3 rfl (fun w hw => cell_1 (box_cells (i := 1) rfl w hw) rfl)) (F.qn rfl (r_fieldAddr tf44_0 rfl) (F.qn rfl (r_fieldAddr tf27_0 rfl) (F.qn rfl (r_load ta3 rfl (fun w hw => cell_2 (box_cells (i := 2) rfl w hw) rfl)) (F.qn rfl (r_sub rfl rfl) ?_)))))
      refine F.qcn rfl (q_callF (xs := _) rfl ok148 rfl rfl (fun w hw => spec_l1In.ok h65 w )) ?_
      refine F.qn rfl (r_not rfl) (F.qn rfl (r_move rfl) ?_)
      iterate 3 refine F.skf rfl g67 ?_
      refine F.qn rfl (r_pick rfl rfl g67) (F.nil ?_)
      cases hE_3
      refine Nrm.only [2, 3, 4, 6, 71] rfl ?_
      refine Nrm.pick [0, 1, 2, 3, 4, 5] rfl rfl ?_
      exact hj_3 _ _ ⟨rfl, rfl⟩
     ·replace hE_3 := if_ff g67 hE_3
      refine Tri.reg (l := List.range 13) rfl ?_
      refine F.qn rfl (r_fieldAddr tf48_1 rfl) (F.qn rfl (r_load ta3 rfl (fun w hw => cell_1 (box_cells (i := 1) rfl w hw) rfl)) (F.qn rfl (r_fieldAddr tf44_0 rfl) (F.qn rfl (r_fieldAddr tf27_0 rfl) (F.qn rfl (r_load ta3 rfl (fun w hw => cell_2 (box_cells (i := 2) rfl w hw) rfl)) (F.qn rfl (r_sub rfl rfl) ?_)))))
      refine F.qcn rfl (q_callF (xs := _) rfl ok148 rfl rfl (fun w hw => spec_l1In.ok h65 w )) ?_
      refine F.qn rfl (r_not rfl) (F.qn rfl (r_move rfl) (F.qg rfl g67 (r_fieldAddr tf48_3 rfl) (F.qg rfl g67 (r_load ta3 rfl (fun w hw => cell_1 (box_cells (i := 1) rfl w hw) rfl)) (F.qg rfl g67 (r_neq rfl rfl) (F.qn rfl (r_pickf rfl rfl g67) (F.nil ?_))))))
      cases hE_3
      refine Nrm.only [2, 3, 4, 6, 71] rfl ?_
      refine Nrm.pick [0, 1, 2, 3, 4, 5] rfl rfl ?_
      exact hj_3 _ _ ⟨rfl, rfl⟩
   ·replace h := if_ff g_3 h
    refine Tri.seq (Tri.reg (l := [0, 1]) rfl ?_)
    refine F.qn rfl (r_eql rfl rfl) (F.qn rfl (r_assign rfl) (F.nil (Nrm.seq (Tri.cond (b := a1_0 == 4) rfl (fun g_5 => ?_) (fun g_5 => ?_)))))
    ·replace h := if_tt g_5 h
     obtain ⟨⟨t92_1, t92_2, t92_3, t92_4⟩, h92, h⟩ := bind_some h
     refine Tri.reg (l := List.range 15) rfl ?_
     refine F.qn rfl (r_fieldAddr tf44_0 rfl) (F.qn rfl (r_loadA ta27 ti27 rfl rfl (fun w hw => cells_1 (cs' := [.int .i64 a0_0, va0_1, va0_2]) (box_cells (i := 2) rfl w hw) rfl)) ?_)
     refine F.qn rfl (r_fieldAddr tf48_1 rfl) (F.qn rfl (r_load ta3 rfl (fun w hw => cell_1 (box_cells (i := 1) rfl w hw) rfl)) (F.qn rfl (r_fieldAddr tf48_2 rfl) (F.qn rfl (r_load ta3 rfl (fun w hw => cell_1 (box_cells (i := 1) rfl w hw) rfl)) (F.qn rfl (r_fieldAddr tf48_3 rfl) (F.qn rfl (r_load ta3 rfl (fun w hw => cell_1 (box_cells (i := 1) rfl w hw) rfl)) ?_)))))
     refine F.mn rfl (m_callF (xs := _) rfl ok242 rfl rfl (fun w hw => spec_AddDoor.ok h92 w ((rd_sl (i := 3) rfl) w hw) ((rd_sl (i := 4) rfl) w hw))) ?_
     rintro _ _ ⟨_, ⟨v92_1, S92_1, v92_2, S92_2, rfl, hl_v92_1, hl_v92_2, rfl⟩, rfl⟩
     refine F.qn rfl (r_move rfl) (F.qn rfl (r_extract rfl rfl) (F.qn rfl (r_extract rfl rfl) (F.qn rfl (r_fieldAddr tf44_0 rfl) ?_)))
     refine F.ef0 rfl rfl (wanted_none rfl) (d_storeG1 (i := 4) (cs2 := [.int .i64 t92_1, v92_1, v92_2]) ti27 rfl rfl rfl rfl rfl (Nat.le_of_ble_eq_true rfl) (lf_cons rfl (lf_cons (sl_leaf hl_v92_1) (lf_cons (sl_leaf hl_v92_2) lf_nil)))) ?_
     rintro _ _ ⟨rfl, rfl⟩
     refine F.qn rfl (r_assign rfl) (F.nil (Nrm.block ?_))
     refine Nrm.seq (Tri.seq (Tri.reg (l := [0, 1, 2, 3]) rfl ?_))
     refine F.qn rfl (r_loadA ta44 ti44 rfl rfl (fun w hw => (box_cells (i := 4) rfl w hw))) (F.qn rfl (r_move rfl) ?_)
     refine F.ef0 rfl rfl (wanted_none rfl) (d_storeG0 (i := 2) (cs2 := [.int .i64 t92_1, v92_1, v92_2, va0_3, .int .i64 a0_4]) ti44 rfl rfl rfl rfl rfl (Nat.le_of_ble_eq_true rfl) (lf_cons rfl (lf_cons (sl_leaf hl_v92_1) (lf_cons (sl_leaf hl_v92_2) (lf_cons (sl_leaf hl_va0_3) (lf_cons rfl lf_nil)))))) ?_
     rintro _ _ ⟨rfl, rfl⟩
     refine F.qn rfl (r_assign rfl) (F.nil (Nrm.seq (Tri.ret ?_)))
     cases h
     exact Rtn.body (.cell rfl ta44 ti44 rfl (fun _ hw => box_cells (i := 2) rfl _ hw) (.tmp rfl .nil)) (fun w hw => ⟨_, _, rfl, ⟨v92_1, S92_1, v92_2, S92_2, va0_3, Sa0_3, rfl, hl_v92_1, hl_v92_2, hl_va0_3, rfl⟩, Sep.pick (is := [0, 1, 7]) rfl rfl hw⟩)
    ·replace h := if_ff g_5 h
     refine Tri.seq (Tri.reg (l := [0, 1]) rfl ?_)
     refine F.qn rfl (r_eql rfl rfl) (F.qn rfl (r_assign rfl) (F.nil (Nrm.seq (Tri.cond (b := a1_0 == 5) rfl (fun g_6 => ?_) (fun g_6 => ?_)))))
     ·replace h := if_tt g_6 h
      refine Tri.seq ?_
      obtain ⟨⟨t103_1, t103_2, t103_3, t103_4⟩, h103, h⟩ := bind_some h
      refine Tri.reg (l := [0, 1, 2, 3, 4, 5, 6, 7, 8, 9, 10]) rfl ?_
      refine F.qn rfl (r_fieldAddr tf44_0 rfl) (F.qn rfl (r_loadA ta27 ti27 rfl rfl (fun w hw => cells_1 (cs' := [.int .i64 a0_0, va0_1, va0_2]) (box_cells (i := 2) rfl w hw) rfl)) (F.qn rfl (r_fieldAddr tf48_1 rfl) (F.qn rfl (r_load ta3 rfl (fun w hw => cell_1 (box_cells (i := 1) rfl w hw) rfl)) ?_)))
      refine F.mn rfl (m_callF (xs := _) rfl ok243 rfl rfl (fun w hw => spec_DropDoor.ok h103 w ((rd_sl (i := 3) rfl) w hw) ((rd_sl (i := 4) rfl) w hw))) ?_
      rintro _ _ ⟨_, ⟨v103_1, S103_1, v103_2, S103_2, rfl, hl_v103_1, hl_v103_2, rfl⟩, rfl⟩
      refine F.qn rfl (r_move rfl) (F.qn rfl (r_extract rfl rfl) (F.qn rfl (r_extract rfl rfl) (F.qn rfl (r_fieldAddr tf44_0 rfl) ?_)))
      refine F.ef0 rfl rfl (wanted_none rfl) (d_storeG1 (i := 4) (cs2 := [.int .i64 t103_1, v103_1, v103_2]) ti27 rfl rfl rfl rfl rfl (Nat.le_of_ble_eq_true rfl) (lf_cons rfl (lf_cons (sl_leaf hl_v103_1) (lf_cons (sl_leaf hl_v103_2) lf_nil)))) ?_
      rintro _ _ ⟨rfl, rfl⟩
      refine F.qn rfl (r_assign rfl) (F.nil (Nrm.seq ?_))
      obtain ⟨y6rr, hE_4, h⟩ := bind_some h
      refine Tri.cut (fun e' C' => e' = [(2, .pointer (some ⟨b2_1, 0, none⟩)), (4, .pointer (some ⟨b4_1, 0, none⟩)), (6, .bool y6rr)] ∧ C' = Sep w (footM [R.sl Sa0_1 va0_1 a0_1, R.sl Sa0_2 va0_2 a0_2, R.sl Sa0_3 va0_3 a0_3]) [R.box b4_1 44 [.int .i64 0, .slice none 0 0, .slice none 0 0, .slice none 0 0, .int .i64 0], R.box b2_1 44 [.int .i64 t103_1, v103_1, v103_2, va0_3, .int .i64 a0_4], R.sl S103_1 v103_1 (t103_2 : List (Int × Int × Int)), R.sl S103_2 v103_2 (t103_3 : List (Int)), R.sl Sa0_3 va0_3 (a0_3 : List (Int))]) ?_ (fun hj_4 => ?_)
      ·rintro _ _ ⟨rfl, rfl⟩
       refine Nrm.block ?_
       refine Nrm.seq (Tri.seq (Tri.reg (l := [0, 1, 2, 3]) rfl ?_))
       refine F.qn rfl (r_loadA ta44 ti44 rfl rfl (fun w hw => (box_cells (i := 1) rfl w hw))) (F.qn rfl (r_move rfl) ?_)
       refine F.ef0 rfl rfl (wanted_none rfl) (d_storeG0 (i := 0) (cs2 := [.int .i64 t103_1, v103_1, v103_2, va0_3, .int .i64 a0_4]) ti44 rfl rfl rfl rfl rfl (Nat.le_of_ble_eq_true rfl) (lf_cons rfl (lf_cons (sl_leaf hl_v103_1) (lf_cons (sl_leaf hl_v103_2) (lf_cons (sl_leaf hl_va0_3) (lf_cons rfl lf_nil)))))) ?_
       rintro _ _ ⟨rfl, rfl⟩
       refine F.qn rfl (r_assign rfl) (F.nil (Nrm.seq (Tri.ret ?_)))
       cases h
       exact Rtn.body (.cell rfl ta44 ti44 rfl (fun _ hw => box_cells (i := 0) rfl _ hw) (.tmp rfl .nil)) (fun w hw => ⟨_, _, rfl, ⟨v103_1, S103_1, v103_2, S103_2, va0_3, Sa0_3, rfl, hl_v103_1, hl_v103_2, hl_va0_3, rfl⟩, Sep.pick (is := [2, 3, 4]) rfl rfl hw⟩)
      ·rcases Bool.eq_false_or_eq_true (t103_4) with g108 | g108
       ·replace hE_4 := if_tt g108 hE_4
        rcases Bool.eq_false_or_eq_true (a1_2 == 0) with g113 | g113
        ·replace hE_4 := if_tt g113 hE_4
         refine Tri.reg (l := List.range 12) rfl ?_
         refine F.qn rfl (r_move rfl) (F.qn rfl (r_move rfl) (F.qg rfl g108 (r_fieldAddr tf48_2 rfl) (F.qg rfl g108 (r_load ta3 rfl (fun w hw => cell_1 (box_cells (i := 3) rfl w hw) rfl)) (F.qg rfl g108 (r_eql rfl rfl) (F.qn rfl (r_pick rfl rfl g108) ?_)))))
         refine F.qn rfl (r_move rfl) (F.qg rfl g113 (r_fieldAddr tf48_3 rfl) (F.qg rfl g113 (r_load ta3 rfl (fun w hw => cell_1 (box_cells (i := 3) rfl w hw) rfl)) (F.qg rfl g113 (r_eql rfl rfl) (F.qn rfl (r_pick rfl rfl g113) (F.qn rfl (r_assign rfl) (F.nil ?_))))))
         cases hE_4
         refine Nrm.only [2, 4, 6] rfl ?_
         refine Nrm.pick [2, 4, 0, 1, 7] rfl rfl ?_
         exact hj_4 _ _ ⟨rfl, rfl⟩
        ·replace hE_4 := if_ff g113 hE_4
         refine Tri.reg (l := List.range 12) rfl ?_
         refine F.qn rfl (r_move rfl) ?_
         refine F.qn rfl (r_move rfl) (F.qg rfl g108 (r_fieldAddr tf48_2 rfl) (F.qg rfl g108 (r_load ta3 rfl (fun w hw => cell_1 (box_cells (i := 3) rfl w hw) rfl)) (F.qg rfl g108 (r_eql rfl rfl) (F.qn rfl (r_pick rfl rfl g108) (F.qn rfl (r_move rfl) ?_)))))
         iterate 3 refine F.skf rfl g113 ?_
         refine F.qn rfl (r_pickf rfl rfl g113) (F.qn rfl (r_assign rfl) (F.nil ?_))
         cases hE_4
         refine Nrm.only [2, 4, 6] rfl ?_
         refine Nrm.pick [2, 4, 0, 1, 7] rfl rfl ?_
         exact hj_4 _ _ ⟨rfl, rfl⟩
       ·replace hE_4 := if_ff g108 hE_4
        refine Tri.reg (l := List.range 12) rfl ?_
        refine F.qn rfl (r_move rfl) (F.qn rfl (r_move rfl) ?_)
        iterate 3 refine F.skf rfl g108 ?_
        refine F.qn rfl (r_pickf rfl rfl g108) (F.qn rfl (r_move rfl) ?_)
        iterate 3 refine F.skf rfl rfl ?_
        refine F.qn rfl (r_pickf rfl rfl rfl) (F.qn rfl (r_assign rfl) (F.nil ?_))
        cases hE_4
        refine Nrm.only [2, 4, 6] rfl ?_
        refine Nrm.pick [2, 4, 0, 1, 7] rfl rfl ?_
        exact hj_4 _ _ ⟨rfl, rfl⟩
     ·replace h := if_ff g_6 h
      refine Tri.seq (Tri.reg (l := [0, 1, 2]) rfl ?_)
      refine F.qn rfl (r_loadA ta44 ti44 rfl rfl (fun w hw => (box_cells (i := 2) rfl w hw))) ?_
      refine F.ef0 rfl rfl (wanted_none rfl) (d_storeG0 (i := 0) (cs2 := [.int .i64 a0_0, va0_1, va0_2, va0_3, .int .i64 a0_4]) ti44 rfl rfl rfl rfl rfl (Nat.le_of_ble_eq_true rfl) (lf_cons rfl (lf_cons (sl_leaf hl_va0_1) (lf_cons (sl_leaf hl_va0_2) (lf_cons (sl_leaf hl_va0_3) (lf_cons rfl lf_nil)))))) ?_
      rintro _ _ ⟨rfl, rfl⟩
      refine F.qn rfl (r_assign rfl) (F.nil (Nrm.seq (Tri.ret ?_)))
      refine Rtn.block ?_
      refine Rtn.then ?_
      cases h
      exact Rtn.body (.cell rfl ta44 ti44 rfl (fun _ hw => box_cells (i := 0) rfl _ hw) (.tmp rfl .nil)) (fun w hw => ⟨_, _, rfl, ⟨va0_1, Sa0_1, va0_2, Sa0_2, va0_3, Sa0_3, rfl, hl_va0_1, hl_va0_2, hl_va0_3, rfl⟩, Sep.pick (is := [3, 4, 5]) rfl rfl hw⟩)


def spec_l12Do.f (k : Nat) (a0_0 : Int) (a0_1 : List (Int × Int × Int)) (a0_2 : List Int) (a0_3 : List Int) (a0_4 : Int) (a1_0 : Int) (a1_1 : Int) (a1_2 : Int) (a1_3 : Int) : Option (Int × (List (Int × Int × Int)) × (List Int) × (List Int) × Int × Bool) := ((spec_l12Own.f k a0_0 a0_1 a0_2 a0_3 a0_4).bind fun (t10_1, t10_2, t10_3, t10_4, t10_5) => (spec_l12Make.f k t10_1 t10_2 t10_3 t10_4 t10_5 a1_0 a1_1 a1_2 a1_3).bind fun (t12_1, t12_2, t12_3, t12_4, t12_5, t12_6) => some (t12_6, t12_1, t12_2, t12_3, t12_4, t12_5)).bind fun (y7, yb6_2_0, yb6_2_1, yb6_2_2, yb6_2_3, yb6_2_4) => ((if (!y7) = true then some true else (spec_l12Good.f k yb6_2_0 yb6_2_1 yb6_2_2 yb6_2_3 (w64 (a0_4 + 1))).bind fun t23 => some (!t23))).bind fun y25 => (if y25 = true then some (0, [], [], [], 0, false) else (spec_l12Own.f k yb6_2_0 yb6_2_1 yb6_2_2 yb6_2_3 (w64 (a0_4 + 1))).bind fun (t28_1, t28_2, t28_3, t28_4, t28_5) => some (t28_1, t28_2, t28_3, t28_4, t28_5, true))

theorem spec_l12Do.ok {k : Nat}  {a0_0 : Int} {a0_1 : List (Int × Int × Int)} {a0_2 : List Int} {a0_3 : List Int} {a0_4 : Int} {a1_0 : Int} {a1_1 : Int} {a1_2 : Int} {a1_3 : Int} {r0 : Int} {r1 : List (Int × Int × Int)} {r2 : List Int} {r3 : List Int} {r4 : Int} {r5 : Bool} (h : spec_l12Do.f k a0_0 a0_1 a0_2 a0_3 a0_4 a1_0 a1_1 a1_2 a1_3 = some (r0, r1, r2, r3, r4, r5)) (w : World) {va0_1 : Value} {va0_2 : Value} {va0_3 : Value} (hr_a0_1 : Rd w va0_1 a0_1) (hr_a0_2 : Rd w va0_2 a0_2) (hr_a0_3 : Rd w va0_3 a0_3) :
  Calls Tryz.prog 114 ([.agg ([.int .i64 a0_0, va0_1, va0_2, va0_3, .int .i64 a0_4].toArray), .agg ([.int .i64 a1_0, .int .i64 a1_1, .int .i64 a1_2, .int .i64 a1_3].toArray)] : List Value).toArray w (Post (fun u ns => ∃ (ur1 : Value) (Sr1 : Nat → Prop) (ur2 : Value) (Sr2 : Nat → Prop) (ur3 : Value) (Sr3 : Nat → Prop), u = .tuple #[.agg [.int .i64 r0, ur1, ur2, ur3, .int .i64 r4].toArray, .bool r5] ∧ SlLen ur1 r1.length ∧ SlLen ur2 r2.length ∧ SlLen ur3 r3.length ∧ ns = [R.sl Sr1 ur1 r1, R.sl Sr2 ur2 r2, R.sl Sr3 ur3 r3]) w) := by
 unfold spec_l12Do.f at h
 have hl_va0_1 := hr_a0_1.len
 have hl_va0_2 := hr_a0_2.len
 have hl_va0_3 := hr_a0_3.len
 refine Calls.of_tri (N := 29) Tryz.func114 rfl rfl rfl (Sep.nil (M := noM)) ?_
 refine Tri.seq (Tri.reg (l := [0, 1, 2, 3]) rfl ?_)
 refine F.mn rfl (m_boxG rfl rfl) ?_
 rintro _ _ ⟨b2_1, rfl, rfl⟩
 refine F.mn rfl (m_boxG rfl rfl) ?_
 rintro _ _ ⟨b3_1, rfl, rfl⟩
 refine F.mn rfl (m_alloc ti44) ?_
 rintro _ _ ⟨b4_1, rfl, rfl⟩
 refine F.qn rfl (r_assign rfl) (F.nil (Nrm.seq (Tri.seq ?_)))
 obtain ⟨⟨y7, yb6_2_0, yb6_2_1, yb6_2_2, yb6_2_3, yb6_2_4⟩, hE_1, h⟩ := bind_some h
 refine Tri.cut (fun e' C' => ∃ (vb6_2_1_1 : Value) (Sb6_2_1_1 : Nat → Prop) (vb6_2_2_1 : Value) (Sb6_2_2_1 : Nat → Prop) (vb6_2_3_1 : Value) (Sb6_2_3_1 : Nat → Prop) (b6_2 : Nat), SlLen vb6_2_1_1 (yb6_2_1).length ∧ SlLen vb6_2_2_1 (yb6_2_2).length ∧ SlLen vb6_2_3_1 (yb6_2_3).length ∧ e' = [(2, .pointer (some ⟨b2_1, 0, none⟩)), (4, .pointer (some ⟨b4_1, 0, none⟩)), (6, .pointer (some ⟨b6_2, 0, none⟩)), (7, .bool y7)] ∧ C' = Sep w noM [R.box b4_1 44 [.int .i64 0, .slice none 0 0, .slice none 0 0, .slice none 0 0, .int .i64 0], R.box b2_1 44 [.int .i64 a0_0, va0_1, va0_2, va0_3, .int .i64 a0_4], R.box b6_2 44 [.int .i64 yb6_2_0, vb6_2_1_1, vb6_2_2_1, vb6_2_3_1, .int .i64 yb6_2_4], R.sl Sb6_2_1_1 vb6_2_1_1 (yb6_2_1 : List (Int × Int × Int)), R.sl Sb6_2_2_1 vb6_2_2_1 (yb6_2_2 : List (Int)), R.sl Sb6_2_3_1 vb6_2_3_1 (yb6_2_3 : List (Int))]) ?_ (fun hj_1 => ?_)
 ·rintro _ _ ⟨vb6_2_1_1, Sb6_2_1_1, vb6_2_2_1, Sb6_2_2_1, vb6_2_3_1, Sb6_2_3_1, b6_2, hl_vb6_2_1_1, hl_vb6_2_2_1, hl_vb6_2_3_1, rfl, rfl⟩
  refine Nrm.seq (Tri.seq (Tri.reg (l := [0, 1, 2, 3, 4]) rfl ?_))
  refine F.qn rfl (r_fieldAddr tf44_2 rfl) (F.qn rfl (r_load ta3 rfl (fun w hw => cell_1 (box_cells (i := 1) rfl w hw) rfl)) (F.qn rfl (r_add rfl rfl) (F.qn rfl (r_fieldAddr tf44_2 rfl) ?_)))
  refine F.ef0 rfl rfl (wanted_none rfl) (d_storeG1 (i := 2) (cs2 := [.int .i64 (w64 (a0_4 + 1))]) ti3 rfl rfl rfl rfl rfl (Nat.le_of_ble_eq_true rfl) (lf_cons rfl lf_nil)) ?_
  rintro _ _ ⟨rfl, rfl⟩
  refine F.nil (Nrm.seq (Tri.seq (Tri.seq ?_)))
  obtain ⟨y25, hE_2, h⟩ := bind_some h
  refine Tri.cut (fun e' C' => e' = [(4, .pointer (some ⟨b4_1, 0, none⟩)), (6, .pointer (some ⟨b6_2, 0, none⟩)), (25, .bool y25)] ∧ C' = Sep w noM [R.box b4_1 44 [.int .i64 0, .slice none 0 0, .slice none 0 0, .slice none 0 0, .int .i64 0], R.box b6_2 44 [.int .i64 yb6_2_0, vb6_2_1_1, vb6_2_2_1, vb6_2_3_1, .int .i64 (w64 (a0_4 + 1))], R.sl Sb6_2_1_1 vb6_2_1_1 (yb6_2_1 : List (Int × Int × Int)), R.sl Sb6_2_2_1 vb6_2_2_1 (yb6_2_2 : List (Int)), R.sl Sb6_2_3_1 vb6_2_3_1 (yb6_2_3 : List (Int))]) ?_ (fun hj_2 => ?_)
  ·rintro _ _ ⟨rfl, rfl⟩
   refine Nrm.seq (Tri.cond (b := y25) rfl (fun g_1 => ?_) (fun g_1 => ?_))
   ·replace h := if_tt g_1 h
    refine Tri.seq (Tri.reg (l := [0, 1, 2]) rfl ?_)
    refine F.qn rfl (r_build (pl := [(0, 3), (3, 1), (4, 1)]) (qs := []) (cs := [.int .i64 0, .slice none 0 0, .slice none 0 0, .slice none 0 0, .int .i64 0]) (by kernel_rfl) ti44 rfl .nil rfl rfl) ?_
    refine F.ef0 rfl rfl (wanted_none rfl) (d_storeG0 (i := 0) (cs2 := [.int .i64 0, .slice none 0 0, .slice none 0 0, .slice none 0 0, .int .i64 0]) ti44 rfl rfl rfl rfl rfl (Nat.le_of_ble_eq_true rfl) (lf_cons rfl (lf_cons rfl (lf_cons rfl (lf_cons rfl (lf_cons rfl lf_nil)))))) ?_
    rintro _ _ ⟨rfl, rfl⟩
    refine F.qn rfl (r_assign rfl) (F.nil (Nrm.seq (Tri.ret ?_)))
    refine Rtn.then ?_
    cases h
    exact Rtn.body (.cell rfl ta44 ti44 rfl (fun _ hw => box_cells (i := 0) rfl _ hw) (.tmp rfl .nil)) (fun w hw => ⟨_, _, rfl, ⟨.slice none 0 0, fun _ => False, .slice none 0 0, fun _ => False, .slice none 0 0, fun _ => False, rfl, len_nil, len_nil, len_nil, rfl⟩, Sep.pick (is := [0, 1, 2]) rfl rfl hw.pushNil.pushNil.pushNil⟩)
   ·replace h := if_ff g_1 h
    refine Tri.skip (Nrm.seq (Tri.seq ?_))
    obtain ⟨⟨t28_1, t28_2, t28_3, t28_4, t28_5⟩, h28, h⟩ := bind_some h
    refine Tri.reg (l := [0, 1, 2, 3]) rfl ?_
    refine F.qn rfl (r_loadA ta44 ti44 rfl rfl (fun w hw => (box_cells (i := 1) rfl w hw))) ?_
    refine F.mn rfl (m_callF (xs := _) rfl ok109 rfl rfl (fun w hw => spec_l12Own.ok h28 w ((rd_sl (i := 2) rfl) w hw) ((rd_sl (i := 3) rfl) w hw) ((rd_sl (i := 4) rfl) w hw))) ?_
    rintro _ _ ⟨_, ⟨v28_1, S28_1, v28_2, S28_2, v28_3, S28_3, rfl, hl_v28_1, hl_v28_2, hl_v28_3, rfl⟩, rfl⟩
    refine F.ef0 rfl rfl (wanted_none rfl) (d_storeG0 (i := 3) (cs2 := [.int .i64 t28_1, v28_1, v28_2, v28_3, .int .i64 t28_5]) ti44 rfl rfl rfl rfl rfl (Nat.le_of_ble_eq_true rfl) (lf_cons rfl (lf_cons (sl_leaf hl_v28_1) (lf_cons (sl_leaf hl_v28_2) (lf_cons (sl_leaf hl_v28_3) (lf_cons rfl lf_nil)))))) ?_
    rintro _ _ ⟨rfl, rfl⟩
    refine F.qn rfl (r_assign rfl) (F.nil (Nrm.seq (Tri.ret ?_)))
    cases h
    exact Rtn.body (.cell rfl ta44 ti44 rfl (fun _ hw => box_cells (i := 3) rfl _ hw) (.tmp rfl .nil)) (fun w hw => ⟨_, _, rfl, ⟨v28_1, S28_1, v28_2, S28_2, v28_3, S28_3, rfl, hl_v28_1, hl_v28_2, hl_v28_3, rfl⟩, Sep.pick (is := [0, 1, 2]) rfl rfl hw⟩)
  ·rcases Bool.eq_false_or_eq_true (!y7) with g21 | g21
   ·replace hE_2 := if_tt g21 hE_2
    refine Tri.reg (l := [0, 1, 2, 3, 4, 5, 6]) rfl ?_
    refine F.qn rfl (r_move rfl) (F.qn rfl (r_not rfl) (F.qn rfl (r_move rfl) ?_))
    iterate 3 refine F.skf rfl g21 ?_
    refine F.qn rfl (r_pick rfl rfl g21) (F.nil ?_)
    cases hE_2
    refine Nrm.only [4, 6, 25] rfl ?_
    refine Nrm.pick [0, 2, 3, 4, 5] rfl rfl ?_
    exact hj_2 _ _ ⟨rfl, rfl⟩
   ·replace hE_2 := if_ff g21 hE_2
    obtain ⟨t23, h23, hE_2⟩ := bind_some hE_2
    refine Tri.reg (l := [0, 1, 2, 3, 4, 5, 6]) rfl ?_
    refine F.qn rfl (r_move rfl) (F.qn rfl (r_not rfl) (F.qn rfl (r_move rfl) (F.qg rfl g21 (r_loadA ta44 ti44 rfl rfl (fun w hw => (box_cells (i := 2) rfl w hw))) ?_)))
    refine F.qc rfl rfl rfl (wg rfl rfl rfl g21) (q_callF (xs := _) rfl ok113 rfl rfl (fun w hw => spec_l12Good.ok h23 w ((rd_sl (i := 3) rfl) w hw) ((rd_sl (i := 4) rfl) w hw) ((rd_sl (i := 5) rfl) w hw))) ?_
    refine F.qg rfl g21 (r_not rfl) (F.qn rfl (r_pickf rfl rfl g21) (F.nil ?_))
    cases hE_2
    refine Nrm.only [4, 6, 25] rfl ?_
    refine Nrm.pick [0, 2, 3, 4, 5] rfl rfl ?_
    exact hj_2 _ _ ⟨rfl, rfl⟩
 ·obtain ⟨⟨t10_1, t10_2, t10_3, t10_4, t10_5⟩, h10, hE_1⟩ := bind_some hE_1
  obtain ⟨⟨t12_1, t12_2, t12_3, t12_4, t12_5, t12_6⟩, h12, hE_1⟩ := bind_some hE_1
  refine Tri.drawT mixedT Sep.up [0, 2, 1, 3, 4, 5, 6, 7, 8] [9] (.q 0 (.q 2 (.alt 1 (.alt 3 (.alt 4 (.alt 5 (.alt 6 (.alt 7 (.alt 8 .nil .stop) .stop) (.alt 7 (.alt 6 (.alt 8 .nil .stop) (.alt 8 (.alt 6 .nil .stop) .stop)) .stop)) (.alt 6 (.alt 5 (.alt 7 (.alt 8 .nil .stop) .stop) (.alt 7 (.alt 5 (.alt 8 .nil .stop) .stop) .stop)) (.alt 7 (.alt 5 (.alt 6 (.alt 8 .nil .stop) (.alt 8 (.alt 6 .nil .stop) .stop)) (.alt 6 (.alt 5 (.alt 8 .nil .stop) .stop) .stop)) .stop))) (.alt 7 (.alt 4 (.alt 5 (.alt 6 (.alt 8 .nil .stop) (.alt 8 (.alt 6 .nil .stop) .stop)) (.alt 6 (.alt 5 (.alt 8 .nil .stop) .stop) .stop)) .stop) .stop)) (.alt 7 (.alt 3 (.alt 4 (.alt 5 (.alt 6 (.alt 8 .nil .stop) (.alt 8 (.alt 6 .nil .stop) .stop)) (.alt 6 (.alt 5 (.alt 8 .nil .stop) .stop) .stop)) .stop) .stop) .stop)) (.alt 7 (.alt 1 (.alt 3 (.alt 4 (.alt 5 (.alt 6 (.alt 8 .nil .stop) (.alt 8 (.alt 6 .nil .stop) .stop)) (.alt 6 (.alt 5 (.alt 8 .nil .stop) .stop) .stop)) .stop) .stop) .stop) .stop)))) (by kernel_rfl) ?_
  refine T.q rfl rfl rfl (wanted_none rfl) (r_loadA ta44 ti44 rfl rfl (fun w hw => (box_cells (i := 2) rfl w hw))) ?_
  refine T.q rfl rfl rfl (wanted_none rfl) (r_loadA ta48 ti48 rfl rfl (fun w hw => (box_cells (i := 1) rfl w hw))) ?_
  refine T.ef rfl rfl rfl (wanted_none rfl) (Makes.does (m_callF (xs := _) rfl ok109 rfl rfl (fun w hw => spec_l12Own.ok h10 w ((fun _ hw => hr_a0_1.sep hw) w hw) ((fun _ hw => hr_a0_2.sep hw) w hw) ((fun _ hw => hr_a0_3.sep hw) w hw)))) (by rintro _ _ ⟨_, ⟨v10_4, S10_4, v10_5, S10_5, v10_6, S10_6, rfl, hl_v10_4, hl_v10_5, hl_v10_6, rfl⟩, rfl⟩; exact upd rfl [3, 4, 5] rfl rfl) ?_ ?_
  ·rintro _ _ ⟨_, ⟨v10_4, S10_4, v10_5, S10_5, v10_6, S10_6, rfl, hl_v10_4, hl_v10_5, hl_v10_6, rfl⟩, rfl⟩
   refine T.ef rfl rfl rfl (wanted_none rfl) (d_callM (xs := _) (cs := [R.sl S10_4 v10_4 (t10_2 : List (Int × Int × Int)), R.sl S10_5 v10_5 (t10_3 : List (Int)), R.sl S10_6 v10_6 (t10_4 : List (Int))]) (rest := [R.box b4_1 44 [.int .i64 0, .slice none 0 0, .slice none 0 0, .slice none 0 0, .int .i64 0], R.box b3_1 48 [.int .i64 a1_0, .int .i64 a1_1, .int .i64 a1_2, .int .i64 a1_3], R.box b2_1 44 [.int .i64 a0_0, va0_1, va0_2, va0_3, .int .i64 a0_4]]) [0, 1, 2] [3, 4, 5] rfl ok205 rfl rfl rfl rfl (fun w hw => spec_l12Make.ok h12 w hl_v10_4 hl_v10_5 hl_v10_6 (Sep.sub hw))) (by rintro _ _ ⟨_, ⟨v12_4, S12_4, v12_5, S12_5, v12_6, S12_6, rfl, hl_v12_4, hl_v12_5, hl_v12_6, rfl⟩, rfl⟩; exact upd rfl [3, 4, 5] rfl rfl) ?_ ?_
   ·rintro _ _ ⟨_, ⟨v12_4, S12_4, v12_5, S12_5, v12_6, S12_6, rfl, hl_v12_4, hl_v12_5, hl_v12_6, rfl⟩, rfl⟩
    refine T.ef rfl rfl rfl (wanted_none rfl) (Runs.does (r_move rfl)) (by rintro _ _ ⟨rfl, rfl⟩; exact upd rfl [3, 4, 5] rfl rfl) ?_ ?_
    ·rintro _ _ ⟨rfl, rfl⟩
     refine T.ef rfl rfl rfl (wanted_none rfl) (Runs.does (r_extract rfl rfl)) (by rintro _ _ ⟨rfl, rfl⟩; exact upd rfl [3, 4, 5] rfl rfl) ?_ ?_
     ·rintro _ _ ⟨rfl, rfl⟩
      refine T.ef rfl rfl rfl (wanted_none rfl) (Runs.does (r_extract rfl rfl)) (by rintro _ _ ⟨rfl, rfl⟩; exact upd rfl [3, 4, 5] rfl rfl) ?_ ?_
      ·rintro _ _ ⟨rfl, rfl⟩
       refine T.ef rfl rfl rfl (wanted_none rfl) (Makes.does (m_alloc ti44)) (by rintro _ _ ⟨b6_3, rfl, rfl⟩; exact upd rfl [4, 5, 6] rfl rfl) ?_ ?_
       ·rintro _ _ ⟨b6_3, rfl, rfl⟩
        refine T.ef0 rfl rfl (wanted_none rfl) (d_storeG0 (i := 0) (cs2 := [.int .i64 t12_1, v12_4, v12_5, v12_6, .int .i64 t12_5]) ti44 rfl rfl rfl rfl rfl (Nat.le_of_ble_eq_true rfl) (lf_cons rfl (lf_cons (sl_leaf hl_v12_4) (lf_cons (sl_leaf hl_v12_5) (lf_cons (sl_leaf hl_v12_6) (lf_cons rfl lf_nil)))))) (by rintro _ _ ⟨rfl, rfl⟩; exact upd rfl [4, 5, 6] rfl rfl) ?_ ?_
        ·rintro _ _ ⟨rfl, rfl⟩
         refine T.nil ?_
         refine F.qn rfl (r_assign rfl) (F.nil ?_)
         cases hE_1
         refine Nrm.only [2, 4, 6, 7] rfl ?_
         refine Nrm.pick [4, 6, 0, 1, 2, 3] rfl rfl ?_
         exact hj_1 _ _ ⟨v12_4, S12_4, v12_5, S12_5, v12_6, S12_6, b6_3, hl_v12_4, hl_v12_5, hl_v12_6, rfl, rfl⟩
        exact T.stop
       exact T.stop
      ·refine T.ef rfl rfl rfl (wanted_none rfl) (Makes.does (m_alloc ti44)) (by rintro _ _ ⟨b6_4, rfl, rfl⟩; exact upd rfl [4, 5, 6] rfl rfl) ?_ ?_
       ·rintro _ _ ⟨b6_4, rfl, rfl⟩
        refine T.ef rfl rfl rfl (wanted_none rfl) (Runs.does (r_extract rfl rfl)) (by rintro _ _ ⟨rfl, rfl⟩; exact upd rfl [4, 5, 6] rfl rfl) ?_ ?_
        ·rintro _ _ ⟨rfl, rfl⟩
         refine T.ef0 rfl rfl (wanted_none rfl) (d_storeG0 (i := 0) (cs2 := [.int .i64 t12_1, v12_4, v12_5, v12_6, .int .i64 t12_5]) ti44 rfl rfl rfl rfl rfl (Nat.le_of_ble_eq_true rfl) (lf_cons rfl (lf_cons (sl_leaf hl_v12_4) (lf_cons (sl_leaf hl_v12_5) (lf_cons (sl_leaf hl_v12_6) (lf_cons rfl lf_nil)))))) (by rintro _ _ ⟨rfl, rfl⟩; exact upd rfl [4, 5, 6] rfl rfl) ?_ ?_
         ·rintro _ _ ⟨rfl, rfl⟩
          refine T.nil ?_
          refine F.qn rfl (r_assign rfl) (F.nil ?_)
          cases hE_1
          refine Nrm.only [2, 4, 6, 7] rfl ?_
          refine Nrm.pick [4, 6, 0, 1, 2, 3] rfl rfl ?_
          exact hj_1 _ _ ⟨v12_4, S12_4, v12_5, S12_5, v12_6, S12_6, b6_4, hl_v12_4, hl_v12_5, hl_v12_6, rfl, rfl⟩
         exact T.stop
        ·refine T.ef0 rfl rfl (wanted_none rfl) (d_storeG0 (i := 0) (cs2 := [.int .i64 t12_1, v12_4, v12_5, v12_6, .int .i64 t12_5]) ti44 rfl rfl rfl rfl rfl (Nat.le_of_ble_eq_true rfl) (lf_cons rfl (lf_cons (sl_leaf hl_v12_4) (lf_cons (sl_leaf hl_v12_5) (lf_cons (sl_leaf hl_v12_6) (lf_cons rfl lf_nil)))))) (by rintro _ _ ⟨rfl, rfl⟩; exact upd rfl [4, 5, 6] rfl rfl) ?_ ?_
         ·rintro _ _ ⟨rfl, rfl⟩
          refine T.ef rfl rfl rfl (wanted_none rfl) (Runs.does (r_extract rfl rfl)) (by rintro _ _ ⟨rfl, rfl⟩; exact upd rfl [4, 5, 6] rfl rfl) ?_ ?_
          ·rintro _ _ ⟨rfl, rfl⟩
           refine T.nil ?_
           refine F.qn rfl (r_assign rfl) (F.nil ?_)
           cases hE_1
           refine Nrm.only [2, 4, 6, 7] rfl ?_
           refine Nrm.pick [4, 6, 0, 1, 2, 3] rfl rfl ?_
           exact hj_1 _ _ ⟨v12_4, S12_4, v12_5, S12_5, v12_6, S12_6, b6_4, hl_v12_4, hl_v12_5, hl_v12_6, rfl, rfl⟩
          exact T.stop
         exact T.stop
       exact T.stop
     ·refine T.ef rfl rfl rfl (wanted_none rfl) (Runs.does (r_extract rfl rfl)) (by rintro _ _ ⟨rfl, rfl⟩; exact upd rfl [3, 4, 5] rfl rfl) ?_ ?_
      ·rintro _ _ ⟨rfl, rfl⟩
       refine T.ef rfl rfl rfl (wanted_none rfl) (Runs.does (r_extract rfl rfl)) (by rintro _ _ ⟨rfl, rfl⟩; exact upd rfl [3, 4, 5] rfl rfl) ?_ ?_
       ·rintro _ _ ⟨rfl, rfl⟩
        refine T.ef rfl rfl rfl (wanted_none rfl) (Makes.does (m_alloc ti44)) (by rintro _ _ ⟨b6_5, rfl, rfl⟩; exact upd rfl [4, 5, 6] rfl rfl) ?_ ?_
        ·rintro _ _ ⟨b6_5, rfl, rfl⟩
         refine T.ef0 rfl rfl (wanted_none rfl) (d_storeG0 (i := 0) (cs2 := [.int .i64 t12_1, v12_4, v12_5, v12_6, .int .i64 t12_5]) ti44 rfl rfl rfl rfl rfl (Nat.le_of_ble_eq_true rfl) (lf_cons rfl (lf_cons (sl_leaf hl_v12_4) (lf_cons (sl_leaf hl_v12_5) (lf_cons (sl_leaf hl_v12_6) (lf_cons rfl lf_nil)))))) (by rintro _ _ ⟨rfl, rfl⟩; exact upd rfl [4, 5, 6] rfl rfl) ?_ ?_
         ·rintro _ _ ⟨rfl, rfl⟩
          refine T.nil ?_
          refine F.qn rfl (r_assign rfl) (F.nil ?_)
          cases hE_1
          refine Nrm.only [2, 4, 6, 7] rfl ?_
          refine Nrm.pick [4, 6, 0, 1, 2, 3] rfl rfl ?_
          exact hj_1 _ _ ⟨v12_4, S12_4, v12_5, S12_5, v12_6, S12_6, b6_5, hl_v12_4, hl_v12_5, hl_v12_6, rfl, rfl⟩
         exact T.stop
        exact T.stop
       ·refine T.ef rfl rfl rfl (wanted_none rfl) (Makes.does (m_alloc ti44)) (by rintro _ _ ⟨b6_6, rfl, rfl⟩; exact upd rfl [4, 5, 6] rfl rfl) ?_ ?_
        ·rintro _ _ ⟨b6_6, rfl, rfl⟩
         refine T.ef rfl rfl rfl (wanted_none rfl) (Runs.does (r_extract rfl rfl)) (by rintro _ _ ⟨rfl, rfl⟩; exact upd rfl [4, 5, 6] rfl rfl) ?_ ?_
         ·rintro _ _ ⟨rfl, rfl⟩
          refine T.ef0 rfl rfl (wanted_none rfl) (d_storeG0 (i := 0) (cs2 := [.int .i64 t12_1, v12_4, v12_5, v12_6, .int .i64 t12_5]) ti44 rfl rfl rfl rfl rfl (Nat.le_of_ble_eq_true rfl) (lf_cons rfl (lf_cons (sl_leaf hl_v12_4) (lf_cons (sl_leaf hl_v12_5) (lf_cons (sl_leaf hl_v12_6) (lf_cons rfl lf_nil)))))) (by rintro _ _ ⟨rfl, rfl⟩; exact upd rfl [4, 5, 6] rfl rfl) ?_ ?_
          ·rintro _ _ ⟨rfl, rfl⟩
           refine T.nil ?_
           refine F.qn rfl (r_assign rfl) (F.nil ?_)
           cases hE_1
           refine Nrm.only [2, 4, 6, 7] rfl ?_
           refine Nrm.pick [4, 6, 0, 1, 2, 3] rfl rfl ?_
           exact hj_1 _ _ ⟨v12_4, S12_4, v12_5, S12_5, v12_6, S12_6, b6_6, hl_v12_4, hl_v12_5, hl_v12_6, rfl, rfl⟩
          exact T.stop
         exact T.stop
        exact T.stop
      ·refine T.ef rfl rfl rfl (wanted_none rfl) (Makes.does (m_alloc ti44)) (by rintro _ _ ⟨b6_7, rfl, rfl⟩; exact upd rfl [4, 5, 6] rfl rfl) ?_ ?_
       ·rintro _ _ ⟨b6_7, rfl, rfl⟩
        refine T.ef rfl rfl rfl (wanted_none rfl) (Runs.does (r_extract rfl rfl)) (by rintro _ _ ⟨rfl, rfl⟩; exact upd rfl [4, 5, 6] rfl rfl) ?_ ?_
        ·rintro _ _ ⟨rfl, rfl⟩
         refine T.ef rfl rfl rfl (wanted_none rfl) (Runs.does (r_extract rfl rfl)) (by rintro _ _ ⟨rfl, rfl⟩; exact upd rfl [4, 5, 6] rfl rfl) ?_ ?_
         ·rintro _ _ ⟨rfl, rfl⟩
          refine T.ef0 rfl rfl (wanted_none rfl) (d_storeG0 (i := 0) (cs2 := [.int .i64 t12_1, v12_4, v12_5, v12_6, .int .i64 t12_5]) ti44 rfl rfl rfl rfl rfl (Nat.le_of_ble_eq_true rfl) (lf_cons rfl (lf_cons (sl_leaf hl_v12_4) (lf_cons (sl_leaf hl_v12_5) (lf_cons (sl_leaf hl_v12_6) (lf_cons rfl lf_nil)))))) (by rintro _ _ ⟨rfl, rfl⟩; exact upd rfl [4, 5, 6] rfl rfl) ?_ ?_
          ·rintro _ _ ⟨rfl, rfl⟩
           refine T.nil ?_
           refine F.qn rfl (r_assign rfl) (F.nil ?_)
           cases hE_1
           refine Nrm.only [2, 4, 6, 7] rfl ?_
           refine Nrm.pick [4, 6, 0, 1, 2, 3] rfl rfl ?_
           exact hj_1 _ _ ⟨v12_4, S12_4, v12_5, S12_5, v12_6, S12_6, b6_7, hl_v12_4, hl_v12_5, hl_v12_6, rfl, rfl⟩
          exact T.stop
         ·refine T.ef0 rfl rfl (wanted_none rfl) (d_storeG0 (i := 0) (cs2 := [.int .i64 t12_1, v12_4, v12_5, v12_6, .int .i64 t12_5]) ti44 rfl rfl rfl rfl rfl (Nat.le_of_ble_eq_true rfl) (lf_cons rfl (lf_cons (sl_leaf hl_v12_4) (lf_cons (sl_leaf hl_v12_5) (lf_cons (sl_leaf hl_v12_6) (lf_cons rfl lf_nil)))))) (by rintro _ _ ⟨rfl, rfl⟩; exact upd rfl [4, 5, 6] rfl rfl) ?_ ?_
          ·rintro _ _ ⟨rfl, rfl⟩
           refine T.ef rfl rfl rfl (wanted_none rfl) (Runs.does (r_extract rfl rfl)) (by rintro _ _ ⟨rfl, rfl⟩; exact upd rfl [4, 5, 6] rfl rfl) ?_ ?_
           ·rintro _ _ ⟨rfl, rfl⟩
            refine T.nil ?_
            refine F.qn rfl (r_assign rfl) (F.nil ?_)
            cases hE_1
            refine Nrm.only [2, 4, 6, 7] rfl ?_
            refine Nrm.pick [4, 6, 0, 1, 2, 3] rfl rfl ?_
            exact hj_1 _ _ ⟨v12_4, S12_4, v12_5, S12_5, v12_6, S12_6, b6_7, hl_v12_4, hl_v12_5, hl_v12_6, rfl, rfl⟩
           exact T.stop
          exact T.stop
        ·refine T.ef rfl rfl rfl (wanted_none rfl) (Runs.does (r_extract rfl rfl)) (by rintro _ _ ⟨rfl, rfl⟩; exact upd rfl [4, 5, 6] rfl rfl) ?_ ?_
         ·rintro _ _ ⟨rfl, rfl⟩
          refine T.ef rfl rfl rfl (wanted_none rfl) (Runs.does (r_extract rfl rfl)) (by rintro _ _ ⟨rfl, rfl⟩; exact upd rfl [4, 5, 6] rfl rfl) ?_ ?_
          ·rintro _ _ ⟨rfl, rfl⟩
           refine T.ef0 rfl rfl (wanted_none rfl) (d_storeG0 (i := 0) (cs2 := [.int .i64 t12_1, v12_4, v12_5, v12_6, .int .i64 t12_5]) ti44 rfl rfl rfl rfl rfl (Nat.le_of_ble_eq_true rfl) (lf_cons rfl (lf_cons (sl_leaf hl_v12_4) (lf_cons (sl_leaf hl_v12_5) (lf_cons (sl_leaf hl_v12_6) (lf_cons rfl lf_nil)))))) (by rintro _ _ ⟨rfl, rfl⟩; exact upd rfl [4, 5, 6] rfl rfl) ?_ ?_
           ·rintro _ _ ⟨rfl, rfl⟩
            refine T.nil ?_
            refine F.qn rfl (r_assign rfl) (F.nil ?_)
            cases hE_1
            refine Nrm.only [2, 4, 6, 7] rfl ?_
            refine Nrm.pick [4, 6, 0, 1, 2, 3] rfl rfl ?_
            exact hj_1 _ _ ⟨v12_4, S12_4, v12_5, S12_5, v12_6, S12_6, b6_7, hl_v12_4, hl_v12_5, hl_v12_6, rfl, rfl⟩
           exact T.stop
          exact T.stop
         exact T.stop
       exact T.stop
    ·refine T.ef rfl rfl rfl (wanted_none rfl) (Makes.does (m_alloc ti44)) (by rintro _ _ ⟨b6_8, rfl, rfl⟩; exact upd rfl [4, 5, 6] rfl rfl) ?_ ?_
     ·rintro _ _ ⟨b6_8, rfl, rfl⟩
      refine T.ef rfl rfl rfl (wanted_none rfl) (Runs.does (r_move rfl)) (by rintro _ _ ⟨rfl, rfl⟩; exact upd rfl [4, 5, 6] rfl rfl) ?_ ?_
      ·rintro _ _ ⟨rfl, rfl⟩
       refine T.ef rfl rfl rfl (wanted_none rfl) (Runs.does (r_extract rfl rfl)) (by rintro _ _ ⟨rfl, rfl⟩; exact upd rfl [4, 5, 6] rfl rfl) ?_ ?_
       ·rintro _ _ ⟨rfl, rfl⟩
        refine T.ef rfl rfl rfl (wanted_none rfl) (Runs.does (r_extract rfl rfl)) (by rintro _ _ ⟨rfl, rfl⟩; exact upd rfl [4, 5, 6] rfl rfl) ?_ ?_
        ·rintro _ _ ⟨rfl, rfl⟩
         refine T.ef0 rfl rfl (wanted_none rfl) (d_storeG0 (i := 0) (cs2 := [.int .i64 t12_1, v12_4, v12_5, v12_6, .int .i64 t12_5]) ti44 rfl rfl rfl rfl rfl (Nat.le_of_ble_eq_true rfl) (lf_cons rfl (lf_cons (sl_leaf hl_v12_4) (lf_cons (sl_leaf hl_v12_5) (lf_cons (sl_leaf hl_v12_6) (lf_cons rfl lf_nil)))))) (by rintro _ _ ⟨rfl, rfl⟩; exact upd rfl [4, 5, 6] rfl rfl) ?_ ?_
         ·rintro _ _ ⟨rfl, rfl⟩
          refine T.nil ?_
          refine F.qn rfl (r_assign rfl) (F.nil ?_)
          cases hE_1
          refine Nrm.only [2, 4, 6, 7] rfl ?_
          refine Nrm.pick [4, 6, 0, 1, 2, 3] rfl rfl ?_
          exact hj_1 _ _ ⟨v12_4, S12_4, v12_5, S12_5, v12_6, S12_6, b6_8, hl_v12_4, hl_v12_5, hl_v12_6, rfl, rfl⟩
         exact T.stop
        ·refine T.ef0 rfl rfl (wanted_none rfl) (d_storeG0 (i := 0) (cs2 := [.int .i64 t12_1, v12_4, v12_5, v12_6, .int .i64 t12_5]) ti44 rfl rfl rfl rfl rfl (Nat.le_of_ble_eq_true rfl) (lf_cons rfl (lf_cons (sl_leaf hl_v12_4) (lf_cons (sl_leaf hl_v12_5) (lf_cons (sl_leaf hl_v12_6) (lf_cons rfl lf_nil)))))) (by rintro _ _ ⟨rfl, rfl⟩; exact upd rfl [4, 5, 6] rfl rfl) ?_ ?_
         ·rintro _ _ ⟨rfl, rfl⟩
          refine T.ef rfl rfl rfl (wanted_none rfl) (Runs.does (r_extract rfl rfl)) (by rintro _ _ ⟨rfl, rfl⟩; exact upd rfl [4, 5, 6] rfl rfl) ?_ ?_
          ·rintro _ _ ⟨rfl, rfl⟩
           refine T.nil ?_
           refine F.qn rfl (r_assign rfl) (F.nil ?_)
           cases hE_1
           refine Nrm.only [2, 4, 6, 7] rfl ?_
           refine Nrm.pick [4, 6, 0, 1, 2, 3] rfl rfl ?_
           exact hj_1 _ _ ⟨v12_4, S12_4, v12_5, S12_5, v12_6, S12_6, b6_8, hl_v12_4, hl_v12_5, hl_v12_6, rfl, rfl⟩
          exact T.stop
         exact T.stop
       ·refine T.ef rfl rfl rfl (wanted_none rfl) (Runs.does (r_extract rfl rfl)) (by rintro _ _ ⟨rfl, rfl⟩; exact upd rfl [4, 5, 6] rfl rfl) ?_ ?_
        ·rintro _ _ ⟨rfl, rfl⟩
         refine T.ef rfl rfl rfl (wanted_none rfl) (Runs.does (r_extract rfl rfl)) (by rintro _ _ ⟨rfl, rfl⟩; exact upd rfl [4, 5, 6] rfl rfl) ?_ ?_
         ·rintro _ _ ⟨rfl, rfl⟩
          refine T.ef0 rfl rfl (wanted_none rfl) (d_storeG0 (i := 0) (cs2 := [.int .i64 t12_1, v12_4, v12_5, v12_6, .int .i64 t12_5]) ti44 rfl rfl rfl rfl rfl (Nat.le_of_ble_eq_true rfl) (lf_cons rfl (lf_cons (sl_leaf hl_v12_4) (lf_cons (sl_leaf hl_v12_5) (lf_cons (sl_leaf hl_v12_6) (lf_cons rfl lf_nil)))))) (by rintro _ _ ⟨rfl, rfl⟩; exact upd rfl [4, 5, 6] rfl rfl) ?_ ?_
          ·rintro _ _ ⟨rfl, rfl⟩
           refine T.nil ?_
           refine F.qn rfl (r_assign rfl) (F.nil ?_)
           cases hE_1
           refine Nrm.only [2, 4, 6, 7] rfl ?_
           refine Nrm.pick [4, 6, 0, 1, 2, 3] rfl rfl ?_
           exact hj_1 _ _ ⟨v12_4, S12_4, v12_5, S12_5, v12_6, S12_6, b6_8, hl_v12_4, hl_v12_5, hl_v12_6, rfl, rfl⟩
          exact T.stop
         exact T.stop
        exact T.stop
      exact T.stop
     exact T.stop
   ·refine T.ef rfl rfl rfl (wanted_none rfl) (Makes.does (m_alloc ti44)) (by rintro _ _ ⟨b6_9, rfl, rfl⟩; exact upd rfl [4, 5, 6] rfl rfl) ?_ ?_
    ·rintro _ _ ⟨b6_9, rfl, rfl⟩
     refine T.ef rfl rfl rfl (wanted_none rfl) (d_callM (xs := _) (cs := [R.sl S10_4 v10_4 (t10_2 : List (Int × Int × Int)), R.sl S10_5 v10_5 (t10_3 : List (Int)), R.sl S10_6 v10_6 (t10_4 : List (Int))]) (rest := [R.box b6_9 44 [.int .i64 0, .slice none 0 0, .slice none 0 0, .slice none 0 0, .int .i64 0], R.box b4_1 44 [.int .i64 0, .slice none 0 0, .slice none 0 0, .slice none 0 0, .int .i64 0], R.box b3_1 48 [.int .i64 a1_0, .int .i64 a1_1, .int .i64 a1_2, .int .i64 a1_3], R.box b2_1 44 [.int .i64 a0_0, va0_1, va0_2, va0_3, .int .i64 a0_4]]) [1, 2, 3] [0, 4, 5, 6] rfl ok205 rfl rfl rfl rfl (fun w hw => spec_l12Make.ok h12 w hl_v10_4 hl_v10_5 hl_v10_6 (Sep.sub hw))) (by rintro _ _ ⟨_, ⟨v12_7, S12_7, v12_8, S12_8, v12_9, S12_9, rfl, hl_v12_7, hl_v12_8, hl_v12_9, rfl⟩, rfl⟩; exact upd rfl [4, 5, 6] rfl rfl) ?_ ?_
     ·rintro _ _ ⟨_, ⟨v12_7, S12_7, v12_8, S12_8, v12_9, S12_9, rfl, hl_v12_7, hl_v12_8, hl_v12_9, rfl⟩, rfl⟩
      refine T.ef rfl rfl rfl (wanted_none rfl) (Runs.does (r_move rfl)) (by rintro _ _ ⟨rfl, rfl⟩; exact upd rfl [4, 5, 6] rfl rfl) ?_ ?_
      ·rintro _ _ ⟨rfl, rfl⟩
       refine T.ef rfl rfl rfl (wanted_none rfl) (Runs.does (r_extract rfl rfl)) (by rintro _ _ ⟨rfl, rfl⟩; exact upd rfl [4, 5, 6] rfl rfl) ?_ ?_
       ·rintro _ _ ⟨rfl, rfl⟩
        refine T.ef rfl rfl rfl (wanted_none rfl) (Runs.does (r_extract rfl rfl)) (by rintro _ _ ⟨rfl, rfl⟩; exact upd rfl [4, 5, 6] rfl rfl) ?_ ?_
        ·rintro _ _ ⟨rfl, rfl⟩
         refine T.ef0 rfl rfl (wanted_none rfl) (d_storeG0 (i := 3) (cs2 := [.int .i64 t12_1, v12_7, v12_8, v12_9, .int .i64 t12_5]) ti44 rfl rfl rfl rfl rfl (Nat.le_of_ble_eq_true rfl) (lf_cons rfl (lf_cons (sl_leaf hl_v12_7) (lf_cons (sl_leaf hl_v12_8) (lf_cons (sl_leaf hl_v12_9) (lf_cons rfl lf_nil)))))) (by rintro _ _ ⟨rfl, rfl⟩; exact upd rfl [4, 5, 6] rfl rfl) ?_ ?_
         ·rintro _ _ ⟨rfl, rfl⟩
          refine T.nil ?_
          refine F.qn rfl (r_assign rfl) (F.nil ?_)
          cases hE_1
          refine Nrm.only [2, 4, 6, 7] rfl ?_
          refine Nrm.pick [4, 6, 3, 0, 1, 2] rfl rfl ?_
          exact hj_1 _ _ ⟨v12_7, S12_7, v12_8, S12_8, v12_9, S12_9, b6_9, hl_v12_7, hl_v12_8, hl_v12_9, rfl, rfl⟩
         exact T.stop
        ·refine T.ef0 rfl rfl (wanted_none rfl) (d_storeG0 (i := 3) (cs2 := [.int .i64 t12_1, v12_7, v12_8, v12_9, .int .i64 t12_5]) ti44 rfl rfl rfl rfl rfl (Nat.le_of_ble_eq_true rfl) (lf_cons rfl (lf_cons (sl_leaf hl_v12_7) (lf_cons (sl_leaf hl_v12_8) (lf_cons (sl_leaf hl_v12_9) (lf_cons rfl lf_nil)))))) (by rintro _ _ ⟨rfl, rfl⟩; exact upd rfl [4, 5, 6] rfl rfl) ?_ ?_
         ·rintro _ _ ⟨rfl, rfl⟩
          refine T.ef rfl rfl rfl (wanted_none rfl) (Runs.does (r_extract rfl rfl)) (by rintro _ _ ⟨rfl, rfl⟩; exact upd rfl [4, 5, 6] rfl rfl) ?_ ?_
          ·rintro _ _ ⟨rfl, rfl⟩
           refine T.nil ?_
           refine F.qn rfl (r_assign rfl) (F.nil ?_)
           cases hE_1
           refine Nrm.only [2, 4, 6, 7] rfl ?_
           refine Nrm.pick [4, 6, 3, 0, 1, 2] rfl rfl ?_
           exact hj_1 _ _ ⟨v12_7, S12_7, v12_8, S12_8, v12_9, S12_9, b6_9, hl_v12_7, hl_v12_8, hl_v12_9, rfl, rfl⟩
          exact T.stop
         exact T.stop
       ·refine T.ef rfl rfl rfl (wanted_none rfl) (Runs.does (r_extract rfl rfl)) (by rintro _ _ ⟨rfl, rfl⟩; exact upd rfl [4, 5, 6] rfl rfl) ?_ ?_
        ·rintro _ _ ⟨rfl, rfl⟩
         refine T.ef rfl rfl rfl (wanted_none rfl) (Runs.does (r_extract rfl rfl)) (by rintro _ _ ⟨rfl, rfl⟩; exact upd rfl [4, 5, 6] rfl rfl) ?_ ?_
         ·rintro _ _ ⟨rfl, rfl⟩
          refine T.ef0 rfl rfl (wanted_none rfl) (d_storeG0 (i := 3) (cs2 := [.int .i64 t12_1, v12_7, v12_8, v12_9, .int .i64 t12_5]) ti44 rfl rfl rfl rfl rfl (Nat.le_of_ble_eq_true rfl) (lf_cons rfl (lf_cons (sl_leaf hl_v12_7) (lf_cons (sl_leaf hl_v12_8) (lf_cons (sl_leaf hl_v12_9) (lf_cons rfl lf_nil)))))) (by rintro _ _ ⟨rfl, rfl⟩; exact upd rfl [4, 5, 6] rfl rfl) ?_ ?_
          ·rintro _ _ ⟨rfl, rfl⟩
           refine T.nil ?_
           refine F.qn rfl (r_assign rfl) (F.nil ?_)
           cases hE_1
           refine Nrm.only [2, 4, 6, 7] rfl ?_
           refine Nrm.pick [4, 6, 3, 0, 1, 2] rfl rfl ?_
           exact hj_1 _ _ ⟨v12_7, S12_7, v12_8, S12_8, v12_9, S12_9, b6_9, hl_v12_7, hl_v12_8, hl_v12_9, rfl, rfl⟩
          exact T.stop
         exact T.stop
        exact T.stop
      exact T.stop
     exact T.stop
    exact T.stop
  ·refine T.ef rfl rfl rfl (wanted_none rfl) (Makes.does (m_alloc ti44)) (by rintro _ _ ⟨b6_10, rfl, rfl⟩; exact upd rfl [1, 2, 3] rfl rfl) ?_ ?_
   ·rintro _ _ ⟨b6_10, rfl, rfl⟩
    refine T.ef rfl rfl rfl (wanted_none rfl) (Makes.does (m_callF (xs := _) rfl ok109 rfl rfl (fun w hw => spec_l12Own.ok h10 w ((fun _ hw => hr_a0_1.sep hw) w hw) ((fun _ hw => hr_a0_2.sep hw) w hw) ((fun _ hw => hr_a0_3.sep hw) w hw)))) (by rintro _ _ ⟨_, ⟨v10_7, S10_7, v10_8, S10_8, v10_9, S10_9, rfl, hl_v10_7, hl_v10_8, hl_v10_9, rfl⟩, rfl⟩; exact upd rfl [4, 5, 6] rfl rfl) ?_ ?_
    ·rintro _ _ ⟨_, ⟨v10_7, S10_7, v10_8, S10_8, v10_9, S10_9, rfl, hl_v10_7, hl_v10_8, hl_v10_9, rfl⟩, rfl⟩
     refine T.ef rfl rfl rfl (wanted_none rfl) (d_callM (xs := _) (cs := [R.sl S10_7 v10_7 (t10_2 : List (Int × Int × Int)), R.sl S10_8 v10_8 (t10_3 : List (Int)), R.sl S10_9 v10_9 (t10_4 : List (Int))]) (rest := [R.box b6_10 44 [.int .i64 0, .slice none 0 0, .slice none 0 0, .slice none 0 0, .int .i64 0], R.box b4_1 44 [.int .i64 0, .slice none 0 0, .slice none 0 0, .slice none 0 0, .int .i64 0], R.box b3_1 48 [.int .i64 a1_0, .int .i64 a1_1, .int .i64 a1_2, .int .i64 a1_3], R.box b2_1 44 [.int .i64 a0_0, va0_1, va0_2, va0_3, .int .i64 a0_4]]) [0, 1, 2] [3, 4, 5, 6] rfl ok205 rfl rfl rfl rfl (fun w hw => spec_l12Make.ok h12 w hl_v10_7 hl_v10_8 hl_v10_9 (Sep.sub hw))) (by rintro _ _ ⟨_, ⟨v12_10, S12_10, v12_11, S12_11, v12_12, S12_12, rfl, hl_v12_10, hl_v12_11, hl_v12_12, rfl⟩, rfl⟩; exact upd rfl [4, 5, 6] rfl rfl) ?_ ?_
     ·rintro _ _ ⟨_, ⟨v12_10, S12_10, v12_11, S12_11, v12_12, S12_12, rfl, hl_v12_10, hl_v12_11, hl_v12_12, rfl⟩, rfl⟩
      refine T.ef rfl rfl rfl (wanted_none rfl) (Runs.does (r_move rfl)) (by rintro _ _ ⟨rfl, rfl⟩; exact upd rfl [4, 5, 6] rfl rfl) ?_ ?_
      ·rintro _ _ ⟨rfl, rfl⟩
       refine T.ef rfl rfl rfl (wanted_none rfl) (Runs.does (r_extract rfl rfl)) (by rintro _ _ ⟨rfl, rfl⟩; exact upd rfl [4, 5, 6] rfl rfl) ?_ ?_
       ·rintro _ _ ⟨rfl, rfl⟩
        refine T.ef rfl rfl rfl (wanted_none rfl) (Runs.does (r_extract rfl rfl)) (by rintro _ _ ⟨rfl, rfl⟩; exact upd rfl [4, 5, 6] rfl rfl) ?_ ?_
        ·rintro _ _ ⟨rfl, rfl⟩
         refine T.ef0 rfl rfl (wanted_none rfl) (d_storeG0 (i := 3) (cs2 := [.int .i64 t12_1, v12_10, v12_11, v12_12, .int .i64 t12_5]) ti44 rfl rfl rfl rfl rfl (Nat.le_of_ble_eq_true rfl) (lf_cons rfl (lf_cons (sl_leaf hl_v12_10) (lf_cons (sl_leaf hl_v12_11) (lf_cons (sl_leaf hl_v12_12) (lf_cons rfl lf_nil)))))) (by rintro _ _ ⟨rfl, rfl⟩; exact upd rfl [4, 5, 6] rfl rfl) ?_ ?_
         ·rintro _ _ ⟨rfl, rfl⟩
          refine T.nil ?_
          refine F.qn rfl (r_assign rfl) (F.nil ?_)
          cases hE_1
          refine Nrm.only [2, 4, 6, 7] rfl ?_
          refine Nrm.pick [4, 6, 3, 0, 1, 2] rfl rfl ?_
          exact hj_1 _ _ ⟨v12_10, S12_10, v12_11, S12_11, v12_12, S12_12, b6_10, hl_v12_10, hl_v12_11, hl_v12_12, rfl, rfl⟩
         exact T.stop
        ·refine T.ef0 rfl rfl (wanted_none rfl) (d_storeG0 (i := 3) (cs2 := [.int .i64 t12_1, v12_10, v12_11, v12_12, .int .i64 t12_5]) ti44 rfl rfl rfl rfl rfl (Nat.le_of_ble_eq_true rfl) (lf_cons rfl (lf_cons (sl_leaf hl_v12_10) (lf_cons (sl_leaf hl_v12_11) (lf_cons (sl_leaf hl_v12_12) (lf_cons rfl lf_nil)))))) (by rintro _ _ ⟨rfl, rfl⟩; exact upd rfl [4, 5, 6] rfl rfl) ?_ ?_
         ·rintro _ _ ⟨rfl, rfl⟩
          refine T.ef rfl rfl rfl (wanted_none rfl) (Runs.does (r_extract rfl rfl)) (by rintro _ _ ⟨rfl, rfl⟩; exact upd rfl [4, 5, 6] rfl rfl) ?_ ?_
          ·rintro _ _ ⟨rfl, rfl⟩
           refine T.nil ?_
           refine F.qn rfl (r_assign rfl) (F.nil ?_)
           cases hE_1
           refine Nrm.only [2, 4, 6, 7] rfl ?_
           refine Nrm.pick [4, 6, 3, 0, 1, 2] rfl rfl ?_
           exact hj_1 _ _ ⟨v12_10, S12_10, v12_11, S12_11, v12_12, S12_12, b6_10, hl_v12_10, hl_v12_11, hl_v12_12, rfl, rfl⟩
          exact T.stop
         exact T.stop
       ·refine T.ef rfl rfl rfl (wanted_none rfl) (Runs.does (r_extract rfl rfl)) (by rintro _ _ ⟨rfl, rfl⟩; exact upd rfl [4, 5, 6] rfl rfl) ?_ ?_
        ·rintro _ _ ⟨rfl, rfl⟩
         refine T.ef rfl rfl rfl (wanted_none rfl) (Runs.does (r_extract rfl rfl)) (by rintro _ _ ⟨rfl, rfl⟩; exact upd rfl [4, 5, 6] rfl rfl) ?_ ?_
         ·rintro _ _ ⟨rfl, rfl⟩
          refine T.ef0 rfl rfl (wanted_none rfl) (d_storeG0 (i := 3) (cs2 := [.int .i64 t12_1, v12_10, v12_11, v12_12, .int .i64 t12_5]) ti44 rfl rfl rfl rfl rfl (Nat.le_of_ble_eq_true rfl) (lf_cons rfl (lf_cons (sl_leaf hl_v12_10) (lf_cons (sl_leaf hl_v12_11) (lf_cons (sl_leaf hl_v12_12) (lf_cons rfl lf_nil)))))) (by rintro _ _ ⟨rfl, rfl⟩; exact upd rfl [4, 5, 6] rfl rfl) ?_ ?_
          ·rintro _ _ ⟨rfl, rfl⟩
           refine T.nil ?_
           refine F.qn rfl (r_assign rfl) (F.nil ?_)
           cases hE_1
           refine Nrm.only [2, 4, 6, 7] rfl ?_
           refine Nrm.pick [4, 6, 3, 0, 1, 2] rfl rfl ?_
           exact hj_1 _ _ ⟨v12_10, S12_10, v12_11, S12_11, v12_12, S12_12, b6_10, hl_v12_10, hl_v12_11, hl_v12_12, rfl, rfl⟩
          exact T.stop
         exact T.stop
        exact T.stop
      exact T.stop
     exact T.stop
    exact T.stop
   exact T.stop


def spec_l1Cur_visit.l0 (k : Nat) (a0_0 : List By) (t14_6 : Bool) : Nat → Int → Int → Int → Int → (List (Int × Int × Int)) → (List (Int)) → (List (Int)) → Int → Option (Int × Int × Int × (List (Int × Int × Int)) × (List (Int)) × (List (Int)) × Int)
 | 0, _, _, _, _, _, _, _, _ => none
 | n + 1, x5, xpa0_1, xpa0_2, xb3_1_0, xq3_1_1, xq3_1_2, xq3_1_3, xb3_1_4 => ((if (decide (x5 > 0)) = true then some t14_6 else some false)).bind fun y24 => (if y24 = true then ((spec_l1Cur_deed12.f k a0_0 xpa0_1 xpa0_2 xb3_1_0 xq3_1_1 xq3_1_2 xq3_1_3 xb3_1_4).bind fun (t31_1, t31_2, t31_3, t31_4, t31_5, t31_6) => (spec_l12Do.f k xb3_1_0 xq3_1_1 xq3_1_2 xq3_1_3 xb3_1_4 t31_1 t31_2 t31_3 t31_4).bind fun (t32_1, t32_2, t32_3, t32_4, t32_5, t32_6) => some (t32_6, t31_5, t31_6, t32_1, t32_2, t32_3, t32_4, t32_5)).bind fun (y7, ypa0_1, ypa0_2, yb6_2_0, yb6_2_1, yb6_2_2, yb6_2_3, yb6_2_4) => ((if y7 = true then some (yb6_2_0, yb6_2_1, yb6_2_2, yb6_2_3, yb6_2_4) else some (xb3_1_0, xq3_1_1, xq3_1_2, xq3_1_3, xb3_1_4))).bind fun (yb3_1_0, yb3_1_1, yb3_1_2, yb3_1_3, yb3_1_4) => spec_l1Cur_visit.l0 k a0_0 t14_6 n (w64 (x5 - 1)) ypa0_1 ypa0_2 yb3_1_0 yb3_1_1 yb3_1_2 yb3_1_3 yb3_1_4 else some (xpa0_1, xpa0_2, xb3_1_0, xq3_1_1, xq3_1_2, xq3_1_3, xb3_1_4))

def spec_l1Cur_visit.f (k : Nat) (a0_0 : List By) (a0_1 : Int) (a0_2 : Int) : Option (Int × (List (Int × Int × Int)) × (List Int) × (List Int) × Int × Int × Int) := (spec_l1Cur_among.f k a0_0 a0_1 a0_2 ([5, 4, 6, 3, 7, 2, 8] : List (Int))).bind fun (t12_1, t12_2, t12_3) => (spec_l1Cur_someMaze.f k a0_0 t12_2 t12_3 t12_1).bind fun (t13_1, t13_2, t13_3, t13_4, t13_5) => (spec_NewVisit.f k t13_1 t13_2 t13_3).bind fun (t14_1, t14_2, t14_3, t14_4, t14_5, t14_6) => (spec_l1Cur_pick.f k a0_0 t13_4 t13_5 7).bind fun (t18_1, t18_2, t18_3) => (spec_l1Cur_visit.l0 k a0_0 t14_6 k (w64 (1 + t18_1)) t18_2 t18_3 t14_1 t14_2 t14_3 t14_4 t14_5).bind fun (xpa0_1, xpa0_2, xb3_1_0, xq3_1_1, xq3_1_2, xq3_1_3, xb3_1_4) => (spec_l1Cur_pick.f k a0_0 xpa0_1 xpa0_2 48).bind fun (t38_1, t38_2, t38_3) => ((if (t38_1 == 0) = true then (spec_l1Cur_among.f k a0_0 t38_2 t38_3 ([(-1), 1000, 1001] : List (Int))).bind fun (t43_1, t43_2, t43_3) => some (t43_2, t43_3, xb3_1_0, xq3_1_3, t43_1) else ((if (t38_1 == 1) = true then (spec_l1Own.f k xq3_1_3).bind fun t49 => (spec_l1Cur_among.f k a0_0 t38_2 t38_3 ([(-1), 0, 12] : List (Int))).bind fun (t52_1, t52_2, t52_3) => if (t49 ++ ([t52_1] : List (Int))).length < 1099511627776 then some (t52_2, t52_3, xb3_1_0, t49 ++ ([t52_1] : List (Int))) else none else ((if (t38_1 == 2) = true then some (t38_2, t38_3, xb3_1_0, ([] : List (Int))) else ((if (t38_1 == 3) = true then (spec_l1Cur_among.f k a0_0 t38_2 t38_3 ([0, 13, 4611686018427387904] : List (Int))).bind fun (t64_1, t64_2, t64_3) => some (t64_2, t64_3, t64_1) else some (t38_2, t38_3, xb3_1_0))).bind fun (ypa0_1r, ypa0_2r, yb3_1_0r) => some (ypa0_1r, ypa0_2r, yb3_1_0r, xq3_1_3))).bind fun (ypa0_1r, ypa0_2r, yb3_1_0r, yb3_1_3r) => some (ypa0_1r, ypa0_2r, yb3_1_0r, yb3_1_3r))).bind fun (ypa0_1r, ypa0_2r, yb3_1_0r, yb3_1_3r) => some (ypa0_1r, ypa0_2r, yb3_1_0r, yb3_1_3r, xb3_1_4))).bind fun (ypa0_1r, ypa0_2r, yb3_1_0r, yb3_1_3r, yb3_1_4r) => some (yb3_1_0r, xq3_1_1, xq3_1_2, yb3_1_3r, yb3_1_4r, ypa0_1r, ypa0_2r)

theorem spec_l1Cur_visit.ok {k : Nat}  {a0_0 : List By} {a0_1 : Int} {a0_2 : Int} {r0 : Int} {r1 : List (Int × Int × Int)} {r2 : List Int} {r3 : List Int} {r4 : Int} {r5 : Int} {r6 : Int} (h : spec_l1Cur_visit.f k a0_0 a0_1 a0_2 = some (r0, r1, r2, r3, r4, r5, r6)) (w : World) {pa0 : Nat} {va0_0 : Value} (hr_a0_0 : RdM w (footM [R.box pa0 114 [va0_0, .int .i64 a0_1, .int .u64 a0_2]]) va0_0 a0_0) (hw0 : Sep w (footM [R.box pa0 114 [va0_0, .int .i64 a0_1, .int .u64 a0_2]]) [R.box pa0 114 [va0_0, .int .i64 a0_1, .int .u64 a0_2]] w) :
  Calls Tryz.prog 110 ([.pointer (some ⟨pa0, 0, none⟩)] : List Value).toArray w (PostM (footM [R.box pa0 114 [va0_0, .int .i64 a0_1, .int .u64 a0_2]]) (fun u ns => ∃ (ur1 : Value) (Sr1 : Nat → Prop) (ur2 : Value) (Sr2 : Nat → Prop) (ur3 : Value) (Sr3 : Nat → Prop), u = .agg [.int .i64 r0, ur1, ur2, ur3, .int .i64 r4].toArray ∧ SlLen ur1 r1.length ∧ SlLen ur2 r2.length ∧ SlLen ur3 r3.length ∧ ns = [R.sl Sr1 ur1 r1, R.sl Sr2 ur2 r2, R.sl Sr3 ur3 r3, R.box pa0 114 [va0_0, .int .i64 r5, .int .u64 r6]]) w) := by
 unfold spec_l1Cur_visit.f at h
 have hl_va0_0 := hr_a0_0.len
 refine Calls.of_tri (N := 68) Tryz.func110 rfl rfl rfl hw0 ?_
 refine Tri.seq (Tri.reg (l := [0]) rfl ?_)
 refine F.mn rfl (m_alloc ti44) ?_
 rintro _ _ ⟨b2_1, rfl, rfl⟩
 refine F.nil (Nrm.seq (Tri.seq ?_))
 obtain ⟨⟨t12_1, t12_2, t12_3⟩, h12, h⟩ := bind_some h
 obtain ⟨⟨t13_1, t13_2, t13_3, t13_4, t13_5⟩, h13, h⟩ := bind_some h
 obtain ⟨⟨t14_1, t14_2, t14_3, t14_4, t14_5, t14_6⟩, h14, h⟩ := bind_some h
 refine Tri.reg (l := List.range 12) rfl ?_
 refine F.qn rfl (r_move rfl) (F.qn rfl (r_move rfl) ?_)
 refine F.mn rfl (m_buildF (l := ([5, 4, 6, 3, 7, 2, 8] : List (Int))) Tryz.underlying25 ti3 rfl rfl rfl rfl rfl) ?_
 rintro v11_1 _ ⟨S11_1, hl_v11_1, rfl⟩
 refine F.efn rfl (d_callM (xs := _) (cs := [R.box pa0 114 [va0_0, .int .i64 a0_1, .int .u64 a0_2]]) (rest := [R.sl S11_1 v11_1 (([5, 4, 6, 3, 7, 2, 8] : List (Int)) : List (Int)), R.box b2_1 44 [.int .i64 0, .slice none 0 0, .slice none 0 0, .slice none 0 0, .int .i64 0]]) [2] [0, 1] rfl ok194 rfl rfl rfl rfl (fun w hw => spec_l1Cur_among.ok h12 w (hr_a0_0.down hw) (rdm_sl (i := 0) rfl hw) (Sep.sub hw))) ?_
 rintro _ _ ⟨_, ⟨rfl, rfl⟩, rfl⟩
 refine F.efn rfl (d_callM (xs := _) (cs := [R.box pa0 114 [va0_0, .int .i64 t12_2, .int .u64 t12_3]]) (rest := [R.sl S11_1 v11_1 (([5, 4, 6, 3, 7, 2, 8] : List (Int)) : List (Int)), R.box b2_1 44 [.int .i64 0, .slice none 0 0, .slice none 0 0, .slice none 0 0, .int .i64 0]]) [0] [1, 2] rfl ok193 rfl rfl rfl rfl (fun w hw => spec_l1Cur_someMaze.ok h13 w (hr_a0_0.down hw) (Sep.sub hw))) ?_
 rintro _ _ ⟨_, ⟨v13_1, S13_1, v13_2, S13_2, rfl, hl_v13_1, hl_v13_2, rfl⟩, rfl⟩
 refine F.mn rfl (m_callF (xs := _) rfl ok30 rfl rfl (fun w hw => spec_NewVisit.ok h14 w ((rd_sl (i := 0) rfl) w hw) ((rd_sl (i := 1) rfl) w hw))) ?_
 rintro _ _ ⟨_, ⟨v14_1, S14_1, v14_2, S14_2, v14_3, S14_3, rfl, hl_v14_1, hl_v14_2, hl_v14_3, rfl⟩, rfl⟩
 refine F.qn rfl (r_move rfl) (F.qn rfl (r_extract rfl rfl) (F.qn rfl (r_extract rfl rfl) ?_))
 refine F.mn rfl (m_alloc ti44) ?_
 rintro _ _ ⟨b3_1, rfl, rfl⟩
 refine F.ef0 rfl rfl (wanted_none rfl) (d_storeG0 (i := 0) (cs2 := [.int .i64 t14_1, v14_1, v14_2, v14_3, .int .i64 t14_5]) ti44 rfl rfl rfl rfl rfl (Nat.le_of_ble_eq_true rfl) (lf_cons rfl (lf_cons (sl_leaf hl_v14_1) (lf_cons (sl_leaf hl_v14_2) (lf_cons (sl_leaf hl_v14_3) (lf_cons rfl lf_nil)))))) ?_
 rintro _ _ ⟨rfl, rfl⟩
 refine F.qn rfl (r_assign rfl) (F.nil (Nrm.seq (Tri.seq (Tri.seq ?_))))
 obtain ⟨⟨t18_1, t18_2, t18_3⟩, h18, h⟩ := bind_some h
 refine Tri.reg (l := [0, 1, 2, 3]) rfl ?_
 refine F.qn rfl (r_move rfl) ?_
 refine F.efn rfl (d_callM (xs := _) (cs := [R.box pa0 114 [va0_0, .int .i64 t13_4, .int .u64 t13_5]]) (rest := [R.box b3_1 44 [.int .i64 t14_1, v14_1, v14_2, v14_3, .int .i64 t14_5], R.sl S14_1 v14_1 (t14_2 : List (Int × Int × Int)), R.sl S14_2 v14_2 (t14_3 : List (Int)), R.sl S14_3 v14_3 (t14_4 : List (Int)), R.sl S13_1 v13_1 (t13_2 : List (Int × Int × Int)), R.sl S13_2 v13_2 (t13_3 : List (Int)), R.sl S11_1 v11_1 (([5, 4, 6, 3, 7, 2, 8] : List (Int)) : List (Int)), R.box b2_1 44 [.int .i64 0, .slice none 0 0, .slice none 0 0, .slice none 0 0, .int .i64 0]]) [6] [0, 1, 2, 3, 4, 5, 7, 8] rfl ok115 rfl rfl rfl rfl (fun w hw => spec_l1Cur_pick.ok h18 w (hr_a0_0.down hw) (Sep.sub hw))) ?_
 rintro _ _ ⟨_, ⟨rfl, rfl⟩, rfl⟩
 refine F.qn rfl (r_add rfl rfl) (F.qn rfl (r_assign rfl) (F.nil (Nrm.seq ?_)))
 obtain ⟨⟨xpa0_1, xpa0_2, xb3_1_0, xq3_1_1, xq3_1_2, xq3_1_3, xb3_1_4⟩, hE_1, h⟩ := bind_some h
 refine Tri.block ?_
 refine Tri.only [0, 2, 3, 4, 5] rfl ?_
 refine Tri.pick [0, 1, 8, 2, 3, 4] rfl rfl ?_
 refine Tri.rounds (fun n e' C' => ∃ (x5' : Int) (xpa0_1' : Int) (xpa0_2' : Int) (xb3_1_0' : Int) (xq3_1_1' : List (Int × Int × Int)) (xq3_1_2' : List (Int)) (xq3_1_3' : List (Int)) (xb3_1_4' : Int) (wq3_1_1 : Value) (Tq3_1_1 : Nat → Prop) (wq3_1_2 : Value) (Tq3_1_2 : Nat → Prop) (wq3_1_3 : Value) (Tq3_1_3 : Nat → Prop), spec_l1Cur_visit.l0 k a0_0 t14_6 n x5' xpa0_1' xpa0_2' xb3_1_0' xq3_1_1' xq3_1_2' xq3_1_3' xb3_1_4' = some (xpa0_1, xpa0_2, xb3_1_0, xq3_1_1, xq3_1_2, xq3_1_3, xb3_1_4) ∧ SlLen wq3_1_1 (xq3_1_1').length ∧ SlLen wq3_1_2 (xq3_1_2').length ∧ SlLen wq3_1_3 (xq3_1_3').length ∧ e' = [(0, .pointer (some ⟨pa0, 0, none⟩)), (2, .pointer (some ⟨b2_1, 0, none⟩)), (3, .pointer (some ⟨b3_1, 0, none⟩)), (4, .bool t14_6), (5, .int .i64 x5')] ∧ C' = Sep w (footM [R.box pa0 114 [va0_0, .int .i64 a0_1, .int .u64 a0_2]]) [R.box pa0 114 [va0_0, .int .i64 xpa0_1', .int .u64 xpa0_2'], R.box b3_1 44 [.int .i64 xb3_1_0', wq3_1_1, wq3_1_2, wq3_1_3, .int .i64 xb3_1_4'], R.box b2_1 44 [.int .i64 0, .slice none 0 0, .slice none 0 0, .slice none 0 0, .int .i64 0], R.sl Tq3_1_1 wq3_1_1 (xq3_1_1' : List (Int × Int × Int)), R.sl Tq3_1_2 wq3_1_2 (xq3_1_2' : List (Int)), R.sl Tq3_1_3 wq3_1_3 (xq3_1_3' : List (Int))]) k ?_ ?_ ?_
 ·exact ⟨w64 (1 + t18_1), t18_2, t18_3, t14_1, t14_2, t14_3, t14_4, t14_5, v14_1, S14_1, v14_2, S14_2, v14_3, S14_3, hE_1, hl_v14_1, hl_v14_2, hl_v14_3, rfl, rfl⟩
 ·rintro _ _ ⟨_, _, _, _, _, _, _, _, _, _, _, _, _, _, hE_1, _⟩
  rw [spec_l1Cur_visit.l0.eq_1] at hE_1; cases hE_1
 ·rintro n_1 _ _ ⟨x5, xpa0_1, xpa0_2, xb3_1_0, xq3_1_1, xq3_1_2, xq3_1_3, xb3_1_4, wq3_1_1, Tq3_1_1, wq3_1_2, Tq3_1_2, wq3_1_3, Tq3_1_3, hE_1, hl_wq3_1_1, hl_wq3_1_2, hl_wq3_1_3, rfl, rfl⟩ ih_1
  rw [spec_l1Cur_visit.l0.eq_2] at hE_1
  refine Tri.seq (Tri.seq ?_)
  obtain ⟨y24, hE_2, hE_1⟩ := bind_some hE_1
  refine Tri.cut (fun e' C' => e' = [(0, .pointer (some ⟨pa0, 0, none⟩)), (2, .pointer (some ⟨b2_1, 0, none⟩)), (3, .pointer (some ⟨b3_1, 0, none⟩)), (4, .bool t14_6), (5, .int .i64 x5), (24, .bool y24)] ∧ C' = Sep w (footM [R.box pa0 114 [va0_0, .int .i64 a0_1, .int .u64 a0_2]]) [R.box pa0 114 [va0_0, .int .i64 xpa0_1, .int .u64 xpa0_2], R.box b3_1 44 [.int .i64 xb3_1_0, wq3_1_1, wq3_1_2, wq3_1_3, .int .i64 xb3_1_4], R.box b2_1 44 [.int .i64 0, .slice none 0 0, .slice none 0 0, .slice none 0 0, .int .i64 0], R.sl Tq3_1_1 wq3_1_1 (xq3_1_1 : List (Int × Int × Int)), R.sl Tq3_1_2 wq3_1_2 (xq3_1_2 : List (Int)), R.sl Tq3_1_3 wq3_1_3 (xq3_1_3 : List (Int))]) ?_ (fun hj_1 => ?_)
  ·rintro _ _ ⟨rfl, rfl⟩
   refine Nrm.seq (Tri.cond (b := y24) rfl (fun g_1 => ?_) (fun g_1 => ?_))
   ·replace hE_1 := if_tt g_1 hE_1
    refine Tri.skip (Nrm.seq (Tri.seq (Tri.block ?_)))
    refine Tri.seq ?_
    obtain ⟨⟨y7, ypa0_1, ypa0_2, yb6_2_0, yb6_2_1, yb6_2_2, yb6_2_3, yb6_2_4⟩, hE_3, hE_1⟩ := bind_some hE_1
    refine Tri.cut (fun e' C' => ∃ (vb6_2_1_1 : Value) (Sb6_2_1_1 : Nat → Prop) (vb6_2_2_1 : Value) (Sb6_2_2_1 : Nat → Prop) (vb6_2_3_1 : Value) (Sb6_2_3_1 : Nat → Prop) (b6_2 : Nat), SlLen vb6_2_1_1 (yb6_2_1).length ∧ SlLen vb6_2_2_1 (yb6_2_2).length ∧ SlLen vb6_2_3_1 (yb6_2_3).length ∧ e' = [(0, .pointer (some ⟨pa0, 0, none⟩)), (2, .pointer (some ⟨b2_1, 0, none⟩)), (3, .pointer (some ⟨b3_1, 0, none⟩)), (4, .bool t14_6), (5, .int .i64 x5), (6, .pointer (some ⟨b6_2, 0, none⟩)), (7, .bool y7)] ∧ C' = Sep w (footM [R.box pa0 114 [va0_0, .int .i64 a0_1, .int .u64 a0_2]]) [R.box pa0 114 [va0_0, .int .i64 ypa0_1, .int .u64 ypa0_2], R.box b3_1 44 [.int .i64 xb3_1_0, wq3_1_1, wq3_1_2, wq3_1_3, .int .i64 xb3_1_4], R.box b2_1 44 [.int .i64 0, .slice none 0 0, .slice none 0 0, .slice none 0 0, .int .i64 0], R.box b6_2 44 [.int .i64 yb6_2_0, vb6_2_1_1, vb6_2_2_1, vb6_2_3_1, .int .i64 yb6_2_4], R.sl Sb6_2_1_1 vb6_2_1_1 (yb6_2_1 : List (Int × Int × Int)), R.sl Sb6_2_2_1 vb6_2_2_1 (yb6_2_2 : List (Int)), R.sl Sb6_2_3_1 vb6_2_3_1 (yb6_2_3 : List (Int)), R.sl Tq3_1_1 wq3_1_1 (xq3_1_1 : List (Int × Int × Int)), R.sl Tq3_1_2 wq3_1_2 (xq3_1_2 : List (Int)), R.sl Tq3_1_3 wq3_1_3 (xq3_1_3 : List (Int))]) ?_ (fun hj_2 => ?_)
    ·rintro _ _ ⟨vb6_2_1_1, Sb6_2_1_1, vb6_2_2_1, Sb6_2_2_1, vb6_2_3_1, Sb6_2_3_1, b6_2, hl_vb6_2_1_1, hl_vb6_2_2_1, hl_vb6_2_3_1, rfl, rfl⟩
     refine Nrm.seq (Tri.seq (Tri.reg (l := [0]) rfl ?_))
     refine F.qn rfl (r_move rfl) (F.nil (Nrm.seq ?_))
     obtain ⟨⟨yb3_1_0, yb3_1_1, yb3_1_2, yb3_1_3, yb3_1_4⟩, hE_4, hE_1⟩ := bind_some hE_1
     refine Tri.cut (fun e' C' => ∃ (vb3_1_1_1 : Value) (Sb3_1_1_1 : Nat → Prop) (vb3_1_2_1 : Value) (Sb3_1_2_1 : Nat → Prop) (vb3_1_3_1 : Value) (Sb3_1_3_1 : Nat → Prop), SlLen vb3_1_1_1 (yb3_1_1).length ∧ SlLen vb3_1_2_1 (yb3_1_2).length ∧ SlLen vb3_1_3_1 (yb3_1_3).length ∧ e' = [(0, .pointer (some ⟨pa0, 0, none⟩)), (2, .pointer (some ⟨b2_1, 0, none⟩)), (3, .pointer (some ⟨b3_1, 0, none⟩)), (4, .bool t14_6), (5, .int .i64 x5)] ∧ C' = Sep w (footM [R.box pa0 114 [va0_0, .int .i64 a0_1, .int .u64 a0_2]]) [R.box pa0 114 [va0_0, .int .i64 ypa0_1, .int .u64 ypa0_2], R.box b3_1 44 [.int .i64 yb3_1_0, vb3_1_1_1, vb3_1_2_1, vb3_1_3_1, .int .i64 yb3_1_4], R.box b2_1 44 [.int .i64 0, .slice none 0 0, .slice none 0 0, .slice none 0 0, .int .i64 0], R.sl Sb3_1_1_1 vb3_1_1_1 (yb3_1_1 : List (Int × Int × Int)), R.sl Sb3_1_2_1 vb3_1_2_1 (yb3_1_2 : List (Int)), R.sl Sb3_1_3_1 vb3_1_3_1 (yb3_1_3 : List (Int))]) ?_ (fun hj_3 => ?_)
     ·rintro _ _ ⟨vb3_1_1_1, Sb3_1_1_1, vb3_1_2_1, Sb3_1_2_1, vb3_1_3_1, Sb3_1_3_1, hl_vb3_1_1_1, hl_vb3_1_2_1, hl_vb3_1_3_1, rfl, rfl⟩
      refine Nrm.block ?_
      refine Nrm.seq (Tri.reg (l := [0, 1, 2]) rfl ?_)
      refine F.qn rfl (r_move rfl) (F.qn rfl (r_sub rfl rfl) (F.qn rfl (r_assign rfl) (F.nil (Nrm.round ?_))))
      refine Rnd.only [0, 2, 3, 4, 5] rfl ?_
      refine Rnd.pick [0, 1, 2, 3, 4, 5] rfl rfl ?_
      exact ih_1 _ _ ⟨w64 (x5 - 1), ypa0_1, ypa0_2, yb3_1_0, yb3_1_1, yb3_1_2, yb3_1_3, yb3_1_4, vb3_1_1_1, Sb3_1_1_1, vb3_1_2_1, Sb3_1_2_1, vb3_1_3_1, Sb3_1_3_1, hE_1, hl_vb3_1_1_1, hl_vb3_1_2_1, hl_vb3_1_3_1, rfl, rfl⟩
     ·refine Tri.cond (b := y7) rfl (fun g_2 => ?_) (fun g_2 => ?_)
      ·replace hE_4 := if_tt g_2 hE_4
       refine Tri.reg (l := [0, 1]) rfl ?_
       refine F.qn rfl (r_loadA ta44 ti44 rfl rfl (fun w hw => (box_cells (i := 3) rfl w hw))) ?_
       refine F.ef0 rfl rfl (wanted_none rfl) (d_storeG0 (i := 1) (cs2 := [.int .i64 yb6_2_0, vb6_2_1_1, vb6_2_2_1, vb6_2_3_1, .int .i64 yb6_2_4]) ti44 rfl rfl rfl rfl rfl (Nat.le_of_ble_eq_true rfl) (lf_cons rfl (lf_cons (sl_leaf hl_vb6_2_1_1) (lf_cons (sl_leaf hl_vb6_2_2_1) (lf_cons (sl_leaf hl_vb6_2_3_1) (lf_cons rfl lf_nil)))))) ?_
       rintro _ _ ⟨rfl, rfl⟩
       refine F.nil ?_
       cases hE_4
       refine Nrm.only [0, 2, 3, 4, 5] rfl ?_
       refine Nrm.pick [0, 1, 2, 4, 5, 6] rfl rfl ?_
       exact hj_3 _ _ ⟨vb6_2_1_1, Sb6_2_1_1, vb6_2_2_1, Sb6_2_2_1, vb6_2_3_1, Sb6_2_3_1, hl_vb6_2_1_1, hl_vb6_2_2_1, hl_vb6_2_3_1, rfl, rfl⟩
      ·replace hE_4 := if_ff g_2 hE_4
       refine Tri.skip ?_
       cases hE_4
       refine Nrm.only [0, 2, 3, 4, 5] rfl ?_
       refine Nrm.pick [0, 1, 2, 7, 8, 9] rfl rfl ?_
       exact hj_3 _ _ ⟨wq3_1_1, Tq3_1_1, wq3_1_2, Tq3_1_2, wq3_1_3, Tq3_1_3, hl_wq3_1_1, hl_wq3_1_2, hl_wq3_1_3, rfl, rfl⟩
    ·obtain ⟨⟨t31_1, t31_2, t31_3, t31_4, t31_5, t31_6⟩, h31, hE_3⟩ := bind_some hE_3
     obtain ⟨⟨t32_1, t32_2, t32_3, t32_4, t32_5, t32_6⟩, h32, hE_3⟩ := bind_some hE_3
     refine Tri.drawTK (B := Sep w (footM [R.box pa0 114 [va0_0, .int .i64 a0_1, .int .u64 a0_2]]) [R.box b3_1 44 [.int .i64 xb3_1_0, wq3_1_1, wq3_1_2, wq3_1_3, .int .i64 xb3_1_4], R.box b2_1 44 [.int .i64 0, .slice none 0 0, .slice none 0 0, .slice none 0 0, .int .i64 0], R.sl Tq3_1_1 wq3_1_1 (xq3_1_1 : List (Int × Int × Int)), R.sl Tq3_1_2 wq3_1_2 (xq3_1_2 : List (Int)), R.sl Tq3_1_3 wq3_1_3 (xq3_1_3 : List (Int))]) mixedT Sep.up [0, 1, 2, 3, 4, 5, 6, 7, 8, 9] [10] (.q 0 (.q 1 (.q 2 (.alt 3 (.alt 4 (.q 5 (.q 6 (.q 7 (.alt 8 (.alt 9 .nil .stop) .stop)))) (.alt 8 (.alt 4 (.q 5 (.q 6 (.q 7 (.alt 9 .nil .stop)))) .stop) .stop)) (.alt 8 (.alt 3 (.alt 4 (.q 5 (.q 6 (.q 7 (.alt 9 .nil .stop)))) .stop) .stop) .stop))))) (by kernel_rfl) ?_
     refine TK.q [1, 2, 3, 4, 5] rfl rfl rfl rfl rfl (wanted_none rfl) (r_loadA ta44 ti44 rfl rfl (fun w hw => (box_cells (i := 0) rfl w hw))) ?_
     refine TK.q [1, 2, 3, 4, 5] rfl rfl rfl rfl rfl (wanted_none rfl) (r_move rfl) ?_
     refine TK.q [1, 2, 3, 4, 5] rfl rfl rfl rfl rfl (wanted_none rfl) (r_loadA ta44 ti44 rfl rfl (fun w hw => (box_cells (i := 0) rfl w hw))) ?_
     refine T.ef rfl rfl rfl (wanted_none rfl) (d_callM (xs := _) (cs := [R.box pa0 114 [va0_0, .int .i64 xpa0_1, .int .u64 xpa0_2]]) (rest := [R.box b3_1 44 [.int .i64 xb3_1_0, wq3_1_1, wq3_1_2, wq3_1_3, .int .i64 xb3_1_4], R.box b2_1 44 [.int .i64 0, .slice none 0 0, .slice none 0 0, .slice none 0 0, .int .i64 0], R.sl Tq3_1_1 wq3_1_1 (xq3_1_1 : List (Int × Int × Int)), R.sl Tq3_1_2 wq3_1_2 (xq3_1_2 : List (Int)), R.sl Tq3_1_3 wq3_1_3 (xq3_1_3 : List (Int))]) [0] [1, 2, 3, 4, 5] rfl ok111 rfl rfl rfl rfl (fun w hw => spec_l1Cur_deed12.ok h31 w (hr_a0_0.down hw) (rdm_sl (i := 2) rfl hw) (rdm_sl (i := 3) rfl hw) (rdm_sl (i := 4) rfl hw) (Sep.sub hw))) (by rintro _ _ ⟨_, ⟨rfl, rfl⟩, rfl⟩; exact upd rfl [1, 2, 3, 4, 5] rfl rfl) ?_ ?_
     ·rintro _ _ ⟨_, ⟨rfl, rfl⟩, rfl⟩
      refine T.ef rfl rfl rfl (wanted_none rfl) (Makes.does (m_callF (xs := _) rfl ok114 rfl rfl (fun w hw => spec_l12Do.ok h32 w ((rd_sl (i := 3) rfl) w hw) ((rd_sl (i := 4) rfl) w hw) ((rd_sl (i := 5) rfl) w hw)))) (by rintro _ _ ⟨_, ⟨v32_4, S32_4, v32_5, S32_5, v32_6, S32_6, rfl, hl_v32_4, hl_v32_5, hl_v32_6, rfl⟩, rfl⟩; exact upd rfl [4, 5, 6, 7, 8] rfl rfl) ?_ ?_
      ·rintro _ _ ⟨_, ⟨v32_4, S32_4, v32_5, S32_5, v32_6, S32_6, rfl, hl_v32_4, hl_v32_5, hl_v32_6, rfl⟩, rfl⟩
       refine TK.q [4, 5, 6, 7, 8] rfl rfl rfl rfl rfl (wanted_none rfl) (r_move rfl) ?_
       refine TK.q [4, 5, 6, 7, 8] rfl rfl rfl rfl rfl (wanted_none rfl) (r_extract rfl rfl) ?_
       refine TK.q [4, 5, 6, 7, 8] rfl rfl rfl rfl rfl (wanted_none rfl) (r_extract rfl rfl) ?_
       refine T.ef rfl rfl rfl (wanted_none rfl) (Makes.does (m_alloc ti44)) (by rintro _ _ ⟨b6_3, rfl, rfl⟩; exact upd rfl [5, 6, 7, 8, 9] rfl rfl) ?_ ?_
       ·rintro _ _ ⟨b6_3, rfl, rfl⟩
        refine T.ef0 rfl rfl (wanted_none rfl) (d_storeG0 (i := 0) (cs2 := [.int .i64 t32_1, v32_4, v32_5, v32_6, .int .i64 t32_5]) ti44 rfl rfl rfl rfl rfl (Nat.le_of_ble_eq_true rfl) (lf_cons rfl (lf_cons (sl_leaf hl_v32_4) (lf_cons (sl_leaf hl_v32_5) (lf_cons (sl_leaf hl_v32_6) (lf_cons rfl lf_nil)))))) (by rintro _ _ ⟨rfl, rfl⟩; exact upd rfl [5, 6, 7, 8, 9] rfl rfl) ?_ ?_
        ·rintro _ _ ⟨rfl, rfl⟩
         refine T.nil ?_
         refine F.qn rfl (r_assign rfl) (F.nil ?_)
         cases hE_3
         refine Nrm.only [0, 2, 3, 4, 5, 6, 7] rfl ?_
         refine Nrm.pick [4, 5, 6, 0, 1, 2, 3, 7, 8, 9] rfl rfl ?_
         exact hj_2 _ _ ⟨v32_4, S32_4, v32_5, S32_5, v32_6, S32_6, b6_3, hl_v32_4, hl_v32_5, hl_v32_6, rfl, rfl⟩
        exact T.stop
       exact T.stop
      ·refine T.ef rfl rfl rfl (wanted_none rfl) (Makes.does (m_alloc ti44)) (by rintro _ _ ⟨b6_4, rfl, rfl⟩; exact upd rfl [2, 3, 4, 5, 6] rfl rfl) ?_ ?_
       ·rintro _ _ ⟨b6_4, rfl, rfl⟩
        refine T.ef rfl rfl rfl (wanted_none rfl) (Makes.does (m_callF (xs := _) rfl ok114 rfl rfl (fun w hw => spec_l12Do.ok h32 w ((rd_sl (i := 4) rfl) w hw) ((rd_sl (i := 5) rfl) w hw) ((rd_sl (i := 6) rfl) w hw)))) (by rintro _ _ ⟨_, ⟨v32_7, S32_7, v32_8, S32_8, v32_9, S32_9, rfl, hl_v32_7, hl_v32_8, hl_v32_9, rfl⟩, rfl⟩; exact upd rfl [5, 6, 7, 8, 9] rfl rfl) ?_ ?_
        ·rintro _ _ ⟨_, ⟨v32_7, S32_7, v32_8, S32_8, v32_9, S32_9, rfl, hl_v32_7, hl_v32_8, hl_v32_9, rfl⟩, rfl⟩
         refine TK.q [5, 6, 7, 8, 9] rfl rfl rfl rfl rfl (wanted_none rfl) (r_move rfl) ?_
         refine TK.q [5, 6, 7, 8, 9] rfl rfl rfl rfl rfl (wanted_none rfl) (r_extract rfl rfl) ?_
         refine TK.q [5, 6, 7, 8, 9] rfl rfl rfl rfl rfl (wanted_none rfl) (r_extract rfl rfl) ?_
         refine T.ef0 rfl rfl (wanted_none rfl) (d_storeG0 (i := 3) (cs2 := [.int .i64 t32_1, v32_7, v32_8, v32_9, .int .i64 t32_5]) ti44 rfl rfl rfl rfl rfl (Nat.le_of_ble_eq_true rfl) (lf_cons rfl (lf_cons (sl_leaf hl_v32_7) (lf_cons (sl_leaf hl_v32_8) (lf_cons (sl_leaf hl_v32_9) (lf_cons rfl lf_nil)))))) (by rintro _ _ ⟨rfl, rfl⟩; exact upd rfl [5, 6, 7, 8, 9] rfl rfl) ?_ ?_
         ·rintro _ _ ⟨rfl, rfl⟩
          refine T.nil ?_
          refine F.qn rfl (r_assign rfl) (F.nil ?_)
          cases hE_3
          refine Nrm.only [0, 2, 3, 4, 5, 6, 7] rfl ?_
          refine Nrm.pick [4, 5, 6, 3, 0, 1, 2, 7, 8, 9] rfl rfl ?_
          exact hj_2 _ _ ⟨v32_7, S32_7, v32_8, S32_8, v32_9, S32_9, b6_4, hl_v32_7, hl_v32_8, hl_v32_9, rfl, rfl⟩
         exact T.stop
        exact T.stop
       exact T.stop
     ·refine T.ef rfl rfl rfl (wanted_none rfl) (Makes.does (m_alloc ti44)) (by rintro _ _ ⟨b6_5, rfl, rfl⟩; exact upd rfl [2, 3, 4, 5, 6] rfl rfl) ?_ ?_
      ·rintro _ _ ⟨b6_5, rfl, rfl⟩
       refine T.ef rfl rfl rfl (wanted_none rfl) (d_callM (xs := _) (cs := [R.box pa0 114 [va0_0, .int .i64 xpa0_1, .int .u64 xpa0_2]]) (rest := [R.box b6_5 44 [.int .i64 0, .slice none 0 0, .slice none 0 0, .slice none 0 0, .int .i64 0], R.box b3_1 44 [.int .i64 xb3_1_0, wq3_1_1, wq3_1_2, wq3_1_3, .int .i64 xb3_1_4], R.box b2_1 44 [.int .i64 0, .slice none 0 0, .slice none 0 0, .slice none 0 0, .int .i64 0], R.sl Tq3_1_1 wq3_1_1 (xq3_1_1 : List (Int × Int × Int)), R.sl Tq3_1_2 wq3_1_2 (xq3_1_2 : List (Int)), R.sl Tq3_1_3 wq3_1_3 (xq3_1_3 : List (Int))]) [1] [0, 2, 3, 4, 5, 6] rfl ok111 rfl rfl rfl rfl (fun w hw => spec_l1Cur_deed12.ok h31 w (hr_a0_0.down hw) (rdm_sl (i := 3) rfl hw) (rdm_sl (i := 4) rfl hw) (rdm_sl (i := 5) rfl hw) (Sep.sub hw))) (by rintro _ _ ⟨_, ⟨rfl, rfl⟩, rfl⟩; exact upd rfl [2, 3, 4, 5, 6] rfl rfl) ?_ ?_
       ·rintro _ _ ⟨_, ⟨rfl, rfl⟩, rfl⟩
        refine T.ef rfl rfl rfl (wanted_none rfl) (Makes.does (m_callF (xs := _) rfl ok114 rfl rfl (fun w hw => spec_l12Do.ok h32 w ((rd_sl (i := 4) rfl) w hw) ((rd_sl (i := 5) rfl) w hw) ((rd_sl (i := 6) rfl) w hw)))) (by rintro _ _ ⟨_, ⟨v32_10, S32_10, v32_11, S32_11, v32_12, S32_12, rfl, hl_v32_10, hl_v32_11, hl_v32_12, rfl⟩, rfl⟩; exact upd rfl [5, 6, 7, 8, 9] rfl rfl) ?_ ?_
        ·rintro _ _ ⟨_, ⟨v32_10, S32_10, v32_11, S32_11, v32_12, S32_12, rfl, hl_v32_10, hl_v32_11, hl_v32_12, rfl⟩, rfl⟩
         refine TK.q [5, 6, 7, 8, 9] rfl rfl rfl rfl rfl (wanted_none rfl) (r_move rfl) ?_
         refine TK.q [5, 6, 7, 8, 9] rfl rfl rfl rfl rfl (wanted_none rfl) (r_extract rfl rfl) ?_
         refine TK.q [5, 6, 7, 8, 9] rfl rfl rfl rfl rfl (wanted_none rfl) (r_extract rfl rfl) ?_
         refine T.ef0 rfl rfl (wanted_none rfl) (d_storeG0 (i := 4) (cs2 := [.int .i64 t32_1, v32_10, v32_11, v32_12, .int .i64 t32_5]) ti44 rfl rfl rfl rfl rfl (Nat.le_of_ble_eq_true rfl) (lf_cons rfl (lf_cons (sl_leaf hl_v32_10) (lf_cons (sl_leaf hl_v32_11) (lf_cons (sl_leaf hl_v32_12) (lf_cons rfl lf_nil)))))) (by rintro _ _ ⟨rfl, rfl⟩; exact upd rfl [5, 6, 7, 8, 9] rfl rfl) ?_ ?_
         ·rintro _ _ ⟨rfl, rfl⟩
          refine T.nil ?_
          refine F.qn rfl (r_assign rfl) (F.nil ?_)
          cases hE_3
          refine Nrm.only [0, 2, 3, 4, 5, 6, 7] rfl ?_
          refine Nrm.pick [3, 5, 6, 4, 0, 1, 2, 7, 8, 9] rfl rfl ?_
          exact hj_2 _ _ ⟨v32_10, S32_10, v32_11, S32_11, v32_12, S32_12, b6_5, hl_v32_10, hl_v32_11, hl_v32_12, rfl, rfl⟩
         exact T.stop
        exact T.stop
       exact T.stop
      exact T.stop
   ·replace hE_1 := if_ff g_1 hE_1
    refine Tri.exit ?_
    refine Exi.then ?_
    refine Exi.then ?_
    refine Exi.same ?_
    cases hE_1
    refine Nrm.seq (Tri.seq (Tri.seq ?_))
    obtain ⟨⟨t38_1, t38_2, t38_3⟩, h38, h⟩ := bind_some h
    refine Tri.reg (l := [0, 1]) rfl ?_
    refine F.qn rfl (r_move rfl) ?_
    refine F.efn rfl (d_callM (xs := _) (cs := [R.box pa0 114 [va0_0, .int .i64 xpa0_1, .int .u64 xpa0_2]]) (rest := [R.box b3_1 44 [.int .i64 xb3_1_0, wq3_1_1, wq3_1_2, wq3_1_3, .int .i64 xb3_1_4], R.box b2_1 44 [.int .i64 0, .slice none 0 0, .slice none 0 0, .slice none 0 0, .int .i64 0], R.sl Tq3_1_1 wq3_1_1 (xq3_1_1 : List (Int × Int × Int)), R.sl Tq3_1_2 wq3_1_2 (xq3_1_2 : List (Int)), R.sl Tq3_1_3 wq3_1_3 (xq3_1_3 : List (Int))]) [0] [1, 2, 3, 4, 5] rfl ok115 rfl rfl rfl rfl (fun w hw => spec_l1Cur_pick.ok h38 w (hr_a0_0.down hw) (Sep.sub hw))) ?_
    rintro _ _ ⟨_, ⟨rfl, rfl⟩, rfl⟩
    refine F.nil (Nrm.seq (Tri.block ?_))
    refine Tri.seq (Tri.reg (l := [0, 1]) rfl ?_)
    refine F.qn rfl (r_eql rfl rfl) (F.qn rfl (r_assign rfl) (F.nil (Nrm.seq ?_)))
    obtain ⟨⟨ypa0_1r, ypa0_2r, yb3_1_0r, yb3_1_3r, yb3_1_4r⟩, hE_5, h⟩ := bind_some h
    refine Tri.cut (fun e' C' => ∃ (vb3_1_3_2 : Value) (Sb3_1_3_2 : Nat → Prop), SlLen vb3_1_3_2 (yb3_1_3r).length ∧ e' = [(2, .pointer (some ⟨b2_1, 0, none⟩)), (3, .pointer (some ⟨b3_1, 0, none⟩))] ∧ C' = Sep w (footM [R.box pa0 114 [va0_0, .int .i64 a0_1, .int .u64 a0_2]]) [R.box pa0 114 [va0_0, .int .i64 ypa0_1r, .int .u64 ypa0_2r], R.box b3_1 44 [.int .i64 yb3_1_0r, wq3_1_1, wq3_1_2, vb3_1_3_2, .int .i64 yb3_1_4r], R.box b2_1 44 [.int .i64 0, .slice none 0 0, .slice none 0 0, .slice none 0 0, .int .i64 0], R.sl Sb3_1_3_2 vb3_1_3_2 (yb3_1_3r : List (Int)), R.sl Tq3_1_1 wq3_1_1 (xq3_1_1 : List (Int × Int × Int)), R.sl Tq3_1_2 wq3_1_2 (xq3_1_2 : List (Int))]) ?_ (fun hj_4 => ?_)
    ·rintro _ _ ⟨vb3_1_3_2, Sb3_1_3_2, hl_vb3_1_3_2, rfl, rfl⟩
     refine Nrm.block ?_
     refine Nrm.seq (Tri.seq (Tri.reg (l := [0, 1]) rfl ?_))
     refine F.qn rfl (r_loadA ta44 ti44 rfl rfl (fun w hw => (box_cells (i := 1) rfl w hw))) ?_
     refine F.ef0 rfl rfl (wanted_none rfl) (d_storeG0 (i := 2) (cs2 := [.int .i64 yb3_1_0r, wq3_1_1, wq3_1_2, vb3_1_3_2, .int .i64 yb3_1_4r]) ti44 rfl rfl rfl rfl rfl (Nat.le_of_ble_eq_true rfl) (lf_cons rfl (lf_cons (sl_leaf hl_wq3_1_1) (lf_cons (sl_leaf hl_wq3_1_2) (lf_cons (sl_leaf hl_vb3_1_3_2) (lf_cons rfl lf_nil)))))) ?_
     rintro _ _ ⟨rfl, rfl⟩
     refine F.nil (Nrm.seq (Tri.ret ?_))
     cases h
     exact Rtn.body (.cell rfl ta44 ti44 rfl (fun _ hw => box_cells (i := 2) rfl _ hw) .nil) (fun w hw => ⟨_, _, rfl, ⟨wq3_1_1, Tq3_1_1, wq3_1_2, Tq3_1_2, vb3_1_3_2, Sb3_1_3_2, rfl, hl_wq3_1_1, hl_wq3_1_2, hl_vb3_1_3_2, rfl⟩, Sep.pick (is := [4, 5, 3, 0]) rfl rfl hw⟩)
    ·refine Tri.cond (b := t38_1 == 0) rfl (fun g_3 => ?_) (fun g_3 => ?_)
     ·replace hE_5 := if_tt g_3 hE_5
      obtain ⟨⟨t43_1, t43_2, t43_3⟩, h43, hE_5⟩ := bind_some hE_5
      refine Tri.reg (l := [0, 1, 2, 3, 4]) rfl ?_
      refine F.qn rfl (r_move rfl) ?_
      refine F.mn rfl (m_buildF (l := ([(-1), 1000, 1001] : List (Int))) Tryz.underlying25 ti3 rfl rfl rfl rfl rfl) ?_
      rintro v42_1 _ ⟨S42_1, hl_v42_1, rfl⟩
      refine F.efn rfl (d_callM (xs := _) (cs := [R.box pa0 114 [va0_0, .int .i64 t38_2, .int .u64 t38_3]]) (rest := [R.sl S42_1 v42_1 (([(-1), 1000, 1001] : List (Int)) : List (Int)), R.box b3_1 44 [.int .i64 xb3_1_0, wq3_1_1, wq3_1_2, wq3_1_3, .int .i64 xb3_1_4], R.box b2_1 44 [.int .i64 0, .slice none 0 0, .slice none 0 0, .slice none 0 0, .int .i64 0], R.sl Tq3_1_1 wq3_1_1 (xq3_1_1 : List (Int × Int × Int)), R.sl Tq3_1_2 wq3_1_2 (xq3_1_2 : List (Int)), R.sl Tq3_1_3 wq3_1_3 (xq3_1_3 : List (Int))]) [1] [0, 2, 3, 4, 5, 6] rfl ok194 rfl rfl rfl rfl (fun w hw => spec_l1Cur_among.ok h43 w (hr_a0_0.down hw) (rdm_sl (i := 0) rfl hw) (Sep.sub hw))) ?_
      rintro _ _ ⟨_, ⟨rfl, rfl⟩, rfl⟩
      refine F.qn rfl (r_fieldAddr tf44_2 rfl) ?_
      refine F.ef0 rfl rfl (wanted_none rfl) (d_storeG1 (i := 2) (cs2 := [.int .i64 t43_1]) ti3 rfl rfl rfl rfl rfl (Nat.le_of_ble_eq_true rfl) (lf_cons rfl lf_nil)) ?_
      rintro _ _ ⟨rfl, rfl⟩
      refine F.nil ?_
      cases hE_5
      refine Nrm.only [2, 3] rfl ?_
      refine Nrm.pick [0, 2, 3, 6, 4, 5] rfl rfl ?_
      exact hj_4 _ _ ⟨wq3_1_3, Tq3_1_3, hl_wq3_1_3, rfl, rfl⟩
     ·replace hE_5 := if_ff g_3 hE_5
      refine Tri.seq (Tri.reg (l := [0, 1]) rfl ?_)
      refine F.qn rfl (r_eql rfl rfl) (F.qn rfl (r_assign rfl) (F.nil (Nrm.seq ?_)))
      obtain ⟨⟨ypa0_1r, ypa0_2r, yb3_1_0r, yb3_1_3r⟩, hE_6, hE_5⟩ := bind_some hE_5
      refine Tri.cut (fun e' C' => ∃ (vb3_1_3_3 : Value) (Sb3_1_3_3 : Nat → Prop), SlLen vb3_1_3_3 (yb3_1_3r).length ∧ e' = [(2, .pointer (some ⟨b2_1, 0, none⟩)), (3, .pointer (some ⟨b3_1, 0, none⟩))] ∧ C' = Sep w (footM [R.box pa0 114 [va0_0, .int .i64 a0_1, .int .u64 a0_2]]) [R.box pa0 114 [va0_0, .int .i64 ypa0_1r, .int .u64 ypa0_2r], R.box b3_1 44 [.int .i64 yb3_1_0r, wq3_1_1, wq3_1_2, vb3_1_3_3, .int .i64 xb3_1_4], R.box b2_1 44 [.int .i64 0, .slice none 0 0, .slice none 0 0, .slice none 0 0, .int .i64 0], R.sl Sb3_1_3_3 vb3_1_3_3 (yb3_1_3r : List (Int)), R.sl Tq3_1_1 wq3_1_1 (xq3_1_1 : List (Int × Int × Int)), R.sl Tq3_1_2 wq3_1_2 (xq3_1_2 : List (Int))]) ?_ (fun hj_5 => ?_)
      ·rintro _ _ ⟨vb3_1_3_3, Sb3_1_3_3, hl_vb3_1_3_3, rfl, rfl⟩
       cases hE_5
       refine Nrm.only [2, 3] rfl ?_
       refine Nrm.pick [0, 1, 2, 3, 4, 5] rfl rfl ?_
       exact hj_4 _ _ ⟨vb3_1_3_3, Sb3_1_3_3, hl_vb3_1_3_3, rfl, rfl⟩
      ·refine Tri.cond (b := t38_1 == 1) rfl (fun g_4 => ?_) (fun g_4 => ?_)
       ·replace hE_6 := if_tt g_4 hE_6
        obtain ⟨t49, h49, hE_6⟩ := bind_some hE_6
        obtain ⟨⟨t52_1, t52_2, t52_3⟩, h52, hE_6⟩ := bind_some hE_6
        obtain ⟨hs54, hE_6⟩ := ck hE_6
        refine Tri.reg (l := [0, 1, 2, 3, 4, 5, 6, 7, 8, 9]) rfl ?_
        refine F.qn rfl (r_fieldAddr tf44_1 rfl) (F.qn rfl (r_load ta25 rfl (fun w hw => cell_1 (box_cells (i := 1) rfl w hw) rfl)) ?_)
        refine F.mn rfl (m_callF (xs := _) rfl ok197 rfl rfl (fun w hw => spec_l1Own.ok h49 w ((rd_sl (i := 5) rfl) w hw))) ?_
        rintro v49_1 _ ⟨_, ⟨S49_1, hl_v49_1, rfl⟩, rfl⟩
        refine F.qn rfl (r_move rfl) ?_
        refine F.mn rfl (m_buildF (l := ([(-1), 0, 12] : List (Int))) Tryz.underlying25 ti3 rfl rfl rfl rfl rfl) ?_
        rintro v51_1 _ ⟨S51_1, hl_v51_1, rfl⟩
        refine F.efn rfl (d_callM (xs := _) (cs := [R.box pa0 114 [va0_0, .int .i64 t38_2, .int .u64 t38_3]]) (rest := [R.sl S51_1 v51_1 (([(-1), 0, 12] : List (Int)) : List (Int)), R.sl S49_1 v49_1 (t49 : List (Int)), R.box b3_1 44 [.int .i64 xb3_1_0, wq3_1_1, wq3_1_2, wq3_1_3, .int .i64 xb3_1_4], R.box b2_1 44 [.int .i64 0, .slice none 0 0, .slice none 0 0, .slice none 0 0, .int .i64 0], R.sl Tq3_1_1 wq3_1_1 (xq3_1_1 : List (Int × Int × Int)), R.sl Tq3_1_2 wq3_1_2 (xq3_1_2 : List (Int)), R.sl Tq3_1_3 wq3_1_3 (xq3_1_3 : List (Int))]) [2] [0, 1, 3, 4, 5, 6, 7] rfl ok194 rfl rfl rfl rfl (fun w hw => spec_l1Cur_among.ok h52 w (hr_a0_0.down hw) (rdm_sl (i := 0) rfl hw) (Sep.sub hw))) ?_
        rintro _ _ ⟨_, ⟨rfl, rfl⟩, rfl⟩
        refine F.mn rfl (m_buildF (l := ([t52_1] : List (Int))) Tryz.underlying25 ti3 rfl rfl rfl rfl rfl) ?_
        rintro v53_1 _ ⟨S53_1, hl_v53_1, rfl⟩
        refine F.efn rfl (d_append (i := 3) Tryz.underlying25 Tryz.underlying25 ti3 rfl (by decide) rfl rfl rfl (rd_sl (i := 0) rfl) hs54) ?_
        rintro v54_1 _ ⟨S54_1, rfl, hl_v54_1⟩
        refine F.qn rfl (r_fieldAddr tf44_1 rfl) ?_
        refine F.ef0 rfl rfl (wanted_none rfl) (d_storeG1 (i := 4) (cs2 := [v54_1]) ti25 rfl rfl rfl (sl_cells hl_v54_1) rfl (Nat.le_of_ble_eq_true rfl) (lf_cons (sl_leaf hl_v54_1) lf_nil)) ?_
        rintro _ _ ⟨rfl, rfl⟩
        refine F.nil ?_
        cases hE_6
        refine Nrm.only [2, 3] rfl ?_
        refine Nrm.pick [1, 4, 5, 3, 6, 7] rfl rfl ?_
        exact hj_5 _ _ ⟨v54_1, S54_1, hl_v54_1, rfl, rfl⟩
       ·replace hE_6 := if_ff g_4 hE_6
        refine Tri.seq (Tri.reg (l := [0, 1]) rfl ?_)
        refine F.qn rfl (r_eql rfl rfl) (F.qn rfl (r_assign rfl) (F.nil (Nrm.seq ?_)))
        obtain ⟨⟨ypa0_1r, ypa0_2r, yb3_1_0r, yb3_1_3r⟩, hE_7, hE_6⟩ := bind_some hE_6
        refine Tri.cut (fun e' C' => ∃ (vb3_1_3_4 : Value) (Sb3_1_3_4 : Nat → Prop), SlLen vb3_1_3_4 (yb3_1_3r).length ∧ e' = [(2, .pointer (some ⟨b2_1, 0, none⟩)), (3, .pointer (some ⟨b3_1, 0, none⟩))] ∧ C' = Sep w (footM [R.box pa0 114 [va0_0, .int .i64 a0_1, .int .u64 a0_2]]) [R.box pa0 114 [va0_0, .int .i64 ypa0_1r, .int .u64 ypa0_2r], R.box b3_1 44 [.int .i64 yb3_1_0r, wq3_1_1, wq3_1_2, vb3_1_3_4, .int .i64 xb3_1_4], R.box b2_1 44 [.int .i64 0, .slice none 0 0, .slice none 0 0, .slice none 0 0, .int .i64 0], R.sl Sb3_1_3_4 vb3_1_3_4 (yb3_1_3r : List (Int)), R.sl Tq3_1_1 wq3_1_1 (xq3_1_1 : List (Int × Int × Int)), R.sl Tq3_1_2 wq3_1_2 (xq3_1_2 : List (Int))]) ?_ (fun hj_6 => ?_)
        ·rintro _ _ ⟨vb3_1_3_4, Sb3_1_3_4, hl_vb3_1_3_4, rfl, rfl⟩
         cases hE_6
         refine Nrm.only [2, 3] rfl ?_
         refine Nrm.pick [0, 1, 2, 3, 4, 5] rfl rfl ?_
         exact hj_5 _ _ ⟨vb3_1_3_4, Sb3_1_3_4, hl_vb3_1_3_4, rfl, rfl⟩
        ·refine Tri.cond (b := t38_1 == 2) rfl (fun g_5 => ?_) (fun g_5 => ?_)
         ·replace hE_7 := if_tt g_5 hE_7
          refine Tri.reg (l := [0, 1, 2]) rfl ?_
          refine F.mn rfl (m_build0 (α := Int) Tryz.underlying25 ti3) ?_
          rintro v58_1 _ ⟨S58_1, hl_v58_1, rfl⟩
          refine F.qn rfl (r_fieldAddr tf44_1 rfl) ?_
          refine F.ef0 rfl rfl (wanted_none rfl) (d_storeG1 (i := 2) (cs2 := [v58_1]) ti25 rfl rfl rfl (sl_cells hl_v58_1) rfl (Nat.le_of_ble_eq_true rfl) (lf_cons (sl_leaf hl_v58_1) lf_nil)) ?_
          rintro _ _ ⟨rfl, rfl⟩
          refine F.nil ?_
          cases hE_7
          refine Nrm.only [2, 3] rfl ?_
          refine Nrm.pick [1, 2, 3, 0, 4, 5] rfl rfl ?_
          exact hj_6 _ _ ⟨v58_1, S58_1, hl_v58_1, rfl, rfl⟩
         ·replace hE_7 := if_ff g_5 hE_7
          refine Tri.seq (Tri.reg (l := [0, 1]) rfl ?_)
          refine F.qn rfl (r_eql rfl rfl) (F.qn rfl (r_assign rfl) (F.nil (Nrm.seq ?_)))
          obtain ⟨⟨ypa0_1r, ypa0_2r, yb3_1_0r⟩, hE_8, hE_7⟩ := bind_some hE_7
          refine Tri.cut (fun e' C' => e' = [(2, .pointer (some ⟨b2_1, 0, none⟩)), (3, .pointer (some ⟨b3_1, 0, none⟩))] ∧ C' = Sep w (footM [R.box pa0 114 [va0_0, .int .i64 a0_1, .int .u64 a0_2]]) [R.box pa0 114 [va0_0, .int .i64 ypa0_1r, .int .u64 ypa0_2r], R.box b3_1 44 [.int .i64 yb3_1_0r, wq3_1_1, wq3_1_2, wq3_1_3, .int .i64 xb3_1_4], R.box b2_1 44 [.int .i64 0, .slice none 0 0, .slice none 0 0, .slice none 0 0, .int .i64 0], R.sl Tq3_1_1 wq3_1_1 (xq3_1_1 : List (Int × Int × Int)), R.sl Tq3_1_2 wq3_1_2 (xq3_1_2 : List (Int)), R.sl Tq3_1_3 wq3_1_3 (xq3_1_3 : List (Int))]) ?_ (fun hj_7 => ?_)
          ·rintro _ _ ⟨rfl, rfl⟩
           cases hE_7
           refine Nrm.only [2, 3] rfl ?_
           refine Nrm.pick [0, 1, 2, 5, 3, 4] rfl rfl ?_
           exact hj_6 _ _ ⟨wq3_1_3, Tq3_1_3, hl_wq3_1_3, rfl, rfl⟩
          ·refine Tri.cond (b := t38_1 == 3) rfl (fun g_6 => ?_) (fun g_6 => ?_)
           ·replace hE_8 := if_tt g_6 hE_8
            obtain ⟨⟨t64_1, t64_2, t64_3⟩, h64, hE_8⟩ := bind_some hE_8
            refine Tri.reg (l := [0, 1, 2, 3, 4, 5]) rfl ?_
            refine F.qn rfl (r_move rfl) ?_
            refine F.mn rfl (m_buildF (l := ([0, 13, 4611686018427387904] : List (Int))) Tryz.underlying25 ti3 rfl rfl rfl rfl rfl) ?_
            rintro v63_1 _ ⟨S63_1, hl_v63_1, rfl⟩
            refine F.efn rfl (d_callM (xs := _) (cs := [R.box pa0 114 [va0_0, .int .i64 t38_2, .int .u64 t38_3]]) (rest := [R.sl S63_1 v63_1 (([0, 13, 4611686018427387904] : List (Int)) : List (Int)), R.box b3_1 44 [.int .i64 xb3_1_0, wq3_1_1, wq3_1_2, wq3_1_3, .int .i64 xb3_1_4], R.box b2_1 44 [.int .i64 0, .slice none 0 0, .slice none 0 0, .slice none 0 0, .int .i64 0], R.sl Tq3_1_1 wq3_1_1 (xq3_1_1 : List (Int × Int × Int)), R.sl Tq3_1_2 wq3_1_2 (xq3_1_2 : List (Int)), R.sl Tq3_1_3 wq3_1_3 (xq3_1_3 : List (Int))]) [1] [0, 2, 3, 4, 5, 6] rfl ok194 rfl rfl rfl rfl (fun w hw => spec_l1Cur_among.ok h64 w (hr_a0_0.down hw) (rdm_sl (i := 0) rfl hw) (Sep.sub hw))) ?_
            rintro _ _ ⟨_, ⟨rfl, rfl⟩, rfl⟩
            refine F.qn rfl (r_fieldAddr tf44_0 rfl) (F.qn rfl (r_fieldAddr tf27_0 rfl) ?_)
            refine F.ef0 rfl rfl (wanted_none rfl) (d_storeG2 (i := 2) (cs2 := [.int .i64 t64_1]) ti3 rfl rfl rfl rfl rfl (Nat.le_of_ble_eq_true rfl) (lf_cons rfl lf_nil)) ?_
            rintro _ _ ⟨rfl, rfl⟩
            refine F.nil ?_
            cases hE_8
            refine Nrm.only [2, 3] rfl ?_
            refine Nrm.pick [0, 2, 3, 4, 5, 6] rfl rfl ?_
            exact hj_7 _ _ ⟨rfl, rfl⟩
           ·replace hE_8 := if_ff g_6 hE_8
            refine Tri.skip ?_
            cases hE_8
            refine Nrm.only [2, 3] rfl ?_
            refine Nrm.pick [0, 1, 2, 3, 4, 5] rfl rfl ?_
            exact hj_7 _ _ ⟨rfl, rfl⟩
  ·rcases Bool.eq_false_or_eq_true (decide (x5 > 0)) with g22 | g22
   ·replace hE_2 := if_tt g22 hE_2
    refine Tri.reg (l := [0, 1, 2, 3, 4]) rfl ?_
    refine F.qn rfl (r_move rfl) (F.qn rfl (r_gtr rfl rfl) (F.qn rfl (r_move rfl) (F.qg rfl g22 (r_move rfl) (F.qn rfl (r_pick rfl rfl g22) (F.nil ?_)))))
    cases hE_2
    refine Nrm.only [0, 2, 3, 4, 5, 24] rfl ?_
    refine Nrm.pick [0, 1, 2, 3, 4, 5] rfl rfl ?_
    exact hj_1 _ _ ⟨rfl, rfl⟩
   ·replace hE_2 := if_ff g22 hE_2
    refine Tri.reg (l := [0, 1, 2, 3, 4]) rfl ?_
    refine F.qn rfl (r_move rfl) (F.qn rfl (r_gtr rfl rfl) (F.qn rfl (r_move rfl) (F.skf rfl g22 (F.qn rfl (r_pickf rfl rfl g22) (F.nil ?_)))))
    cases hE_2
    refine Nrm.only [0, 2, 3, 4, 5, 24] rfl ?_
    refine Nrm.pick [0, 1, 2, 3, 4, 5] rfl rfl ?_
    exact hj_1 _ _ ⟨rfl, rfl⟩


def spec_DrawDoDeed.f (k : Nat) (a0 : List By) : Option (Int × (List (Int × Int × Int)) × (List Int) × (List Int) × Int × Int × Int × Int × Int) := (spec_l1Cur_visit.f k a0 0 0).bind fun (t10_1, t10_2, t10_3, t10_4, t10_5, t10_6, t10_7) => (spec_l1Cur_deed12.f k a0 t10_6 t10_7 t10_1 t10_2 t10_3 t10_4 t10_5).bind fun (t14_1, t14_2, t14_3, t14_4, t14_5, t14_6) => some (t10_1, t10_2, t10_3, t10_4, t10_5, t14_1, t14_2, t14_3, t14_4)

theorem spec_DrawDoDeed.ok {k : Nat}  {a0 : List By} {r0 : Int} {r1 : List (Int × Int × Int)} {r2 : List Int} {r3 : List Int} {r4 : Int} {r5 : Int} {r6 : Int} {r7 : Int} {r8 : Int} (h : spec_DrawDoDeed.f k a0 = some (r0, r1, r2, r3, r4, r5, r6, r7, r8)) (w : World) {va0 : Value} (hr_a0 : Rd w va0 a0) :
  Calls Tryz.prog 31 ([va0] : List Value).toArray w (Post (fun u ns => ∃ (ur1 : Value) (Sr1 : Nat → Prop) (ur2 : Value) (Sr2 : Nat → Prop) (ur3 : Value) (Sr3 : Nat → Prop), u = .tuple #[.agg [.int .i64 r0, ur1, ur2, ur3, .int .i64 r4].toArray, .agg [.int .i64 r5, .int .i64 r6, .int .i64 r7, .int .i64 r8].toArray] ∧ SlLen ur1 r1.length ∧ SlLen ur2 r2.length ∧ SlLen ur3 r3.length ∧ ns = [R.sl Sr1 ur1 r1, R.sl Sr2 ur2 r2, R.sl Sr3 ur3 r3]) w) := by
 unfold spec_DrawDoDeed.f at h
 have hl_va0 := hr_a0.len
 refine Calls.of_tri (N := 15) Tryz.func31 rfl rfl rfl (Sep.nil (M := noM)) ?_
 refine Tri.seq (Tri.reg (l := [0, 1]) rfl ?_)
 refine F.mn rfl (m_alloc ti44) ?_
 rintro _ _ ⟨b2_1, rfl, rfl⟩
 refine F.mn rfl (m_alloc ti48) ?_
 rintro _ _ ⟨b3_1, rfl, rfl⟩
 refine F.nil (Nrm.seq (Tri.seq (Tri.reg (l := [0, 1, 2, 3]) rfl ?_)))
 refine F.qn rfl (r_move rfl) (F.qn rfl (r_build (pl := [(0, 1), (1, 1), (2, 1)]) (qs := [(0, [va0])]) (cs := [va0, .int .i64 0, .int .u64 0]) (by kernel_rfl) ti114 rfl (.cons (sl_cells hl_va0) rfl (Nat.le_of_ble_eq_true rfl) .nil) rfl rfl) ?_)
 refine F.mn rfl (m_boxG rfl rfl) ?_
 rintro _ _ ⟨b8_1, rfl, rfl⟩
 refine F.qn rfl (r_assign rfl) (F.nil (Nrm.seq (Tri.seq ?_)))
 obtain ⟨⟨t10_1, t10_2, t10_3, t10_4, t10_5, t10_6, t10_7⟩, h10, h⟩ := bind_some h
 refine Tri.reg (l := [0, 1, 2, 3]) rfl ?_
 refine F.qn rfl (r_move rfl) ?_
 refine F.efn rfl (d_callM (xs := _) (cs := [R.box b8_1 114 [va0, .int .i64 0, .int .u64 0]]) (rest := [R.box b3_1 48 [.int .i64 0, .int .i64 0, .int .i64 0, .int .i64 0], R.box b2_1 44 [.int .i64 0, .slice none 0 0, .slice none 0 0, .slice none 0 0, .int .i64 0]]) [0] [1, 2] rfl ok110 rfl rfl rfl rfl (fun w hw => spec_l1Cur_visit.ok h10 w (hr_a0.down hw) (Sep.sub hw))) ?_
 rintro _ _ ⟨_, ⟨v10_1, S10_1, v10_2, S10_2, v10_3, S10_3, rfl, hl_v10_1, hl_v10_2, hl_v10_3, rfl⟩, rfl⟩
 refine F.mn rfl (m_alloc ti44) ?_
 rintro _ _ ⟨b5_1, rfl, rfl⟩
 refine F.ef0 rfl rfl (wanted_none rfl) (d_storeG0 (i := 0) (cs2 := [.int .i64 t10_1, v10_1, v10_2, v10_3, .int .i64 t10_5]) ti44 rfl rfl rfl rfl rfl (Nat.le_of_ble_eq_true rfl) (lf_cons rfl (lf_cons (sl_leaf hl_v10_1) (lf_cons (sl_leaf hl_v10_2) (lf_cons (sl_leaf hl_v10_3) (lf_cons rfl lf_nil)))))) ?_
 rintro _ _ ⟨rfl, rfl⟩
 refine F.nil (Nrm.seq (Tri.seq ?_))
 obtain ⟨⟨t14_1, t14_2, t14_3, t14_4, t14_5, t14_6⟩, h14, h⟩ := bind_some h
 refine Tri.drawK (B := Sep w noM [R.box b5_1 44 [.int .i64 t10_1, v10_1, v10_2, v10_3, .int .i64 t10_5], R.sl S10_1 v10_1 (t10_2 : List (Int × Int × Int)), R.sl S10_2 v10_2 (t10_3 : List (Int)), R.sl S10_3 v10_3 (t10_4 : List (Int)), R.box b3_1 48 [.int .i64 0, .int .i64 0, .int .i64 0, .int .i64 0], R.box b2_1 44 [.int .i64 0, .slice none 0 0, .slice none 0 0, .slice none 0 0, .int .i64 0]]) mixedT Sep.up [(0, true), (1, true), (2, true), (3, false)] [4, 5] (by kernel_rfl) ?_
 refine K.q [0, 1, 2, 3, 5, 6] rfl rfl rfl rfl rfl (wanted_none rfl) (r_loadA ta44 ti44 rfl rfl (fun w hw => (box_cells (i := 0) rfl w hw))) ?_
 refine K.q [0, 1, 2, 3, 5, 6] rfl rfl rfl rfl rfl (wanted_none rfl) (r_move rfl) ?_
 refine K.q [0, 1, 2, 3, 5, 6] rfl rfl rfl rfl rfl (wanted_none rfl) (r_loadA ta44 ti44 rfl rfl (fun w hw => (box_cells (i := 0) rfl w hw))) ?_
 refine B.ef rfl rfl rfl (wanted_none rfl) (d_callM (xs := _) (cs := [R.box b8_1 114 [va0, .int .i64 t10_6, .int .u64 t10_7]]) (rest := [R.box b5_1 44 [.int .i64 t10_1, v10_1, v10_2, v10_3, .int .i64 t10_5], R.sl S10_1 v10_1 (t10_2 : List (Int × Int × Int)), R.sl S10_2 v10_2 (t10_3 : List (Int)), R.sl S10_3 v10_3 (t10_4 : List (Int)), R.box b3_1 48 [.int .i64 0, .int .i64 0, .int .i64 0, .int .i64 0], R.box b2_1 44 [.int .i64 0, .slice none 0 0, .slice none 0 0, .slice none 0 0, .int .i64 0]]) [4] [0, 1, 2, 3, 5, 6] rfl ok111 rfl rfl rfl rfl (fun w hw => spec_l1Cur_deed12.ok h14 w (hr_a0.down hw) (rdm_sl (i := 1) rfl hw) (rdm_sl (i := 2) rfl hw) (rdm_sl (i := 3) rfl hw) (Sep.sub hw))) (by rintro _ _ ⟨_, ⟨rfl, rfl⟩, rfl⟩; exact upd rfl [1, 2, 3, 4, 5, 6] rfl rfl) ?_
 rintro _ _ ⟨_, ⟨rfl, rfl⟩, rfl⟩
 refine B.nil ?_
 refine F.ef0 rfl rfl (wanted_none rfl) (d_storeG0 (i := 6) (cs2 := [.int .i64 t10_1, v10_1, v10_2, v10_3, .int .i64 t10_5]) ti44 rfl rfl rfl rfl rfl (Nat.le_of_ble_eq_true rfl) (lf_cons rfl (lf_cons (sl_leaf hl_v10_1) (lf_cons (sl_leaf hl_v10_2) (lf_cons (sl_leaf hl_v10_3) (lf_cons rfl lf_nil)))))) ?_
 rintro _ _ ⟨rfl, rfl⟩
 refine F.ef0 rfl rfl (wanted_none rfl) (d_storeG0 (i := 5) (cs2 := [.int .i64 t14_1, .int .i64 t14_2, .int .i64 t14_3, .int .i64 t14_4]) ti48 rfl rfl rfl rfl rfl (Nat.le_of_ble_eq_true rfl) (lf_cons rfl (lf_cons rfl (lf_cons rfl (lf_cons rfl lf_nil))))) ?_
 rintro _ _ ⟨rfl, rfl⟩
 refine F.nil (Nrm.seq (Tri.ret ?_))
 cases h
 exact Rtn.body (.cell rfl ta44 ti44 rfl (fun _ hw => box_cells (i := 6) rfl _ hw) (.cell rfl ta48 ti48 rfl (fun _ hw => box_cells (i := 5) rfl _ hw) .nil)) (fun w hw => ⟨_, _, rfl, ⟨v10_1, S10_1, v10_2, S10_2, v10_3, S10_3, rfl, hl_v10_1, hl_v10_2, hl_v10_3, rfl⟩, Sep.pick (is := [2, 3, 4]) rfl rfl hw⟩)


def laws_vCut.f (k : Nat) (a0 : List By) (a1 : Int) : Option ((List By)) := ((if (decide (a1 > (a0.length : Int))) = true then some (a0.length : Int) else some a1)).bind fun y1 => (slc a0 y1 (a0.length : Int)).bind fun t14 => if (([] : List (By)) ++ t14).length < 1099511627776 then if ((([] : List (By)) ++ t14) ++ ([By.mk (IntKind.u8.wrap y1)] : List (By))).length < 1099511627776 then some ((([] : List (By)) ++ t14) ++ ([By.mk (IntKind.u8.wrap y1)] : List (By))) else none else none

theorem laws_vCut.ok {k : Nat}  {a0 : List By} {a1 : Int} {r0 : List By} (h : laws_vCut.f k a0 a1 = some r0) (w : World) {va0 : Value} (hr_a0 : Rd w va0 a0) :
  Calls Tryz.prog 32 ([va0, .int .i64 a1] : List Value).toArray w (Post (fun u ns => ∃ (Sr0 : Nat → Prop), SlLen u r0.length ∧ ns = [R.sl Sr0 u r0]) w) := by
 unfold laws_vCut.f at h
 have hl_va0 := hr_a0.len
 refine Calls.of_tri (N := 20) Tryz.func32 rfl rfl rfl (Sep.nil (M := noM)) ?_
 refine Tri.seq (Tri.reg (l := [0]) rfl ?_)
 refine F.qn rfl (r_assign rfl) (F.nil (Nrm.seq (Tri.seq (Tri.seq (Tri.reg (l := [0, 1, 2, 3]) rfl ?_)))))
 refine F.qn rfl (r_move rfl) (F.qn rfl (r_move rfl) (F.qn rfl (r_len Tryz.underlying22 rfl hl_va0) (F.qn rfl (r_gtr rfl rfl) (F.nil (Nrm.seq ?_)))))
 obtain ⟨y1, hE_1, h⟩ := bind_some h
 refine Tri.cut (fun e' C' => e' = [(0, va0), (1, .int .i64 y1)] ∧ C' = Sep w noM []) ?_ (fun hj_1 => ?_)
 ·rintro _ _ ⟨rfl, rfl⟩
  refine Nrm.seq (Tri.seq ?_)
  obtain ⟨t14, h14, h⟩ := bind_some h
  obtain ⟨hs15, h⟩ := ck h
  obtain ⟨hs19, h⟩ := ck h
  refine Tri.reg (l := [0, 1, 2, 3, 4, 5, 6, 7, 8, 9]) rfl ?_
  refine F.mn rfl (m_build0 (α := By) Tryz.underlying22 ti5) ?_
  rintro v11_1 _ ⟨S11_1, hl_v11_1, rfl⟩
  refine F.qn rfl (r_move rfl) (F.qn rfl (r_move rfl) (F.qn rfl (r_sliceL Tryz.underlying22 ti5 rfl (fun _ hw => hr_a0.sep hw) rfl h14) ?_))
  refine F.efn rfl (d_append (i := 0) Tryz.underlying22 Tryz.underlying22 ti5 rfl (by decide) rfl rfl rfl (fun w hw => rd_slc ((fun _ hw => hr_a0.sep hw) w hw) h14) hs15) ?_
  rintro v15_1 _ ⟨S15_1, rfl, hl_v15_1⟩
  refine F.qn rfl (r_move rfl) (F.qn rfl (r_conv Tryz.underlying3 Tryz.underlying5 rfl) ?_)
  refine F.mn rfl (m_buildF (l := ([By.mk (IntKind.u8.wrap y1)] : List (By))) Tryz.underlying22 ti5 rfl rfl rfl rfl rfl) ?_
  rintro v18_1 _ ⟨S18_1, hl_v18_1, rfl⟩
  refine F.efn rfl (d_append (i := 1) Tryz.underlying22 Tryz.underlying22 ti5 rfl (by decide) rfl rfl rfl (rd_sl (i := 0) rfl) hs19) ?_
  rintro v19_1 _ ⟨S19_1, rfl, hl_v19_1⟩
  refine F.qn rfl (r_assign rfl) (F.nil (Nrm.seq (Tri.ret ?_)))
  cases h
  exact Rtn.body (.tmp rfl .nil) (fun w hw => ⟨_, _, rfl, ⟨S19_1, hl_v19_1, rfl⟩, Sep.pick (is := [1]) rfl rfl hw⟩)
 ·refine Tri.cond (b := decide (a1 > (a0.length : Int))) rfl (fun g_1 => ?_) (fun g_1 => ?_)
  ·replace hE_1 := if_tt g_1 hE_1
   refine Tri.reg (l := [0, 1, 2]) rfl ?_
   refine F.qn rfl (r_move rfl) (F.qn rfl (r_len Tryz.underlying22 rfl hl_va0) (F.qn rfl (r_assign rfl) (F.nil ?_)))
   cases hE_1
   refine Nrm.only [0, 1] rfl ?_
   refine Nrm.pick [] rfl rfl ?_
   exact hj_1 _ _ ⟨rfl, rfl⟩
  ·replace hE_1 := if_ff g_1 hE_1
   refine Tri.skip ?_
   cases hE_1
   refine Nrm.only [0, 1] rfl ?_
   refine Nrm.pick [] rfl rfl ?_
   exact hj_1 _ _ ⟨rfl, rfl⟩


def impl_has.f (k : Nat) (a0 : Int) (a1 : Int) : Option (Bool) := some ((bclr a1 a0) == 0)

theorem impl_has.ok {k : Nat}  {a0 : Int} {a1 : Int} {r0 : Bool} (h : impl_has.f k a0 a1 = some r0) (w : World) :
  Calls Tryz.prog 189 ([.int .i64 a0, .int .i64 a1] : List Value).toArray w (fun e w' => e = .returned (.bool r0) ∧ Ext w w') := by
 unfold impl_has.f at h
 refine Calls.of_tri (N := 9) Tryz.func189 rfl rfl rfl (Sep.nil (M := noM)) ?_
 refine Tri.seq (Tri.reg (l := [0]) rfl ?_)
 refine F.qn rfl (r_assign rfl) (F.nil (Nrm.seq (Tri.seq (Tri.reg (l := [0, 1, 2, 3, 4]) rfl ?_))))
 refine F.qn rfl (r_move rfl) (F.qn rfl (r_move rfl) (F.qn rfl (r_andNot rfl rfl) (F.qn rfl (r_eql rfl rfl) (F.qn rfl (r_assign rfl) (F.nil (Nrm.seq (Tri.ret ?_)))))))
 cases h
 exact Rtn.body (.tmp rfl .nil) (fun w hw => ⟨rfl, hw.ext⟩)


def impl_steps.l0 (k : Nat) (a0_1 : List (Int × Int × Int)) (a1 : Int) (a2 : Int) : Nat → Int → Int → Option (Int)
 | 0, _, _ => none
 | n + 1, x7, x13 => (if (decide (x13 < (a0_1.length : Int))) = true then ((rdl a0_1 x13).bind fun t15 => (impl_has.f k a2 t15.2.2).bind fun t20 => (if (!t20) = true then some x7 else ((if (t15.1 == a1) = true then if ¬ t15.2.1 < 0 then some (bor x7 (shl 1 t15.2.1)) else none else some x7)).bind fun y7 => ((if (t15.2.1 == a1) = true then if ¬ t15.1 < 0 then some (bor y7 (shl 1 t15.1)) else none else some y7)).bind fun y7r => some y7r)).bind fun y7 => impl_steps.l0 k a0_1 a1 a2 n y7 (w64 (x13 + 1)) else some x7)

def impl_steps.f (k : Nat) (a0_0 : Int) (a0_1 : List (Int × Int × Int)) (a0_2 : List Int) (a1 : Int) (a2 : Int) : Option (Int) := (impl_steps.l0 k a0_1 a1 a2 k 0 0).bind fun x7 => some x7

theorem impl_steps.ok {k : Nat}  {a0_0 : Int} {a0_1 : List (Int × Int × Int)} {a0_2 : List Int} {a1 : Int} {a2 : Int} {r0 : Int} (h : impl_steps.f k a0_0 a0_1 a0_2 a1 a2 = some r0) (w : World) {va0_1 : Value} {va0_2 : Value} (hr_a0_1 : Rd w va0_1 a0_1) (hr_a0_2 : Rd w va0_2 a0_2) :
  Calls Tryz.prog 207 ([.agg ([.int .i64 a0_0, va0_1, va0_2].toArray), .int .i64 a1, .int .i64 a2] : List Value).toArray w (fun e w' => e = .returned (.int .i64 r0) ∧ Ext w w') := by
 unfold impl_steps.f at h
 have hl_va0_1 := hr_a0_1.len
 have hl_va0_2 := hr_a0_2.len
 refine Calls.of_tri (N := 42) Tryz.func207 rfl rfl rfl (Sep.nil (M := noM)) ?_
 refine Tri.seq (Tri.reg (l := [0, 1]) rfl ?_)
 refine F.mn rfl (m_boxG rfl rfl) ?_
 rintro _ _ ⟨b3_1, rfl, rfl⟩
 refine F.qn rfl (r_assign rfl) (F.nil (Nrm.seq (Tri.seq (Tri.reg (l := [0]) rfl ?_))))
 refine F.qn rfl (r_assign rfl) (F.nil (Nrm.seq (Tri.seq (Tri.seq (Tri.reg (l := [0, 1, 2, 3]) rfl ?_)))))
 refine F.qn rfl (r_fieldAddr tf27_1 rfl) (F.qn rfl (r_load ta24 rfl (fun w hw => cell_1 (box_cells (i := 0) rfl w hw) rfl)) (F.qn rfl (r_len Tryz.underlying24 rfl hl_va0_1) (F.qn rfl (r_move rfl) (F.nil (Nrm.seq ?_)))))
 obtain ⟨x7, hE_1, h⟩ := bind_some h
 refine Tri.block ?_
 refine Tri.only [1, 2, 7, 11, 12, 13] rfl ?_
 refine Tri.pick [] rfl rfl ?_
 refine Tri.rounds (fun n e' C' => ∃ (x7' : Int) (x13' : Int), impl_steps.l0 k a0_1 a1 a2 n x7' x13' = some x7 ∧ e' = [(1, .int .i64 a1), (2, .int .i64 a2), (7, .int .i64 x7'), (11, va0_1), (12, .int .i64 (a0_1.length : Int)), (13, .int .i64 x13')] ∧ C' = Sep w noM []) k ?_ ?_ ?_
 ·exact ⟨0, 0, hE_1, rfl, rfl⟩
 ·rintro _ _ ⟨_, _, hE_1, _⟩
  rw [impl_steps.l0.eq_1] at hE_1; cases hE_1
 ·rintro n_1 _ _ ⟨x7, x13, hE_1, rfl, rfl⟩ ih_1
  rw [impl_steps.l0.eq_2] at hE_1
  refine Tri.seq (Tri.reg (l := [0]) rfl ?_)
  refine F.qn rfl (r_lss rfl rfl) (F.nil (Nrm.seq (Tri.seq (Tri.cond (b := decide (x13 < (a0_1.length : Int))) rfl (fun g_1 => ?_) (fun g_1 => ?_)))))
  ·replace hE_1 := if_tt g_1 hE_1
   refine Tri.skip (Nrm.seq (Tri.seq ?_))
   obtain ⟨y7, hE_2, hE_1⟩ := bind_some hE_1
   refine Tri.cut (fun e' C' => e' = [(1, .int .i64 a1), (2, .int .i64 a2), (7, .int .i64 y7), (11, va0_1), (12, .int .i64 (a0_1.length : Int)), (13, .int .i64 x13)] ∧ C' = Sep w noM []) ?_ (fun hj_1 => ?_)
   ·rintro _ _ ⟨rfl, rfl⟩
    refine Nrm.seq (Tri.reg (l := [0, 1]) rfl ?_)
    refine F.qn rfl (r_add rfl rfl) (F.qn rfl (r_move rfl) (F.nil (Nrm.round ?_)))
    refine Rnd.only [1, 2, 7, 11, 12, 13] rfl ?_
    refine Rnd.pick [] rfl rfl ?_
    exact ih_1 _ _ ⟨y7, w64 (x13 + 1), hE_1, rfl, rfl⟩
   ·refine Tri.block ?_
    refine Tri.seq ?_
    obtain ⟨t15, h15, hE_2⟩ := bind_some hE_2
    refine Tri.reg (l := [0, 1, 2, 3]) rfl ?_
    refine F.qn rfl (r_indexAddrS Tryz.underlying24 ti168 rfl hl_va0_1 rfl (rdl_some h15).1 (rdl_some h15).2.1) (F.qn rfl (r_loadA ta168 ti168 rfl rfl (fun w hw => (Rd.flat ((fun _ hw => hr_a0_1.sep hw) w hw) (rdl_some h15).2.2))) ?_)
    refine F.mn rfl (m_alloc ti168) ?_
    rintro _ _ ⟨b9_1, rfl, rfl⟩
    refine F.ef0 rfl rfl (wanted_none rfl) (d_storeG0 (i := 0) (cs2 := [.int .i64 t15.1, .int .i64 t15.2.1, .int .i64 t15.2.2]) ti168 rfl rfl rfl rfl rfl (Nat.le_of_ble_eq_true rfl) (lf_cons rfl (lf_cons rfl (lf_cons rfl lf_nil)))) ?_
    rintro _ _ ⟨rfl, rfl⟩
    refine F.nil (Nrm.seq (Tri.seq (Tri.seq ?_)))
    obtain ⟨t20, h20, hE_2⟩ := bind_some hE_2
    refine Tri.reg (l := [0, 1, 2, 3, 4]) rfl ?_
    refine F.qn rfl (r_move rfl) (F.qn rfl (r_indexAddrA Tryz.underlying168 ti3 rfl rfl (by decide) (by decide)) (F.qn rfl (r_load ta3 rfl (fun w hw => cell_1 (box_cells (i := 0) rfl w hw) rfl)) ?_))
    refine F.qcn rfl (q_callF (xs := _) rfl ok189 rfl rfl (fun w hw => impl_has.ok h20 w )) ?_
    refine F.qn rfl (r_not rfl) (F.nil (Nrm.seq (Tri.cond (b := !t20) rfl (fun g_2 => ?_) (fun g_2 => ?_))))
    ·replace hE_2 := if_tt g_2 hE_2
     refine Tri.exit ?_
     refine Exi.then ?_
     refine Exi.same ?_
     cases hE_2
     refine Nrm.only [1, 2, 7, 11, 12, 13] rfl ?_
     refine Nrm.pick [] rfl rfl ?_
     exact hj_1 _ _ ⟨rfl, rfl⟩
    ·replace hE_2 := if_ff g_2 hE_2
     refine Tri.skip (Nrm.seq (Tri.seq (Tri.seq (Tri.reg (l := [0, 1, 2, 3]) rfl ?_))))
     refine F.qn rfl (r_indexAddrA Tryz.underlying168 ti3 rfl rfl (by decide) (by decide)) (F.qn rfl (r_load ta3 rfl (fun w hw => cell_1 (box_cells (i := 0) rfl w hw) rfl)) (F.qn rfl (r_move rfl) (F.qn rfl (r_eql rfl rfl) (F.nil (Nrm.seq ?_)))))
     obtain ⟨y7, hE_3, hE_2⟩ := bind_some hE_2
     refine Tri.cut (fun e' C' => e' = [(1, .int .i64 a1), (2, .int .i64 a2), (7, .int .i64 y7), (9, .pointer (some ⟨b9_1, 0, none⟩)), (11, va0_1), (12, .int .i64 (a0_1.length : Int)), (13, .int .i64 x13)] ∧ C' = Sep w noM [R.box b9_1 168 [.int .i64 t15.1, .int .i64 t15.2.1, .int .i64 t15.2.2]]) ?_ (fun hj_2 => ?_)
     ·rintro _ _ ⟨rfl, rfl⟩
      refine Nrm.seq (Tri.seq (Tri.reg (l := [0, 1, 2, 3]) rfl ?_))
      refine F.qn rfl (r_indexAddrA Tryz.underlying168 ti3 rfl rfl (by decide) (by decide)) (F.qn rfl (r_load ta3 rfl (fun w hw => cell_1 (box_cells (i := 0) rfl w hw) rfl)) (F.qn rfl (r_move rfl) (F.qn rfl (r_eql rfl rfl) (F.nil (Nrm.seq ?_)))))
      obtain ⟨y7r, hE_4, hE_2⟩ := bind_some hE_2
      refine Tri.cut (fun e' C' => e' = [(1, .int .i64 a1), (2, .int .i64 a2), (7, .int .i64 y7r), (11, va0_1), (12, .int .i64 (a0_1.length : Int)), (13, .int .i64 x13)] ∧ C' = Sep w noM []) ?_ (fun hj_3 => ?_)
      ·rintro _ _ ⟨rfl, rfl⟩
       refine Nrm.block ?_
       cases hE_2
       refine Nrm.only [1, 2, 7, 11, 12, 13] rfl ?_
       refine Nrm.pick [] rfl rfl ?_
       exact hj_1 _ _ ⟨rfl, rfl⟩
      ·refine Tri.cond (b := t15.2.1 == a1) rfl (fun g_4 => ?_) (fun g_4 => ?_)
       ·replace hE_4 := if_tt g_4 hE_4
        obtain ⟨hs38, hE_4⟩ := ck hE_4
        refine Tri.reg (l := [0, 1, 2, 3, 4, 5]) rfl ?_
        refine F.qn rfl (r_move rfl) (F.qn rfl (r_indexAddrA Tryz.underlying168 ti3 rfl rfl (by decide) (by decide)) (F.qn rfl (r_load ta3 rfl (fun w hw => cell_1 (box_cells (i := 0) rfl w hw) rfl)) (F.qn rfl (r_shl rfl rfl hs38) (F.qn rfl (r_or rfl rfl) (F.qn rfl (r_assign rfl) (F.nil ?_))))))
        cases hE_4
        refine Nrm.only [1, 2, 7, 11, 12, 13] rfl ?_
        refine Nrm.pick [] rfl rfl ?_
        exact hj_3 _ _ ⟨rfl, rfl⟩
       ·replace hE_4 := if_ff g_4 hE_4
        refine Tri.skip ?_
        cases hE_4
        refine Nrm.only [1, 2, 7, 11, 12, 13] rfl ?_
        refine Nrm.pick [] rfl rfl ?_
        exact hj_3 _ _ ⟨rfl, rfl⟩
     ·refine Tri.cond (b := t15.1 == a1) rfl (fun g_3 => ?_) (fun g_3 => ?_)
      ·replace hE_3 := if_tt g_3 hE_3
       obtain ⟨hs29, hE_3⟩ := ck hE_3
       refine Tri.reg (l := [0, 1, 2, 3, 4, 5]) rfl ?_
       refine F.qn rfl (r_move rfl) (F.qn rfl (r_indexAddrA Tryz.underlying168 ti3 rfl rfl (by decide) (by decide)) (F.qn rfl (r_load ta3 rfl (fun w hw => cell_1 (box_cells (i := 0) rfl w hw) rfl)) (F.qn rfl (r_shl rfl rfl hs29) (F.qn rfl (r_or rfl rfl) (F.qn rfl (r_assign rfl) (F.nil ?_))))))
       cases hE_3
       refine Nrm.only [1, 2, 7, 9, 11, 12, 13] rfl ?_
       refine Nrm.pick [0] rfl rfl ?_
       exact hj_2 _ _ ⟨rfl, rfl⟩
      ·replace hE_3 := if_ff g_3 hE_3
       refine Tri.skip ?_
       cases hE_3
       refine Nrm.only [1, 2, 7, 9, 11, 12, 13] rfl ?_
       refine Nrm.pick [0] rfl rfl ?_
       exact hj_2 _ _ ⟨rfl, rfl⟩
  ·replace hE_1 := if_ff g_1 hE_1
   refine Tri.exit ?_
   refine Exi.then ?_
   refine Exi.then ?_
   refine Exi.same ?_
   cases hE_1
   refine Nrm.seq (Tri.seq (Tri.reg (l := [0, 1]) rfl ?_))
   refine F.qn rfl (r_move rfl) (F.qn rfl (r_assign rfl) (F.nil (Nrm.seq (Tri.ret ?_))))
   cases h
   exact Rtn.body (.tmp rfl .nil) (fun w hw => ⟨rfl, hw.ext⟩)


def impl_taken.l0 (k : Nat) (a0_0 : Int) (a0_1 : List (Int × Int × Int)) (a0_2 : List Int) (a1 : List Int) : Nat → (List (Int)) → Int → Int → Option (((List (Int))) ⊕ ((List Int) × Bool))
 | 0, _, _, _ => none
 | n + 1, x6, x7, x22 => (if (decide (x22 < (a1.length : Int))) = true then (rdl a1 x22).bind fun t25 => ((impl_within.f k t25 0 (w64 (a0_0 - 1))).bind fun t31 => (if (!t31) = true then some true else (if (decide (x22 > 0)) = true then (rdl a1 (w64 (x22 - 1))).bind fun t41 => (impl_steps.f k a0_0 a0_1 a0_2 t41 x7).bind fun t44 => if ¬ t25 < 0 then some ((band (shr t44 t25) 1) == 0) else none else some false))).bind fun y50 => (if y50 = true then some (Sum.inr ([], false)) else (rdl a0_2 t25).bind fun t55 => if (x6 ++ ([bor x7 t55] : List (Int))).length < 1099511627776 then impl_taken.l0 k a0_0 a0_1 a0_2 a1 n (x6 ++ ([bor x7 t55] : List (Int))) (bor x7 t55) (w64 (x22 + 1)) else none) else some (Sum.inl x6))

def impl_taken.f (k : Nat) (a0_0 : Int) (a0_1 : List (Int × Int × Int)) (a0_2 : List Int) (a1 : List Int) : Option ((List Int) × Bool) := ((if ((a1.length : Int) == 0) = true then some true else (rdl a1 0).bind fun t15 => some (t15 != 0))).bind fun y18 => (if y18 = true then some ([], false) else (impl_taken.l0 k a0_0 a0_1 a0_2 a1 k ([] : List (Int)) 0 0).bind fun s => Lr s some fun x6 => some (x6, true))

theorem impl_taken.ok {k : Nat}  {a0_0 : Int} {a0_1 : List (Int × Int × Int)} {a0_2 : List Int} {a1 : List Int} {r0 : List Int} {r1 : Bool} (h : impl_taken.f k a0_0 a0_1 a0_2 a1 = some (r0, r1)) (w : World) {va0_1 : Value} {va0_2 : Value} {va1 : Value} (hr_a0_1 : Rd w va0_1 a0_1) (hr_a0_2 : Rd w va0_2 a0_2) (hr_a1 : Rd w va1 a1) :
  Calls Tryz.prog 123 ([.agg ([.int .i64 a0_0, va0_1, va0_2].toArray), va1] : List Value).toArray w (Post (fun u ns => ∃ (ur0 : Value) (Sr0 : Nat → Prop), u = .tuple #[ur0, .bool r1] ∧ SlLen ur0 r0.length ∧ ns = [R.sl Sr0 ur0 r0]) w) := by
 unfold impl_taken.f at h
 have hl_va0_1 := hr_a0_1.len
 have hl_va0_2 := hr_a0_2.len
 have hl_va1 := hr_a1.len
 refine Calls.of_tri (N := 64) Tryz.func123 rfl rfl rfl (Sep.nil (M := noM)) ?_
 refine Tri.seq (Tri.reg (l := [0, 1, 2]) rfl ?_)
 refine F.mn rfl (m_boxG rfl rfl) ?_
 rintro _ _ ⟨b2_1, rfl, rfl⟩
 refine F.qn rfl (r_assign rfl) (F.qn rfl (r_assign rfl) (F.nil (Nrm.seq (Tri.seq (Tri.seq ?_)))))
 obtain ⟨y18, hE_1, h⟩ := bind_some h
 refine Tri.cut (fun e' C' => e' = [(1, va1), (2, .pointer (some ⟨b2_1, 0, none⟩)), (18, .bool y18)] ∧ C' = Sep w noM [R.box b2_1 27 [.int .i64 a0_0, va0_1, va0_2]]) ?_ (fun hj_1 => ?_)
 ·rintro _ _ ⟨rfl, rfl⟩
  refine Nrm.seq (Tri.cond (b := y18) rfl (fun g_1 => ?_) (fun g_1 => ?_))
  ·replace h := if_tt g_1 h
   refine Tri.seq (Tri.reg (l := [0, 1]) rfl ?_)
   refine F.qn rfl (r_assign rfl) (F.qn rfl (r_assign rfl) (F.nil (Nrm.seq (Tri.ret ?_))))
   refine Rtn.then ?_
   cases h
   exact Rtn.body (.tmp rfl (.tmp rfl .nil)) (fun w hw => ⟨_, _, rfl, ⟨.slice none 0 0, fun _ => False, rfl, len_nil, rfl⟩, Sep.pick (is := [0]) rfl rfl hw.pushNil⟩)
  ·replace h := if_ff g_1 h
   refine Tri.skip (Nrm.seq (Tri.seq (Tri.reg (l := [0, 1, 2]) rfl ?_)))
   refine F.mn rfl (m_build0 (α := Int) Tryz.underlying25 ti3) ?_
   rintro v19_1 _ ⟨S19_1, hl_v19_1, rfl⟩
   refine F.qn rfl (r_assign rfl) (F.qn rfl (r_assign rfl) (F.nil (Nrm.seq (Tri.seq (Tri.seq (Tri.reg (l := [0, 1, 2]) rfl ?_))))))
   refine F.qn rfl (r_move rfl) (F.qn rfl (r_len Tryz.underlying25 rfl hl_va1) (F.qn rfl (r_move rfl) (F.nil (Nrm.seq ?_))))
   obtain ⟨s0, hE_2, h⟩ := bind_some h
   refine Tri.block ?_
   refine Tri.only [1, 2, 6, 7, 20, 21, 22] rfl ?_
   refine Tri.pick [1, 0] rfl rfl ?_
   refine Tri.rounds (fun n e' C' => ∃ (x6' : List (Int)) (x7' : Int) (x22' : Int) (w6 : Value) (T6 : Nat → Prop), impl_taken.l0 k a0_0 a0_1 a0_2 a1 n x6' x7' x22' = some s0 ∧ SlLen w6 (x6').length ∧ e' = [(1, va1), (2, .pointer (some ⟨b2_1, 0, none⟩)), (6, w6), (7, .int .i64 x7'), (20, va1), (21, .int .i64 (a1.length : Int)), (22, .int .i64 x22')] ∧ C' = Sep w noM [R.box b2_1 27 [.int .i64 a0_0, va0_1, va0_2], R.sl T6 w6 (x6' : List (Int))]) k ?_ ?_ ?_
   ·exact ⟨([] : List (Int)), 0, 0, v19_1, S19_1, hE_2, hl_v19_1, rfl, rfl⟩
   ·rintro _ _ ⟨_, _, _, _, _, hE_2, _⟩
    rw [impl_taken.l0.eq_1] at hE_2; cases hE_2
   ·rintro n_1 _ _ ⟨x6, x7, x22, w6, T6, hE_2, hl_w6, rfl, rfl⟩ ih_1
    rw [impl_taken.l0.eq_2] at hE_2
    refine Tri.seq (Tri.reg (l := [0]) rfl ?_)
    refine F.qn rfl (r_lss rfl rfl) (F.nil (Nrm.seq (Tri.seq (Tri.cond (b := decide (x22 < (a1.length : Int))) rfl (fun g_2 => ?_) (fun g_2 => ?_)))))
    ·replace hE_2 := if_tt g_2 hE_2
     refine Tri.skip (Nrm.seq (Tri.seq (Tri.block ?_)))
     refine Tri.seq ?_
     obtain ⟨t25, h25, hE_2⟩ := bind_some hE_2
     refine Tri.reg (l := [0, 1, 2, 3, 4]) rfl ?_
     refine F.qn rfl (r_move rfl) (F.qn rfl (r_indexAddrS Tryz.underlying25 ti3 rfl hl_va1 rfl (rdl_some h25).1 (rdl_some h25).2.1) (F.qn rfl (r_load ta3 rfl (fun w hw => cell_0 (Rd.flat ((fun _ hw => hr_a1.sep hw) w hw) (rdl_some h25).2.2) rfl)) (F.qn rfl (r_assign rfl) (F.qn rfl (r_assign rfl) (F.nil (Nrm.seq (Tri.seq (Tri.seq ?_))))))))
     obtain ⟨y50, hE_3, hE_2⟩ := bind_some hE_2
     refine Tri.cut (fun e' C' => e' = [(1, va1), (2, .pointer (some ⟨b2_1, 0, none⟩)), (6, w6), (7, .int .i64 x7), (9, .int .i64 t25), (20, va1), (21, .int .i64 (a1.length : Int)), (22, .int .i64 x22), (50, .bool y50)] ∧ C' = Sep w noM [R.box b2_1 27 [.int .i64 a0_0, va0_1, va0_2], R.sl T6 w6 (x6 : List (Int))]) ?_ (fun hj_2 => ?_)
     ·rintro _ _ ⟨rfl, rfl⟩
      refine Nrm.seq (Tri.cond (b := y50) rfl (fun g_3 => ?_) (fun g_3 => ?_))
      ·replace hE_2 := if_tt g_3 hE_2
       refine Tri.seq (Tri.reg (l := [0, 1]) rfl ?_)
       refine F.qn rfl (r_assign rfl) (F.qn rfl (r_assign rfl) (F.nil (Nrm.seq (Tri.ret ?_))))
       refine Rtn.then ?_
       refine Rtn.block ?_
       refine Rtn.then ?_
       refine Rtn.then ?_
       refine Rtn.block ?_
       refine Rtn.then ?_
       cases hE_2
       replace h := Lr_inr h
       cases h
       exact Rtn.body (.tmp rfl (.tmp rfl .nil)) (fun w hw => ⟨_, _, rfl, ⟨.slice none 0 0, fun _ => False, rfl, len_nil, rfl⟩, Sep.pick (is := [0]) rfl rfl hw.pushNil⟩)
      ·replace hE_2 := if_ff g_3 hE_2
       refine Tri.skip (Nrm.seq (Tri.seq ?_))
       obtain ⟨t55, h55, hE_2⟩ := bind_some hE_2
       refine Tri.reg (l := [0, 1, 2, 3, 4, 5, 6, 7]) rfl ?_
       refine F.qn rfl (r_move rfl) (F.qn rfl (r_fieldAddr tf27_2 rfl) ?_)
       refine F.qn rfl (r_load ta25 rfl (fun w hw => cell_1 (box_cells (i := 0) rfl w hw) rfl)) (F.qn rfl (r_move rfl) (F.qn rfl (r_indexAddrS Tryz.underlying25 ti3 rfl hl_va0_2 rfl (rdl_some h55).1 (rdl_some h55).2.1) (F.qn rfl (r_load ta3 rfl (fun w hw => cell_0 (Rd.flat ((fun _ hw => hr_a0_2.sep hw) w hw) (rdl_some h55).2.2) rfl)) (F.qn rfl (r_or rfl rfl) (F.qn rfl (r_assign rfl) (F.nil (Nrm.seq ?_)))))))
       obtain ⟨hs61, hE_2⟩ := ck hE_2
       refine Tri.reg (l := [0, 1, 2, 3, 4]) rfl ?_
       refine F.qn rfl (r_move rfl) (F.qn rfl (r_move rfl) ?_)
       refine F.mn rfl (m_buildF (l := ([bor x7 t55] : List (Int))) Tryz.underlying25 ti3 rfl rfl rfl rfl rfl) ?_
       rintro v60_1 _ ⟨S60_1, hl_v60_1, rfl⟩
       refine F.efn rfl (d_append (i := 2) Tryz.underlying25 Tryz.underlying25 ti3 rfl (by decide) rfl rfl rfl (rd_sl (i := 0) rfl) hs61) ?_
       rintro v61_1 _ ⟨S61_1, rfl, hl_v61_1⟩
       refine F.qn rfl (r_assign rfl) (F.nil (Nrm.block ?_))
       refine Nrm.seq (Tri.reg (l := [0, 1]) rfl ?_)
       refine F.qn rfl (r_add rfl rfl) (F.qn rfl (r_move rfl) (F.nil (Nrm.round ?_)))
       refine Rnd.only [1, 2, 6, 7, 20, 21, 22] rfl ?_
       refine Rnd.pick [1, 2] rfl rfl ?_
       exact ih_1 _ _ ⟨x6 ++ ([bor x7 t55] : List (Int)), bor x7 t55, w64 (x22 + 1), v61_1, S61_1, hE_2, hl_v61_1, rfl, rfl⟩
     ·obtain ⟨t31, h31, hE_3⟩ := bind_some hE_3
      rcases Bool.eq_false_or_eq_true (!t31) with g33 | g33
      ·replace hE_3 := if_tt g33 hE_3
       refine Tri.drawA mixedT Sep.up [(0, true), (1, true), (2, true), (3, true), (4, true), (5, true), (6, true), (7, true), (8, true), (9, true), (10, true), (11, true), (12, true), (13, true), (14, true), (15, true), (16, true), (17, true), (18, true), (19, true), (20, true), (21, true), (22, true), (23, true)] [] (by kernel_rfl) ?_
       refine S.qn rfl (r_move rfl) (S.qn rfl (r_fieldAddr tf27_0 rfl) (S.qn rfl (r_load ta3 rfl (fun w hw => cell_1 (box_cells (i := 0) rfl w hw) rfl)) (S.qn rfl (r_sub rfl rfl) ?_)))
       refine S.qcn rfl (q_callF (xs := _) rfl ok103 rfl rfl (fun w hw => impl_within.ok h31 w )) ?_
       refine S.qn rfl (r_not rfl) (S.qn rfl (r_move rfl) ?_)
       iterate 3 refine S.skf rfl g33 ?_
       iterate 12 refine S.sk rfl rfl rfl (wanted_undef rfl rfl rfl) ?_
       refine S.skf rfl g33 (S.qn rfl (r_pick rfl rfl g33) (S.nil (F.nil ?_)))
       cases hE_3
       refine Nrm.only [1, 2, 6, 7, 9, 20, 21, 22, 50] rfl ?_
       refine Nrm.pick [0, 1] rfl rfl ?_
       exact hj_2 _ _ ⟨rfl, rfl⟩
      ·replace hE_3 := if_ff g33 hE_3
       rcases Bool.eq_false_or_eq_true (decide (x22 > 0)) with g36 | g36
       ·replace hE_3 := if_tt g36 hE_3
        obtain ⟨t41, h41, hE_3⟩ := bind_some hE_3
        obtain ⟨t44, h44, hE_3⟩ := bind_some hE_3
        obtain ⟨hs46, hE_3⟩ := ck hE_3
        refine Tri.drawA mixedT Sep.up [(0, true), (1, true), (2, true), (3, true), (4, true), (5, true), (6, true), (7, true), (8, true), (9, true), (10, true), (11, true), (12, true), (13, true), (14, true), (15, true), (16, true), (17, true), (18, true), (19, true), (20, true), (21, true), (22, true), (23, true)] [] (by kernel_rfl) ?_
        refine S.qn rfl (r_move rfl) (S.qn rfl (r_fieldAddr tf27_0 rfl) (S.qn rfl (r_load ta3 rfl (fun w hw => cell_1 (box_cells (i := 0) rfl w hw) rfl)) (S.qn rfl (r_sub rfl rfl) ?_)))
        refine S.qcn rfl (q_callF (xs := _) rfl ok103 rfl rfl (fun w hw => impl_within.ok h31 w )) ?_
        refine S.qn rfl (r_not rfl) (S.qn rfl (r_move rfl) (S.qg rfl g33 (r_move rfl) (S.qg rfl g33 (r_gtr rfl rfl) (S.qg rfl g33 (r_move rfl) (S.qg rfl g36 (r_loadA ta27 ti27 rfl rfl (fun w hw => (box_cells (i := 0) rfl w hw))) ?_)))))
        refine S.qg rfl g36 (r_move rfl) (S.qg rfl g36 (r_move rfl) (S.qg rfl g36 (r_sub rfl rfl) (S.qg rfl g36 (r_indexAddrS Tryz.underlying25 ti3 rfl hl_va1 rfl (rdl_some h41).1 (rdl_some h41).2.1) (S.qg rfl g36 (r_load ta3 rfl (fun w hw => cell_0 (Rd.flat ((fun _ hw => hr_a1.sep hw) w hw) (rdl_some h41).2.2) rfl)) (S.qg rfl g36 (r_move rfl) ?_)))))
        refine S.qc rfl rfl rfl (wg rfl rfl rfl g36) (q_callF (xs := _) rfl ok207 rfl rfl (fun w hw => impl_steps.ok h44 w ((fun _ hw => hr_a0_1.sep hw) w hw) ((fun _ hw => hr_a0_2.sep hw) w hw))) ?_
        refine S.qg rfl g36 (r_move rfl) (S.qg rfl g36 (r_shr rfl rfl hs46) (S.qg rfl g36 (r_and rfl rfl) (S.qg rfl g36 (r_eql rfl rfl) (S.qg rfl g33 (r_pick rfl rfl g36) (S.qn rfl (r_pickf rfl rfl g33) (S.nil (F.nil ?_)))))))
        cases hE_3
        refine Nrm.only [1, 2, 6, 7, 9, 20, 21, 22, 50] rfl ?_
        refine Nrm.pick [0, 1] rfl rfl ?_
        exact hj_2 _ _ ⟨rfl, rfl⟩
       ·replace hE_3 := if_ff g36 hE_3
        refine Tri.drawA mixedT Sep.up [(0, true), (1, true), (2, true), (3, true), (4, true), (5, true), (6, true), (7, true), (8, true), (9, true), (10, true), (11, true), (12, true), (13, true), (14, true), (15, true), (16, true), (17, true), (18, true), (19, true), (20, true), (21, true), (22, true), (23, true)] [] (by kernel_rfl) ?_
        refine S.qn rfl (r_move rfl) (S.qn rfl (r_fieldAddr tf27_0 rfl) (S.qn rfl (r_load ta3 rfl (fun w hw => cell_1 (box_cells (i := 0) rfl w hw) rfl)) (S.qn rfl (r_sub rfl rfl) ?_)))
        refine S.qcn rfl (q_callF (xs := _) rfl ok103 rfl rfl (fun w hw => impl_within.ok h31 w )) ?_
        refine S.qn rfl (r_not rfl) (S.qn rfl (r_move rfl) (S.qg rfl g33 (r_move rfl) (S.qg rfl g33 (r_gtr rfl rfl) (S.qg rfl g33 (r_move rfl) ?_))))
        iterate 12 refine S.skf rfl g36 ?_
        refine S.qg rfl g33 (r_pickf rfl rfl g36) (S.qn rfl (r_pickf rfl rfl g33) (S.nil (F.nil ?_)))
        cases hE_3
        refine Nrm.only [1, 2, 6, 7, 9, 20, 21, 22, 50] rfl ?_
        refine Nrm.pick [0, 1] rfl rfl ?_
        exact hj_2 _ _ ⟨rfl, rfl⟩
    ·replace hE_2 := if_ff g_2 hE_2
     refine Tri.exit ?_
     refine Exi.then ?_
     refine Exi.then ?_
     refine Exi.same ?_
     cases hE_2
     replace h := Lr_inl h
     refine Nrm.seq (Tri.seq (Tri.reg (l := [0, 1, 2]) rfl ?_))
     refine F.qn rfl (r_move rfl) (F.qn rfl (r_assign rfl) (F.qn rfl (r_assign rfl) (F.nil (Nrm.seq (Tri.ret ?_)))))
     cases h
     exact Rtn.body (.tmp rfl (.tmp rfl .nil)) (fun w hw => ⟨_, _, rfl, ⟨w6, T6, rfl, hl_w6, rfl⟩, Sep.pick (is := [1]) rfl rfl hw⟩)
 ·rcases Bool.eq_false_or_eq_true ((a1.length : Int) == 0) with g13 | g13
  ·replace hE_1 := if_tt g13 hE_1
   refine Tri.reg (l := [0, 1, 2, 3, 4, 5, 6, 7, 8]) rfl ?_
   refine F.qn rfl (r_move rfl) (F.qn rfl (r_len Tryz.underlying25 rfl hl_va1) (F.qn rfl (r_eql rfl rfl) (F.qn rfl (r_move rfl) ?_)))
   iterate 4 refine F.skf rfl g13 ?_
   refine F.qn rfl (r_pick rfl rfl g13) (F.nil ?_)
   cases hE_1
   refine Nrm.only [1, 2, 18] rfl ?_
   refine Nrm.pick [0] rfl rfl ?_
   exact hj_1 _ _ ⟨rfl, rfl⟩
  ·replace hE_1 := if_ff g13 hE_1
   obtain ⟨t15, h15, hE_1⟩ := bind_some hE_1
   refine Tri.reg (l := [0, 1, 2, 3, 4, 5, 6, 7, 8]) rfl ?_
   refine F.qn rfl (r_move rfl) (F.qn rfl (r_len Tryz.underlying25 rfl hl_va1) (F.qn rfl (r_eql rfl rfl) ?_))
   refine F.qn rfl (r_move rfl) (F.qg rfl g13 (r_move rfl) (F.qg rfl g13 (r_indexAddrS Tryz.underlying25 ti3 rfl hl_va1 rfl (rdl_some h15).1 (rdl_some h15).2.1) (F.qg rfl g13 (r_load ta3 rfl (fun w hw => cell_0 (Rd.flat ((fun _ hw => hr_a1.sep hw) w hw) (rdl_some h15).2.2) rfl)) (F.qg rfl g13 (r_neq rfl rfl) (F.qn rfl (r_pickf rfl rfl g13) (F.nil ?_))))))
   cases hE_1
   refine Nrm.only [1, 2, 18] rfl ?_
   refine Nrm.pick [0] rfl rfl ?_
   exact hj_1 _ _ ⟨rfl, rfl⟩


def impl_IsVisit.f (k : Nat) (a0_0 : Int) (a0_1 : List (Int × Int × Int)) (a0_2 : List Int) (a0_3 : List Int) (a0_4 : Int) : Option (Bool) := ((impl_IsMaze.f k a0_0 a0_1 a0_2).bind fun t7 => (if (!t7) = true then some true else (if (decide ((a0_3.length : Int) > 60)) = true then some true else (impl_within.f k a0_4 0 1000).bind fun t18 => some (!t18)))).bind fun y20 => (if y20 = true then some false else (impl_taken.f k a0_0 a0_1 a0_2 a0_3).bind fun (t26_1, t26_2) => some t26_2)

theorem impl_IsVisit.ok {k : Nat}  {a0_0 : Int} {a0_1 : List (Int × Int × Int)} {a0_2 : List Int} {a0_3 : List Int} {a0_4 : Int} {r0 : Bool} (h : impl_IsVisit.f k a0_0 a0_1 a0_2 a0_3 a0_4 = some r0) (w : World) {va0_1 : Value} {va0_2 : Value} {va0_3 : Value} (hr_a0_1 : Rd w va0_1 a0_1) (hr_a0_2 : Rd w va0_2 a0_2) (hr_a0_3 : Rd w va0_3 a0_3) :
  Calls Tryz.prog 43 ([.agg ([.int .i64 a0_0, va0_1, va0_2, va0_3, .int .i64 a0_4].toArray)] : List Value).toArray w (fun e w' => e = .returned (.bool r0) ∧ Ext w w') := by
 unfold impl_IsVisit.f at h
 have hl_va0_1 := hr_a0_1.len
 have hl_va0_2 := hr_a0_2.len
 have hl_va0_3 := hr_a0_3.len
 refine Calls.of_tri (N := 30) Tryz.func43 rfl rfl rfl (Sep.nil (M := noM)) ?_
 refine Tri.seq (Tri.reg (l := [0, 1]) rfl ?_)
 refine F.mn rfl (m_boxG rfl rfl) ?_
 rintro _ _ ⟨b1_1, rfl, rfl⟩
 refine F.qn rfl (r_assign rfl) (F.nil (Nrm.seq (Tri.seq (Tri.seq ?_))))
 obtain ⟨y20, hE_1, h⟩ := bind_some h
 refine Tri.cut (fun e' C' => e' = [(1, .pointer (some ⟨b1_1, 0, none⟩)), (20, .bool y20)] ∧ C' = Sep w noM [R.box b1_1 44 [.int .i64 a0_0, va0_1, va0_2, va0_3, .int .i64 a0_4]]) ?_ (fun hj_1 => ?_)
 ·rintro _ _ ⟨rfl, rfl⟩
  refine Nrm.seq (Tri.cond (b := y20) rfl (fun g_1 => ?_) (fun g_1 => ?_))
  ·replace h := if_tt g_1 h
   refine Tri.seq (Tri.reg (l := [0]) rfl ?_)
   refine F.qn rfl (r_assign rfl) (F.nil (Nrm.seq (Tri.ret ?_)))
   refine Rtn.then ?_
   cases h
   exact Rtn.body (.tmp rfl .nil) (fun w hw => ⟨rfl, hw.ext⟩)
  ·replace h := if_ff g_1 h
   refine Tri.skip (Nrm.seq (Tri.seq ?_))
   obtain ⟨⟨t26_1, t26_2⟩, h26, h⟩ := bind_some h
   refine Tri.reg (l := [0, 1, 2, 3, 4, 5, 6, 7, 8, 9]) rfl ?_
   refine F.qn rfl (r_fieldAddr tf44_0 rfl) (F.qn rfl (r_loadA ta27 ti27 rfl rfl (fun w hw => cells_1 (cs' := [.int .i64 a0_0, va0_1, va0_2]) (box_cells (i := 0) rfl w hw) rfl)) (F.qn rfl (r_fieldAddr tf44_1 rfl) (F.qn rfl (r_load ta25 rfl (fun w hw => cell_1 (box_cells (i := 0) rfl w hw) rfl)) ?_)))
   refine F.mn rfl (m_callF (xs := _) rfl ok123 rfl rfl (fun w hw => impl_taken.ok h26 w ((fun _ hw => hr_a0_1.sep hw) w hw) ((fun _ hw => hr_a0_2.sep hw) w hw) ((fun _ hw => hr_a0_3.sep hw) w hw))) ?_
   rintro _ _ ⟨_, ⟨v26_1, S26_1, rfl, hl_v26_1, rfl⟩, rfl⟩
   refine F.qn rfl (r_move rfl) (F.qn rfl (r_extract rfl rfl) (F.qn rfl (r_extract rfl rfl) (F.qn rfl (r_assign rfl) (F.qn rfl (r_assign rfl) (F.nil (Nrm.seq (Tri.seq (Tri.reg (l := [0, 1]) rfl ?_))))))))
   refine F.qn rfl (r_move rfl) (F.qn rfl (r_assign rfl) (F.nil (Nrm.seq (Tri.ret ?_))))
   cases h
   exact Rtn.body (.tmp rfl .nil) (fun w hw => ⟨rfl, hw.ext⟩)
 ·obtain ⟨t7, h7, hE_1⟩ := bind_some hE_1
  rcases Bool.eq_false_or_eq_true (!t7) with g9 | g9
  ·replace hE_1 := if_tt g9 hE_1
   refine Tri.reg (l := List.range 16) rfl ?_
   refine F.qn rfl (r_fieldAddr tf44_0 rfl) (F.qn rfl (r_loadA ta27 ti27 rfl rfl (fun w hw => cells_1 (cs' := [.int .i64 a0_0, va0_1, va0_2]) (box_cells (i := 0) rfl w hw) rfl)) ?_)
   refine F.qcn rfl (q_callF (xs := _) rfl ok102 rfl rfl (fun w hw => impl_IsMaze.ok h7 w ((fun _ hw => hr_a0_1.sep hw) w hw) ((fun _ hw => hr_a0_2.sep hw) w hw))) ?_
   refine F.qn rfl (r_not rfl) (F.qn rfl (r_move rfl) ?_)
   iterate 4 refine F.skf rfl g9 ?_
   refine F.qn rfl (r_pick rfl rfl g9) (F.qn rfl (r_move rfl) ?_)
   iterate 4 refine F.skf rfl rfl ?_
   refine F.qn rfl (r_pick rfl rfl rfl) (F.nil ?_)
   cases hE_1
   refine Nrm.only [1, 20] rfl ?_
   refine Nrm.pick [0] rfl rfl ?_
   exact hj_1 _ _ ⟨rfl, rfl⟩
  ·replace hE_1 := if_ff g9 hE_1
   rcases Bool.eq_false_or_eq_true (decide ((a0_3.length : Int) > 60)) with g15 | g15
   ·replace hE_1 := if_tt g15 hE_1
    refine Tri.reg (l := List.range 16) rfl ?_
    refine F.qn rfl (r_fieldAddr tf44_0 rfl) (F.qn rfl (r_loadA ta27 ti27 rfl rfl (fun w hw => cells_1 (cs' := [.int .i64 a0_0, va0_1, va0_2]) (box_cells (i := 0) rfl w hw) rfl)) ?_)
    refine F.qcn rfl (q_callF (xs := _) rfl ok102 rfl rfl (fun w hw => impl_IsMaze.ok h7 w ((fun _ hw => hr_a0_1.sep hw) w hw) ((fun _ hw => hr_a0_2.sep hw) w hw))) ?_
    refine F.qn rfl (r_not rfl) (F.qn rfl (r_move rfl) ?_)
    refine F.qg rfl g9 (r_fieldAddr tf44_1 rfl) (F.qg rfl g9 (r_load ta25 rfl (fun w hw => cell_1 (box_cells (i := 0) rfl w hw) rfl)) (F.qg rfl g9 (r_len Tryz.underlying25 rfl hl_va0_3) (F.qg rfl g9 (r_gtr rfl rfl) (F.qn rfl (r_pickf rfl rfl g9) (F.qn rfl (r_move rfl) ?_)))))
    iterate 4 refine F.skf rfl g15 ?_
    refine F.qn rfl (r_pick rfl rfl g15) (F.nil ?_)
    cases hE_1
    refine Nrm.only [1, 20] rfl ?_
    refine Nrm.pick [0] rfl rfl ?_
    exact hj_1 _ _ ⟨rfl, rfl⟩
   ·replace hE_1 := if_ff g15 hE_1
    obtain ⟨t18, h18, hE_1⟩ := bind_some hE_1
    refine Tri.reg (l := List.range 16) rfl ?_
    refine F.qn rfl (r_fieldAddr tf44_0 rfl) (F.qn rfl (r_loadA ta27 ti27 rfl rfl (fun w hw => cells_1 (cs' := [.int .i64 a0_0, va0_1, va0_2]) (box_cells (i := 0) rfl w hw) rfl)) ?_)
    refine F.qcn rfl (q_callF (xs := _) rfl ok102 rfl rfl (fun w hw => impl_IsMaze.ok h7 w ((fun _ hw => hr_a0_1.sep hw) w hw) ((fun _ hw => hr_a0_2.sep hw) w hw))) ?_
    refine F.qn rfl (r_not rfl) (F.qn rfl (r_move rfl) (F.qg rfl g9 (r_fieldAddr tf44_1 rfl) (F.qg rfl g9 (r_load ta25 rfl (fun w hw => cell_1 (box_cells (i := 0) rfl w hw) rfl)) ?_)))
    refine F.qg rfl g9 (r_len Tryz.underlying25 rfl hl_va0_3) (F.qg rfl g9 (r_gtr rfl rfl) (F.qn rfl (r_pickf rfl rfl g9) (F.qn rfl (r_move rfl) (F.qg rfl g15 (r_fieldAddr tf44_2 rfl) (F.qg rfl g15 (r_load ta3 rfl (fun w hw => cell_1 (box_cells (i := 0) rfl w hw) rfl)) ?_)))))
    refine F.qc rfl rfl rfl (wg rfl rfl rfl g15) (q_callF (xs := _) rfl ok103 rfl rfl (fun w hw => impl_within.ok h18 w )) ?_
    refine F.qg rfl g15 (r_not rfl) (F.qn rfl (r_pickf rfl rfl g15) (F.nil ?_))
    cases hE_1
    refine Nrm.only [1, 20] rfl ?_
    refine Nrm.pick [0] rfl rfl ?_
    exact hj_1 _ _ ⟨rfl, rfl⟩


def slices_Delete__3int__3int.f (k : Nat) (a0 : List (Int × Int × Int)) (a1 : Int) (a2 : Int) : Option ((List (Int × Int × Int))) := (slc a0 a1 a2).bind fun t13 => (if (a1 == a2) = true then some a0 else (slc a0 0 a1).bind fun t22 => (slc a0 a2 (a0.length : Int)).bind fun t25 => if a1 ≤ a2 then some (t22 ++ t25) else none)

theorem slices_Delete__3int__3int.ok {k : Nat}  {a0 : List (Int × Int × Int)} {a1 : Int} {a2 : Int} {r0 : List (Int × Int × Int)} (h : slices_Delete__3int__3int.f k a0 a1 a2 = some r0) (w : World) {va0 : Value} {Sa0 : Nat → Prop} (hl_va0 : SlLen va0 a0.length) (hw0 : Sep w (footM [R.sl Sa0 va0 a0]) [R.sl Sa0 va0 a0] w) :
  Calls Tryz.prog 176 ([va0, .int .i64 a1, .int .i64 a2] : List Value).toArray w (PostM (footM [R.sl Sa0 va0 a0]) (fun u ns => ∃ (Sr0 : Nat → Prop), SlLen u r0.length ∧ ns = [R.sl Sr0 u r0]) w) := by
 unfold slices_Delete__3int__3int.f at h
 have hcap_va0 := SlOwn.cap (hw0.get (i := 0) rfl)
 refine Calls.of_tri (N := 33) Tryz.func176 rfl rfl rfl hw0 ?_
 refine Tri.seq (Tri.reg (l := [0]) rfl ?_)
 refine F.qn rfl (r_assign rfl) (F.nil (Nrm.seq (Tri.seq ?_)))
 obtain ⟨t13, h13, h⟩ := bind_some h
 refine Tri.reg (l := [0, 1, 2, 3, 4, 5]) rfl ?_
 iterate 4 refine F.qn rfl (r_move rfl) ?_
 refine F.qn rfl (r_len Tryz.underlying24 rfl hl_va0) (F.qn rfl (r_slice3 Tryz.underlying24 ti168 rfl (rd_sl (i := 0) rfl) rfl rfl rfl h13) (F.nil (Nrm.seq (Tri.seq (Tri.seq (Tri.reg (l := [0, 1, 2]) rfl ?_))))))
 refine F.qn rfl (r_move rfl) (F.qn rfl (r_move rfl) (F.qn rfl (r_eql rfl rfl) (F.nil (Nrm.seq (Tri.cond (b := a1 == a2) rfl (fun g_1 => ?_) (fun g_1 => ?_))))))
 ·replace h := if_tt g_1 h
  refine Tri.seq (Tri.reg (l := [0, 1]) rfl ?_)
  refine F.qn rfl (r_move rfl) (F.qn rfl (r_assign rfl) (F.nil (Nrm.seq (Tri.ret ?_))))
  refine Rtn.then ?_
  cases h
  exact Rtn.body (.tmp rfl .nil) (fun w hw => ⟨_, _, rfl, ⟨Sa0, hl_va0, rfl⟩, Sep.pick (is := [0]) rfl rfl hw⟩)
 ·replace h := if_ff g_1 h
  refine Tri.skip (Nrm.seq (Tri.seq (Tri.reg (l := [0, 1, 2]) rfl ?_)))
  refine F.qn rfl (r_move rfl) (F.qn rfl (r_len Tryz.underlying24 rfl hl_va0) (F.qn rfl (r_assign rfl) (F.nil (Nrm.seq (Tri.seq ?_)))))
  obtain ⟨t22, h22, h⟩ := bind_some h
  obtain ⟨t25, h25, h⟩ := bind_some h
  obtain ⟨hs26, h⟩ := ck h
  refine Tri.drawA mixedT Sep.up [(0, true), (1, true), (2, true), (3, true), (4, true), (5, true)] [6, 7] (by kernel_rfl) ?_
  refine S.qn rfl (r_move rfl) (S.qn rfl (r_move rfl) (S.qn rfl (r_sliceH Tryz.underlying24 ti168 rfl (rd_sl (i := 0) rfl) rfl h22) (S.qn rfl (r_move rfl) (S.qn rfl (r_move rfl) (S.qn rfl (r_sliceL Tryz.underlying24 ti168 rfl (rd_sl (i := 0) rfl) rfl h25) (S.nil (F.efn rfl (d_appendSelf (p := 0) Tryz.underlying24 Tryz.underlying24 ti168 rfl rfl rfl h22 h25 hs26) ?_)))))))
  rintro _ _ ⟨rfl, rfl⟩
  refine F.qn rfl (r_assign rfl) (F.nil (Nrm.seq (Tri.seq (Tri.reg (l := [0, 1, 2, 3, 4, 5]) rfl ?_))))
  refine F.qn rfl (r_move rfl) (F.qn rfl (r_move rfl) (F.qn rfl (r_len Tryz.underlying24 rfl (slTo_len hl_va0 (self_le h22 h25 hs26))) (F.qn rfl (r_move rfl) (F.qn rfl (r_sliceBeyond (m := (t22 ++ t25).length) (q := a0.length) Tryz.underlying24 ti168 rfl hcap_va0 rfl rfl (self_le h22 h25 hs26)) ?_))))
  refine F.ef0 rfl rfl (wanted_none rfl) (d_clearBeyond (p := 0) (x0 := ((0, 0, 0) : Int × Int × Int)) Tryz.underlying24 ti168 rfl rfl rfl rfl (self_le h22 h25 hs26) hcap_va0) ?_
  rintro _ _ rfl
  refine F.nil (Nrm.seq (Tri.seq (Tri.reg (l := [0, 1]) rfl ?_)))
  refine F.qn rfl (r_move rfl) (F.qn rfl (r_assign rfl) (F.nil (Nrm.seq (Tri.ret ?_))))
  cases h
  exact Rtn.body (.tmp rfl .nil) (fun w hw => ⟨_, _, rfl, ⟨Sa0, (slTo_len hl_va0 (self_le h22 h25 hs26)), rfl⟩, Sep.pick (is := [0]) rfl rfl hw⟩)


def impl_dropped.f (k : Nat) (a0_0 : Int) (a0_1 : List (Int × Int × Int)) (a0_2 : List Int) (a1 : Int) : Option (Int × (List (Int × Int × Int)) × (List Int)) := (impl_own.f k a0_0 a0_1 a0_2).bind fun (t7_1, t7_2, t7_3) => (slices_Delete__3int__3int.f k t7_2 a1 (w64 (a1 + 1))).bind fun t13 => some (t7_1, t13, t7_3)

theorem impl_dropped.ok {k : Nat}  {a0_0 : Int} {a0_1 : List (Int × Int × Int)} {a0_2 : List Int} {a1 : Int} {r0 : Int} {r1 : List (Int × Int × Int)} {r2 : List Int} (h : impl_dropped.f k a0_0 a0_1 a0_2 a1 = some (r0, r1, r2)) (w : World) {va0_1 : Value} {va0_2 : Value} (hr_a0_1 : Rd w va0_1 a0_1) (hr_a0_2 : Rd w va0_2 a0_2) :
  Calls Tryz.prog 90 ([.agg ([.int .i64 a0_0, va0_1, va0_2].toArray), .int .i64 a1] : List Value).toArray w (Post (fun u ns => ∃ (ur1 : Value) (Sr1 : Nat → Prop) (ur2 : Value) (Sr2 : Nat → Prop), u = .agg [.int .i64 r0, ur1, ur2].toArray ∧ SlLen ur1 r1.length ∧ SlLen ur2 r2.length ∧ ns = [R.sl Sr1 ur1 r1, R.sl Sr2 ur2 r2]) w) := by
 unfold impl_dropped.f at h
 have hl_va0_1 := hr_a0_1.len
 have hl_va0_2 := hr_a0_2.len
 refine Calls.of_tri (N := 16) Tryz.func90 rfl rfl rfl (Sep.nil (M := noM)) ?_
 refine Tri.seq (Tri.reg (l := [0, 1]) rfl ?_)
 refine F.mn rfl (m_boxG rfl rfl) ?_
 rintro _ _ ⟨b2_1, rfl, rfl⟩
 refine F.mn rfl (m_alloc ti27) ?_
 rintro _ _ ⟨b4_1, rfl, rfl⟩
 refine F.nil (Nrm.seq (Tri.seq ?_))
 obtain ⟨⟨t7_1, t7_2, t7_3⟩, h7, h⟩ := bind_some h
 refine Tri.reg (l := [0, 1, 2, 3]) rfl ?_
 refine F.qn rfl (r_loadA ta27 ti27 rfl rfl (fun w hw => (box_cells (i := 1) rfl w hw))) ?_
 refine F.mn rfl (m_callF (xs := _) rfl ok107 rfl rfl (fun w hw => impl_own.ok h7 w ((fun _ hw => hr_a0_1.sep hw) w hw) ((fun _ hw => hr_a0_2.sep hw) w hw))) ?_
 rintro _ _ ⟨_, ⟨v7_1, S7_1, v7_2, S7_2, rfl, hl_v7_1, hl_v7_2, rfl⟩, rfl⟩
 refine F.mn rfl (m_alloc ti27) ?_
 rintro _ _ ⟨b5_1, rfl, rfl⟩
 refine F.ef0 rfl rfl (wanted_none rfl) (d_storeG0 (i := 0) (cs2 := [.int .i64 t7_1, v7_1, v7_2]) ti27 rfl rfl rfl rfl rfl (Nat.le_of_ble_eq_true rfl) (lf_cons rfl (lf_cons (sl_leaf hl_v7_1) (lf_cons (sl_leaf hl_v7_2) lf_nil)))) ?_
 rintro _ _ ⟨rfl, rfl⟩
 refine F.nil (Nrm.seq (Tri.seq ?_))
 obtain ⟨t13, h13, h⟩ := bind_some h
 refine Tri.reg (l := [0, 1, 2, 3, 4, 5, 6, 7]) rfl ?_
 refine F.qn rfl (r_fieldAddr tf27_1 rfl) (F.qn rfl (r_load ta24 rfl (fun w hw => cell_1 (box_cells (i := 0) rfl w hw) rfl)) (F.qn rfl (r_move rfl) (F.qn rfl (r_move rfl) (F.qn rfl (r_add rfl rfl) ?_))))
 refine F.efn rfl (d_callM (xs := _) (cs := [R.sl S7_1 v7_1 (t7_2 : List (Int × Int × Int))]) (rest := [R.box b5_1 27 [.int .i64 t7_1, v7_1, v7_2], R.sl S7_2 v7_2 (t7_3 : List (Int)), R.box b4_1 27 [.int .i64 0, .slice none 0 0, .slice none 0 0], R.box b2_1 27 [.int .i64 a0_0, va0_1, va0_2]]) [1] [0, 2, 3, 4] rfl ok176 rfl rfl rfl rfl (fun w hw => slices_Delete__3int__3int.ok h13 w hl_v7_1 (Sep.sub hw))) ?_
 rintro v13_1 _ ⟨_, ⟨S13_1, hl_v13_1, rfl⟩, rfl⟩
 refine F.qn rfl (r_fieldAddr tf27_1 rfl) ?_
 refine F.ef0 rfl rfl (wanted_none rfl) (d_storeG1 (i := 1) (cs2 := [v13_1]) ti24 rfl rfl rfl (sl_cells hl_v13_1) rfl (Nat.le_of_ble_eq_true rfl) (lf_cons (sl_leaf hl_v13_1) lf_nil)) ?_
 rintro _ _ ⟨rfl, rfl⟩
 refine F.nil (Nrm.seq (Tri.seq (Tri.reg (l := [0, 1]) rfl ?_)))
 refine F.qn rfl (r_loadA ta27 ti27 rfl rfl (fun w hw => (box_cells (i := 1) rfl w hw))) ?_
 refine F.ef0 rfl rfl (wanted_none rfl) (d_storeG0 (i := 3) (cs2 := [.int .i64 t7_1, v13_1, v7_2]) ti27 rfl rfl rfl rfl rfl (Nat.le_of_ble_eq_true rfl) (lf_cons rfl (lf_cons (sl_leaf hl_v13_1) (lf_cons (sl_leaf hl_v7_2) lf_nil)))) ?_
 rintro _ _ ⟨rfl, rfl⟩
 refine F.nil (Nrm.seq (Tri.ret ?_))
 cases h
 exact Rtn.body (.cell rfl ta27 ti27 rfl (fun _ hw => box_cells (i := 3) rfl _ hw) .nil) (fun w hw => ⟨_, _, rfl, ⟨v13_1, S13_1, v7_2, S7_2, rfl, hl_v13_1, hl_v7_2, rfl⟩, Sep.pick (is := [0, 2]) rfl rfl hw⟩)


def impl_DropDoor.f (k : Nat) (a0_0 : Int) (a0_1 : List (Int × Int × Int)) (a0_2 : List Int) (a1 : Int) : Option (Int × (List (Int × Int × Int)) × (List Int) × Bool) := ((impl_IsMaze.f k a0_0 a0_1 a0_2).bind fun t7 => (if (!t7) = true then some true else (impl_within.f k a1 0 (w64 ((a0_1.length : Int) - 1))).bind fun t15 => some (!t15))).bind fun y17 => (if y17 = true then some (0, [], [], false) else (impl_dropped.f k a0_0 a0_1 a0_2 a1).bind fun (t21_1, t21_2, t21_3) => some (t21_1, t21_2, t21_3, true))

theorem impl_DropDoor.ok {k : Nat}  {a0_0 : Int} {a0_1 : List (Int × Int × Int)} {a0_2 : List Int} {a1 : Int} {r0 : Int} {r1 : List (Int × Int × Int)} {r2 : List Int} {r3 : Bool} (h : impl_DropDoor.f k a0_0 a0_1 a0_2 a1 = some (r0, r1, r2, r3)) (w : World) {va0_1 : Value} {va0_2 : Value} (hr_a0_1 : Rd w va0_1 a0_1) (hr_a0_2 : Rd w va0_2 a0_2) :
  Calls Tryz.prog 25 ([.agg ([.int .i64 a0_0, va0_1, va0_2].toArray), .int .i64 a1] : List Value).toArray w (Post (fun u ns => ∃ (ur1 : Value) (Sr1 : Nat → Prop) (ur2 : Value) (Sr2 : Nat → Prop), u = .tuple #[.agg [.int .i64 r0, ur1, ur2].toArray, .bool r3] ∧ SlLen ur1 r1.length ∧ SlLen ur2 r2.length ∧ ns = [R.sl Sr1 ur1 r1, R.sl Sr2 ur2 r2]) w) := by
 unfold impl_DropDoor.f at h
 have hl_va0_1 := hr_a0_1.len
 have hl_va0_2 := hr_a0_2.len
 refine Calls.of_tri (N := 22) Tryz.func25 rfl rfl rfl (Sep.nil (M := noM)) ?_
 refine Tri.seq (Tri.reg (l := [0, 1, 2]) rfl ?_)
 refine F.mn rfl (m_boxG rfl rfl) ?_
 rintro _ _ ⟨b2_1, rfl, rfl⟩
 refine F.mn rfl (m_alloc ti27) ?_
 rintro _ _ ⟨b4_1, rfl, rfl⟩
 refine F.qn rfl (r_assign rfl) (F.nil (Nrm.seq (Tri.seq (Tri.seq ?_))))
 obtain ⟨y17, hE_1, h⟩ := bind_some h
 refine Tri.cut (fun e' C' => e' = [(1, .int .i64 a1), (2, .pointer (some ⟨b2_1, 0, none⟩)), (4, .pointer (some ⟨b4_1, 0, none⟩)), (17, .bool y17)] ∧ C' = Sep w noM [R.box b4_1 27 [.int .i64 0, .slice none 0 0, .slice none 0 0], R.box b2_1 27 [.int .i64 a0_0, va0_1, va0_2]]) ?_ (fun hj_1 => ?_)
 ·rintro _ _ ⟨rfl, rfl⟩
  refine Nrm.seq (Tri.cond (b := y17) rfl (fun g_1 => ?_) (fun g_1 => ?_))
  ·replace h := if_tt g_1 h
   refine Tri.seq (Tri.reg (l := [0, 1, 2]) rfl ?_)
   refine F.qn rfl (r_build (pl := [(0, 1), (1, 1), (2, 1)]) (qs := []) (cs := [.int .i64 0, .slice none 0 0, .slice none 0 0]) (by kernel_rfl) ti27 rfl .nil rfl rfl) ?_
   refine F.ef0 rfl rfl (wanted_none rfl) (d_storeG0 (i := 0) (cs2 := [.int .i64 0, .slice none 0 0, .slice none 0 0]) ti27 rfl rfl rfl rfl rfl (Nat.le_of_ble_eq_true rfl) (lf_cons rfl (lf_cons rfl (lf_cons rfl lf_nil)))) ?_
   rintro _ _ ⟨rfl, rfl⟩
   refine F.qn rfl (r_assign rfl) (F.nil (Nrm.seq (Tri.ret ?_)))
   refine Rtn.then ?_
   cases h
   exact Rtn.body (.cell rfl ta27 ti27 rfl (fun _ hw => box_cells (i := 0) rfl _ hw) (.tmp rfl .nil)) (fun w hw => ⟨_, _, rfl, ⟨.slice none 0 0, fun _ => False, .slice none 0 0, fun _ => False, rfl, len_nil, len_nil, rfl⟩, Sep.pick (is := [0, 1]) rfl rfl hw.pushNil.pushNil⟩)
  ·replace h := if_ff g_1 h
   refine Tri.skip (Nrm.seq (Tri.seq ?_))
   obtain ⟨⟨t21_1, t21_2, t21_3⟩, h21, h⟩ := bind_some h
   refine Tri.reg (l := [0, 1, 2, 3, 4]) rfl ?_
   refine F.qn rfl (r_loadA ta27 ti27 rfl rfl (fun w hw => (box_cells (i := 1) rfl w hw))) (F.qn rfl (r_move rfl) ?_)
   refine F.mn rfl (m_callF (xs := _) rfl ok90 rfl rfl (fun w hw => impl_dropped.ok h21 w ((fun _ hw => hr_a0_1.sep hw) w hw) ((fun _ hw => hr_a0_2.sep hw) w hw))) ?_
   rintro _ _ ⟨_, ⟨v21_1, S21_1, v21_2, S21_2, rfl, hl_v21_1, hl_v21_2, rfl⟩, rfl⟩
   refine F.ef0 rfl rfl (wanted_none rfl) (d_storeG0 (i := 2) (cs2 := [.int .i64 t21_1, v21_1, v21_2]) ti27 rfl rfl rfl rfl rfl (Nat.le_of_ble_eq_true rfl) (lf_cons rfl (lf_cons (sl_leaf hl_v21_1) (lf_cons (sl_leaf hl_v21_2) lf_nil)))) ?_
   rintro _ _ ⟨rfl, rfl⟩
   refine F.qn rfl (r_assign rfl) (F.nil (Nrm.seq (Tri.ret ?_)))
   cases h
   exact Rtn.body (.cell rfl ta27 ti27 rfl (fun _ hw => box_cells (i := 2) rfl _ hw) (.tmp rfl .nil)) (fun w hw => ⟨_, _, rfl, ⟨v21_1, S21_1, v21_2, S21_2, rfl, hl_v21_1, hl_v21_2, rfl⟩, Sep.pick (is := [0, 1]) rfl rfl hw⟩)
 ·obtain ⟨t7, h7, hE_1⟩ := bind_some hE_1
  rcases Bool.eq_false_or_eq_true (!t7) with g9 | g9
  ·replace hE_1 := if_tt g9 hE_1
   refine Tri.reg (l := List.range 12) rfl ?_
   refine F.qn rfl (r_loadA ta27 ti27 rfl rfl (fun w hw => (box_cells (i := 1) rfl w hw))) ?_
   refine F.qcn rfl (q_callF (xs := _) rfl ok102 rfl rfl (fun w hw => impl_IsMaze.ok h7 w ((fun _ hw => hr_a0_1.sep hw) w hw) ((fun _ hw => hr_a0_2.sep hw) w hw))) ?_
   refine F.qn rfl (r_not rfl) (F.qn rfl (r_move rfl) ?_)
   iterate 7 refine F.skf rfl g9 ?_
   refine F.qn rfl (r_pick rfl rfl g9) (F.nil ?_)
   cases hE_1
   refine Nrm.only [1, 2, 4, 17] rfl ?_
   refine Nrm.pick [0, 1] rfl rfl ?_
   exact hj_1 _ _ ⟨rfl, rfl⟩
  ·replace hE_1 := if_ff g9 hE_1
   obtain ⟨t15, h15, hE_1⟩ := bind_some hE_1
   refine Tri.reg (l := List.range 12) rfl ?_
   refine F.qn rfl (r_loadA ta27 ti27 rfl rfl (fun w hw => (box_cells (i := 1) rfl w hw))) ?_
   refine F.qcn rfl (q_callF (xs := _) rfl ok102 rfl rfl (fun w hw => impl_IsMaze.ok h7 w ((fun _ hw => hr_a0_1.sep hw) w hw) ((fun _ hw => hr_a0_2.sep hw) w hw))) ?_
   refine F.qn rfl (r_not rfl) ?_
   refine F.qn rfl (r_move rfl) (F.qg rfl g9 (r_move rfl) (F.qg rfl g9 (r_fieldAddr tf27_1 rfl) (F.qg rfl g9 (r_load ta24 rfl (fun w hw => cell_1 (box_cells (i := 1) rfl w hw) rfl)) (F.qg rfl g9 (r_len Tryz.underlying24 rfl hl_va0_1) (F.qg rfl g9 (r_sub rfl rfl) ?_)))))
   refine F.qc rfl rfl rfl (wg rfl rfl rfl g9) (q_callF (xs := _) rfl ok103 rfl rfl (fun w hw => impl_within.ok h15 w )) ?_
   refine F.qg rfl g9 (r_not rfl) (F.qn rfl (r_pickf rfl rfl g9) (F.nil ?_))
   cases hE_1
   refine Nrm.only [1, 2, 4, 17] rfl ?_
   refine Nrm.pick [0, 1] rfl rfl ?_
   exact hj_1 _ _ ⟨rfl, rfl⟩


def impl_put.f (k : Nat) (a0_0 : Int) (a0_1 : List (Int × Int × Int)) (a0_2 : List Int) (a1 : Int) (a2 : Int) : Option (Int × (List (Int × Int × Int)) × (List Int)) := (impl_own.f k a0_0 a0_1 a0_2).bind fun (t9_1, t9_2, t9_3) => (rdl t9_3 a1).bind fun t14 => some (t9_1, t9_2, t9_3.set a1.toNat a2)

theorem impl_put.ok {k : Nat}  {a0_0 : Int} {a0_1 : List (Int × Int × Int)} {a0_2 : List Int} {a1 : Int} {a2 : Int} {r0 : Int} {r1 : List (Int × Int × Int)} {r2 : List Int} (h : impl_put.f k a0_0 a0_1 a0_2 a1 a2 = some (r0, r1, r2)) (w : World) {va0_1 : Value} {va0_2 : Value} (hr_a0_1 : Rd w va0_1 a0_1) (hr_a0_2 : Rd w va0_2 a0_2) :
  Calls Tryz.prog 94 ([.agg ([.int .i64 a0_0, va0_1, va0_2].toArray), .int .i64 a1, .int .i64 a2] : List Value).toArray w (Post (fun u ns => ∃ (ur1 : Value) (Sr1 : Nat → Prop) (ur2 : Value) (Sr2 : Nat → Prop), u = .agg [.int .i64 r0, ur1, ur2].toArray ∧ SlLen ur1 r1.length ∧ SlLen ur2 r2.length ∧ ns = [R.sl Sr1 ur1 r1, R.sl Sr2 ur2 r2]) w) := by
 unfold impl_put.f at h
 have hl_va0_1 := hr_a0_1.len
 have hl_va0_2 := hr_a0_2.len
 refine Calls.of_tri (N := 16) Tryz.func94 rfl rfl rfl (Sep.nil (M := noM)) ?_
 refine Tri.seq (Tri.reg (l := [0, 1]) rfl ?_)
 refine F.mn rfl (m_boxG rfl rfl) ?_
 rintro _ _ ⟨b3_1, rfl, rfl⟩
 refine F.mn rfl (m_alloc ti27) ?_
 rintro _ _ ⟨b6_1, rfl, rfl⟩
 refine F.nil (Nrm.seq (Tri.seq ?_))
 obtain ⟨⟨t9_1, t9_2, t9_3⟩, h9, h⟩ := bind_some h
 refine Tri.reg (l := [0, 1, 2, 3]) rfl ?_
 refine F.qn rfl (r_loadA ta27 ti27 rfl rfl (fun w hw => (box_cells (i := 1) rfl w hw))) ?_
 refine F.mn rfl (m_callF (xs := _) rfl ok107 rfl rfl (fun w hw => impl_own.ok h9 w ((fun _ hw => hr_a0_1.sep hw) w hw) ((fun _ hw => hr_a0_2.sep hw) w hw))) ?_
 rintro _ _ ⟨_, ⟨v9_1, S9_1, v9_2, S9_2, rfl, hl_v9_1, hl_v9_2, rfl⟩, rfl⟩
 refine F.mn rfl (m_alloc ti27) ?_
 rintro _ _ ⟨b7_1, rfl, rfl⟩
 refine F.ef0 rfl rfl (wanted_none rfl) (d_storeG0 (i := 0) (cs2 := [.int .i64 t9_1, v9_1, v9_2]) ti27 rfl rfl rfl rfl rfl (Nat.le_of_ble_eq_true rfl) (lf_cons rfl (lf_cons (sl_leaf hl_v9_1) (lf_cons (sl_leaf hl_v9_2) lf_nil)))) ?_
 rintro _ _ ⟨rfl, rfl⟩
 refine F.nil (Nrm.seq (Tri.seq ?_))
 obtain ⟨t14, h14, h⟩ := bind_some h
 refine Tri.reg (l := [0, 1, 2, 3, 4, 5]) rfl ?_
 refine F.qn rfl (r_fieldAddr tf27_2 rfl) (F.qn rfl (r_load ta25 rfl (fun w hw => cell_1 (box_cells (i := 0) rfl w hw) rfl)) (F.qn rfl (r_move rfl) (F.qn rfl (r_move rfl) (F.qn rfl (r_indexAddrS Tryz.underlying25 ti3 rfl hl_v9_2 rfl (rdl_some h14).1 (rdl_some h14).2.1) ?_))))
 refine F.ef0 rfl rfl (wanted_none rfl) (d_storeE (i := 2) (x1 := a2) ti3 rfl rfl rfl (rdl_some h14) rfl) ?_
 rintro _ _ ⟨rfl, rfl⟩
 refine F.nil (Nrm.seq (Tri.seq (Tri.reg (l := [0, 1]) rfl ?_)))
 refine F.qn rfl (r_loadA ta27 ti27 rfl rfl (fun w hw => (box_cells (i := 0) rfl w hw))) ?_
 refine F.ef0 rfl rfl (wanted_none rfl) (d_storeG0 (i := 3) (cs2 := [.int .i64 t9_1, v9_1, v9_2]) ti27 rfl rfl rfl rfl rfl (Nat.le_of_ble_eq_true rfl) (lf_cons rfl (lf_cons (sl_leaf hl_v9_1) (lf_cons (sl_leaf hl_v9_2) lf_nil)))) ?_
 rintro _ _ ⟨rfl, rfl⟩
 refine F.nil (Nrm.seq (Tri.ret ?_))
 cases h
 exact Rtn.body (.cell rfl ta27 ti27 rfl (fun _ hw => box_cells (i := 3) rfl _ hw) .nil) (fun w hw => ⟨_, _, rfl, ⟨v9_1, S9_1, v9_2, S9_2, rfl, hl_v9_1, (len_set hl_v9_2), rfl⟩, Sep.pick (is := [1, 2]) rfl rfl hw⟩)


def impl_isNode_1.f (k : Nat) (a0 : Int) (c0_0 : Int) (c0_1 : List (Int × Int × Int)) (c0_2 : List Int) : Option (Bool) := (impl_within.f k a0 0 (w64 (c0_0 - 1))).bind fun t8 => some (!t8)

theorem impl_isNode_1.ok {k : Nat} {pc0 : Addr} {a0 : Int} {c0_0 : Int} {c0_1 : List (Int × Int × Int)} {c0_2 : List Int} {r0 : Bool} (h : impl_isNode_1.f k a0 c0_0 c0_1 c0_2 = some r0) (w : World) {vc0_1 : Value} {vc0_2 : Value} (hb_c0 : CellsAt w pc0 [.int .i64 c0_0, vc0_1, vc0_2]) (hr_c0_1 : Rd w vc0_1 c0_1) (hr_c0_2 : Rd w vc0_2 c0_2) :
  Calls Tryz.prog 180 ([.int .i64 a0, .pointer (some pc0)] : List Value).toArray w (fun e w' => e = .returned (.bool r0) ∧ Ext w w') := by
 unfold impl_isNode_1.f at h
 have hl_vc0_1 := hr_c0_1.len
 have hl_vc0_2 := hr_c0_2.len
 refine Calls.of_tri (N := 10) Tryz.func180 rfl rfl rfl (Sep.nil (M := noM)) ?_
 refine Tri.seq (Tri.reg (l := [0]) rfl ?_)
 refine F.qn rfl (r_assign rfl) (F.nil (Nrm.seq (Tri.seq ?_)))
 obtain ⟨t8, h8, h⟩ := bind_some h
 refine Tri.reg (l := [0, 1, 2, 3, 4, 5, 6]) rfl ?_
 refine F.qn rfl (r_move rfl) (F.qn rfl (r_fieldAddr tf27_0 rfl) (F.qn rfl (r_load ta3 rfl (fun w hw => cell_1 (hb_c0.sep hw) rfl)) (F.qn rfl (r_sub rfl rfl) ?_)))
 refine F.qcn rfl (q_callF (xs := _) rfl ok103 rfl rfl (fun w hw => impl_within.ok h8 w )) ?_
 refine F.qn rfl (r_not rfl) (F.qn rfl (r_assign rfl) (F.nil (Nrm.seq (Tri.ret ?_))))
 cases h
 exact Rtn.body (.tmp rfl .nil) (fun w hw => ⟨rfl, hw.ext⟩)


def impl_isNode.f (k : Nat) (a0_0 : Int) (a0_1 : List (Int × Int × Int)) (a0_2 : List Int) (a1 : List Int) : Option (Bool) := ((impl_IsMaze.f k a0_0 a0_1 a0_2).bind fun t6 => (if t6 = true then (slices_ContainsFunc_int_int.f k a1 (fun z0 => impl_isNode_1.f k z0 a0_0 a0_1 a0_2)).bind fun t10 => some (!t10) else some false)).bind fun y4 => some y4

theorem impl_isNode.ok {k : Nat}  {a0_0 : Int} {a0_1 : List (Int × Int × Int)} {a0_2 : List Int} {a1 : List Int} {r0 : Bool} (h : impl_isNode.f k a0_0 a0_1 a0_2 a1 = some r0) (w : World) {va0_1 : Value} {va0_2 : Value} {va1 : Value} (hr_a0_1 : Rd w va0_1 a0_1) (hr_a0_2 : Rd w va0_2 a0_2) (hr_a1 : Rd w va1 a1) :
  Calls Tryz.prog 98 ([.agg ([.int .i64 a0_0, va0_1, va0_2].toArray), va1] : List Value).toArray w (fun e w' => e = .returned (.bool r0) ∧ Ext w w') := by
 unfold impl_isNode.f at h
 have hl_va0_1 := hr_a0_1.len
 have hl_va0_2 := hr_a0_2.len
 have hl_va1 := hr_a1.len
 refine Calls.of_tri (N := 13) Tryz.func98 rfl rfl rfl (Sep.nil (M := noM)) ?_
 refine Tri.seq (Tri.reg (l := [0, 1]) rfl ?_)
 refine F.mn rfl (m_boxG rfl rfl) ?_
 rintro _ _ ⟨b2_1, rfl, rfl⟩
 refine F.qn rfl (r_assign rfl) (F.nil (Nrm.seq (Tri.seq ?_)))
 obtain ⟨y4, hE_1, h⟩ := bind_some h
 refine Tri.cut (fun e' C' => e' = [(4, .bool y4)] ∧ C' = Sep w noM []) ?_ (fun hj_1 => ?_)
 ·rintro _ _ ⟨rfl, rfl⟩
  refine Nrm.seq (Tri.ret ?_)
  cases h
  exact Rtn.body (.tmp rfl .nil) (fun w hw => ⟨rfl, hw.ext⟩)
 ·obtain ⟨t6, h6, hE_1⟩ := bind_some hE_1
  rcases Bool.eq_false_or_eq_true (t6) with g7 | g7
  ·replace hE_1 := if_tt g7 hE_1
   obtain ⟨t10, h10, hE_1⟩ := bind_some hE_1
   refine Tri.reg (l := [0, 1, 2, 3, 4, 5, 6, 7, 8]) rfl ?_
   refine F.qn rfl (r_loadA ta27 ti27 rfl rfl (fun w hw => (box_cells (i := 0) rfl w hw))) ?_
   refine F.qcn rfl (q_callF (xs := _) rfl ok102 rfl rfl (fun w hw => impl_IsMaze.ok h6 w ((fun _ hw => hr_a0_1.sep hw) w hw) ((fun _ hw => hr_a0_2.sep hw) w hw))) ?_
   refine F.qn rfl (r_move rfl) (F.qg rfl g7 (r_move rfl) (F.qg rfl g7 (r_makeFunc rfl) ?_))
   refine F.qc rfl rfl rfl (wg rfl rfl rfl g7) (q_callF (xs := _) rfl ok179 rfl rfl (fun w hw => slices_ContainsFunc_int_int.ok h10 w ((fun _ hw => hr_a1.sep hw) w hw) ok180 (fun w2 he2 z0 y2 hy2 => impl_isNode_1.ok hy2 w2 ((box_cells (i := 0) rfl w hw).ext he2) (((fun _ hw => hr_a0_1.sep hw) w hw).ext he2) (((fun _ hw => hr_a0_2.sep hw) w hw).ext he2)))) ?_
   refine F.qg rfl g7 (r_not rfl) (F.qn rfl (r_pick rfl rfl g7) (F.qn rfl (r_assign rfl) (F.nil ?_)))
   cases hE_1
   refine Nrm.only [4] rfl ?_
   refine Nrm.pick [] rfl rfl ?_
   exact hj_1 _ _ ⟨rfl, rfl⟩
  ·replace hE_1 := if_ff g7 hE_1
   refine Tri.reg (l := [0, 1, 2, 3, 4, 5, 6, 7, 8]) rfl ?_
   refine F.qn rfl (r_loadA ta27 ti27 rfl rfl (fun w hw => (box_cells (i := 0) rfl w hw))) ?_
   refine F.qcn rfl (q_callF (xs := _) rfl ok102 rfl rfl (fun w hw => impl_IsMaze.ok h6 w ((fun _ hw => hr_a0_1.sep hw) w hw) ((fun _ hw => hr_a0_2.sep hw) w hw))) ?_
   refine F.qn rfl (r_move rfl) ?_
   iterate 4 refine F.skf rfl g7 ?_
   refine F.qn rfl (r_pickf rfl rfl g7) (F.qn rfl (r_assign rfl) (F.nil ?_))
   cases hE_1
   refine Nrm.only [4] rfl ?_
   refine Nrm.pick [] rfl rfl ?_
   exact hj_1 _ _ ⟨rfl, rfl⟩


def impl_PutKeys.f (k : Nat) (a0_0 : Int) (a0_1 : List (Int × Int × Int)) (a0_2 : List Int) (a1 : Int) (a2 : Int) : Option (Int × (List (Int × Int × Int)) × (List Int) × Bool) := ((impl_isNode.f k a0_0 a0_1 a0_2 ([a1] : List (Int))).bind fun t11 => (if (!t11) = true then some true else (impl_isSet.f k a2).bind fun t15 => some (!t15))).bind fun y17 => (if y17 = true then some (0, [], [], false) else (impl_put.f k a0_0 a0_1 a0_2 a1 a2).bind fun (t22_1, t22_2, t22_3) => some (t22_1, t22_2, t22_3, true))

theorem impl_PutKeys.ok {k : Nat}  {a0_0 : Int} {a0_1 : List (Int × Int × Int)} {a0_2 : List Int} {a1 : Int} {a2 : Int} {r0 : Int} {r1 : List (Int × Int × Int)} {r2 : List Int} {r3 : Bool} (h : impl_PutKeys.f k a0_0 a0_1 a0_2 a1 a2 = some (r0, r1, r2, r3)) (w : World) {va0_1 : Value} {va0_2 : Value} (hr_a0_1 : Rd w va0_1 a0_1) (hr_a0_2 : Rd w va0_2 a0_2) :
  Calls Tryz.prog 101 ([.agg ([.int .i64 a0_0, va0_1, va0_2].toArray), .int .i64 a1, .int .i64 a2] : List Value).toArray w (Post (fun u ns => ∃ (ur1 : Value) (Sr1 : Nat → Prop) (ur2 : Value) (Sr2 : Nat → Prop), u = .tuple #[.agg [.int .i64 r0, ur1, ur2].toArray, .bool r3] ∧ SlLen ur1 r1.length ∧ SlLen ur2 r2.length ∧ ns = [R.sl Sr1 ur1 r1, R.sl Sr2 ur2 r2]) w) := by
 unfold impl_PutKeys.f at h
 have hl_va0_1 := hr_a0_1.len
 have hl_va0_2 := hr_a0_2.len
 refine Calls.of_tri (N := 23) Tryz.func101 rfl rfl rfl (Sep.nil (M := noM)) ?_
 refine Tri.seq (Tri.reg (l := [0, 1, 2]) rfl ?_)
 refine F.mn rfl (m_boxG rfl rfl) ?_
 rintro _ _ ⟨b3_1, rfl, rfl⟩
 refine F.mn rfl (m_alloc ti27) ?_
 rintro _ _ ⟨b6_1, rfl, rfl⟩
 refine F.qn rfl (r_assign rfl) (F.nil (Nrm.seq (Tri.seq (Tri.seq ?_))))
 obtain ⟨y17, hE_1, h⟩ := bind_some h
 refine Tri.cut (fun e' C' => e' = [(1, .int .i64 a1), (2, .int .i64 a2), (3, .pointer (some ⟨b3_1, 0, none⟩)), (6, .pointer (some ⟨b6_1, 0, none⟩)), (17, .bool y17)] ∧ C' = Sep w noM [R.box b6_1 27 [.int .i64 0, .slice none 0 0, .slice none 0 0], R.box b3_1 27 [.int .i64 a0_0, va0_1, va0_2]]) ?_ (fun hj_1 => ?_)
 ·rintro _ _ ⟨rfl, rfl⟩
  refine Nrm.seq (Tri.cond (b := y17) rfl (fun g_1 => ?_) (fun g_1 => ?_))
  ·replace h := if_tt g_1 h
   refine Tri.seq (Tri.reg (l := [0, 1, 2]) rfl ?_)
   refine F.qn rfl (r_build (pl := [(0, 1), (1, 1), (2, 1)]) (qs := []) (cs := [.int .i64 0, .slice none 0 0, .slice none 0 0]) (by kernel_rfl) ti27 rfl .nil rfl rfl) ?_
   refine F.ef0 rfl rfl (wanted_none rfl) (d_storeG0 (i := 0) (cs2 := [.int .i64 0, .slice none 0 0, .slice none 0 0]) ti27 rfl rfl rfl rfl rfl (Nat.le_of_ble_eq_true rfl) (lf_cons rfl (lf_cons rfl (lf_cons rfl lf_nil)))) ?_
   rintro _ _ ⟨rfl, rfl⟩
   refine F.qn rfl (r_assign rfl) (F.nil (Nrm.seq (Tri.ret ?_)))
   refine Rtn.then ?_
   cases h
   exact Rtn.body (.cell rfl ta27 ti27 rfl (fun _ hw => box_cells (i := 0) rfl _ hw) (.tmp rfl .nil)) (fun w hw => ⟨_, _, rfl, ⟨.slice none 0 0, fun _ => False, .slice none 0 0, fun _ => False, rfl, len_nil, len_nil, rfl⟩, Sep.pick (is := [0, 1]) rfl rfl hw.pushNil.pushNil⟩)
  ·replace h := if_ff g_1 h
   refine Tri.skip (Nrm.seq (Tri.seq ?_))
   obtain ⟨⟨t22_1, t22_2, t22_3⟩, h22, h⟩ := bind_some h
   refine Tri.reg (l := [0, 1, 2, 3, 4, 5]) rfl ?_
   refine F.qn rfl (r_loadA ta27 ti27 rfl rfl (fun w hw => (box_cells (i := 1) rfl w hw))) (F.qn rfl (r_move rfl) (F.qn rfl (r_move rfl) ?_))
   refine F.mn rfl (m_callF (xs := _) rfl ok94 rfl rfl (fun w hw => impl_put.ok h22 w ((fun _ hw => hr_a0_1.sep hw) w hw) ((fun _ hw => hr_a0_2.sep hw) w hw))) ?_
   rintro _ _ ⟨_, ⟨v22_1, S22_1, v22_2, S22_2, rfl, hl_v22_1, hl_v22_2, rfl⟩, rfl⟩
   refine F.ef0 rfl rfl (wanted_none rfl) (d_storeG0 (i := 2) (cs2 := [.int .i64 t22_1, v22_1, v22_2]) ti27 rfl rfl rfl rfl rfl (Nat.le_of_ble_eq_true rfl) (lf_cons rfl (lf_cons (sl_leaf hl_v22_1) (lf_cons (sl_leaf hl_v22_2) lf_nil)))) ?_
   rintro _ _ ⟨rfl, rfl⟩
   refine F.qn rfl (r_assign rfl) (F.nil (Nrm.seq (Tri.ret ?_)))
   cases h
   exact Rtn.body (.cell rfl ta27 ti27 rfl (fun _ hw => box_cells (i := 2) rfl _ hw) (.tmp rfl .nil)) (fun w hw => ⟨_, _, rfl, ⟨v22_1, S22_1, v22_2, S22_2, rfl, hl_v22_1, hl_v22_2, rfl⟩, Sep.pick (is := [0, 1]) rfl rfl hw⟩)
 ·obtain ⟨t11, h11, hE_1⟩ := bind_some hE_1
  rcases Bool.eq_false_or_eq_true (!t11) with g13 | g13
  ·replace hE_1 := if_tt g13 hE_1
   refine Tri.reg (l := [0, 1, 2, 3, 4, 5, 6, 7, 8, 9]) rfl ?_
   refine F.qn rfl (r_loadA ta27 ti27 rfl rfl (fun w hw => (box_cells (i := 1) rfl w hw))) (F.qn rfl (r_move rfl) ?_)
   refine F.mn rfl (m_buildF (l := ([a1] : List (Int))) Tryz.underlying25 ti3 rfl rfl rfl rfl rfl) ?_
   rintro v10_2 _ ⟨S10_2, hl_v10_2, rfl⟩
   refine F.qcn rfl (q_callF (xs := _) rfl ok98 rfl rfl (fun w hw => impl_isNode.ok h11 w ((fun _ hw => hr_a0_1.sep hw) w hw) ((fun _ hw => hr_a0_2.sep hw) w hw) ((rd_sl (i := 0) rfl) w hw))) ?_
   refine F.qn rfl (r_not rfl) (F.qn rfl (r_move rfl) ?_)
   iterate 3 refine F.skf rfl g13 ?_
   refine F.qn rfl (r_pick rfl rfl g13) (F.nil ?_)
   cases hE_1
   refine Nrm.only [1, 2, 3, 6, 17] rfl ?_
   refine Nrm.pick [1, 2] rfl rfl ?_
   exact hj_1 _ _ ⟨rfl, rfl⟩
  ·replace hE_1 := if_ff g13 hE_1
   obtain ⟨t15, h15, hE_1⟩ := bind_some hE_1
   refine Tri.reg (l := [0, 1, 2, 3, 4, 5, 6, 7, 8, 9]) rfl ?_
   refine F.qn rfl (r_loadA ta27 ti27 rfl rfl (fun w hw => (box_cells (i := 1) rfl w hw))) (F.qn rfl (r_move rfl) ?_)
   refine F.mn rfl (m_buildF (l := ([a1] : List (Int))) Tryz.underlying25 ti3 rfl rfl rfl rfl rfl) ?_
   rintro v10_3 _ ⟨S10_3, hl_v10_3, rfl⟩
   refine F.qcn rfl (q_callF (xs := _) rfl ok98 rfl rfl (fun w hw => impl_isNode.ok h11 w ((fun _ hw => hr_a0_1.sep hw) w hw) ((fun _ hw => hr_a0_2.sep hw) w hw) ((rd_sl (i := 0) rfl) w hw))) ?_
   refine F.qn rfl (r_not rfl) (F.qn rfl (r_move rfl) (F.qg rfl g13 (r_move rfl) ?_))
   refine F.qc rfl rfl rfl (wg rfl rfl rfl g13) (q_callF (xs := _) rfl ok177 rfl rfl (fun w hw => impl_isSet.ok h15 w )) ?_
   refine F.qg rfl g13 (r_not rfl) (F.qn rfl (r_pickf rfl rfl g13) (F.nil ?_))
   cases hE_1
   refine Nrm.only [1, 2, 3, 6, 17] rfl ?_
   refine Nrm.pick [1, 2] rfl rfl ?_
   exact hj_1 _ _ ⟨rfl, rfl⟩


def impl_ownVisit.f (k : Nat) (a0_0 : Int) (a0_1 : List (Int × Int × Int)) (a0_2 : List Int) (a0_3 : List Int) (a0_4 : Int) : Option (Int × (List (Int × Int × Int)) × (List Int) × (List Int) × Int) := (impl_own.f k a0_0 a0_1 a0_2).bind fun (t5_1, t5_2, t5_3) => (slices_Clone_int_int.f k a0_3).bind fun t8 => some (t5_1, t5_2, t5_3, t8, a0_4)

theorem impl_ownVisit.ok {k : Nat}  {a0_0 : Int} {a0_1 : List (Int × Int × Int)} {a0_2 : List Int} {a0_3 : List Int} {a0_4 : Int} {r0 : Int} {r1 : List (Int × Int × Int)} {r2 : List Int} {r3 : List Int} {r4 : Int} (h : impl_ownVisit.f k a0_0 a0_1 a0_2 a0_3 a0_4 = some (r0, r1, r2, r3, r4)) (w : World) {va0_1 : Value} {va0_2 : Value} {va0_3 : Value} (hr_a0_1 : Rd w va0_1 a0_1) (hr_a0_2 : Rd w va0_2 a0_2) (hr_a0_3 : Rd w va0_3 a0_3) :
  Calls Tryz.prog 116 ([.agg ([.int .i64 a0_0, va0_1, va0_2, va0_3, .int .i64 a0_4].toArray)] : List Value).toArray w (Post (fun u ns => ∃ (ur1 : Value) (Sr1 : Nat → Prop) (ur2 : Value) (Sr2 : Nat → Prop) (ur3 : Value) (Sr3 : Nat → Prop), u = .agg [.int .i64 r0, ur1, ur2, ur3, .int .i64 r4].toArray ∧ SlLen ur1 r1.length ∧ SlLen ur2 r2.length ∧ SlLen ur3 r3.length ∧ ns = [R.sl Sr1 ur1 r1, R.sl Sr2 ur2 r2, R.sl Sr3 ur3 r3]) w) := by
 unfold impl_ownVisit.f at h
 have hl_va0_1 := hr_a0_1.len
 have hl_va0_2 := hr_a0_2.len
 have hl_va0_3 := hr_a0_3.len
 refine Calls.of_tri (N := 12) Tryz.func116 rfl rfl rfl (Sep.nil (M := noM)) ?_
 refine Tri.seq (Tri.reg (l := [0, 1]) rfl ?_)
 refine F.mn rfl (m_boxG rfl rfl) ?_
 rintro _ _ ⟨b1_1, rfl, rfl⟩
 refine F.mn rfl (m_alloc ti44) ?_
 rintro _ _ ⟨b2_1, rfl, rfl⟩
 refine F.nil (Nrm.seq (Tri.seq ?_))
 obtain ⟨⟨t5_1, t5_2, t5_3⟩, h5, h⟩ := bind_some h
 obtain ⟨t8, h8, h⟩ := bind_some h
 refine Tri.drawA mixedT Sep.up [(0, true), (1, true), (3, true), (4, true), (6, true), (7, true), (2, false), (5, false), (8, true)] [9] (by kernel_rfl) ?_
 refine S.qn rfl (r_fieldAddr tf44_0 rfl) (S.qn rfl (r_loadA ta27 ti27 rfl rfl (fun w hw => cells_1 (cs' := [.int .i64 a0_0, va0_1, va0_2]) (box_cells (i := 1) rfl w hw) rfl)) (S.qn rfl (r_fieldAddr tf44_1 rfl) (S.qn rfl (r_load ta25 rfl (fun w hw => cell_1 (box_cells (i := 1) rfl w hw) rfl)) (S.qn rfl (r_fieldAddr tf44_2 rfl) (S.qn rfl (r_load ta3 rfl (fun w hw => cell_1 (box_cells (i := 1) rfl w hw) rfl)) ?_)))))
 refine S.m rfl rfl rfl (wanted_none rfl) (m_callF (xs := _) rfl ok107 rfl rfl (fun w hw => impl_own.ok h5 w ((fun _ hw => hr_a0_1.sep hw) w hw) ((fun _ hw => hr_a0_2.sep hw) w hw))) ?_
 rintro _ _ ⟨_, ⟨v5_3, S5_3, v5_4, S5_4, rfl, hl_v5_3, hl_v5_4, rfl⟩, rfl⟩
 refine S.m rfl rfl rfl (wanted_none rfl) (m_callF (xs := _) rfl ok144 rfl rfl (fun w hw => slices_Clone_int_int.ok h8 w ((fun _ hw => hr_a0_3.sep hw) w hw))) ?_
 rintro v8_2 _ ⟨_, ⟨S8_2, hl_v8_2, rfl⟩, rfl⟩
 refine S.qn rfl (r_build (pl := [(0, 3), (3, 1), (4, 1)]) (qs := [(0, [.int .i64 t5_1, v5_3, v5_4]), (3, [v8_2]), (4, [.int .i64 a0_4])]) (cs := [.int .i64 t5_1, v5_3, v5_4, v8_2, .int .i64 a0_4]) (by kernel_rfl) ti44 rfl (.cons rfl rfl (Nat.le_of_ble_eq_true rfl) (.cons (sl_cells hl_v8_2) rfl (Nat.le_of_ble_eq_true rfl) (.cons rfl rfl (Nat.le_of_ble_eq_true rfl) .nil))) rfl rfl) (S.nil (F.ef0 rfl rfl (wanted_none rfl) (d_storeG0 (i := 3) (cs2 := [.int .i64 t5_1, v5_3, v5_4, v8_2, .int .i64 a0_4]) ti44 rfl rfl rfl rfl rfl (Nat.le_of_ble_eq_true rfl) (lf_cons rfl (lf_cons (sl_leaf hl_v5_3) (lf_cons (sl_leaf hl_v5_4) (lf_cons (sl_leaf hl_v8_2) (lf_cons rfl lf_nil)))))) ?_))
 rintro _ _ ⟨rfl, rfl⟩
 refine F.nil (Nrm.seq (Tri.ret ?_))
 cases h
 exact Rtn.body (.cell rfl ta44 ti44 rfl (fun _ hw => box_cells (i := 3) rfl _ hw) .nil) (fun w hw => ⟨_, _, rfl, ⟨v5_3, S5_3, v5_4, S5_4, v8_2, S8_2, rfl, hl_v5_3, hl_v5_4, hl_v8_2, rfl⟩, Sep.pick (is := [1, 2, 0]) rfl rfl hw⟩)


def slices_Index__3int__3int.l0 (k : Nat) (a0 : List (Int × Int × Int)) (a1_0 : Int) (a1_1 : Int) (a1_2 : Int) : Nat → Int → Option ((Unit) ⊕ (Int))
 | 0, _ => none
 | n + 1, x8 => (if (decide (x8 < (a0.length : Int))) = true then (rdl a0 x8).bind fun t14 => (if (decide ((a1_0, a1_1, a1_2) = (t14.1, t14.2.1, t14.2.2))) = true then some (Sum.inr x8) else slices_Index__3int__3int.l0 k a0 a1_0 a1_1 a1_2 n (w64 (x8 + 1))) else some (Sum.inl ()))

def slices_Index__3int__3int.f (k : Nat) (a0 : List (Int × Int × Int)) (a1_0 : Int) (a1_1 : Int) (a1_2 : Int) : Option (Int) := (slices_Index__3int__3int.l0 k a0 a1_0 a1_1 a1_2 k 0).bind fun s => Lr s some fun _ => some (-1)

theorem slices_Index__3int__3int.ok {k : Nat}  {a0 : List (Int × Int × Int)} {a1_0 : Int} {a1_1 : Int} {a1_2 : Int} {r0 : Int} (h : slices_Index__3int__3int.f k a0 a1_0 a1_1 a1_2 = some r0) (w : World) {va0 : Value} (hr_a0 : Rd w va0 a0) :
  Calls Tryz.prog 262 ([va0, .agg ([.int .i64 a1_0, .int .i64 a1_1, .int .i64 a1_2].toArray)] : List Value).toArray w (fun e w' => e = .returned (.int .i64 r0) ∧ Ext w w') := by
 unfold slices_Index__3int__3int.f at h
 have hl_va0 := hr_a0.len
 refine Calls.of_tri (N := 19) Tryz.func262 rfl rfl rfl (Sep.nil (M := noM)) ?_
 refine Tri.seq (Tri.reg (l := [0, 1]) rfl ?_)
 refine F.mn rfl (m_boxG rfl rfl) ?_
 rintro _ _ ⟨b3_1, rfl, rfl⟩
 refine F.qn rfl (r_assign rfl) (F.nil (Nrm.seq (Tri.seq (Tri.seq (Tri.reg (l := [0, 1, 2]) rfl ?_)))))
 refine F.qn rfl (r_move rfl) (F.qn rfl (r_len Tryz.underlying24 rfl hl_va0) (F.qn rfl (r_move rfl) (F.nil (Nrm.seq ?_))))
 obtain ⟨s0, hE_1, h⟩ := bind_some h
 refine Tri.block ?_
 refine Tri.only [0, 3, 7, 8] rfl ?_
 refine Tri.pick [0] rfl rfl ?_
 refine Tri.rounds (fun n e' C' => ∃ (x8' : Int), slices_Index__3int__3int.l0 k a0 a1_0 a1_1 a1_2 n x8' = some s0 ∧ e' = [(0, va0), (3, .pointer (some ⟨b3_1, 0, none⟩)), (7, .int .i64 (a0.length : Int)), (8, .int .i64 x8')] ∧ C' = Sep w noM [R.box b3_1 168 [.int .i64 a1_0, .int .i64 a1_1, .int .i64 a1_2]]) k ?_ ?_ ?_
 ·exact ⟨0, hE_1, rfl, rfl⟩
 ·rintro _ _ ⟨_, hE_1, _⟩
  rw [slices_Index__3int__3int.l0.eq_1] at hE_1; cases hE_1
 ·rintro n_1 _ _ ⟨x8, hE_1, rfl, rfl⟩ ih_1
  rw [slices_Index__3int__3int.l0.eq_2] at hE_1
  refine Tri.seq (Tri.reg (l := [0]) rfl ?_)
  refine F.qn rfl (r_lss rfl rfl) (F.nil (Nrm.seq (Tri.seq (Tri.cond (b := decide (x8 < (a0.length : Int))) rfl (fun g_1 => ?_) (fun g_1 => ?_)))))
  ·replace hE_1 := if_tt g_1 hE_1
   refine Tri.skip (Nrm.seq (Tri.seq (Tri.block ?_)))
   refine Tri.seq (Tri.reg (l := [0, 1]) rfl ?_)
   refine F.qn rfl (r_move rfl) (F.qn rfl (r_assign rfl) (F.nil (Nrm.seq (Tri.seq ?_))))
   obtain ⟨t14, h14, hE_1⟩ := bind_some hE_1
   refine Tri.drawA mixedT Sep.up [(0, true), (1, true), (2, true), (3, true), (4, true), (5, true)] [] (by kernel_rfl) ?_
   refine S.qn rfl (r_loadA ta168 ti168 rfl rfl (fun w hw => (box_cells (i := 0) rfl w hw))) (S.qn rfl (r_move rfl) (S.qn rfl (r_move rfl) (S.qn rfl (r_indexAddrS Tryz.underlying24 ti168 rfl hl_va0 rfl (rdl_some h14).1 (rdl_some h14).2.1) (S.qn rfl (r_loadA ta168 ti168 rfl rfl (fun w hw => (Rd.flat ((fun _ hw => hr_a0.sep hw) w hw) (rdl_some h14).2.2))) (S.qn rfl (r_eqlA3 Tryz.underlying168 Tryz.underlying3 ti3 ta3 rfl rfl eg168) (S.nil (F.nil (Nrm.seq (Tri.cond (b := decide ((a1_0, a1_1, a1_2) = (t14.1, t14.2.1, t14.2.2))) rfl (fun g_2 => ?_) (fun g_2 => ?_))))))))))
   ·replace hE_1 := if_tt g_2 hE_1
    refine Tri.seq (Tri.reg (l := [0, 1]) rfl ?_)
    refine F.qn rfl (r_move rfl) (F.qn rfl (r_assign rfl) (F.nil (Nrm.seq (Tri.ret ?_))))
    refine Rtn.block ?_
    refine Rtn.then ?_
    refine Rtn.then ?_
    refine Rtn.block ?_
    refine Rtn.then ?_
    cases hE_1
    replace h := Lr_inr h
    cases h
    exact Rtn.body (.tmp rfl .nil) (fun w hw => ⟨rfl, hw.ext⟩)
   ·replace hE_1 := if_ff g_2 hE_1
    refine Tri.skip (Nrm.block ?_)
    refine Nrm.seq (Tri.reg (l := [0, 1]) rfl ?_)
    refine F.qn rfl (r_add rfl rfl) (F.qn rfl (r_move rfl) (F.nil (Nrm.round ?_)))
    refine Rnd.only [0, 3, 7, 8] rfl ?_
    refine Rnd.pick [0] rfl rfl ?_
    exact ih_1 _ _ ⟨w64 (x8 + 1), hE_1, rfl, rfl⟩
  ·replace hE_1 := if_ff g_1 hE_1
   refine Tri.exit ?_
   refine Exi.then ?_
   refine Exi.then ?_
   refine Exi.same ?_
   cases hE_1
   replace h := Lr_inl h
   refine Nrm.seq (Tri.seq (Tri.reg (l := [0]) rfl ?_))
   refine F.qn rfl (r_assign rfl) (F.nil (Nrm.seq (Tri.ret ?_)))
   cases h
   exact Rtn.body (.tmp rfl .nil) (fun w hw => ⟨rfl, hw.ext⟩)


def slices_Contains__3int__3int.f (k : Nat) (a0 : List (Int × Int × Int)) (a1_0 : Int) (a1_1 : Int) (a1_2 : Int) : Option (Bool) := (slices_Index__3int__3int.f k a0 a1_0 a1_1 a1_2).bind fun t7 => some (decide (t7 ≥ 0))

theorem slices_Contains__3int__3int.ok {k : Nat}  {a0 : List (Int × Int × Int)} {a1_0 : Int} {a1_1 : Int} {a1_2 : Int} {r0 : Bool} (h : slices_Contains__3int__3int.f k a0 a1_0 a1_1 a1_2 = some r0) (w : World) {va0 : Value} (hr_a0 : Rd w va0 a0) :
  Calls Tryz.prog 239 ([va0, .agg ([.int .i64 a1_0, .int .i64 a1_1, .int .i64 a1_2].toArray)] : List Value).toArray w (fun e w' => e = .returned (.bool r0) ∧ Ext w w') := by
 unfold slices_Contains__3int__3int.f at h
 have hl_va0 := hr_a0.len
 refine Calls.of_tri (N := 9) Tryz.func239 rfl rfl rfl (Sep.nil (M := noM)) ?_
 refine Tri.seq (Tri.reg (l := [0, 1]) rfl ?_)
 refine F.mn rfl (m_boxG rfl rfl) ?_
 rintro _ _ ⟨b3_1, rfl, rfl⟩
 refine F.qn rfl (r_assign rfl) (F.nil (Nrm.seq (Tri.seq ?_)))
 obtain ⟨t7, h7, h⟩ := bind_some h
 refine Tri.reg (l := [0, 1, 2, 3, 4]) rfl ?_
 refine F.qn rfl (r_move rfl) (F.qn rfl (r_loadA ta168 ti168 rfl rfl (fun w hw => (box_cells (i := 0) rfl w hw))) ?_)
 refine F.qcn rfl (q_callF (xs := _) rfl ok262 rfl rfl (fun w hw => slices_Index__3int__3int.ok h7 w ((fun _ hw => hr_a0.sep hw) w hw))) ?_
 refine F.qn rfl (r_geq rfl rfl) (F.qn rfl (r_assign rfl) (F.nil (Nrm.seq (Tri.ret ?_))))
 cases h
 exact Rtn.body (.tmp rfl .nil) (fun w hw => ⟨rfl, hw.ext⟩)

end Go.Proofs

/- Contracts of the library, laid at this seat. f5350282d22d6eeb -/
namespace Go.Proofs
open Go.Shelf
def Tryz.sortTri_ren : Go.Shelf.Ren := ⟨fun | 6 => 263 | 15 => 236 | 14 => 284 | 28 => 258 | 29 => 259 | 20 => 289 | 21 => 290 | 22 => 291 | 23 => 292 | 24 => 293 | 25 => 294 | 26 => 295 | 27 => 296 | 46 => 298 | 47 => 280 | 48 => 281 | 49 => 299 | 50 => 300 | 57 => 301 | n => n, fun | 22 => 24 | 24 => 168 | 25 => 175 | 3 => 3 | 39 => 192 | 0 => 0 | 53 => 217 | 55 => 112 | 4 => 4 | 46 => 211 | 45 => 210 | 50 => 32 | 5 => 5 | 9 => 9 | 66 => 230 | 70 => 234 | 76 => 239 | 77 => 240 | n => n, fun | n => n⟩
theorem Tryz.sortTri : Go.Proofs.SlLaysF0.n6 Tryz.prog Tryz.sortTri_ren := {
 mixed := by kernel_rfl
 f6 := ⟨Tryz.f263.name, by decide, Tryz.func263.trans (congrArg some (by kernel_rfl))⟩
 f14 := ⟨Tryz.f284.name, by decide, Tryz.func284.trans (congrArg some (by kernel_rfl))⟩
 f15 := Tryz.func236.trans (congrArg some (by kernel_rfl))
 f20 := ⟨Tryz.f289.name, by decide, Tryz.func289.trans (congrArg some (by kernel_rfl))⟩
 f21 := ⟨Tryz.f290.name, by decide, Tryz.func290.trans (congrArg some (by kernel_rfl))⟩
 f22 := ⟨Tryz.f291.name, by decide, Tryz.func291.trans (congrArg some (by kernel_rfl))⟩
 f23 := ⟨Tryz.f292.name, by decide, Tryz.func292.trans (congrArg some (by kernel_rfl))⟩
 f24 := ⟨Tryz.f293.name, by decide, Tryz.func293.trans (congrArg some (by kernel_rfl))⟩
 f25 := ⟨Tryz.f294.name, by decide, Tryz.func294.trans (congrArg some (by kernel_rfl))⟩
 f26 := ⟨Tryz.f295.name, by decide, Tryz.func295.trans (congrArg some (by kernel_rfl))⟩
 f27 := ⟨Tryz.f296.name, by decide, Tryz.func296.trans (congrArg some (by kernel_rfl))⟩
 f28 := Tryz.func258.trans (congrArg some (by kernel_rfl))
 f29 := Tryz.func259.trans (congrArg some (by kernel_rfl))
 f46 := ⟨Tryz.f298.name, by decide, Tryz.func298.trans (congrArg some (by kernel_rfl))⟩
 f47 := Tryz.func280.trans (congrArg some (by kernel_rfl))
 f48 := Tryz.func281.trans (congrArg some (by kernel_rfl))
 f49 := ⟨Tryz.f299.name, by decide, Tryz.func299.trans (congrArg some (by kernel_rfl))⟩
 f50 := ⟨Tryz.f300.name, by decide, Tryz.func300.trans (congrArg some (by kernel_rfl))⟩
 f57 := ⟨Tryz.f301.name, by decide, Tryz.func301.trans (congrArg some (by kernel_rfl))⟩
 t0 := Tryz.underlying0
 a0 := Tryz.isAgg0
 z0 := Tryz.sizeOf0
 v0 := Tryz.zeroValue0
 t3 := Tryz.underlying3
 a3 := Tryz.isAgg3
 z3 := Tryz.sizeOf3
 v3 := Tryz.zeroValue3
 t4 := Tryz.underlying4
 a4 := Tryz.isAgg4
 z4 := Tryz.sizeOf4
 v4 := Tryz.zeroValue4
 t5 := Tryz.underlying5
 a5 := Tryz.isAgg5
 z5 := Tryz.sizeOf5
 v5 := Tryz.zeroValue5
 t9 := Tryz.underlying9
 a9 := Tryz.isAgg9
 z9 := Tryz.sizeOf9
 v9 := Tryz.zeroValue9
 t22 := Tryz.underlying24
 a22 := Tryz.isAgg24
 z22 := Tryz.sizeOf24
 v22 := Tryz.zeroValue24
 t25 := Tryz.underlying175
 a25 := Tryz.isAgg175
 z25 := Tryz.sizeOf175
 v25 := Tryz.zeroValue175
 t39 := Tryz.underlying192
 a39 := Tryz.isAgg192
 z39 := Tryz.sizeOf192
 v39 := Tryz.zeroValue192
 t45 := Tryz.underlying210
 a45 := Tryz.isAgg210
 z45 := Tryz.sizeOf210
 v45 := Tryz.zeroValue210
 t46 := Tryz.underlying211
 a46 := Tryz.isAgg211
 z46 := Tryz.sizeOf211
 v46 := Tryz.zeroValue211
 t50 := Tryz.underlying32
 a50 := Tryz.isAgg32
 z50 := Tryz.sizeOf32
 v50 := Tryz.zeroValue32
 t53 := Tryz.underlying217
 a53 := Tryz.isAgg217
 z53 := Tryz.sizeOf217
 v53 := Tryz.zeroValue217
 t55 := Tryz.underlying112
 a55 := Tryz.isAgg112
 z55 := Tryz.sizeOf112
 v55 := Tryz.zeroValue112
 t66 := Tryz.underlying230
 a66 := Tryz.isAgg230
 z66 := Tryz.sizeOf230
 v66 := Tryz.zeroValue230
 t70 := Tryz.underlying234
 a70 := Tryz.isAgg234
 z70 := Tryz.sizeOf234
 v70 := Tryz.zeroValue234
 t76 := Tryz.underlying239
 a76 := Tryz.isAgg239
 z76 := Tryz.sizeOf239
 v76 := Tryz.zeroValue239
 t77 := Tryz.underlying240
 a77 := Tryz.isAgg240
 z77 := Tryz.sizeOf240
 v77 := Tryz.zeroValue240 }
end Go.Proofs

/- slices.SortFunc[[][3]int,[3]int] -/

namespace Go.Proofs
open Go Go.Ga
set_option linter.unusedVariables false
set_option maxRecDepth 100000
set_option maxHeartbeats 4000000
open Classical in
noncomputable def slices_SortFunc__3int__3int.f (k : Nat) (a0 : List (Int × Int × Int)) (a1 : (Int → Int → Int → Int → Int → Int → Option (Int))) : Option (List (Int × Int × Int)) := if a0.length < 4611686018427387904 ∧ ∃ cf : Tri3 → Tri3 → Int, (∀ x y, cf x y < 0 ↔ TLt x y) ∧ ∀ x y : Tri3, a1 x.1 x.2.1 x.2.2 y.1 y.2.1 y.2.2 = some (cf x y) then some (a0.mergeSort fun x y => !decide (TLt y x)) else none

theorem slices_SortFunc__3int__3int.ok {k : Nat} {a0 : List (Int × Int × Int)} {a1 : (Int → Int → Int → Int → Int → Int → Option (Int))} {r0 : List (Int × Int × Int)} (h : slices_SortFunc__3int__3int.f k a0 a1 = some r0) (w : World) {va0 : Value} {Sa0 : Nat → Prop} (hl_va0 : SlLen va0 a0.length) {fi_a1 : FuncId} {ca_a1 : Array Value} (ho_a1 : CallOk Tryz.prog fi_a1) (hf_a1 : ∀ w2, Kp (footM [R.sl Sa0 va0 a0]) w w2 → ∀ (z0 z1 z2 z3 z4 z5 : Int) (y : Int), a1 z0 z1 z2 z3 z4 z5 = some y → Calls Tryz.prog fi_a1 (([.agg [.int .i64 z0, .int .i64 z1, .int .i64 z2].toArray, .agg [.int .i64 z3, .int .i64 z4, .int .i64 z5].toArray] : List Value) ++ ca_a1.toList).toArray w2 (fun e w3 => e = .returned (.int .i64 y) ∧ Ext w2 w3)) (hw0 : Sep w (footM [R.sl Sa0 va0 a0]) [R.sl Sa0 va0 a0] w) :
  Calls Tryz.prog 263 ([va0, .func (.func fi_a1) #[] ca_a1] : List Value).toArray w (PostM (footM [R.sl Sa0 va0 a0]) (fun u ns => u = .tuple #[] ∧ SlLen va0 r0.length ∧ ns = [R.sl Sa0 va0 r0]) w) := by
 unfold slices_SortFunc__3int__3int.f at h
 split at h
 rotate_left 1
 ·cases h
 rename_i hc
 obtain ⟨hsz, cf, h1, h2⟩ := hc
 cases h
 exact sortTri_ok (fun fv w => AnyF.slices_SortFunc_none Tryz.sortTri none 0 fv w) (fun g hg cf hO cb blk off cap d w c1 c2 c3 c4 c5 => AnyQ.slices_SortFunc_total Tryz.sortTri 3 (fun _ => Go.Ga.run_isAgg ta168) (fun _ => Go.Ga.run_sizeOf ti168) _ (fun _ => rfl) tri_one cf hO g cb blk off cap d w hg c1 c2 c3 c4 c5) hsz h1 h2 rfl w hl_va0 ho_a1 hf_a1 hw0

end Go.Proofs
