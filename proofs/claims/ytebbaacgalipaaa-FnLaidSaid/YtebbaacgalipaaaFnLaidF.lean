/- A part of the proof of FnLaid: what the functions of the program compute, walked on the model. No condition. -/
import Derived.Test.YtebbaacgalipaaaFnLaidC
import Derived.Test.YtebbaacgalipaaaFnLaidD
import Derived.Test.YtebbaacgalipaaaFnLaidE
set_option linter.unusedSimpArgs false
/- loop.example/g01158/impl.GoodSwaps -/
namespace Go.Proofs
open Go Go.Ga
set_option linter.unusedVariables false
set_option maxRecDepth 100000
set_option maxHeartbeats 4000000
def impl_GoodSwaps.l1 (k : Nat) (a0_0 : Int) (a0_1 : List (Int × Int × Int)) (a0_2 : List Int) (a1 : Int) (a2 : List Int) (t32 : List Int) (x36 : Int) (t39 : Int) : Nat → (List (Int × Int)) → Int → Option ((List (Int × Int)))
 | 0, _, _ => none
 | n + 1, x9r, x12 => (if (decide (x12 < (t32.length : Int))) = true then (impl_swapped.f k a2 x36 x12).bind fun t54 => (impl_depth.f k a0_0 a0_1 a0_2 a1 t54).bind fun t55 => ((if (decide (t55 > 0)) = true then (rdl t32 x12).bind fun t61 => if (x9r ++ ([(t39, t61)] : List (Int × Int))).length < 1099511627776 then some (x9r ++ ([(t39, t61)] : List (Int × Int))) else none else some x9r)).bind fun y9 => impl_GoodSwaps.l1 k a0_0 a0_1 a0_2 a1 a2 t32 x36 t39 n y9 (w64 (x12 + 1)) else some x9r)

def impl_GoodSwaps.l0 (k : Nat) (a0_0 : Int) (a0_1 : List (Int × Int × Int)) (a0_2 : List Int) (a1 : Int) (a2 : List Int) (t32 : List Int) : Nat → (List (Int × Int)) → Int → Option ((List (Int × Int)))
 | 0, _, _ => none
 | n + 1, x9, x36 => (if (decide (x36 < (t32.length : Int))) = true then (rdl t32 x36).bind fun t39 => (impl_GoodSwaps.l1 k a0_0 a0_1 a0_2 a1 a2 t32 x36 t39 k x9 (w64 (x36 + 1))).bind fun x9r => impl_GoodSwaps.l0 k a0_0 a0_1 a0_2 a1 a2 t32 n x9r (w64 (x36 + 1)) else some x9)

def impl_GoodSwaps.f (k : Nat) (a0_0 : Int) (a0_1 : List (Int × Int × Int)) (a0_2 : List Int) (a1 : Int) (a2 : List Int) : Option ((List (Int × Int)) × Bool) := ((impl_asked.f k a0_0 a0_1 a0_2 a1).bind fun t15 => (if (!t15) = true then some true else (impl_isFilling.f k a0_0 a0_1 a0_2 a1 a2).bind fun t21 => (if (!t21) = true then some true else (impl_depth.f k a0_0 a0_1 a0_2 a1 a2).bind fun t28 => some (t28 == 0)))).bind fun y30 => (if y30 = true then some ([], false) else (impl_members.f k a1).bind fun t32 => (impl_GoodSwaps.l0 k a0_0 a0_1 a0_2 a1 a2 t32 k ([] : List (Int × Int)) 0).bind fun x9 => some (x9, true))

theorem impl_GoodSwaps.ok {k : Nat}  {a0_0 : Int} {a0_1 : List (Int × Int × Int)} {a0_2 : List Int} {a1 : Int} {a2 : List Int} {r0 : List (Int × Int)} {r1 : Bool} (h : impl_GoodSwaps.f k a0_0 a0_1 a0_2 a1 a2 = some (r0, r1)) (w : World) {va0_1 : Value} {va0_2 : Value} {va2 : Value} (hr_a0_1 : Rd w va0_1 a0_1) (hr_a0_2 : Rd w va0_2 a0_2) (hr_a2 : Rd w va2 a2) :
  Calls Try.prog 37 ([.agg ([.int .i64 a0_0, va0_1, va0_2].toArray), .int .i64 a1, va2] : List Value).toArray w (Post (fun u ns => ∃ (ur0 : Value) (Sr0 : Nat → Prop), u = .tuple #[ur0, .bool r1] ∧ SlLen ur0 r0.length ∧ ns = [R.sl Sr0 ur0 r0]) w) := by
 unfold impl_GoodSwaps.f at h
 have hl_va0_1 := hr_a0_1.len
 have hl_va0_2 := hr_a0_2.len
 have hl_va2 := hr_a2.len
 refine Calls.of_tri (N := 68) Try.func37 rfl rfl rfl (Sep.nil (M := noM)) ?_
 refine Tri.seq (Tri.reg (l := [0, 1, 2]) rfl ?_)
 refine F.mn rfl rfl rfl rfl (m_boxG rfl rfl) ?_
 rintro _ _ ⟨b3_1, rfl, rfl⟩
 refine F.qn rfl rfl rfl rfl (r_assign rfl) ?_
 refine F.qn rfl rfl rfl rfl (r_assign rfl) ?_
 refine F.nil (Nrm.seq (Tri.seq (Tri.seq ?_)))
 obtain ⟨y30, hE_1, h⟩ := bind_some h
 refine Tri.cut (fun e' C' => e' = [(1, .int .i64 a1), (2, va2), (3, .pointer (some ⟨b3_1, 0, none⟩)), (30, .bool y30)] ∧ C' = Sep w noM [R.box b3_1 27 [.int .i64 a0_0, va0_1, va0_2]]) ?_ (fun hj_1 => ?_)
 ·rintro _ _ ⟨rfl, rfl⟩
  refine Nrm.seq (Tri.cond (b := y30) rfl (fun g_1 => ?_) (fun g_1 => ?_))
  ·replace h := if_tt g_1 h
   refine Tri.seq (Tri.reg (l := [0, 1]) rfl ?_)
   refine F.qn rfl rfl rfl rfl (r_assign rfl) ?_
   refine F.qn rfl rfl rfl rfl (r_assign rfl) ?_
   refine F.nil (Nrm.seq (Tri.ret ?_))
   refine Rtn.then ?_
   cases h
   exact Rtn.body (.tmp rfl (.tmp rfl .nil)) (fun w hw => ⟨_, _, rfl, ⟨.slice none 0 0, fun _ => False, rfl, len_nil, rfl⟩, Sep.pick (is := [0]) rfl rfl hw.pushNil⟩)
  ·replace h := if_ff g_1 h
   refine Tri.skip (Nrm.seq (Tri.seq ?_))
   obtain ⟨t32, h32, h⟩ := bind_some h
   refine Tri.reg (l := [0, 1, 2, 3, 4]) rfl ?_
   refine F.qn rfl rfl rfl rfl (r_move rfl) ?_
   refine F.mn rfl rfl rfl rfl (m_callF (xs := _) rfl ok98 rfl rfl (fun w hw => impl_members.ok h32 w )) ?_
   rintro v32_1 _ ⟨_, ⟨S32_1, hl_v32_1, rfl⟩, rfl⟩
   refine F.mn rfl rfl rfl rfl (m_build0 (α := Int × Int) Try.underlying56 ti64) ?_
   rintro v33_1 _ ⟨S33_1, hl_v33_1, rfl⟩
   refine F.qn rfl rfl rfl rfl (r_assign rfl) ?_
   refine F.qn rfl rfl rfl rfl (r_assign rfl) ?_
   refine F.nil (Nrm.seq (Tri.seq (Tri.seq (Tri.reg (l := [0, 1, 2]) rfl ?_))))
   refine F.qn rfl rfl rfl rfl (r_move rfl) ?_
   refine F.qn rfl rfl rfl rfl (r_len Try.underlying25 rfl hl_v32_1) ?_
   refine F.qn rfl rfl rfl rfl (r_move rfl) ?_
   refine F.nil (Nrm.seq ?_)
   obtain ⟨x9, hE_2, h⟩ := bind_some h
   refine Tri.block ?_
   refine Tri.only [1, 2, 3, 8, 9, 34, 35, 36] rfl ?_
   refine Tri.pick [2, 0, 1] rfl rfl ?_
   refine Tri.rounds (fun n e' C' => ∃ (x9' : List (Int × Int)) (x36' : Int) (w9 : Value) (T9 : Nat → Prop), impl_GoodSwaps.l0 k a0_0 a0_1 a0_2 a1 a2 t32 n x9' x36' = some x9 ∧ SlLen w9 (x9').length ∧ e' = [(1, .int .i64 a1), (2, va2), (3, .pointer (some ⟨b3_1, 0, none⟩)), (8, v32_1), (9, w9), (34, v32_1), (35, .int .i64 (t32.length : Int)), (36, .int .i64 x36')] ∧ C' = Sep w noM [R.box b3_1 27 [.int .i64 a0_0, va0_1, va0_2], R.sl T9 w9 (x9' : List (Int × Int)), R.sl S32_1 v32_1 (t32 : List (Int))]) k ?_ ?_ ?_
   ·exact ⟨([] : List (Int × Int)), 0, v33_1, S33_1, hE_2, hl_v33_1, rfl, rfl⟩
   ·rintro _ _ ⟨_, _, _, _, hE_2, _⟩
    rw [impl_GoodSwaps.l0.eq_1] at hE_2; cases hE_2
   ·rintro n_1 _ _ ⟨x9, x36, w9, T9, hE_2, hl_w9, rfl, rfl⟩ ih_1
    rw [impl_GoodSwaps.l0.eq_2] at hE_2
    refine Tri.seq (Tri.reg (l := [0]) rfl ?_)
    refine F.qn rfl rfl rfl rfl (r_lss rfl rfl) ?_
    refine F.nil (Nrm.seq (Tri.seq (Tri.cond (b := decide (x36 < (t32.length : Int))) rfl (fun g_2 => ?_) (fun g_2 => ?_))))
    ·replace hE_2 := if_tt g_2 hE_2
     refine Tri.skip (Nrm.seq (Tri.seq (Tri.block ?_)))
     refine Tri.seq ?_
     obtain ⟨t39, h39, hE_2⟩ := bind_some hE_2
     refine Tri.reg (l := [0, 1, 2, 3, 4]) rfl ?_
     refine F.qn rfl rfl rfl rfl (r_move rfl) ?_
     refine F.qn rfl rfl rfl rfl (r_indexAddrS Try.underlying25 ti3 rfl hl_v32_1 rfl (rdl_some h39).1 (rdl_some h39).2.1) ?_
     refine F.qn rfl rfl rfl rfl (r_load ta3 rfl (fun w hw => cell_0 (Rd.flat ((rd_sl (i := 2) rfl) w hw) (rdl_some h39).2.2) rfl)) ?_
     refine F.qn rfl rfl rfl rfl (r_assign rfl) ?_
     refine F.qn rfl rfl rfl rfl (r_assign rfl) ?_
     refine F.nil (Nrm.seq (Tri.seq (Tri.reg (l := [0, 1, 2]) rfl ?_)))
     refine F.qn rfl rfl rfl rfl (r_move rfl) ?_
     refine F.qn rfl rfl rfl rfl (r_add rfl rfl) ?_
     refine F.qn rfl rfl rfl rfl (r_assign rfl) ?_
     refine F.nil (Nrm.seq ?_)
     obtain ⟨x9r, hE_3, hE_2⟩ := bind_some hE_2
     refine Tri.block ?_
     refine Tri.only [1, 2, 3, 8, 9, 10, 11, 12, 34, 35, 36] rfl ?_
     refine Tri.pick [0, 1, 2] rfl rfl ?_
     refine Tri.rounds (fun n e' C' => ∃ (x9r' : List (Int × Int)) (x12' : Int) (w9r : Value) (T9r : Nat → Prop), impl_GoodSwaps.l1 k a0_0 a0_1 a0_2 a1 a2 t32 x36 t39 n x9r' x12' = some x9r ∧ SlLen w9r (x9r').length ∧ e' = [(1, .int .i64 a1), (2, va2), (3, .pointer (some ⟨b3_1, 0, none⟩)), (8, v32_1), (9, w9r), (10, .int .i64 x36), (11, .int .i64 t39), (12, .int .i64 x12'), (34, v32_1), (35, .int .i64 (t32.length : Int)), (36, .int .i64 x36)] ∧ C' = Sep w noM [R.box b3_1 27 [.int .i64 a0_0, va0_1, va0_2], R.sl T9r w9r (x9r' : List (Int × Int)), R.sl S32_1 v32_1 (t32 : List (Int))]) k ?_ ?_ ?_
     ·exact ⟨x9, w64 (x36 + 1), w9, T9, hE_3, hl_w9, rfl, rfl⟩
     ·rintro _ _ ⟨_, _, _, _, hE_3, _⟩
      rw [impl_GoodSwaps.l1.eq_1] at hE_3; cases hE_3
     ·rintro n_2 _ _ ⟨x9r, x12, w9r, T9r, hE_3, hl_w9r, rfl, rfl⟩ ih_2
      rw [impl_GoodSwaps.l1.eq_2] at hE_3
      refine Tri.seq (Tri.seq (Tri.reg (l := [0, 1, 2, 3]) rfl ?_))
      refine F.qn rfl rfl rfl rfl (r_move rfl) ?_
      refine F.qn rfl rfl rfl rfl (r_move rfl) ?_
      refine F.qn rfl rfl rfl rfl (r_len Try.underlying25 rfl hl_v32_1) ?_
      refine F.qn rfl rfl rfl rfl (r_lss rfl rfl) ?_
      refine F.nil (Nrm.seq (Tri.cond (b := decide (x12 < (t32.length : Int))) rfl (fun g_3 => ?_) (fun g_3 => ?_)))
      ·replace hE_3 := if_tt g_3 hE_3
       refine Tri.skip (Nrm.seq (Tri.seq (Tri.block ?_)))
       refine Tri.seq ?_
       obtain ⟨t54, h54, hE_3⟩ := bind_some hE_3
       obtain ⟨t55, h55, hE_3⟩ := bind_some hE_3
       refine Tri.drawA mixedT Sep.up [(0, true), (1, true), (2, true), (3, true), (4, true), (5, false), (6, true), (7, true)] [] (by kernel_rfl) ?_
       refine S.qn rfl rfl rfl rfl (r_loadA ta27 ti27 rfl rfl (fun w hw => (box_cells (i := 0) rfl w hw))) ?_
       iterate 4 refine S.qn rfl rfl rfl rfl (r_move rfl) ?_
       refine S.m rfl rfl rfl (wanted_none rfl) (m_callF (xs := _) rfl ok115 rfl rfl (fun w hw => impl_swapped.ok h54 w ((fun _ hw => hr_a2.sep hw) w hw))) ?_
       rintro v54_2 _ ⟨_, ⟨S54_2, hl_v54_2, rfl⟩, rfl⟩
       refine S.qcn rfl rfl rfl rfl (q_callF (xs := _) rfl ok90 rfl rfl (fun w hw => impl_depth.ok h55 w ((fun _ hw => hr_a0_1.sep hw) w hw) ((fun _ hw => hr_a0_2.sep hw) w hw) ((rd_sl (i := 0) rfl) w hw))) ?_
       refine S.qn rfl rfl rfl rfl (r_gtr rfl rfl) ?_
       refine S.nil (F.nil (Nrm.seq ?_))
       obtain ⟨y9, hE_4, hE_3⟩ := bind_some hE_3
       refine Tri.cut (fun e' C' => ∃ (v9_1 : Value) (S9_1 : Nat → Prop), SlLen v9_1 (y9).length ∧ e' = [(1, .int .i64 a1), (2, va2), (3, .pointer (some ⟨b3_1, 0, none⟩)), (8, v32_1), (9, v9_1), (10, .int .i64 x36), (11, .int .i64 t39), (12, .int .i64 x12), (34, v32_1), (35, .int .i64 (t32.length : Int)), (36, .int .i64 x36)] ∧ C' = Sep w noM [R.box b3_1 27 [.int .i64 a0_0, va0_1, va0_2], R.sl S9_1 v9_1 (y9 : List (Int × Int)), R.sl S32_1 v32_1 (t32 : List (Int))]) ?_ (fun hj_2 => ?_)
       ·rintro _ _ ⟨v9_1, S9_1, hl_v9_1, rfl, rfl⟩
        refine Nrm.block ?_
        refine Nrm.seq (Tri.reg (l := [0, 1, 2]) rfl ?_)
        refine F.qn rfl rfl rfl rfl (r_move rfl) ?_
        refine F.qn rfl rfl rfl rfl (r_add rfl rfl) ?_
        refine F.qn rfl rfl rfl rfl (r_assign rfl) ?_
        refine F.nil (Nrm.round ?_)
        refine Rnd.only [1, 2, 3, 8, 9, 10, 11, 12, 34, 35, 36] rfl ?_
        refine Rnd.pick [0, 1, 2] rfl rfl ?_
        exact ih_2 _ _ ⟨y9, w64 (x12 + 1), v9_1, S9_1, hE_3, hl_v9_1, rfl, rfl⟩
       ·refine Tri.cond (b := decide (t55 > 0)) rfl (fun g_4 => ?_) (fun g_4 => ?_)
        ·replace hE_4 := if_tt g_4 hE_4
         obtain ⟨t61, h61, hE_4⟩ := bind_some hE_4
         obtain ⟨hs65, hE_4⟩ := ck hE_4
         refine Tri.reg (l := [0, 1, 2, 3, 4, 5, 6, 7, 8, 9]) rfl ?_
         iterate 4 refine F.qn rfl rfl rfl rfl (r_move rfl) ?_
         refine F.qn rfl rfl rfl rfl (r_indexAddrS Try.underlying25 ti3 rfl hl_v32_1 rfl (rdl_some h61).1 (rdl_some h61).2.1) ?_
         refine F.qn rfl rfl rfl rfl (r_load ta3 rfl (fun w hw => cell_0 (Rd.flat ((rd_sl (i := 3) rfl) w hw) (rdl_some h61).2.2) rfl)) ?_
         refine F.qn rfl rfl rfl rfl (r_buildA (qs := [(0, [.int .i64 t39]), (1, [.int .i64 t61])]) (cs := [.int .i64 t39, .int .i64 t61]) Try.underlying64 ti3 ti64 rfl (.cons rfl rfl (Nat.le_of_ble_eq_true rfl) (.cons rfl rfl (Nat.le_of_ble_eq_true rfl) .nil)) rfl rfl) ?_
         refine F.mn rfl rfl rfl rfl (m_buildF (l := ([(t39, t61)] : List (Int × Int))) Try.underlying56 ti64 rfl rfl rfl rfl rfl) ?_
         rintro v64_1 _ ⟨S64_1, hl_v64_1, rfl⟩
         refine F.efn rfl rfl rfl rfl (d_append (i := 3) Try.underlying56 Try.underlying56 ti64 rfl (by decide) rfl rfl rfl (rd_sl (i := 0) rfl) hs65) ?_
         rintro v65_1 _ ⟨S65_1, rfl, hl_v65_1⟩
         refine F.qn rfl rfl rfl rfl (r_assign rfl) ?_
         refine F.nil ?_
         cases hE_4
         refine Nrm.only [1, 2, 3, 8, 9, 10, 11, 12, 34, 35, 36] rfl ?_
         refine Nrm.pick [2, 3, 4] rfl rfl ?_
         exact hj_2 _ _ ⟨v65_1, S65_1, hl_v65_1, rfl, rfl⟩
        ·replace hE_4 := if_ff g_4 hE_4
         refine Tri.skip ?_
         cases hE_4
         refine Nrm.only [1, 2, 3, 8, 9, 10, 11, 12, 34, 35, 36] rfl ?_
         refine Nrm.pick [1, 2, 3] rfl rfl ?_
         exact hj_2 _ _ ⟨w9r, T9r, hl_w9r, rfl, rfl⟩
      ·replace hE_3 := if_ff g_3 hE_3
       refine Tri.exit ?_
       refine Exi.then ?_
       refine Exi.then ?_
       refine Exi.same ?_
       cases hE_3
       refine Nrm.block ?_
       refine Nrm.seq (Tri.reg (l := [0, 1]) rfl ?_)
       refine F.qn rfl rfl rfl rfl (r_add rfl rfl) ?_
       refine F.qn rfl rfl rfl rfl (r_move rfl) ?_
       refine F.nil (Nrm.round ?_)
       refine Rnd.only [1, 2, 3, 8, 9, 34, 35, 36] rfl ?_
       refine Rnd.pick [0, 1, 2] rfl rfl ?_
       exact ih_1 _ _ ⟨x9r, w64 (x36 + 1), w9r, T9r, hE_2, hl_w9r, rfl, rfl⟩
    ·replace hE_2 := if_ff g_2 hE_2
     refine Tri.exit ?_
     refine Exi.then ?_
     refine Exi.then ?_
     refine Exi.same ?_
     cases hE_2
     refine Nrm.seq (Tri.seq (Tri.reg (l := [0, 1, 2]) rfl ?_))
     refine F.qn rfl rfl rfl rfl (r_move rfl) ?_
     refine F.qn rfl rfl rfl rfl (r_assign rfl) ?_
     refine F.qn rfl rfl rfl rfl (r_assign rfl) ?_
     refine F.nil (Nrm.seq (Tri.ret ?_))
     cases h
     exact Rtn.body (.tmp rfl (.tmp rfl .nil)) (fun w hw => ⟨_, _, rfl, ⟨w9, T9, rfl, hl_w9, rfl⟩, Sep.pick (is := [1]) rfl rfl hw⟩)
 ·obtain ⟨t15, h15, hE_1⟩ := bind_some hE_1
  rcases Bool.eq_false_or_eq_true (!t15) with g17 | g17
  ·replace hE_1 := if_tt g17 hE_1
   refine Tri.reg (l := List.range 18) rfl ?_
   refine F.qn rfl rfl rfl rfl (r_loadA ta27 ti27 rfl rfl (fun w hw => (box_cells (i := 0) rfl w hw))) ?_
   refine F.qn rfl rfl rfl rfl (r_move rfl) ?_
   refine F.qcn rfl rfl rfl rfl (q_callF (xs := _) rfl ok102 rfl rfl (fun w hw => impl_asked.ok h15 w ((fun _ hw => hr_a0_1.sep hw) w hw) ((fun _ hw => hr_a0_2.sep hw) w hw))) ?_
   refine F.qn rfl rfl rfl rfl (r_not rfl) ?_
   refine F.qn rfl rfl rfl rfl (r_move rfl) ?_
   iterate 5 refine F.sk rfl rfl rfl (wf rfl rfl rfl g17) ?_
   refine F.qn rfl rfl rfl rfl (r_pick rfl rfl g17) ?_
   refine F.qn rfl rfl rfl rfl (r_move rfl) ?_
   iterate 5 refine F.sk rfl rfl rfl (wf rfl rfl rfl rfl) ?_
   refine F.qn rfl rfl rfl rfl (r_pick rfl rfl rfl) ?_
   refine F.nil ?_
   cases hE_1
   refine Nrm.only [1, 2, 3, 30] rfl ?_
   refine Nrm.pick [0] rfl rfl ?_
   exact hj_1 _ _ ⟨rfl, rfl⟩
  ·replace hE_1 := if_ff g17 hE_1
   obtain ⟨t21, h21, hE_1⟩ := bind_some hE_1
   rcases Bool.eq_false_or_eq_true (!t21) with g24 | g24
   ·replace hE_1 := if_tt g24 hE_1
    refine Tri.reg (l := List.range 18) rfl ?_
    refine F.qn rfl rfl rfl rfl (r_loadA ta27 ti27 rfl rfl (fun w hw => (box_cells (i := 0) rfl w hw))) ?_
    refine F.qn rfl rfl rfl rfl (r_move rfl) ?_
    refine F.qcn rfl rfl rfl rfl (q_callF (xs := _) rfl ok102 rfl rfl (fun w hw => impl_asked.ok h15 w ((fun _ hw => hr_a0_1.sep hw) w hw) ((fun _ hw => hr_a0_2.sep hw) w hw))) ?_
    refine F.qn rfl rfl rfl rfl (r_not rfl) ?_
    refine F.qn rfl rfl rfl rfl (r_move rfl) ?_
    refine F.qg rfl rfl rfl rfl rfl rfl g17 (r_loadA ta27 ti27 rfl rfl (fun w hw => (box_cells (i := 0) rfl w hw))) ?_
    refine F.qg rfl rfl rfl rfl rfl rfl g17 (r_move rfl) ?_
    refine F.qg rfl rfl rfl rfl rfl rfl g17 (r_move rfl) ?_
    refine F.qc rfl rfl rfl (wg rfl rfl rfl g17) (q_callF (xs := _) rfl ok103 rfl rfl (fun w hw => impl_isFilling.ok h21 w ((fun _ hw => hr_a0_1.sep hw) w hw) ((fun _ hw => hr_a0_2.sep hw) w hw) ((fun _ hw => hr_a2.sep hw) w hw))) ?_
    refine F.qg rfl rfl rfl rfl rfl rfl g17 (r_not rfl) ?_
    refine F.qn rfl rfl rfl rfl (r_pickf rfl rfl g17) ?_
    refine F.qn rfl rfl rfl rfl (r_move rfl) ?_
    iterate 5 refine F.sk rfl rfl rfl (wf rfl rfl rfl g24) ?_
    refine F.qn rfl rfl rfl rfl (r_pick rfl rfl g24) ?_
    refine F.nil ?_
    cases hE_1
    refine Nrm.only [1, 2, 3, 30] rfl ?_
    refine Nrm.pick [0] rfl rfl ?_
    exact hj_1 _ _ ⟨rfl, rfl⟩
   ·replace hE_1 := if_ff g24 hE_1
    obtain ⟨t28, h28, hE_1⟩ := bind_some hE_1
    refine Tri.reg (l := List.range 18) rfl ?_
    refine F.qn rfl rfl rfl rfl (r_loadA ta27 ti27 rfl rfl (fun w hw => (box_cells (i := 0) rfl w hw))) ?_
    refine F.qn rfl rfl rfl rfl (r_move rfl) ?_
    refine F.qcn rfl rfl rfl rfl (q_callF (xs := _) rfl ok102 rfl rfl (fun w hw => impl_asked.ok h15 w ((fun _ hw => hr_a0_1.sep hw) w hw) ((fun _ hw => hr_a0_2.sep hw) w hw))) ?_
    refine F.qn rfl rfl rfl rfl (r_not rfl) ?_
    refine F.qn rfl rfl rfl rfl (r_move rfl) ?_
    refine F.qg rfl rfl rfl rfl rfl rfl g17 (r_loadA ta27 ti27 rfl rfl (fun w hw => (box_cells (i := 0) rfl w hw))) ?_
    refine F.qg rfl rfl rfl rfl rfl rfl g17 (r_move rfl) ?_
    refine F.qg rfl rfl rfl rfl rfl rfl g17 (r_move rfl) ?_
    refine F.qc rfl rfl rfl (wg rfl rfl rfl g17) (q_callF (xs := _) rfl ok103 rfl rfl (fun w hw => impl_isFilling.ok h21 w ((fun _ hw => hr_a0_1.sep hw) w hw) ((fun _ hw => hr_a0_2.sep hw) w hw) ((fun _ hw => hr_a2.sep hw) w hw))) ?_
    refine F.qg rfl rfl rfl rfl rfl rfl g17 (r_not rfl) ?_
    refine F.qn rfl rfl rfl rfl (r_pickf rfl rfl g17) ?_
    refine F.qn rfl rfl rfl rfl (r_move rfl) ?_
    refine F.qg rfl rfl rfl rfl rfl rfl g24 (r_loadA ta27 ti27 rfl rfl (fun w hw => (box_cells (i := 0) rfl w hw))) ?_
    refine F.qg rfl rfl rfl rfl rfl rfl g24 (r_move rfl) ?_
    refine F.qg rfl rfl rfl rfl rfl rfl g24 (r_move rfl) ?_
    refine F.qc rfl rfl rfl (wg rfl rfl rfl g24) (q_callF (xs := _) rfl ok90 rfl rfl (fun w hw => impl_depth.ok h28 w ((fun _ hw => hr_a0_1.sep hw) w hw) ((fun _ hw => hr_a0_2.sep hw) w hw) ((fun _ hw => hr_a2.sep hw) w hw))) ?_
    refine F.qg rfl rfl rfl rfl rfl rfl g24 (r_eql rfl rfl) ?_
    refine F.qn rfl rfl rfl rfl (r_pickf rfl rfl g24) ?_
    refine F.nil ?_
    cases hE_1
    refine Nrm.only [1, 2, 3, 30] rfl ?_
    refine Nrm.pick [0] rfl rfl ?_
    exact hj_1 _ _ ⟨rfl, rfl⟩


def spec_l9Place.l0 (k : Nat) (a0 : List Int) (a1 : Int) : Nat → Int → Option (Int)
 | 0, _ => none
 | n + 1, x5 => (rdl a0 x5).bind fun t8 => (if (t8 != a1) = true then spec_l9Place.l0 k a0 a1 n (w64 (x5 + 1)) else some x5)

def spec_l9Place.f (k : Nat) (a0 : List Int) (a1 : Int) : Option (Int) := (spec_l9Place.l0 k a0 a1 k 0).bind fun x5 => some x5

theorem spec_l9Place.ok {k : Nat}  {a0 : List Int} {a1 : Int} {r0 : Int} (h : spec_l9Place.f k a0 a1 = some r0) (w : World) {va0 : Value} (hr_a0 : Rd w va0 a0) :
  Calls Try.prog 100 ([va0, .int .i64 a1] : List Value).toArray w (fun e w' => e = .returned (.int .i64 r0) ∧ Ext w w') := by
 unfold spec_l9Place.f at h
 have hl_va0 := hr_a0.len
 refine Calls.of_tri (N := 15) Try.func100 rfl rfl rfl (Sep.nil (M := noM)) ?_
 refine Tri.seq (Tri.reg (l := [0]) rfl ?_)
 refine F.qn rfl rfl rfl rfl (r_assign rfl) ?_
 refine F.nil (Nrm.seq (Tri.seq (Tri.reg (l := [0]) rfl ?_)))
 refine F.qn rfl rfl rfl rfl (r_assign rfl) ?_
 refine F.nil (Nrm.seq (Tri.seq ?_))
 obtain ⟨x5, hE_1, h⟩ := bind_some h
 refine Tri.block ?_
 refine Tri.only [0, 1, 5] rfl ?_
 refine Tri.pick [] rfl rfl ?_
 refine Tri.rounds (fun n e' C' => ∃ (x5' : Int), spec_l9Place.l0 k a0 a1 n x5' = some x5 ∧ e' = [(0, va0), (1, .int .i64 a1), (5, .int .i64 x5')] ∧ C' = Sep w noM []) k ?_ ?_ ?_
 ·exact ⟨0, hE_1, rfl, rfl⟩
 ·rintro _ _ ⟨_, hE_1, _⟩
  rw [spec_l9Place.l0.eq_1] at hE_1; cases hE_1
 ·rintro n_1 _ _ ⟨x5, hE_1, rfl, rfl⟩ ih_1
  rw [spec_l9Place.l0.eq_2] at hE_1
  refine Tri.seq (Tri.seq ?_)
  obtain ⟨t8, h8, hE_1⟩ := bind_some hE_1
  refine Tri.reg (l := [0, 1, 2, 3, 4, 5]) rfl ?_
  refine F.qn rfl rfl rfl rfl (r_move rfl) ?_
  refine F.qn rfl rfl rfl rfl (r_move rfl) ?_
  refine F.qn rfl rfl rfl rfl (r_indexAddrS Try.underlying25 ti3 rfl hl_va0 rfl (rdl_some h8).1 (rdl_some h8).2.1) ?_
  refine F.qn rfl rfl rfl rfl (r_load ta3 rfl (fun w hw => cell_0 (Rd.flat ((fun _ hw => hr_a0.sep hw) w hw) (rdl_some h8).2.2) rfl)) ?_
  refine F.qn rfl rfl rfl rfl (r_move rfl) ?_
  refine F.qn rfl rfl rfl rfl (r_neq rfl rfl) ?_
  refine F.nil (Nrm.seq (Tri.cond (b := t8 != a1) rfl (fun g_1 => ?_) (fun g_1 => ?_)))
  ·replace hE_1 := if_tt g_1 hE_1
   refine Tri.skip (Nrm.seq (Tri.block ?_))
   refine Tri.reg (l := [0, 1, 2]) rfl ?_
   refine F.qn rfl rfl rfl rfl (r_move rfl) ?_
   refine F.qn rfl rfl rfl rfl (r_add rfl rfl) ?_
   refine F.qn rfl rfl rfl rfl (r_assign rfl) ?_
   refine F.nil (Nrm.block ?_)
   refine Nrm.round ?_
   refine Rnd.only [0, 1, 5] rfl ?_
   refine Rnd.pick [] rfl rfl ?_
   exact ih_1 _ _ ⟨w64 (x5 + 1), hE_1, rfl, rfl⟩
  ·replace hE_1 := if_ff g_1 hE_1
   refine Tri.exit ?_
   refine Exi.then ?_
   refine Exi.then ?_
   refine Exi.same ?_
   cases hE_1
   refine Nrm.seq (Tri.seq (Tri.reg (l := [0, 1]) rfl ?_))
   refine F.qn rfl rfl rfl rfl (r_move rfl) ?_
   refine F.qn rfl rfl rfl rfl (r_assign rfl) ?_
   refine F.nil (Nrm.seq (Tri.ret ?_))
   cases h
   exact Rtn.body (.tmp rfl .nil) (fun w hw => ⟨rfl, hw.ext⟩)


def spec_l9Swap.f (k : Nat) (a0 : Int) (a1 : List Int) (a2 : Int) (a3 : Int) : Option ((List Int)) := (spec_l1Own.f k a1).bind fun t14 => (spec_l2Colours.f k a0).bind fun t16 => (spec_l9Place.f k t16 a2).bind fun t19 => (spec_l9Place.f k t16 a3).bind fun t22 => (rdl a1 t22).bind fun t27 => (rdl t14 t19).bind fun t29 => (rdl a1 t19).bind fun t34 => (rdl (t14.set t19.toNat t27) t22).bind fun t36 => some ((t14.set t19.toNat t27).set t22.toNat t34)

theorem spec_l9Swap.ok {k : Nat}  {a0 : Int} {a1 : List Int} {a2 : Int} {a3 : Int} {r0 : List Int} (h : spec_l9Swap.f k a0 a1 a2 a3 = some r0) (w : World) {va1 : Value} (hr_a1 : Rd w va1 a1) :
  Calls Try.prog 116 ([.int .i64 a0, va1, .int .i64 a2, .int .i64 a3] : List Value).toArray w (Post (fun u ns => ∃ (Sr0 : Nat → Prop), SlLen u r0.length ∧ ns = [R.sl Sr0 u r0]) w) := by
 unfold spec_l9Swap.f at h
 have hl_va1 := hr_a1.len
 refine Calls.of_tri (N := 38) Try.func116 rfl rfl rfl (Sep.nil (M := noM)) ?_
 refine Tri.seq (Tri.reg (l := [0]) rfl ?_)
 refine F.qn rfl rfl rfl rfl (r_assign rfl) ?_
 refine F.nil (Nrm.seq (Tri.seq ?_))
 obtain ⟨t14, h14, h⟩ := bind_some h
 obtain ⟨t16, h16, h⟩ := bind_some h
 refine Tri.reg (l := [0, 1, 2, 3, 4, 5]) rfl ?_
 refine F.qn rfl rfl rfl rfl (r_move rfl) ?_
 refine F.mn rfl rfl rfl rfl (m_callF (xs := _) rfl ok183 rfl rfl (fun w hw => spec_l1Own.ok h14 w ((fun _ hw => hr_a1.sep hw) w hw))) ?_
 rintro v14_1 _ ⟨_, ⟨S14_1, hl_v14_1, rfl⟩, rfl⟩
 refine F.qn rfl rfl rfl rfl (r_move rfl) ?_
 refine F.mn rfl rfl rfl rfl (m_callF (xs := _) rfl ok94 rfl rfl (fun w hw => spec_l2Colours.ok h16 w )) ?_
 rintro v16_1 _ ⟨_, ⟨S16_1, hl_v16_1, rfl⟩, rfl⟩
 refine F.qn rfl rfl rfl rfl (r_assign rfl) ?_
 refine F.qn rfl rfl rfl rfl (r_assign rfl) ?_
 refine F.nil (Nrm.seq (Tri.seq ?_))
 obtain ⟨t19, h19, h⟩ := bind_some h
 obtain ⟨t22, h22, h⟩ := bind_some h
 refine Tri.reg (l := [0, 1, 2, 3, 4, 5, 6, 7]) rfl ?_
 refine F.qn rfl rfl rfl rfl (r_move rfl) ?_
 refine F.qn rfl rfl rfl rfl (r_move rfl) ?_
 refine F.qcn rfl rfl rfl rfl (q_callF (xs := _) rfl ok100 rfl rfl (fun w hw => spec_l9Place.ok h19 w ((rd_sl (i := 0) rfl) w hw))) ?_
 refine F.qn rfl rfl rfl rfl (r_move rfl) ?_
 refine F.qn rfl rfl rfl rfl (r_move rfl) ?_
 refine F.qcn rfl rfl rfl rfl (q_callF (xs := _) rfl ok100 rfl rfl (fun w hw => spec_l9Place.ok h22 w ((rd_sl (i := 0) rfl) w hw))) ?_
 refine F.qn rfl rfl rfl rfl (r_assign rfl) ?_
 refine F.qn rfl rfl rfl rfl (r_assign rfl) ?_
 refine F.nil (Nrm.seq (Tri.seq ?_))
 obtain ⟨t27, h27, h⟩ := bind_some h
 obtain ⟨t29, h29, h⟩ := bind_some h
 refine Tri.reg (l := [0, 1, 2, 3, 4, 5, 6, 7]) rfl ?_
 iterate 4 refine F.qn rfl rfl rfl rfl (r_move rfl) ?_
 refine F.qn rfl rfl rfl rfl (r_indexAddrS Try.underlying25 ti3 rfl hl_va1 rfl (rdl_some h27).1 (rdl_some h27).2.1) ?_
 refine F.qn rfl rfl rfl rfl (r_load ta3 rfl (fun w hw => cell_0 (Rd.flat ((fun _ hw => hr_a1.sep hw) w hw) (rdl_some h27).2.2) rfl)) ?_
 refine F.qn rfl rfl rfl rfl (r_indexAddrS Try.underlying25 ti3 rfl hl_v14_1 rfl (rdl_some h29).1 (rdl_some h29).2.1) ?_
 refine F.ef0 rfl rfl (wanted_none rfl) (d_storeE (i := 1) (x1 := t27) ti3 rfl rfl rfl (rdl_some h29) rfl) ?_
 rintro _ _ ⟨rfl, rfl⟩
 refine F.nil (Nrm.seq (Tri.seq ?_))
 obtain ⟨t34, h34, h⟩ := bind_some h
 obtain ⟨t36, h36, h⟩ := bind_some h
 refine Tri.reg (l := [0, 1, 2, 3, 4, 5, 6, 7]) rfl ?_
 iterate 4 refine F.qn rfl rfl rfl rfl (r_move rfl) ?_
 refine F.qn rfl rfl rfl rfl (r_indexAddrS Try.underlying25 ti3 rfl hl_va1 rfl (rdl_some h34).1 (rdl_some h34).2.1) ?_
 refine F.qn rfl rfl rfl rfl (r_load ta3 rfl (fun w hw => cell_0 (Rd.flat ((fun _ hw => hr_a1.sep hw) w hw) (rdl_some h34).2.2) rfl)) ?_
 refine F.qn rfl rfl rfl rfl (r_indexAddrS Try.underlying25 ti3 rfl (len_set hl_v14_1) rfl (rdl_some h36).1 (rdl_some h36).2.1) ?_
 refine F.ef0 rfl rfl (wanted_none rfl) (d_storeE (i := 1) (x1 := t34) ti3 rfl rfl rfl (rdl_some h36) rfl) ?_
 rintro _ _ ⟨rfl, rfl⟩
 refine F.nil (Nrm.seq (Tri.seq (Tri.reg (l := [0, 1]) rfl ?_)))
 refine F.qn rfl rfl rfl rfl (r_move rfl) ?_
 refine F.qn rfl rfl rfl rfl (r_assign rfl) ?_
 refine F.nil (Nrm.seq (Tri.ret ?_))
 cases h
 exact Rtn.body (.tmp rfl .nil) (fun w hw => ⟨_, _, rfl, ⟨S14_1, (len_set (len_set hl_v14_1)), rfl⟩, Sep.pick (is := [1]) rfl rfl hw⟩)


def spec_GoodSwaps.l1 (k : Nat) (a0_0 : Int) (a0_1 : List (Int × Int × Int)) (a0_2 : List Int) (a1 : Int) (a2 : List Int) (t27 : List Int) (x10 : Int) : Nat → (List (Int × Int)) → Int → Option ((List (Int × Int)))
 | 0, _, _ => none
 | n + 1, x8r, x11 => (if (decide (x11 < (t27.length : Int))) = true then (rdl t27 x10).bind fun t48 => (rdl t27 x11).bind fun t52 => (spec_l9Swap.f k a1 a2 t48 t52).bind fun t54 => (spec_l9Depth.f k a0_0 a0_1 a0_2 a1 t54).bind fun t55 => ((if (decide (t55 > 0)) = true then (rdl t27 x10).bind fun t60 => (rdl t27 x11).bind fun t64 => if (x8r ++ ([(t60, t64)] : List (Int × Int))).length < 1099511627776 then some (x8r ++ ([(t60, t64)] : List (Int × Int))) else none else some x8r)).bind fun y8 => spec_GoodSwaps.l1 k a0_0 a0_1 a0_2 a1 a2 t27 x10 n y8 (w64 (x11 + 1)) else some x8r)

def spec_GoodSwaps.l0 (k : Nat) (a0_0 : Int) (a0_1 : List (Int × Int × Int)) (a0_2 : List Int) (a1 : Int) (a2 : List Int) (t27 : List Int) : Nat → (List (Int × Int)) → Int → Option ((List (Int × Int)))
 | 0, _, _ => none
 | n + 1, x8, x10 => (if (decide (x10 < (t27.length : Int))) = true then (spec_GoodSwaps.l1 k a0_0 a0_1 a0_2 a1 a2 t27 x10 k x8 (w64 (x10 + 1))).bind fun x8r => spec_GoodSwaps.l0 k a0_0 a0_1 a0_2 a1 a2 t27 n x8r (w64 (x10 + 1)) else some x8)

def spec_GoodSwaps.f (k : Nat) (a0_0 : Int) (a0_1 : List (Int × Int × Int)) (a0_2 : List Int) (a1 : Int) (a2 : List Int) : Option ((List (Int × Int)) × Bool) := ((spec_l9Good.f k a0_0 a0_1 a0_2 a1 a2).bind fun t16 => (if (!t16) = true then some true else (spec_l9Depth.f k a0_0 a0_1 a0_2 a1 a2).bind fun t22 => some (t22 == 0))).bind fun y24 => (if y24 = true then some (([] : List (Int × Int)), false) else (spec_l2Colours.f k a1).bind fun t27 => (spec_GoodSwaps.l0 k a0_0 a0_1 a0_2 a1 a2 t27 k ([] : List (Int × Int)) 0).bind fun x8 => some (x8, true))

theorem spec_GoodSwaps.ok {k : Nat}  {a0_0 : Int} {a0_1 : List (Int × Int × Int)} {a0_2 : List Int} {a1 : Int} {a2 : List Int} {r0 : List (Int × Int)} {r1 : Bool} (h : spec_GoodSwaps.f k a0_0 a0_1 a0_2 a1 a2 = some (r0, r1)) (w : World) {va0_1 : Value} {va0_2 : Value} {va2 : Value} (hr_a0_1 : Rd w va0_1 a0_1) (hr_a0_2 : Rd w va0_2 a0_2) (hr_a2 : Rd w va2 a2) :
  Calls Try.prog 38 ([.agg ([.int .i64 a0_0, va0_1, va0_2].toArray), .int .i64 a1, va2] : List Value).toArray w (Post (fun u ns => ∃ (ur0 : Value) (Sr0 : Nat → Prop), u = .tuple #[ur0, .bool r1] ∧ SlLen ur0 r0.length ∧ ns = [R.sl Sr0 ur0 r0]) w) := by
 unfold spec_GoodSwaps.f at h
 have hl_va0_1 := hr_a0_1.len
 have hl_va0_2 := hr_a0_2.len
 have hl_va2 := hr_a2.len
 refine Calls.of_tri (N := 70) Try.func38 rfl rfl rfl (Sep.nil (M := noM)) ?_
 refine Tri.seq (Tri.reg (l := [0, 1, 2]) rfl ?_)
 refine F.mn rfl rfl rfl rfl (m_boxG rfl rfl) ?_
 rintro _ _ ⟨b3_1, rfl, rfl⟩
 refine F.qn rfl rfl rfl rfl (r_assign rfl) ?_
 refine F.qn rfl rfl rfl rfl (r_assign rfl) ?_
 refine F.nil (Nrm.seq (Tri.seq (Tri.reg (l := [0, 1]) rfl ?_)))
 refine F.mn rfl rfl rfl rfl (m_build0 (α := Int × Int) Try.underlying56 ti64) ?_
 rintro v12_1 _ ⟨S12_1, hl_v12_1, rfl⟩
 refine F.qn rfl rfl rfl rfl (r_assign rfl) ?_
 refine F.nil (Nrm.seq (Tri.seq (Tri.seq ?_)))
 obtain ⟨y24, hE_1, h⟩ := bind_some h
 refine Tri.cut (fun e' C' => e' = [(1, .int .i64 a1), (2, va2), (3, .pointer (some ⟨b3_1, 0, none⟩)), (8, v12_1), (24, .bool y24)] ∧ C' = Sep w noM [R.box b3_1 27 [.int .i64 a0_0, va0_1, va0_2], R.sl S12_1 v12_1 (([] : List (Int × Int)) : List (Int × Int))]) ?_ (fun hj_1 => ?_)
 ·rintro _ _ ⟨rfl, rfl⟩
  refine Nrm.seq (Tri.cond (b := y24) rfl (fun g_1 => ?_) (fun g_1 => ?_))
  ·replace h := if_tt g_1 h
   refine Tri.seq (Tri.reg (l := [0, 1, 2]) rfl ?_)
   refine F.qn rfl rfl rfl rfl (r_move rfl) ?_
   refine F.qn rfl rfl rfl rfl (r_assign rfl) ?_
   refine F.qn rfl rfl rfl rfl (r_assign rfl) ?_
   refine F.nil (Nrm.seq (Tri.ret ?_))
   refine Rtn.then ?_
   cases h
   exact Rtn.body (.tmp rfl (.tmp rfl .nil)) (fun w hw => ⟨_, _, rfl, ⟨v12_1, S12_1, rfl, hl_v12_1, rfl⟩, Sep.pick (is := [1]) rfl rfl hw⟩)
  ·replace h := if_ff g_1 h
   refine Tri.skip (Nrm.seq (Tri.seq ?_))
   obtain ⟨t27, h27, h⟩ := bind_some h
   refine Tri.reg (l := [0, 1, 2]) rfl ?_
   refine F.qn rfl rfl rfl rfl (r_move rfl) ?_
   refine F.mn rfl rfl rfl rfl (m_callF (xs := _) rfl ok94 rfl rfl (fun w hw => spec_l2Colours.ok h27 w )) ?_
   rintro v27_1 _ ⟨_, ⟨S27_1, hl_v27_1, rfl⟩, rfl⟩
   refine F.qn rfl rfl rfl rfl (r_assign rfl) ?_
   refine F.nil (Nrm.seq (Tri.seq (Tri.seq (Tri.reg (l := [0]) rfl ?_))))
   refine F.qn rfl rfl rfl rfl (r_assign rfl) ?_
   refine F.nil (Nrm.seq ?_)
   obtain ⟨x8, hE_2, h⟩ := bind_some h
   refine Tri.block ?_
   refine Tri.only [1, 2, 3, 8, 9, 10] rfl ?_
   refine Tri.pick [1, 0, 2] rfl rfl ?_
   refine Tri.rounds (fun n e' C' => ∃ (x8' : List (Int × Int)) (x10' : Int) (w8 : Value) (T8 : Nat → Prop), spec_GoodSwaps.l0 k a0_0 a0_1 a0_2 a1 a2 t27 n x8' x10' = some x8 ∧ SlLen w8 (x8').length ∧ e' = [(1, .int .i64 a1), (2, va2), (3, .pointer (some ⟨b3_1, 0, none⟩)), (8, w8), (9, v27_1), (10, .int .i64 x10')] ∧ C' = Sep w noM [R.box b3_1 27 [.int .i64 a0_0, va0_1, va0_2], R.sl S27_1 v27_1 (t27 : List (Int)), R.sl T8 w8 (x8' : List (Int × Int))]) k ?_ ?_ ?_
   ·exact ⟨([] : List (Int × Int)), 0, v12_1, S12_1, hE_2, hl_v12_1, rfl, rfl⟩
   ·rintro _ _ ⟨_, _, _, _, hE_2, _⟩
    rw [spec_GoodSwaps.l0.eq_1] at hE_2; cases hE_2
   ·rintro n_1 _ _ ⟨x8, x10, w8, T8, hE_2, hl_w8, rfl, rfl⟩ ih_1
    rw [spec_GoodSwaps.l0.eq_2] at hE_2
    refine Tri.seq (Tri.seq (Tri.reg (l := [0, 1, 2, 3]) rfl ?_))
    refine F.qn rfl rfl rfl rfl (r_move rfl) ?_
    refine F.qn rfl rfl rfl rfl (r_move rfl) ?_
    refine F.qn rfl rfl rfl rfl (r_len Try.underlying25 rfl hl_v27_1) ?_
    refine F.qn rfl rfl rfl rfl (r_lss rfl rfl) ?_
    refine F.nil (Nrm.seq (Tri.cond (b := decide (x10 < (t27.length : Int))) rfl (fun g_2 => ?_) (fun g_2 => ?_)))
    ·replace hE_2 := if_tt g_2 hE_2
     refine Tri.skip (Nrm.seq (Tri.seq (Tri.block ?_)))
     refine Tri.seq (Tri.reg (l := [0, 1, 2]) rfl ?_)
     refine F.qn rfl rfl rfl rfl (r_move rfl) ?_
     refine F.qn rfl rfl rfl rfl (r_add rfl rfl) ?_
     refine F.qn rfl rfl rfl rfl (r_assign rfl) ?_
     refine F.nil (Nrm.seq ?_)
     obtain ⟨x8r, hE_3, hE_2⟩ := bind_some hE_2
     refine Tri.block ?_
     refine Tri.only [1, 2, 3, 8, 9, 10, 11] rfl ?_
     refine Tri.pick [0, 1, 2] rfl rfl ?_
     refine Tri.rounds (fun n e' C' => ∃ (x8r' : List (Int × Int)) (x11' : Int) (w8r : Value) (T8r : Nat → Prop), spec_GoodSwaps.l1 k a0_0 a0_1 a0_2 a1 a2 t27 x10 n x8r' x11' = some x8r ∧ SlLen w8r (x8r').length ∧ e' = [(1, .int .i64 a1), (2, va2), (3, .pointer (some ⟨b3_1, 0, none⟩)), (8, w8r), (9, v27_1), (10, .int .i64 x10), (11, .int .i64 x11')] ∧ C' = Sep w noM [R.box b3_1 27 [.int .i64 a0_0, va0_1, va0_2], R.sl S27_1 v27_1 (t27 : List (Int)), R.sl T8r w8r (x8r' : List (Int × Int))]) k ?_ ?_ ?_
     ·exact ⟨x8, w64 (x10 + 1), w8, T8, hE_3, hl_w8, rfl, rfl⟩
     ·rintro _ _ ⟨_, _, _, _, hE_3, _⟩
      rw [spec_GoodSwaps.l1.eq_1] at hE_3; cases hE_3
     ·rintro n_2 _ _ ⟨x8r, x11, w8r, T8r, hE_3, hl_w8r, rfl, rfl⟩ ih_2
      rw [spec_GoodSwaps.l1.eq_2] at hE_3
      refine Tri.seq (Tri.seq (Tri.reg (l := [0, 1, 2, 3]) rfl ?_))
      refine F.qn rfl rfl rfl rfl (r_move rfl) ?_
      refine F.qn rfl rfl rfl rfl (r_move rfl) ?_
      refine F.qn rfl rfl rfl rfl (r_len Try.underlying25 rfl hl_v27_1) ?_
      refine F.qn rfl rfl rfl rfl (r_lss rfl rfl) ?_
      refine F.nil (Nrm.seq (Tri.cond (b := decide (x11 < (t27.length : Int))) rfl (fun g_3 => ?_) (fun g_3 => ?_)))
      ·replace hE_3 := if_tt g_3 hE_3
       refine Tri.skip (Nrm.seq (Tri.seq (Tri.block ?_)))
       refine Tri.seq ?_
       obtain ⟨t48, h48, hE_3⟩ := bind_some hE_3
       obtain ⟨t52, h52, hE_3⟩ := bind_some hE_3
       obtain ⟨t54, h54, hE_3⟩ := bind_some hE_3
       obtain ⟨t55, h55, hE_3⟩ := bind_some hE_3
       refine Tri.drawA mixedT Sep.up [(0, true), (1, true), (2, true), (3, true), (4, true), (5, true), (6, true), (7, true), (8, true), (9, true), (10, true), (11, true), (12, false), (13, true), (14, true)] [] (by kernel_rfl) ?_
       refine S.qn rfl rfl rfl rfl (r_loadA ta27 ti27 rfl rfl (fun w hw => (box_cells (i := 0) rfl w hw))) ?_
       iterate 5 refine S.qn rfl rfl rfl rfl (r_move rfl) ?_
       refine S.qn rfl rfl rfl rfl (r_indexAddrS Try.underlying25 ti3 rfl hl_v27_1 rfl (rdl_some h48).1 (rdl_some h48).2.1) ?_
       refine S.qn rfl rfl rfl rfl (r_load ta3 rfl (fun w hw => cell_0 (Rd.flat ((rd_sl (i := 1) rfl) w hw) (rdl_some h48).2.2) rfl)) ?_
       refine S.qn rfl rfl rfl rfl (r_move rfl) ?_
       refine S.qn rfl rfl rfl rfl (r_move rfl) ?_
       refine S.qn rfl rfl rfl rfl (r_indexAddrS Try.underlying25 ti3 rfl hl_v27_1 rfl (rdl_some h52).1 (rdl_some h52).2.1) ?_
       refine S.qn rfl rfl rfl rfl (r_load ta3 rfl (fun w hw => cell_0 (Rd.flat ((rd_sl (i := 1) rfl) w hw) (rdl_some h52).2.2) rfl)) ?_
       refine S.m rfl rfl rfl (wanted_none rfl) (m_callF (xs := _) rfl ok116 rfl rfl (fun w hw => spec_l9Swap.ok h54 w ((fun _ hw => hr_a2.sep hw) w hw))) ?_
       rintro v54_2 _ ⟨_, ⟨S54_2, hl_v54_2, rfl⟩, rfl⟩
       refine S.qcn rfl rfl rfl rfl (q_callF (xs := _) rfl ok91 rfl rfl (fun w hw => spec_l9Depth.ok h55 w ((fun _ hw => hr_a0_1.sep hw) w hw) ((fun _ hw => hr_a0_2.sep hw) w hw) ((rd_sl (i := 0) rfl) w hw))) ?_
       refine S.qn rfl rfl rfl rfl (r_gtr rfl rfl) ?_
       refine S.nil (F.nil (Nrm.seq ?_))
       obtain ⟨y8, hE_4, hE_3⟩ := bind_some hE_3
       refine Tri.cut (fun e' C' => ∃ (v8_1 : Value) (S8_1 : Nat → Prop), SlLen v8_1 (y8).length ∧ e' = [(1, .int .i64 a1), (2, va2), (3, .pointer (some ⟨b3_1, 0, none⟩)), (8, v8_1), (9, v27_1), (10, .int .i64 x10), (11, .int .i64 x11)] ∧ C' = Sep w noM [R.box b3_1 27 [.int .i64 a0_0, va0_1, va0_2], R.sl S8_1 v8_1 (y8 : List (Int × Int)), R.sl S27_1 v27_1 (t27 : List (Int))]) ?_ (fun hj_2 => ?_)
       ·rintro _ _ ⟨v8_1, S8_1, hl_v8_1, rfl, rfl⟩
        refine Nrm.block ?_
        refine Nrm.seq (Tri.reg (l := [0, 1, 2]) rfl ?_)
        refine F.qn rfl rfl rfl rfl (r_move rfl) ?_
        refine F.qn rfl rfl rfl rfl (r_add rfl rfl) ?_
        refine F.qn rfl rfl rfl rfl (r_assign rfl) ?_
        refine F.nil (Nrm.round ?_)
        refine Rnd.only [1, 2, 3, 8, 9, 10, 11] rfl ?_
        refine Rnd.pick [0, 2, 1] rfl rfl ?_
        exact ih_2 _ _ ⟨y8, w64 (x11 + 1), v8_1, S8_1, hE_3, hl_v8_1, rfl, rfl⟩
       ·refine Tri.cond (b := decide (t55 > 0)) rfl (fun g_4 => ?_) (fun g_4 => ?_)
        ·replace hE_4 := if_tt g_4 hE_4
         obtain ⟨t60, h60, hE_4⟩ := bind_some hE_4
         obtain ⟨t64, h64, hE_4⟩ := bind_some hE_4
         obtain ⟨hs68, hE_4⟩ := ck hE_4
         refine Tri.drawA mixedT Sep.up [(0, true), (1, true), (2, true), (3, true), (4, true), (5, true), (6, true), (7, true), (8, true), (9, true), (10, false)] [11, 12] (by kernel_rfl) ?_
         iterate 3 refine S.qn rfl rfl rfl rfl (r_move rfl) ?_
         refine S.qn rfl rfl rfl rfl (r_indexAddrS Try.underlying25 ti3 rfl hl_v27_1 rfl (rdl_some h60).1 (rdl_some h60).2.1) ?_
         refine S.qn rfl rfl rfl rfl (r_load ta3 rfl (fun w hw => cell_0 (Rd.flat ((rd_sl (i := 2) rfl) w hw) (rdl_some h60).2.2) rfl)) ?_
         refine S.qn rfl rfl rfl rfl (r_move rfl) ?_
         refine S.qn rfl rfl rfl rfl (r_move rfl) ?_
         refine S.qn rfl rfl rfl rfl (r_indexAddrS Try.underlying25 ti3 rfl hl_v27_1 rfl (rdl_some h64).1 (rdl_some h64).2.1) ?_
         refine S.qn rfl rfl rfl rfl (r_load ta3 rfl (fun w hw => cell_0 (Rd.flat ((rd_sl (i := 2) rfl) w hw) (rdl_some h64).2.2) rfl)) ?_
         refine S.qn rfl rfl rfl rfl (r_buildA (qs := [(0, [.int .i64 t60]), (1, [.int .i64 t64])]) (cs := [.int .i64 t60, .int .i64 t64]) Try.underlying64 ti3 ti64 rfl (.cons rfl rfl (Nat.le_of_ble_eq_true rfl) (.cons rfl rfl (Nat.le_of_ble_eq_true rfl) .nil)) rfl rfl) ?_
         refine S.m rfl rfl rfl (wanted_none rfl) (m_buildF (l := ([(t60, t64)] : List (Int × Int))) Try.underlying56 ti64 rfl rfl rfl rfl rfl) ?_
         rintro v67_2 _ ⟨S67_2, hl_v67_2, rfl⟩
         refine S.nil (F.efn rfl rfl rfl rfl (d_append (i := 4) Try.underlying56 Try.underlying56 ti64 rfl (by decide) rfl rfl rfl (rd_sl (i := 0) rfl) hs68) ?_)
         rintro v68_2 _ ⟨S68_2, rfl, hl_v68_2⟩
         refine F.qn rfl rfl rfl rfl (r_assign rfl) ?_
         refine F.nil ?_
         cases hE_4
         refine Nrm.only [1, 2, 3, 8, 9, 10, 11] rfl ?_
         refine Nrm.pick [2, 4, 3] rfl rfl ?_
         exact hj_2 _ _ ⟨v68_2, S68_2, hl_v68_2, rfl, rfl⟩
        ·replace hE_4 := if_ff g_4 hE_4
         refine Tri.skip ?_
         cases hE_4
         refine Nrm.only [1, 2, 3, 8, 9, 10, 11] rfl ?_
         refine Nrm.pick [1, 3, 2] rfl rfl ?_
         exact hj_2 _ _ ⟨w8r, T8r, hl_w8r, rfl, rfl⟩
      ·replace hE_3 := if_ff g_3 hE_3
       refine Tri.exit ?_
       refine Exi.then ?_
       refine Exi.then ?_
       refine Exi.same ?_
       cases hE_3
       refine Nrm.block ?_
       refine Nrm.seq (Tri.reg (l := [0, 1, 2]) rfl ?_)
       refine F.qn rfl rfl rfl rfl (r_move rfl) ?_
       refine F.qn rfl rfl rfl rfl (r_add rfl rfl) ?_
       refine F.qn rfl rfl rfl rfl (r_assign rfl) ?_
       refine F.nil (Nrm.round ?_)
       refine Rnd.only [1, 2, 3, 8, 9, 10] rfl ?_
       refine Rnd.pick [0, 1, 2] rfl rfl ?_
       exact ih_1 _ _ ⟨x8r, w64 (x10 + 1), w8r, T8r, hE_2, hl_w8r, rfl, rfl⟩
    ·replace hE_2 := if_ff g_2 hE_2
     refine Tri.exit ?_
     refine Exi.then ?_
     refine Exi.then ?_
     refine Exi.same ?_
     cases hE_2
     refine Nrm.seq (Tri.seq (Tri.reg (l := [0, 1, 2]) rfl ?_))
     refine F.qn rfl rfl rfl rfl (r_move rfl) ?_
     refine F.qn rfl rfl rfl rfl (r_assign rfl) ?_
     refine F.qn rfl rfl rfl rfl (r_assign rfl) ?_
     refine F.nil (Nrm.seq (Tri.ret ?_))
     cases h
     exact Rtn.body (.tmp rfl (.tmp rfl .nil)) (fun w hw => ⟨_, _, rfl, ⟨w8, T8, rfl, hl_w8, rfl⟩, Sep.pick (is := [2]) rfl rfl hw⟩)
 ·obtain ⟨t16, h16, hE_1⟩ := bind_some hE_1
  rcases Bool.eq_false_or_eq_true (!t16) with g18 | g18
  ·replace hE_1 := if_tt g18 hE_1
   refine Tri.reg (l := List.range 12) rfl ?_
   refine F.qn rfl rfl rfl rfl (r_loadA ta27 ti27 rfl rfl (fun w hw => (box_cells (i := 1) rfl w hw))) ?_
   refine F.qn rfl rfl rfl rfl (r_move rfl) ?_
   refine F.qn rfl rfl rfl rfl (r_move rfl) ?_
   refine F.qcn rfl rfl rfl rfl (q_callF (xs := _) rfl ok113 rfl rfl (fun w hw => spec_l9Good.ok h16 w ((fun _ hw => hr_a0_1.sep hw) w hw) ((fun _ hw => hr_a0_2.sep hw) w hw) ((fun _ hw => hr_a2.sep hw) w hw))) ?_
   refine F.qn rfl rfl rfl rfl (r_not rfl) ?_
   refine F.qn rfl rfl rfl rfl (r_move rfl) ?_
   iterate 5 refine F.sk rfl rfl rfl (wf rfl rfl rfl g18) ?_
   refine F.qn rfl rfl rfl rfl (r_pick rfl rfl g18) ?_
   refine F.nil ?_
   cases hE_1
   refine Nrm.only [1, 2, 3, 8, 24] rfl ?_
   refine Nrm.pick [1, 0] rfl rfl ?_
   exact hj_1 _ _ ⟨rfl, rfl⟩
  ·replace hE_1 := if_ff g18 hE_1
   obtain ⟨t22, h22, hE_1⟩ := bind_some hE_1
   refine Tri.reg (l := List.range 12) rfl ?_
   refine F.qn rfl rfl rfl rfl (r_loadA ta27 ti27 rfl rfl (fun w hw => (box_cells (i := 1) rfl w hw))) ?_
   refine F.qn rfl rfl rfl rfl (r_move rfl) ?_
   refine F.qn rfl rfl rfl rfl (r_move rfl) ?_
   refine F.qcn rfl rfl rfl rfl (q_callF (xs := _) rfl ok113 rfl rfl (fun w hw => spec_l9Good.ok h16 w ((fun _ hw => hr_a0_1.sep hw) w hw) ((fun _ hw => hr_a0_2.sep hw) w hw) ((fun _ hw => hr_a2.sep hw) w hw))) ?_
   refine F.qn rfl rfl rfl rfl (r_not rfl) ?_
   refine F.qn rfl rfl rfl rfl (r_move rfl) ?_
   refine F.qg rfl rfl rfl rfl rfl rfl g18 (r_loadA ta27 ti27 rfl rfl (fun w hw => (box_cells (i := 1) rfl w hw))) ?_
   refine F.qg rfl rfl rfl rfl rfl rfl g18 (r_move rfl) ?_
   refine F.qg rfl rfl rfl rfl rfl rfl g18 (r_move rfl) ?_
   refine F.qc rfl rfl rfl (wg rfl rfl rfl g18) (q_callF (xs := _) rfl ok91 rfl rfl (fun w hw => spec_l9Depth.ok h22 w ((fun _ hw => hr_a0_1.sep hw) w hw) ((fun _ hw => hr_a0_2.sep hw) w hw) ((fun _ hw => hr_a2.sep hw) w hw))) ?_
   refine F.qg rfl rfl rfl rfl rfl rfl g18 (r_eql rfl rfl) ?_
   refine F.qn rfl rfl rfl rfl (r_pickf rfl rfl g18) ?_
   refine F.nil ?_
   cases hE_1
   refine Nrm.only [1, 2, 3, 8, 24] rfl ?_
   refine Nrm.pick [1, 0] rfl rfl ?_
   exact hj_1 _ _ ⟨rfl, rfl⟩


def impl_IsFilling.f (k : Nat) (a0_0 : Int) (a0_1 : List (Int × Int × Int)) (a0_2 : List Int) (a1 : Int) (a2 : List Int) : Option (Bool × Bool) := (impl_asked.f k a0_0 a0_1 a0_2 a1).bind fun t10 => (if (!t10) = true then some (false, false) else (impl_isFilling.f k a0_0 a0_1 a0_2 a1 a2).bind fun t15 => some (t15, true))

theorem impl_IsFilling.ok {k : Nat}  {a0_0 : Int} {a0_1 : List (Int × Int × Int)} {a0_2 : List Int} {a1 : Int} {a2 : List Int} {r0 : Bool} {r1 : Bool} (h : impl_IsFilling.f k a0_0 a0_1 a0_2 a1 a2 = some (r0, r1)) (w : World) {va0_1 : Value} {va0_2 : Value} {va2 : Value} (hr_a0_1 : Rd w va0_1 a0_1) (hr_a0_2 : Rd w va0_2 a0_2) (hr_a2 : Rd w va2 a2) :
  Calls Try.prog 39 ([.agg ([.int .i64 a0_0, va0_1, va0_2].toArray), .int .i64 a1, va2] : List Value).toArray w (fun e w' => e = .returned (.tuple #[.bool r0, .bool r1]) ∧ Ext w w') := by
 unfold impl_IsFilling.f at h
 have hl_va0_1 := hr_a0_1.len
 have hl_va0_2 := hr_a0_2.len
 have hl_va2 := hr_a2.len
 refine Calls.of_tri (N := 16) Try.func39 rfl rfl rfl (Sep.nil (M := noM)) ?_
 refine Tri.seq (Tri.reg (l := [0, 1, 2]) rfl ?_)
 refine F.mn rfl rfl rfl rfl (m_boxG rfl rfl) ?_
 rintro _ _ ⟨b3_1, rfl, rfl⟩
 refine F.qn rfl rfl rfl rfl (r_assign rfl) ?_
 refine F.qn rfl rfl rfl rfl (r_assign rfl) ?_
 refine F.nil (Nrm.seq (Tri.seq (Tri.seq ?_)))
 obtain ⟨t10, h10, h⟩ := bind_some h
 refine Tri.reg (l := [0, 1, 2, 3]) rfl ?_
 refine F.qn rfl rfl rfl rfl (r_loadA ta27 ti27 rfl rfl (fun w hw => (box_cells (i := 0) rfl w hw))) ?_
 refine F.qn rfl rfl rfl rfl (r_move rfl) ?_
 refine F.qcn rfl rfl rfl rfl (q_callF (xs := _) rfl ok102 rfl rfl (fun w hw => impl_asked.ok h10 w ((fun _ hw => hr_a0_1.sep hw) w hw) ((fun _ hw => hr_a0_2.sep hw) w hw))) ?_
 refine F.qn rfl rfl rfl rfl (r_not rfl) ?_
 refine F.nil (Nrm.seq (Tri.cond (b := !t10) rfl (fun g_1 => ?_) (fun g_1 => ?_)))
 ·replace h := if_tt g_1 h
  refine Tri.seq (Tri.reg (l := [0, 1]) rfl ?_)
  refine F.qn rfl rfl rfl rfl (r_assign rfl) ?_
  refine F.qn rfl rfl rfl rfl (r_assign rfl) ?_
  refine F.nil (Nrm.seq (Tri.ret ?_))
  refine Rtn.then ?_
  cases h
  exact Rtn.body (.tmp rfl (.tmp rfl .nil)) (fun w hw => ⟨rfl, hw.ext⟩)
 ·replace h := if_ff g_1 h
  refine Tri.skip (Nrm.seq (Tri.seq ?_))
  obtain ⟨t15, h15, h⟩ := bind_some h
  refine Tri.reg (l := [0, 1, 2, 3, 4, 5]) rfl ?_
  refine F.qn rfl rfl rfl rfl (r_loadA ta27 ti27 rfl rfl (fun w hw => (box_cells (i := 0) rfl w hw))) ?_
  refine F.qn rfl rfl rfl rfl (r_move rfl) ?_
  refine F.qn rfl rfl rfl rfl (r_move rfl) ?_
  refine F.qcn rfl rfl rfl rfl (q_callF (xs := _) rfl ok103 rfl rfl (fun w hw => impl_isFilling.ok h15 w ((fun _ hw => hr_a0_1.sep hw) w hw) ((fun _ hw => hr_a0_2.sep hw) w hw) ((fun _ hw => hr_a2.sep hw) w hw))) ?_
  refine F.qn rfl rfl rfl rfl (r_assign rfl) ?_
  refine F.qn rfl rfl rfl rfl (r_assign rfl) ?_
  refine F.nil (Nrm.seq (Tri.ret ?_))
  cases h
  exact Rtn.body (.tmp rfl (.tmp rfl .nil)) (fun w hw => ⟨rfl, hw.ext⟩)


def spec_IsFilling.f (k : Nat) (a0_0 : Int) (a0_1 : List (Int × Int × Int)) (a0_2 : List Int) (a1 : Int) (a2 : List Int) : Option (Bool × Bool) := (spec_l9Ask.f k a0_0 a0_1 a0_2 a1).bind fun t10 => (if (!t10) = true then some (false, false) else (spec_l9Filling.f k a0_0 a0_1 a0_2 a1 a2).bind fun t15 => some (t15, true))

theorem spec_IsFilling.ok {k : Nat}  {a0_0 : Int} {a0_1 : List (Int × Int × Int)} {a0_2 : List Int} {a1 : Int} {a2 : List Int} {r0 : Bool} {r1 : Bool} (h : spec_IsFilling.f k a0_0 a0_1 a0_2 a1 a2 = some (r0, r1)) (w : World) {va0_1 : Value} {va0_2 : Value} {va2 : Value} (hr_a0_1 : Rd w va0_1 a0_1) (hr_a0_2 : Rd w va0_2 a0_2) (hr_a2 : Rd w va2 a2) :
  Calls Try.prog 40 ([.agg ([.int .i64 a0_0, va0_1, va0_2].toArray), .int .i64 a1, va2] : List Value).toArray w (fun e w' => e = .returned (.tuple #[.bool r0, .bool r1]) ∧ Ext w w') := by
 unfold spec_IsFilling.f at h
 have hl_va0_1 := hr_a0_1.len
 have hl_va0_2 := hr_a0_2.len
 have hl_va2 := hr_a2.len
 refine Calls.of_tri (N := 16) Try.func40 rfl rfl rfl (Sep.nil (M := noM)) ?_
 refine Tri.seq (Tri.reg (l := [0, 1, 2]) rfl ?_)
 refine F.mn rfl rfl rfl rfl (m_boxG rfl rfl) ?_
 rintro _ _ ⟨b3_1, rfl, rfl⟩
 refine F.qn rfl rfl rfl rfl (r_assign rfl) ?_
 refine F.qn rfl rfl rfl rfl (r_assign rfl) ?_
 refine F.nil (Nrm.seq (Tri.seq (Tri.seq ?_)))
 obtain ⟨t10, h10, h⟩ := bind_some h
 refine Tri.reg (l := [0, 1, 2, 3]) rfl ?_
 refine F.qn rfl rfl rfl rfl (r_loadA ta27 ti27 rfl rfl (fun w hw => (box_cells (i := 0) rfl w hw))) ?_
 refine F.qn rfl rfl rfl rfl (r_move rfl) ?_
 refine F.qcn rfl rfl rfl rfl (q_callF (xs := _) rfl ok117 rfl rfl (fun w hw => spec_l9Ask.ok h10 w ((fun _ hw => hr_a0_1.sep hw) w hw) ((fun _ hw => hr_a0_2.sep hw) w hw))) ?_
 refine F.qn rfl rfl rfl rfl (r_not rfl) ?_
 refine F.nil (Nrm.seq (Tri.cond (b := !t10) rfl (fun g_1 => ?_) (fun g_1 => ?_)))
 ·replace h := if_tt g_1 h
  refine Tri.seq (Tri.reg (l := [0, 1]) rfl ?_)
  refine F.qn rfl rfl rfl rfl (r_assign rfl) ?_
  refine F.qn rfl rfl rfl rfl (r_assign rfl) ?_
  refine F.nil (Nrm.seq (Tri.ret ?_))
  refine Rtn.then ?_
  cases h
  exact Rtn.body (.tmp rfl (.tmp rfl .nil)) (fun w hw => ⟨rfl, hw.ext⟩)
 ·replace h := if_ff g_1 h
  refine Tri.skip (Nrm.seq (Tri.seq ?_))
  obtain ⟨t15, h15, h⟩ := bind_some h
  refine Tri.reg (l := [0, 1, 2, 3, 4, 5]) rfl ?_
  refine F.qn rfl rfl rfl rfl (r_loadA ta27 ti27 rfl rfl (fun w hw => (box_cells (i := 0) rfl w hw))) ?_
  refine F.qn rfl rfl rfl rfl (r_move rfl) ?_
  refine F.qn rfl rfl rfl rfl (r_move rfl) ?_
  refine F.qcn rfl rfl rfl rfl (q_callF (xs := _) rfl ok118 rfl rfl (fun w hw => spec_l9Filling.ok h15 w ((fun _ hw => hr_a0_1.sep hw) w hw) ((fun _ hw => hr_a0_2.sep hw) w hw) ((fun _ hw => hr_a2.sep hw) w hw))) ?_
  refine F.qn rfl rfl rfl rfl (r_assign rfl) ?_
  refine F.qn rfl rfl rfl rfl (r_assign rfl) ?_
  refine F.nil (Nrm.seq (Tri.ret ?_))
  cases h
  exact Rtn.body (.tmp rfl (.tmp rfl .nil)) (fun w hw => ⟨rfl, hw.ext⟩)


def spec_DrawSwapFilling.f (k : Nat) (a0 : List By) : Option (Int × (List (Int × Int × Int)) × (List Int) × Int × (List Int) × Int × Int) := (spec_DrawFillingWins.f k a0).bind fun (t17_1, t17_2, t17_3, t17_4, t17_5) => ((spec_l2Set.f k t17_4).bind fun t22 => (if t22 = true then (spec_l2Many.f k t17_4).bind fun t25 => (if (decide (t25 > 1)) = true then (spec_l1Cur_one.f k a0 0 0 10).bind fun (t30_1, t30_2, t30_3) => some (!t30_1, t30_2, t30_3) else some (false, 0, 0)) else some (false, 0, 0))).bind fun (y32, yb14_1_1, yb14_1_2) => (if y32 = true then (spec_l2Colours.f k t17_4).bind fun t34 => ((spec_l1Cur_pick.f k a0 yb14_1_1 yb14_1_2 (t34.length : Int)).bind fun (t42_1, t42_2, t42_3) => (rdl t34 t42_1).bind fun t43 => (spec_l1Cur_pick.f k a0 t42_2 t42_3 (t34.length : Int)).bind fun (t49_1, t49_2, t49_3) => (rdl t34 t49_1).bind fun t50 => some (t17_4, t43, t50, t17_1)).bind fun (y3, y5, y6, yb2_1_0) => some (yb2_1_0, t17_2, t17_3, y3, t17_5, y5, y6) else ((spec_l1Cur_pick.f k a0 yb14_1_1 yb14_1_2 6).bind fun (t56_1, t56_2, t56_3) => (spec_l1Cur_among.f k a0 t56_2 t56_3 ([0, 1, 6, (-1)] : List (Int))).bind fun (t59_1, t59_2, t59_3) => some (t17_4, t56_1, t59_1, t17_1)).bind fun (y3r, y5r, y6r, yb2_1_0r) => some (yb2_1_0r, t17_2, t17_3, y3r, t17_5, y5r, y6r))

theorem spec_DrawSwapFilling.ok {k : Nat}  {a0 : List By} {r0 : Int} {r1 : List (Int × Int × Int)} {r2 : List Int} {r3 : Int} {r4 : List Int} {r5 : Int} {r6 : Int} (h : spec_DrawSwapFilling.f k a0 = some (r0, r1, r2, r3, r4, r5, r6)) (w : World) {va0 : Value} (hr_a0 : Rd w va0 a0) :
  Calls Try.prog 41 ([va0] : List Value).toArray w (Post (fun u ns => ∃ (ur1 : Value) (Sr1 : Nat → Prop) (ur2 : Value) (Sr2 : Nat → Prop) (ur4 : Value) (Sr4 : Nat → Prop), u = .tuple #[.agg [.int .i64 r0, ur1, ur2].toArray, .int .i64 r3, ur4, .int .i64 r5, .int .i64 r6] ∧ SlLen ur1 r1.length ∧ SlLen ur2 r2.length ∧ SlLen ur4 r4.length ∧ ns = [R.sl Sr1 ur1 r1, R.sl Sr2 ur2 r2, R.sl Sr4 ur4 r4]) w) := by
 unfold spec_DrawSwapFilling.f at h
 have hl_va0 := hr_a0.len
 refine Calls.of_tri (N := 60) Try.func41 rfl rfl rfl (Sep.nil (M := noM)) ?_
 refine Tri.seq (Tri.reg (l := [0, 1, 2, 3, 4]) rfl ?_)
 refine F.mn rfl rfl rfl rfl (m_alloc ti27) ?_
 rintro _ _ ⟨b2_1, rfl, rfl⟩
 iterate 4 refine F.qn rfl rfl rfl rfl (r_assign rfl) ?_
 refine F.nil (Nrm.seq (Tri.seq (Tri.reg (l := [0, 1, 2, 3]) rfl ?_)))
 refine F.qn rfl rfl rfl rfl (r_move rfl) ?_
 refine F.qn rfl rfl rfl rfl (r_build (pl := [(0, 1), (1, 1), (2, 1)]) (qs := [(0, [va0])]) (cs := [va0, .int .i64 0, .int .u64 0]) (by kernel_rfl) ti100 rfl (.cons (sl_cells hl_va0) rfl (Nat.le_of_ble_eq_true rfl) .nil) rfl rfl) ?_
 refine F.mn rfl rfl rfl rfl (m_boxG rfl rfl) ?_
 rintro _ _ ⟨b14_1, rfl, rfl⟩
 refine F.qn rfl rfl rfl rfl (r_assign rfl) ?_
 refine F.nil (Nrm.seq (Tri.seq ?_))
 obtain ⟨⟨t17_1, t17_2, t17_3, t17_4, t17_5⟩, h17, h⟩ := bind_some h
 refine Tri.reg (l := [0, 1, 2, 3, 4, 5, 6, 7, 8, 9]) rfl ?_
 refine F.qn rfl rfl rfl rfl (r_move rfl) ?_
 refine F.mn rfl rfl rfl rfl (m_callF (xs := _) rfl ok33 rfl rfl (fun w hw => spec_DrawFillingWins.ok h17 w ((fun _ hw => hr_a0.sep hw) w hw))) ?_
 rintro _ _ ⟨_, ⟨v17_1, S17_1, v17_2, S17_2, v17_3, S17_3, rfl, hl_v17_1, hl_v17_2, hl_v17_3, rfl⟩, rfl⟩
 refine F.qn rfl rfl rfl rfl (r_move rfl) ?_
 iterate 3 refine F.qn rfl rfl rfl rfl (r_extract rfl rfl) ?_
 refine F.mn rfl rfl rfl rfl (m_alloc ti27) ?_
 rintro _ _ ⟨b8_1, rfl, rfl⟩
 refine F.ef0 rfl rfl (wanted_none rfl) (d_storeG0 (i := 0) (cs2 := [.int .i64 t17_1, v17_1, v17_2]) ti27 rfl rfl rfl rfl rfl (Nat.le_of_ble_eq_true rfl) (lf_cons rfl (lf_cons (sl_leaf hl_v17_1) (lf_cons (sl_leaf hl_v17_2) lf_nil)))) ?_
 rintro _ _ ⟨rfl, rfl⟩
 refine F.qn rfl rfl rfl rfl (r_assign rfl) ?_
 refine F.qn rfl rfl rfl rfl (r_assign rfl) ?_
 refine F.nil (Nrm.seq (Tri.seq (Tri.seq ?_)))
 obtain ⟨⟨y32, yb14_1_1, yb14_1_2⟩, hE_1, h⟩ := bind_some h
 refine Tri.cut (fun e' C' => e' = [(2, .pointer (some ⟨b2_1, 0, none⟩)), (7, .pointer (some ⟨b14_1, 0, none⟩)), (8, .pointer (some ⟨b8_1, 0, none⟩)), (9, .int .i64 t17_4), (10, v17_3), (32, .bool y32)] ∧ C' = Sep w noM [R.box b14_1 100 [va0, .int .i64 yb14_1_1, .int .u64 yb14_1_2], R.box b8_1 27 [.int .i64 t17_1, v17_1, v17_2], R.box b2_1 27 [.int .i64 0, .slice none 0 0, .slice none 0 0], R.sl S17_1 v17_1 (t17_2 : List (Int × Int × Int)), R.sl S17_2 v17_2 (t17_3 : List (Int)), R.sl S17_3 v17_3 (t17_5 : List (Int))]) ?_ (fun hj_1 => ?_)
 ·rintro _ _ ⟨rfl, rfl⟩
  refine Nrm.seq (Tri.cond (b := y32) rfl (fun g_1 => ?_) (fun g_1 => ?_))
  ·replace h := if_tt g_1 h
   refine Tri.seq ?_
   obtain ⟨t34, h34, h⟩ := bind_some h
   refine Tri.reg (l := [0, 1, 2]) rfl ?_
   refine F.qn rfl rfl rfl rfl (r_move rfl) ?_
   refine F.mn rfl rfl rfl rfl (m_callF (xs := _) rfl ok94 rfl rfl (fun w hw => spec_l2Colours.ok h34 w )) ?_
   rintro v34_1 _ ⟨_, ⟨S34_1, hl_v34_1, rfl⟩, rfl⟩
   refine F.qn rfl rfl rfl rfl (r_assign rfl) ?_
   refine F.nil (Nrm.seq (Tri.seq ?_))
   obtain ⟨⟨y3, y5, y6, yb2_1_0⟩, hE_2, h⟩ := bind_some h
   refine Tri.cut (fun e' C' => e' = [(2, .pointer (some ⟨b2_1, 0, none⟩)), (3, .int .i64 y3), (4, v17_3), (5, .int .i64 y5), (6, .int .i64 y6)] ∧ C' = Sep w noM [R.box b2_1 27 [.int .i64 yb2_1_0, v17_1, v17_2], R.sl S17_1 v17_1 (t17_2 : List (Int × Int × Int)), R.sl S17_2 v17_2 (t17_3 : List (Int)), R.sl S17_3 v17_3 (t17_5 : List (Int))]) ?_ (fun hj_2 => ?_)
   ·rintro _ _ ⟨rfl, rfl⟩
    refine Nrm.seq (Tri.ret ?_)
    refine Rtn.then ?_
    cases h
    exact Rtn.body (.cell rfl ta27 ti27 rfl (fun _ hw => box_cells (i := 0) rfl _ hw) (.tmp rfl (.tmp rfl (.tmp rfl (.tmp rfl .nil))))) (fun w hw => ⟨_, _, rfl, ⟨v17_1, S17_1, v17_2, S17_2, v17_3, S17_3, rfl, hl_v17_1, hl_v17_2, hl_v17_3, rfl⟩, Sep.pick (is := [1, 2, 3]) rfl rfl hw⟩)
   ·obtain ⟨⟨t42_1, t42_2, t42_3⟩, h42, hE_2⟩ := bind_some hE_2
    obtain ⟨t43, h43, hE_2⟩ := bind_some hE_2
    obtain ⟨⟨t49_1, t49_2, t49_3⟩, h49, hE_2⟩ := bind_some hE_2
    obtain ⟨t50, h50, hE_2⟩ := bind_some hE_2
    refine Tri.drawTK (B := Sep w noM [R.sl S34_1 v34_1 (t34 : List (Int)), R.box b8_1 27 [.int .i64 t17_1, v17_1, v17_2], R.sl S17_1 v17_1 (t17_2 : List (Int × Int × Int)), R.sl S17_2 v17_2 (t17_3 : List (Int)), R.sl S17_3 v17_3 (t17_5 : List (Int))]) mixedT Sep.up [0, 1, 2, 3, 4, 5, 6, 10, 11, 12, 13, 7, 8, 9, 14, 15, 16, 17, 18, 19, 20] [21] (.q 0 (.q 1 (.q 2 (.q 3 (.q 4 (.q 5 (.q 6 (.q 10 (.q 11 (.q 12 (.q 13 (.alt 7 (.q 8 (.q 9 (.alt 14 (.q 15 (.q 16 (.alt 17 (.q 18 (.q 19 (.q 20 .nil))) .stop))) .stop))) .stop)))))))))))) (by kernel_rfl) ?_
    refine TK.q [0, 2, 4, 5, 6] rfl rfl rfl rfl rfl (wanted_none rfl) (r_loadA ta27 ti27 rfl rfl (fun w hw => (box_cells (i := 1) rfl w hw))) ?_
    iterate 5 refine TK.q [0, 2, 4, 5, 6] rfl rfl rfl rfl rfl (wanted_none rfl) (r_move rfl) ?_
    refine TK.q [0, 2, 4, 5, 6] rfl rfl rfl rfl rfl (wanted_none rfl) (r_len Try.underlying25 rfl hl_v34_1) ?_
    iterate 3 refine TK.q [0, 2, 4, 5, 6] rfl rfl rfl rfl rfl (wanted_none rfl) (r_move rfl) ?_
    refine TK.q [0, 2, 4, 5, 6] rfl rfl rfl rfl rfl (wanted_none rfl) (r_len Try.underlying25 rfl hl_v34_1) ?_
    refine T.ef rfl rfl rfl (wanted_none rfl) (d_callM (xs := _) (cs := [R.box b14_1 100 [va0, .int .i64 yb14_1_1, .int .u64 yb14_1_2]]) (rest := [R.sl S34_1 v34_1 (t34 : List (Int)), R.box b8_1 27 [.int .i64 t17_1, v17_1, v17_2], R.box b2_1 27 [.int .i64 0, .slice none 0 0, .slice none 0 0], R.sl S17_1 v17_1 (t17_2 : List (Int × Int × Int)), R.sl S17_2 v17_2 (t17_3 : List (Int)), R.sl S17_3 v17_3 (t17_5 : List (Int))]) [1] [0, 2, 3, 4, 5, 6] rfl ok95 rfl rfl rfl rfl (fun w hw => spec_l1Cur_pick.ok h42 w (hr_a0.down hw) (Sep.sub hw))) (by rintro _ _ ⟨_, ⟨rfl, rfl⟩, rfl⟩; exact upd rfl [1, 2, 4, 5, 6] rfl rfl) ?_ ?_
    ·rintro _ _ ⟨_, ⟨rfl, rfl⟩, rfl⟩
     refine TK.q [1, 2, 4, 5, 6] rfl rfl rfl rfl rfl (wanted_none rfl) (r_indexAddrS Try.underlying25 ti3 rfl hl_v34_1 rfl (rdl_some h43).1 (rdl_some h43).2.1) ?_
     refine TK.q [1, 2, 4, 5, 6] rfl rfl rfl rfl rfl (wanted_none rfl) (r_load ta3 rfl (fun w hw => cell_0 (Rd.flat ((rd_sl (i := 0) rfl) w hw) (rdl_some h43).2.2) rfl)) ?_
     refine T.ef rfl rfl rfl (wanted_none rfl) (d_callM (xs := _) (cs := [R.box b14_1 100 [va0, .int .i64 t42_2, .int .u64 t42_3]]) (rest := [R.sl S34_1 v34_1 (t34 : List (Int)), R.box b8_1 27 [.int .i64 t17_1, v17_1, v17_2], R.box b2_1 27 [.int .i64 0, .slice none 0 0, .slice none 0 0], R.sl S17_1 v17_1 (t17_2 : List (Int × Int × Int)), R.sl S17_2 v17_2 (t17_3 : List (Int)), R.sl S17_3 v17_3 (t17_5 : List (Int))]) [0] [1, 2, 3, 4, 5, 6] rfl ok95 rfl rfl rfl rfl (fun w hw => spec_l1Cur_pick.ok h49 w (hr_a0.down hw) (Sep.sub hw))) (by rintro _ _ ⟨_, ⟨rfl, rfl⟩, rfl⟩; exact upd rfl [1, 2, 4, 5, 6] rfl rfl) ?_ ?_
     ·rintro _ _ ⟨_, ⟨rfl, rfl⟩, rfl⟩
      refine TK.q [1, 2, 4, 5, 6] rfl rfl rfl rfl rfl (wanted_none rfl) (r_indexAddrS Try.underlying25 ti3 rfl hl_v34_1 rfl (rdl_some h50).1 (rdl_some h50).2.1) ?_
      refine TK.q [1, 2, 4, 5, 6] rfl rfl rfl rfl rfl (wanted_none rfl) (r_load ta3 rfl (fun w hw => cell_0 (Rd.flat ((rd_sl (i := 0) rfl) w hw) (rdl_some h50).2.2) rfl)) ?_
      refine T.ef0 rfl rfl (wanted_none rfl) (d_storeG0 (i := 3) (cs2 := [.int .i64 t17_1, v17_1, v17_2]) ti27 rfl rfl rfl rfl rfl (Nat.le_of_ble_eq_true rfl) (lf_cons rfl (lf_cons (sl_leaf hl_v17_1) (lf_cons (sl_leaf hl_v17_2) lf_nil)))) (by rintro _ _ ⟨rfl, rfl⟩; exact upd rfl [1, 2, 4, 5, 6] rfl rfl) ?_ ?_
      ·rintro _ _ ⟨rfl, rfl⟩
       iterate 3 refine TK.q [1, 2, 4, 5, 6] rfl rfl rfl rfl rfl (wanted_none rfl) (r_assign rfl) ?_
       refine T.nil ?_
       refine F.qn rfl rfl rfl rfl (r_assign rfl) ?_
       refine F.nil ?_
       cases hE_2
       refine Nrm.only [2, 3, 4, 5, 6] rfl ?_
       refine Nrm.pick [3, 4, 5, 6] rfl rfl ?_
       exact hj_2 _ _ ⟨rfl, rfl⟩
      exact T.stop
     exact T.stop
    exact T.stop
  ·replace h := if_ff g_1 h
   refine Tri.skip (Nrm.seq (Tri.seq ?_))
   obtain ⟨⟨y3r, y5r, y6r, yb2_1_0r⟩, hE_3, h⟩ := bind_some h
   refine Tri.cut (fun e' C' => e' = [(2, .pointer (some ⟨b2_1, 0, none⟩)), (3, .int .i64 y3r), (4, v17_3), (5, .int .i64 y5r), (6, .int .i64 y6r)] ∧ C' = Sep w noM [R.box b2_1 27 [.int .i64 yb2_1_0r, v17_1, v17_2], R.sl S17_1 v17_1 (t17_2 : List (Int × Int × Int)), R.sl S17_2 v17_2 (t17_3 : List (Int)), R.sl S17_3 v17_3 (t17_5 : List (Int))]) ?_ (fun hj_3 => ?_)
   ·rintro _ _ ⟨rfl, rfl⟩
    refine Nrm.seq (Tri.ret ?_)
    cases h
    exact Rtn.body (.cell rfl ta27 ti27 rfl (fun _ hw => box_cells (i := 0) rfl _ hw) (.tmp rfl (.tmp rfl (.tmp rfl (.tmp rfl .nil))))) (fun w hw => ⟨_, _, rfl, ⟨v17_1, S17_1, v17_2, S17_2, v17_3, S17_3, rfl, hl_v17_1, hl_v17_2, hl_v17_3, rfl⟩, Sep.pick (is := [1, 2, 3]) rfl rfl hw⟩)
   ·obtain ⟨⟨t56_1, t56_2, t56_3⟩, h56, hE_3⟩ := bind_some hE_3
    obtain ⟨⟨t59_1, t59_2, t59_3⟩, h59, hE_3⟩ := bind_some hE_3
    refine Tri.drawTK (B := Sep w noM [R.box b8_1 27 [.int .i64 t17_1, v17_1, v17_2], R.sl S17_1 v17_1 (t17_2 : List (Int × Int × Int)), R.sl S17_2 v17_2 (t17_3 : List (Int)), R.sl S17_3 v17_3 (t17_5 : List (Int))]) mixedT Sep.up [0, 1, 2, 3, 5, 4, 6, 7, 8, 9] [10, 11, 12] (.q 0 (.q 1 (.q 2 (.q 3 (.q 5 (.alt 4 (.alt 6 (.alt 7 (.alt 8 (.q 9 .nil) .stop) .stop) .stop) (.alt 6 (.alt 4 (.alt 7 (.alt 8 (.q 9 .nil) .stop) .stop) .stop) .stop))))))) (by kernel_rfl) ?_
    refine TK.q [1, 3, 4, 5] rfl rfl rfl rfl rfl (wanted_none rfl) (r_loadA ta27 ti27 rfl rfl (fun w hw => (box_cells (i := 0) rfl w hw))) ?_
    iterate 4 refine TK.q [1, 3, 4, 5] rfl rfl rfl rfl rfl (wanted_none rfl) (r_move rfl) ?_
    refine T.ef rfl rfl rfl (wanted_none rfl) (d_callM (xs := _) (cs := [R.box b14_1 100 [va0, .int .i64 yb14_1_1, .int .u64 yb14_1_2]]) (rest := [R.box b8_1 27 [.int .i64 t17_1, v17_1, v17_2], R.box b2_1 27 [.int .i64 0, .slice none 0 0, .slice none 0 0], R.sl S17_1 v17_1 (t17_2 : List (Int × Int × Int)), R.sl S17_2 v17_2 (t17_3 : List (Int)), R.sl S17_3 v17_3 (t17_5 : List (Int))]) [0] [1, 2, 3, 4, 5] rfl ok95 rfl rfl rfl rfl (fun w hw => spec_l1Cur_pick.ok h56 w (hr_a0.down hw) (Sep.sub hw))) (by rintro _ _ ⟨_, ⟨rfl, rfl⟩, rfl⟩; exact upd rfl [1, 3, 4, 5] rfl rfl) ?_ ?_
    ·rintro _ _ ⟨_, ⟨rfl, rfl⟩, rfl⟩
     refine T.ef rfl rfl rfl (wanted_none rfl) (Makes.does (m_buildF (l := ([0, 1, 6, (-1)] : List (Int))) Try.underlying25 ti3 rfl rfl rfl rfl rfl)) (by rintro v58_2 _ ⟨S58_2, hl_v58_2, rfl⟩; exact upd rfl [2, 4, 5, 6] rfl rfl) ?_ ?_
     ·rintro v58_2 _ ⟨S58_2, hl_v58_2, rfl⟩
      refine T.ef rfl rfl rfl (wanted_none rfl) (d_callM (xs := _) (cs := [R.box b14_1 100 [va0, .int .i64 t56_2, .int .u64 t56_3]]) (rest := [R.sl S58_2 v58_2 (([0, 1, 6, (-1)] : List (Int)) : List (Int)), R.box b8_1 27 [.int .i64 t17_1, v17_1, v17_2], R.box b2_1 27 [.int .i64 0, .slice none 0 0, .slice none 0 0], R.sl S17_1 v17_1 (t17_2 : List (Int × Int × Int)), R.sl S17_2 v17_2 (t17_3 : List (Int)), R.sl S17_3 v17_3 (t17_5 : List (Int))]) [1] [0, 2, 3, 4, 5, 6] rfl ok96 rfl rfl rfl rfl (fun w hw => spec_l1Cur_among.ok h59 w (hr_a0.down hw) (rdm_sl (i := 0) rfl hw) (Sep.sub hw))) (by rintro _ _ ⟨_, ⟨rfl, rfl⟩, rfl⟩; exact upd rfl [2, 4, 5, 6] rfl rfl) ?_ ?_
      ·rintro _ _ ⟨_, ⟨rfl, rfl⟩, rfl⟩
       refine T.ef0 rfl rfl (wanted_none rfl) (d_storeG0 (i := 3) (cs2 := [.int .i64 t17_1, v17_1, v17_2]) ti27 rfl rfl rfl rfl rfl (Nat.le_of_ble_eq_true rfl) (lf_cons rfl (lf_cons (sl_leaf hl_v17_1) (lf_cons (sl_leaf hl_v17_2) lf_nil)))) (by rintro _ _ ⟨rfl, rfl⟩; exact upd rfl [2, 4, 5, 6] rfl rfl) ?_ ?_
       ·rintro _ _ ⟨rfl, rfl⟩
        refine TK.q [2, 4, 5, 6] rfl rfl rfl rfl rfl (wanted_none rfl) (r_assign rfl) ?_
        refine T.nil ?_
        iterate 3 refine F.qn rfl rfl rfl rfl (r_assign rfl) ?_
        refine F.nil ?_
        cases hE_3
        refine Nrm.only [2, 3, 4, 5, 6] rfl ?_
        refine Nrm.pick [3, 4, 5, 6] rfl rfl ?_
        exact hj_3 _ _ ⟨rfl, rfl⟩
       exact T.stop
      exact T.stop
     exact T.stop
    ·refine T.ef rfl rfl rfl (wanted_none rfl) (Makes.does (m_buildF (l := ([0, 1, 6, (-1)] : List (Int))) Try.underlying25 ti3 rfl rfl rfl rfl rfl)) (by rintro v58_3 _ ⟨S58_3, hl_v58_3, rfl⟩; exact upd rfl [2, 4, 5, 6] rfl rfl) ?_ ?_
     ·rintro v58_3 _ ⟨S58_3, hl_v58_3, rfl⟩
      refine T.ef rfl rfl rfl (wanted_none rfl) (d_callM (xs := _) (cs := [R.box b14_1 100 [va0, .int .i64 yb14_1_1, .int .u64 yb14_1_2]]) (rest := [R.sl S58_3 v58_3 (([0, 1, 6, (-1)] : List (Int)) : List (Int)), R.box b8_1 27 [.int .i64 t17_1, v17_1, v17_2], R.box b2_1 27 [.int .i64 0, .slice none 0 0, .slice none 0 0], R.sl S17_1 v17_1 (t17_2 : List (Int × Int × Int)), R.sl S17_2 v17_2 (t17_3 : List (Int)), R.sl S17_3 v17_3 (t17_5 : List (Int))]) [1] [0, 2, 3, 4, 5, 6] rfl ok95 rfl rfl rfl rfl (fun w hw => spec_l1Cur_pick.ok h56 w (hr_a0.down hw) (Sep.sub hw))) (by rintro _ _ ⟨_, ⟨rfl, rfl⟩, rfl⟩; exact upd rfl [2, 4, 5, 6] rfl rfl) ?_ ?_
      ·rintro _ _ ⟨_, ⟨rfl, rfl⟩, rfl⟩
       refine T.ef rfl rfl rfl (wanted_none rfl) (d_callM (xs := _) (cs := [R.box b14_1 100 [va0, .int .i64 t56_2, .int .u64 t56_3]]) (rest := [R.sl S58_3 v58_3 (([0, 1, 6, (-1)] : List (Int)) : List (Int)), R.box b8_1 27 [.int .i64 t17_1, v17_1, v17_2], R.box b2_1 27 [.int .i64 0, .slice none 0 0, .slice none 0 0], R.sl S17_1 v17_1 (t17_2 : List (Int × Int × Int)), R.sl S17_2 v17_2 (t17_3 : List (Int)), R.sl S17_3 v17_3 (t17_5 : List (Int))]) [0] [1, 2, 3, 4, 5, 6] rfl ok96 rfl rfl rfl rfl (fun w hw => spec_l1Cur_among.ok h59 w (hr_a0.down hw) (rdm_sl (i := 0) rfl hw) (Sep.sub hw))) (by rintro _ _ ⟨_, ⟨rfl, rfl⟩, rfl⟩; exact upd rfl [2, 4, 5, 6] rfl rfl) ?_ ?_
       ·rintro _ _ ⟨_, ⟨rfl, rfl⟩, rfl⟩
        refine T.ef0 rfl rfl (wanted_none rfl) (d_storeG0 (i := 3) (cs2 := [.int .i64 t17_1, v17_1, v17_2]) ti27 rfl rfl rfl rfl rfl (Nat.le_of_ble_eq_true rfl) (lf_cons rfl (lf_cons (sl_leaf hl_v17_1) (lf_cons (sl_leaf hl_v17_2) lf_nil)))) (by rintro _ _ ⟨rfl, rfl⟩; exact upd rfl [2, 4, 5, 6] rfl rfl) ?_ ?_
        ·rintro _ _ ⟨rfl, rfl⟩
         refine TK.q [2, 4, 5, 6] rfl rfl rfl rfl rfl (wanted_none rfl) (r_assign rfl) ?_
         refine T.nil ?_
         iterate 3 refine F.qn rfl rfl rfl rfl (r_assign rfl) ?_
         refine F.nil ?_
         cases hE_3
         refine Nrm.only [2, 3, 4, 5, 6] rfl ?_
         refine Nrm.pick [3, 4, 5, 6] rfl rfl ?_
         exact hj_3 _ _ ⟨rfl, rfl⟩
        exact T.stop
       exact T.stop
      exact T.stop
     exact T.stop
 ·obtain ⟨t22, h22, hE_1⟩ := bind_some hE_1
  rcases Bool.eq_false_or_eq_true (t22) with g23 | g23
  ·replace hE_1 := if_tt g23 hE_1
   obtain ⟨t25, h25, hE_1⟩ := bind_some hE_1
   rcases Bool.eq_false_or_eq_true (decide (t25 > 1)) with g28 | g28
   ·replace hE_1 := if_tt g28 hE_1
    obtain ⟨⟨t30_1, t30_2, t30_3⟩, h30, hE_1⟩ := bind_some hE_1
    refine Tri.reg (l := List.range 12) rfl ?_
    refine F.qn rfl rfl rfl rfl (r_move rfl) ?_
    refine F.qcn rfl rfl rfl rfl (q_callF (xs := _) rfl ok92 rfl rfl (fun w hw => spec_l2Set.ok h22 w )) ?_
    refine F.qn rfl rfl rfl rfl (r_move rfl) ?_
    refine F.qg rfl rfl rfl rfl rfl rfl g23 (r_move rfl) ?_
    refine F.qc rfl rfl rfl (wg rfl rfl rfl g23) (q_callF (xs := _) rfl ok119 rfl rfl (fun w hw => spec_l2Many.ok h25 w )) ?_
    refine F.qg rfl rfl rfl rfl rfl rfl g23 (r_gtr rfl rfl) ?_
    refine F.qn rfl rfl rfl rfl (r_pick rfl rfl g23) ?_
    refine F.qn rfl rfl rfl rfl (r_move rfl) ?_
    refine F.qg rfl rfl rfl rfl rfl rfl g28 (r_move rfl) ?_
    refine F.ef rfl rfl rfl (wg rfl rfl rfl g28) (d_callM (xs := _) (cs := [R.box b14_1 100 [va0, .int .i64 0, .int .u64 0]]) (rest := [R.box b8_1 27 [.int .i64 t17_1, v17_1, v17_2], R.sl S17_1 v17_1 (t17_2 : List (Int × Int × Int)), R.sl S17_2 v17_2 (t17_3 : List (Int)), R.sl S17_3 v17_3 (t17_5 : List (Int)), R.box b2_1 27 [.int .i64 0, .slice none 0 0, .slice none 0 0]]) [4] [0, 1, 2, 3, 5] rfl ok93 rfl rfl rfl rfl (fun w hw => spec_l1Cur_one.ok h30 w (hr_a0.down hw) (Sep.sub hw))) ?_
    rintro _ _ ⟨_, ⟨rfl, rfl⟩, rfl⟩
    refine F.qg rfl rfl rfl rfl rfl rfl g28 (r_not rfl) ?_
    refine F.qn rfl rfl rfl rfl (r_pick rfl rfl g28) ?_
    refine F.nil ?_
    cases hE_1
    refine Nrm.only [2, 7, 8, 9, 10, 32] rfl ?_
    refine Nrm.pick [0, 1, 5, 2, 3, 4] rfl rfl ?_
    exact hj_1 _ _ ⟨rfl, rfl⟩
   ·replace hE_1 := if_ff g28 hE_1
    refine Tri.reg (l := List.range 12) rfl ?_
    refine F.qn rfl rfl rfl rfl (r_move rfl) ?_
    refine F.qcn rfl rfl rfl rfl (q_callF (xs := _) rfl ok92 rfl rfl (fun w hw => spec_l2Set.ok h22 w )) ?_
    refine F.qn rfl rfl rfl rfl (r_move rfl) ?_
    refine F.qg rfl rfl rfl rfl rfl rfl g23 (r_move rfl) ?_
    refine F.qc rfl rfl rfl (wg rfl rfl rfl g23) (q_callF (xs := _) rfl ok119 rfl rfl (fun w hw => spec_l2Many.ok h25 w )) ?_
    refine F.qg rfl rfl rfl rfl rfl rfl g23 (r_gtr rfl rfl) ?_
    refine F.qn rfl rfl rfl rfl (r_pick rfl rfl g23) ?_
    refine F.qn rfl rfl rfl rfl (r_move rfl) ?_
    iterate 3 refine F.sk rfl rfl rfl (wf rfl rfl rfl g28) ?_
    refine F.qn rfl rfl rfl rfl (r_pickf rfl rfl g28) ?_
    refine F.nil ?_
    cases hE_1
    refine Nrm.only [2, 7, 8, 9, 10, 32] rfl ?_
    refine Nrm.pick [4, 0, 5, 1, 2, 3] rfl rfl ?_
    exact hj_1 _ _ ⟨rfl, rfl⟩
  ·replace hE_1 := if_ff g23 hE_1
   refine Tri.reg (l := List.range 12) rfl ?_
   refine F.qn rfl rfl rfl rfl (r_move rfl) ?_
   refine F.qcn rfl rfl rfl rfl (q_callF (xs := _) rfl ok92 rfl rfl (fun w hw => spec_l2Set.ok h22 w )) ?_
   refine F.qn rfl rfl rfl rfl (r_move rfl) ?_
   iterate 3 refine F.sk rfl rfl rfl (wf rfl rfl rfl g23) ?_
   refine F.qn rfl rfl rfl rfl (r_pickf rfl rfl g23) ?_
   refine F.qn rfl rfl rfl rfl (r_move rfl) ?_
   iterate 3 refine F.sk rfl rfl rfl (wf rfl rfl rfl rfl) ?_
   refine F.qn rfl rfl rfl rfl (r_pickf rfl rfl rfl) ?_
   refine F.nil ?_
   cases hE_1
   refine Nrm.only [2, 7, 8, 9, 10, 32] rfl ?_
   refine Nrm.pick [4, 0, 5, 1, 2, 3] rfl rfl ?_
   exact hj_1 _ _ ⟨rfl, rfl⟩


def slices_Index_int_int.l0 (k : Nat) (a0 : List Int) (a1 : Int) : Nat → Int → Option ((Unit) ⊕ (Int))
 | 0, _ => none
 | n + 1, x8 => (if (decide (x8 < (a0.length : Int))) = true then (rdl a0 x8).bind fun t14 => (if (a1 == t14) = true then some (Sum.inr x8) else slices_Index_int_int.l0 k a0 a1 n (w64 (x8 + 1))) else some (Sum.inl ()))

def slices_Index_int_int.f (k : Nat) (a0 : List Int) (a1 : Int) : Option (Int) := (slices_Index_int_int.l0 k a0 a1 k 0).bind fun s => Lr s some fun _ => some (-1)

theorem slices_Index_int_int.ok {k : Nat}  {a0 : List Int} {a1 : Int} {r0 : Int} (h : slices_Index_int_int.f k a0 a1 = some r0) (w : World) {va0 : Value} (hr_a0 : Rd w va0 a0) :
  Calls Try.prog 97 ([va0, .int .i64 a1] : List Value).toArray w (fun e w' => e = .returned (.int .i64 r0) ∧ Ext w w') := by
 unfold slices_Index_int_int.f at h
 have hl_va0 := hr_a0.len
 refine Calls.of_tri (N := 19) Try.func97 rfl rfl rfl (Sep.nil (M := noM)) ?_
 refine Tri.seq (Tri.reg (l := [0]) rfl ?_)
 refine F.qn rfl rfl rfl rfl (r_assign rfl) ?_
 refine F.nil (Nrm.seq (Tri.seq (Tri.seq (Tri.reg (l := [0, 1, 2]) rfl ?_))))
 refine F.qn rfl rfl rfl rfl (r_move rfl) ?_
 refine F.qn rfl rfl rfl rfl (r_len Try.underlying25 rfl hl_va0) ?_
 refine F.qn rfl rfl rfl rfl (r_move rfl) ?_
 refine F.nil (Nrm.seq ?_)
 obtain ⟨s0, hE_1, h⟩ := bind_some h
 refine Tri.block ?_
 refine Tri.only [0, 1, 7, 8] rfl ?_
 refine Tri.pick [] rfl rfl ?_
 refine Tri.rounds (fun n e' C' => ∃ (x8' : Int), slices_Index_int_int.l0 k a0 a1 n x8' = some s0 ∧ e' = [(0, va0), (1, .int .i64 a1), (7, .int .i64 (a0.length : Int)), (8, .int .i64 x8')] ∧ C' = Sep w noM []) k ?_ ?_ ?_
 ·exact ⟨0, hE_1, rfl, rfl⟩
 ·rintro _ _ ⟨_, hE_1, _⟩
  rw [slices_Index_int_int.l0.eq_1] at hE_1; cases hE_1
 ·rintro n_1 _ _ ⟨x8, hE_1, rfl, rfl⟩ ih_1
  rw [slices_Index_int_int.l0.eq_2] at hE_1
  refine Tri.seq (Tri.reg (l := [0]) rfl ?_)
  refine F.qn rfl rfl rfl rfl (r_lss rfl rfl) ?_
  refine F.nil (Nrm.seq (Tri.seq (Tri.cond (b := decide (x8 < (a0.length : Int))) rfl (fun g_1 => ?_) (fun g_1 => ?_))))
  ·replace hE_1 := if_tt g_1 hE_1
   refine Tri.skip (Nrm.seq (Tri.seq (Tri.block ?_)))
   refine Tri.seq (Tri.reg (l := [0, 1]) rfl ?_)
   refine F.qn rfl rfl rfl rfl (r_move rfl) ?_
   refine F.qn rfl rfl rfl rfl (r_assign rfl) ?_
   refine F.nil (Nrm.seq (Tri.seq ?_))
   obtain ⟨t14, h14, hE_1⟩ := bind_some hE_1
   refine Tri.reg (l := [0, 1, 2, 3, 4, 5]) rfl ?_
   iterate 3 refine F.qn rfl rfl rfl rfl (r_move rfl) ?_
   refine F.qn rfl rfl rfl rfl (r_indexAddrS Try.underlying25 ti3 rfl hl_va0 rfl (rdl_some h14).1 (rdl_some h14).2.1) ?_
   refine F.qn rfl rfl rfl rfl (r_load ta3 rfl (fun w hw => cell_0 (Rd.flat ((fun _ hw => hr_a0.sep hw) w hw) (rdl_some h14).2.2) rfl)) ?_
   refine F.qn rfl rfl rfl rfl (r_eql rfl rfl) ?_
   refine F.nil (Nrm.seq (Tri.cond (b := a1 == t14) rfl (fun g_2 => ?_) (fun g_2 => ?_)))
   ·replace hE_1 := if_tt g_2 hE_1
    refine Tri.seq (Tri.reg (l := [0, 1]) rfl ?_)
    refine F.qn rfl rfl rfl rfl (r_move rfl) ?_
    refine F.qn rfl rfl rfl rfl (r_assign rfl) ?_
    refine F.nil (Nrm.seq (Tri.ret ?_))
    refine Rtn.block ?_
    refine Rtn.then ?_
    refine Rtn.then ?_
    refine Rtn.block ?_
    refine Rtn.then ?_
    cases hE_1
    replace h := Lr_inr h
    cases h
    exact Rtn.body (.tmp rfl .nil) (fun w hw => ⟨rfl, hw.ext⟩)
   ·replace hE_1 := if_ff g_2 hE_1
    refine Tri.skip (Nrm.block ?_)
    refine Nrm.seq (Tri.reg (l := [0, 1]) rfl ?_)
    refine F.qn rfl rfl rfl rfl (r_add rfl rfl) ?_
    refine F.qn rfl rfl rfl rfl (r_move rfl) ?_
    refine F.nil (Nrm.round ?_)
    refine Rnd.only [0, 1, 7, 8] rfl ?_
    refine Rnd.pick [] rfl rfl ?_
    exact ih_1 _ _ ⟨w64 (x8 + 1), hE_1, rfl, rfl⟩
  ·replace hE_1 := if_ff g_1 hE_1
   refine Tri.exit ?_
   refine Exi.then ?_
   refine Exi.then ?_
   refine Exi.same ?_
   cases hE_1
   replace h := Lr_inl h
   refine Nrm.seq (Tri.seq (Tri.reg (l := [0]) rfl ?_))
   refine F.qn rfl rfl rfl rfl (r_assign rfl) ?_
   refine F.nil (Nrm.seq (Tri.ret ?_))
   cases h
   exact Rtn.body (.tmp rfl .nil) (fun w hw => ⟨rfl, hw.ext⟩)


def impl_SwapFilling.f (k : Nat) (a0_0 : Int) (a0_1 : List (Int × Int × Int)) (a0_2 : List Int) (a1 : Int) (a2 : List Int) (a3 : Int) (a4 : Int) : Option ((List Int) × Bool) := ((impl_asked.f k a0_0 a0_1 a0_2 a1).bind fun t16 => (if (!t16) = true then some true else (impl_isFilling.f k a0_0 a0_1 a0_2 a1 a2).bind fun t22 => some (!t22))).bind fun y24 => (if y24 = true then some ([], false) else (impl_members.f k a1).bind fun t26 => (slices_Index_int_int.f k t26 a3).bind fun t28 => (impl_members.f k a1).bind fun t30 => (slices_Index_int_int.f k t30 a4).bind fun t32 => ((if (a3 == a4) = true then some true else (if (decide (t28 < 0)) = true then some true else some (decide (t32 < 0))))).bind fun y43 => (if y43 = true then some ([], false) else (impl_swapped.f k a2 t28 t32).bind fun t47 => some (t47, true)))

theorem impl_SwapFilling.ok {k : Nat}  {a0_0 : Int} {a0_1 : List (Int × Int × Int)} {a0_2 : List Int} {a1 : Int} {a2 : List Int} {a3 : Int} {a4 : Int} {r0 : List Int} {r1 : Bool} (h : impl_SwapFilling.f k a0_0 a0_1 a0_2 a1 a2 a3 a4 = some (r0, r1)) (w : World) {va0_1 : Value} {va0_2 : Value} {va2 : Value} (hr_a0_1 : Rd w va0_1 a0_1) (hr_a0_2 : Rd w va0_2 a0_2) (hr_a2 : Rd w va2 a2) :
  Calls Try.prog 42 ([.agg ([.int .i64 a0_0, va0_1, va0_2].toArray), .int .i64 a1, va2, .int .i64 a3, .int .i64 a4] : List Value).toArray w (Post (fun u ns => ∃ (ur0 : Value) (Sr0 : Nat → Prop), u = .tuple #[ur0, .bool r1] ∧ SlLen ur0 r0.length ∧ ns = [R.sl Sr0 ur0 r0]) w) := by
 unfold impl_SwapFilling.f at h
 have hl_va0_1 := hr_a0_1.len
 have hl_va0_2 := hr_a0_2.len
 have hl_va2 := hr_a2.len
 refine Calls.of_tri (N := 48) Try.func42 rfl rfl rfl (Sep.nil (M := noM)) ?_
 refine Tri.seq (Tri.reg (l := [0, 1, 2]) rfl ?_)
 refine F.mn rfl rfl rfl rfl (m_boxG rfl rfl) ?_
 rintro _ _ ⟨b5_1, rfl, rfl⟩
 refine F.qn rfl rfl rfl rfl (r_assign rfl) ?_
 refine F.qn rfl rfl rfl rfl (r_assign rfl) ?_
 refine F.nil (Nrm.seq (Tri.seq (Tri.seq ?_)))
 obtain ⟨y24, hE_1, h⟩ := bind_some h
 refine Tri.cut (fun e' C' => e' = [(1, .int .i64 a1), (2, va2), (3, .int .i64 a3), (4, .int .i64 a4), (24, .bool y24)] ∧ C' = Sep w noM []) ?_ (fun hj_1 => ?_)
 ·rintro _ _ ⟨rfl, rfl⟩
  refine Nrm.seq (Tri.cond (b := y24) rfl (fun g_1 => ?_) (fun g_1 => ?_))
  ·replace h := if_tt g_1 h
   refine Tri.seq (Tri.reg (l := [0, 1]) rfl ?_)
   refine F.qn rfl rfl rfl rfl (r_assign rfl) ?_
   refine F.qn rfl rfl rfl rfl (r_assign rfl) ?_
   refine F.nil (Nrm.seq (Tri.ret ?_))
   refine Rtn.then ?_
   cases h
   exact Rtn.body (.tmp rfl (.tmp rfl .nil)) (fun w hw => ⟨_, _, rfl, ⟨.slice none 0 0, fun _ => False, rfl, len_nil, rfl⟩, Sep.pick (is := [0]) rfl rfl hw.pushNil⟩)
  ·replace h := if_ff g_1 h
   refine Tri.skip (Nrm.seq (Tri.seq ?_))
   obtain ⟨t26, h26, h⟩ := bind_some h
   obtain ⟨t28, h28, h⟩ := bind_some h
   obtain ⟨t30, h30, h⟩ := bind_some h
   obtain ⟨t32, h32, h⟩ := bind_some h
   refine Tri.reg (l := [0, 1, 2, 3, 4, 5, 6, 7, 8, 9]) rfl ?_
   refine F.qn rfl rfl rfl rfl (r_move rfl) ?_
   refine F.mn rfl rfl rfl rfl (m_callF (xs := _) rfl ok98 rfl rfl (fun w hw => impl_members.ok h26 w )) ?_
   rintro v26_1 _ ⟨_, ⟨S26_1, hl_v26_1, rfl⟩, rfl⟩
   refine F.qn rfl rfl rfl rfl (r_move rfl) ?_
   refine F.qcn rfl rfl rfl rfl (q_callF (xs := _) rfl ok97 rfl rfl (fun w hw => slices_Index_int_int.ok h28 w ((rd_sl (i := 0) rfl) w hw))) ?_
   refine F.qn rfl rfl rfl rfl (r_move rfl) ?_
   refine F.mn rfl rfl rfl rfl (m_callF (xs := _) rfl ok98 rfl rfl (fun w hw => impl_members.ok h30 w )) ?_
   rintro v30_1 _ ⟨_, ⟨S30_1, hl_v30_1, rfl⟩, rfl⟩
   refine F.qn rfl rfl rfl rfl (r_move rfl) ?_
   refine F.qcn rfl rfl rfl rfl (q_callF (xs := _) rfl ok97 rfl rfl (fun w hw => slices_Index_int_int.ok h32 w ((rd_sl (i := 0) rfl) w hw))) ?_
   refine F.qn rfl rfl rfl rfl (r_assign rfl) ?_
   refine F.qn rfl rfl rfl rfl (r_assign rfl) ?_
   refine F.nil (Nrm.seq (Tri.seq (Tri.seq ?_)))
   obtain ⟨y43, hE_2, h⟩ := bind_some h
   refine Tri.cut (fun e' C' => e' = [(2, va2), (12, .int .i64 t28), (13, .int .i64 t32), (43, .bool y43)] ∧ C' = Sep w noM []) ?_ (fun hj_2 => ?_)
   ·rintro _ _ ⟨rfl, rfl⟩
    refine Nrm.seq (Tri.cond (b := y43) rfl (fun g_2 => ?_) (fun g_2 => ?_))
    ·replace h := if_tt g_2 h
     refine Tri.seq (Tri.reg (l := [0, 1]) rfl ?_)
     refine F.qn rfl rfl rfl rfl (r_assign rfl) ?_
     refine F.qn rfl rfl rfl rfl (r_assign rfl) ?_
     refine F.nil (Nrm.seq (Tri.ret ?_))
     refine Rtn.then ?_
     cases h
     exact Rtn.body (.tmp rfl (.tmp rfl .nil)) (fun w hw => ⟨_, _, rfl, ⟨.slice none 0 0, fun _ => False, rfl, len_nil, rfl⟩, Sep.pick (is := [0]) rfl rfl hw.pushNil⟩)
    ·replace h := if_ff g_2 h
     refine Tri.skip (Nrm.seq (Tri.seq ?_))
     obtain ⟨t47, h47, h⟩ := bind_some h
     refine Tri.reg (l := [0, 1, 2, 3, 4, 5]) rfl ?_
     iterate 3 refine F.qn rfl rfl rfl rfl (r_move rfl) ?_
     refine F.mn rfl rfl rfl rfl (m_callF (xs := _) rfl ok115 rfl rfl (fun w hw => impl_swapped.ok h47 w ((fun _ hw => hr_a2.sep hw) w hw))) ?_
     rintro v47_1 _ ⟨_, ⟨S47_1, hl_v47_1, rfl⟩, rfl⟩
     refine F.qn rfl rfl rfl rfl (r_assign rfl) ?_
     refine F.qn rfl rfl rfl rfl (r_assign rfl) ?_
     refine F.nil (Nrm.seq (Tri.ret ?_))
     cases h
     exact Rtn.body (.tmp rfl (.tmp rfl .nil)) (fun w hw => ⟨_, _, rfl, ⟨v47_1, S47_1, rfl, hl_v47_1, rfl⟩, Sep.pick (is := [0]) rfl rfl hw⟩)
   ·rcases Bool.eq_false_or_eq_true (a3 == a4) with g36 | g36
    ·replace hE_2 := if_tt g36 hE_2
     refine Tri.reg (l := [0, 1, 2, 3, 4, 5, 6, 7, 8, 9, 10]) rfl ?_
     refine F.qn rfl rfl rfl rfl (r_move rfl) ?_
     refine F.qn rfl rfl rfl rfl (r_move rfl) ?_
     refine F.qn rfl rfl rfl rfl (r_eql rfl rfl) ?_
     refine F.qn rfl rfl rfl rfl (r_move rfl) ?_
     refine F.sk rfl rfl rfl (wf rfl rfl rfl g36) ?_
     refine F.sk rfl rfl rfl (wf rfl rfl rfl g36) ?_
     refine F.qn rfl rfl rfl rfl (r_pick rfl rfl g36) ?_
     refine F.qn rfl rfl rfl rfl (r_move rfl) ?_
     refine F.sk rfl rfl rfl (wf rfl rfl rfl rfl) ?_
     refine F.sk rfl rfl rfl (wf rfl rfl rfl rfl) ?_
     refine F.qn rfl rfl rfl rfl (r_pick rfl rfl rfl) ?_
     refine F.nil ?_
     cases hE_2
     refine Nrm.only [2, 12, 13, 43] rfl ?_
     refine Nrm.pick [] rfl rfl ?_
     exact hj_2 _ _ ⟨rfl, rfl⟩
    ·replace hE_2 := if_ff g36 hE_2
     rcases Bool.eq_false_or_eq_true (decide (t28 < 0)) with g40 | g40
     ·replace hE_2 := if_tt g40 hE_2
      refine Tri.reg (l := [0, 1, 2, 3, 4, 5, 6, 7, 8, 9, 10]) rfl ?_
      refine F.qn rfl rfl rfl rfl (r_move rfl) ?_
      refine F.qn rfl rfl rfl rfl (r_move rfl) ?_
      refine F.qn rfl rfl rfl rfl (r_eql rfl rfl) ?_
      refine F.qn rfl rfl rfl rfl (r_move rfl) ?_
      refine F.qg rfl rfl rfl rfl rfl rfl g36 (r_move rfl) ?_
      refine F.qg rfl rfl rfl rfl rfl rfl g36 (r_lss rfl rfl) ?_
      refine F.qn rfl rfl rfl rfl (r_pickf rfl rfl g36) ?_
      refine F.qn rfl rfl rfl rfl (r_move rfl) ?_
      refine F.sk rfl rfl rfl (wf rfl rfl rfl g40) ?_
      refine F.sk rfl rfl rfl (wf rfl rfl rfl g40) ?_
      refine F.qn rfl rfl rfl rfl (r_pick rfl rfl g40) ?_
      refine F.nil ?_
      cases hE_2
      refine Nrm.only [2, 12, 13, 43] rfl ?_
      refine Nrm.pick [] rfl rfl ?_
      exact hj_2 _ _ ⟨rfl, rfl⟩
     ·replace hE_2 := if_ff g40 hE_2
      refine Tri.reg (l := [0, 1, 2, 3, 4, 5, 6, 7, 8, 9, 10]) rfl ?_
      refine F.qn rfl rfl rfl rfl (r_move rfl) ?_
      refine F.qn rfl rfl rfl rfl (r_move rfl) ?_
      refine F.qn rfl rfl rfl rfl (r_eql rfl rfl) ?_
      refine F.qn rfl rfl rfl rfl (r_move rfl) ?_
      refine F.qg rfl rfl rfl rfl rfl rfl g36 (r_move rfl) ?_
      refine F.qg rfl rfl rfl rfl rfl rfl g36 (r_lss rfl rfl) ?_
      refine F.qn rfl rfl rfl rfl (r_pickf rfl rfl g36) ?_
      refine F.qn rfl rfl rfl rfl (r_move rfl) ?_
      refine F.qg rfl rfl rfl rfl rfl rfl g40 (r_move rfl) ?_
      refine F.qg rfl rfl rfl rfl rfl rfl g40 (r_lss rfl rfl) ?_
      refine F.qn rfl rfl rfl rfl (r_pickf rfl rfl g40) ?_
      refine F.nil ?_
      cases hE_2
      refine Nrm.only [2, 12, 13, 43] rfl ?_
      refine Nrm.pick [] rfl rfl ?_
      exact hj_2 _ _ ⟨rfl, rfl⟩
 ·obtain ⟨t16, h16, hE_1⟩ := bind_some hE_1
  rcases Bool.eq_false_or_eq_true (!t16) with g18 | g18
  ·replace hE_1 := if_tt g18 hE_1
   refine Tri.reg (l := [0, 1, 2, 3, 4, 5, 6, 7, 8, 9, 10]) rfl ?_
   refine F.qn rfl rfl rfl rfl (r_loadA ta27 ti27 rfl rfl (fun w hw => (box_cells (i := 0) rfl w hw))) ?_
   refine F.qn rfl rfl rfl rfl (r_move rfl) ?_
   refine F.qcn rfl rfl rfl rfl (q_callF (xs := _) rfl ok102 rfl rfl (fun w hw => impl_asked.ok h16 w ((fun _ hw => hr_a0_1.sep hw) w hw) ((fun _ hw => hr_a0_2.sep hw) w hw))) ?_
   refine F.qn rfl rfl rfl rfl (r_not rfl) ?_
   refine F.qn rfl rfl rfl rfl (r_move rfl) ?_
   iterate 5 refine F.sk rfl rfl rfl (wf rfl rfl rfl g18) ?_
   refine F.qn rfl rfl rfl rfl (r_pick rfl rfl g18) ?_
   refine F.nil ?_
   cases hE_1
   refine Nrm.only [1, 2, 3, 4, 24] rfl ?_
   refine Nrm.pick [] rfl rfl ?_
   exact hj_1 _ _ ⟨rfl, rfl⟩
  ·replace hE_1 := if_ff g18 hE_1
   obtain ⟨t22, h22, hE_1⟩ := bind_some hE_1
   refine Tri.reg (l := [0, 1, 2, 3, 4, 5, 6, 7, 8, 9, 10]) rfl ?_
   refine F.qn rfl rfl rfl rfl (r_loadA ta27 ti27 rfl rfl (fun w hw => (box_cells (i := 0) rfl w hw))) ?_
   refine F.qn rfl rfl rfl rfl (r_move rfl) ?_
   refine F.qcn rfl rfl rfl rfl (q_callF (xs := _) rfl ok102 rfl rfl (fun w hw => impl_asked.ok h16 w ((fun _ hw => hr_a0_1.sep hw) w hw) ((fun _ hw => hr_a0_2.sep hw) w hw))) ?_
   refine F.qn rfl rfl rfl rfl (r_not rfl) ?_
   refine F.qn rfl rfl rfl rfl (r_move rfl) ?_
   refine F.qg rfl rfl rfl rfl rfl rfl g18 (r_loadA ta27 ti27 rfl rfl (fun w hw => (box_cells (i := 0) rfl w hw))) ?_
   refine F.qg rfl rfl rfl rfl rfl rfl g18 (r_move rfl) ?_
   refine F.qg rfl rfl rfl rfl rfl rfl g18 (r_move rfl) ?_
   refine F.qc rfl rfl rfl (wg rfl rfl rfl g18) (q_callF (xs := _) rfl ok103 rfl rfl (fun w hw => impl_isFilling.ok h22 w ((fun _ hw => hr_a0_1.sep hw) w hw) ((fun _ hw => hr_a0_2.sep hw) w hw) ((fun _ hw => hr_a2.sep hw) w hw))) ?_
   refine F.qg rfl rfl rfl rfl rfl rfl g18 (r_not rfl) ?_
   refine F.qn rfl rfl rfl rfl (r_pickf rfl rfl g18) ?_
   refine F.nil ?_
   cases hE_1
   refine Nrm.only [1, 2, 3, 4, 24] rfl ?_
   refine Nrm.pick [] rfl rfl ?_
   exact hj_1 _ _ ⟨rfl, rfl⟩


def spec_SwapFilling.f (k : Nat) (a0_0 : Int) (a0_1 : List (Int × Int × Int)) (a0_2 : List Int) (a1 : Int) (a2 : List Int) (a3 : Int) (a4 : Int) : Option ((List Int) × Bool) := ((spec_l9Good.f k a0_0 a0_1 a0_2 a1 a2).bind fun t15 => (if (!t15) = true then some true else (if (a3 == a4) = true then some true else (spec_l2Colours.f k a1).bind fun t24 => (spec_l1Has.f k t24 a3).bind fun t26 => (if (!t26) = true then some true else (spec_l2Colours.f k a1).bind fun t31 => (spec_l1Has.f k t31 a4).bind fun t33 => some (!t33))))).bind fun y35 => (if y35 = true then some (([] : List (Int)), false) else (spec_l9Swap.f k a1 a2 a3 a4).bind fun t41 => some (t41, true))

theorem spec_SwapFilling.ok {k : Nat}  {a0_0 : Int} {a0_1 : List (Int × Int × Int)} {a0_2 : List Int} {a1 : Int} {a2 : List Int} {a3 : Int} {a4 : Int} {r0 : List Int} {r1 : Bool} (h : spec_SwapFilling.f k a0_0 a0_1 a0_2 a1 a2 a3 a4 = some (r0, r1)) (w : World) {va0_1 : Value} {va0_2 : Value} {va2 : Value} (hr_a0_1 : Rd w va0_1 a0_1) (hr_a0_2 : Rd w va0_2 a0_2) (hr_a2 : Rd w va2 a2) :
  Calls Try.prog 43 ([.agg ([.int .i64 a0_0, va0_1, va0_2].toArray), .int .i64 a1, va2, .int .i64 a3, .int .i64 a4] : List Value).toArray w (Post (fun u ns => ∃ (ur0 : Value) (Sr0 : Nat → Prop), u = .tuple #[ur0, .bool r1] ∧ SlLen ur0 r0.length ∧ ns = [R.sl Sr0 ur0 r0]) w) := by
 unfold spec_SwapFilling.f at h
 have hl_va0_1 := hr_a0_1.len
 have hl_va0_2 := hr_a0_2.len
 have hl_va2 := hr_a2.len
 refine Calls.of_tri (N := 42) Try.func43 rfl rfl rfl (Sep.nil (M := noM)) ?_
 refine Tri.seq (Tri.reg (l := [0, 1, 2]) rfl ?_)
 refine F.mn rfl rfl rfl rfl (m_boxG rfl rfl) ?_
 rintro _ _ ⟨b5_1, rfl, rfl⟩
 refine F.qn rfl rfl rfl rfl (r_assign rfl) ?_
 refine F.qn rfl rfl rfl rfl (r_assign rfl) ?_
 refine F.nil (Nrm.seq (Tri.seq (Tri.seq ?_)))
 obtain ⟨y35, hE_1, h⟩ := bind_some h
 refine Tri.cut (fun e' C' => e' = [(1, .int .i64 a1), (2, va2), (3, .int .i64 a3), (4, .int .i64 a4), (35, .bool y35)] ∧ C' = Sep w noM []) ?_ (fun hj_1 => ?_)
 ·rintro _ _ ⟨rfl, rfl⟩
  refine Nrm.seq (Tri.cond (b := y35) rfl (fun g_1 => ?_) (fun g_1 => ?_))
  ·replace h := if_tt g_1 h
   refine Tri.seq (Tri.reg (l := [0, 1, 2]) rfl ?_)
   refine F.mn rfl rfl rfl rfl (m_build0 (α := Int) Try.underlying25 ti3) ?_
   rintro v36_1 _ ⟨S36_1, hl_v36_1, rfl⟩
   refine F.qn rfl rfl rfl rfl (r_assign rfl) ?_
   refine F.qn rfl rfl rfl rfl (r_assign rfl) ?_
   refine F.nil (Nrm.seq (Tri.ret ?_))
   refine Rtn.then ?_
   cases h
   exact Rtn.body (.tmp rfl (.tmp rfl .nil)) (fun w hw => ⟨_, _, rfl, ⟨v36_1, S36_1, rfl, hl_v36_1, rfl⟩, Sep.pick (is := [0]) rfl rfl hw⟩)
  ·replace h := if_ff g_1 h
   refine Tri.skip (Nrm.seq (Tri.seq ?_))
   obtain ⟨t41, h41, h⟩ := bind_some h
   refine Tri.reg (l := [0, 1, 2, 3, 4, 5, 6]) rfl ?_
   iterate 4 refine F.qn rfl rfl rfl rfl (r_move rfl) ?_
   refine F.mn rfl rfl rfl rfl (m_callF (xs := _) rfl ok116 rfl rfl (fun w hw => spec_l9Swap.ok h41 w ((fun _ hw => hr_a2.sep hw) w hw))) ?_
   rintro v41_1 _ ⟨_, ⟨S41_1, hl_v41_1, rfl⟩, rfl⟩
   refine F.qn rfl rfl rfl rfl (r_assign rfl) ?_
   refine F.qn rfl rfl rfl rfl (r_assign rfl) ?_
   refine F.nil (Nrm.seq (Tri.ret ?_))
   cases h
   exact Rtn.body (.tmp rfl (.tmp rfl .nil)) (fun w hw => ⟨_, _, rfl, ⟨v41_1, S41_1, rfl, hl_v41_1, rfl⟩, Sep.pick (is := [0]) rfl rfl hw⟩)
 ·obtain ⟨t15, h15, hE_1⟩ := bind_some hE_1
  rcases Bool.eq_false_or_eq_true (!t15) with g17 | g17
  ·replace hE_1 := if_tt g17 hE_1
   refine Tri.reg (l := List.range 24) rfl ?_
   refine F.qn rfl rfl rfl rfl (r_loadA ta27 ti27 rfl rfl (fun w hw => (box_cells (i := 0) rfl w hw))) ?_
   refine F.qn rfl rfl rfl rfl (r_move rfl) ?_
   refine F.qn rfl rfl rfl rfl (r_move rfl) ?_
   refine F.qcn rfl rfl rfl rfl (q_callF (xs := _) rfl ok113 rfl rfl (fun w hw => spec_l9Good.ok h15 w ((fun _ hw => hr_a0_1.sep hw) w hw) ((fun _ hw => hr_a0_2.sep hw) w hw) ((fun _ hw => hr_a2.sep hw) w hw))) ?_
   refine F.qn rfl rfl rfl rfl (r_not rfl) ?_
   refine F.qn rfl rfl rfl rfl (r_move rfl) ?_
   iterate 3 refine F.sk rfl rfl rfl (wf rfl rfl rfl g17) ?_
   refine F.qn rfl rfl rfl rfl (r_pick rfl rfl g17) ?_
   refine F.qn rfl rfl rfl rfl (r_move rfl) ?_
   iterate 5 refine F.sk rfl rfl rfl (wf rfl rfl rfl rfl) ?_
   refine F.qn rfl rfl rfl rfl (r_pick rfl rfl rfl) ?_
   refine F.qn rfl rfl rfl rfl (r_move rfl) ?_
   iterate 5 refine F.sk rfl rfl rfl (wf rfl rfl rfl rfl) ?_
   refine F.qn rfl rfl rfl rfl (r_pick rfl rfl rfl) ?_
   refine F.nil ?_
   cases hE_1
   refine Nrm.only [1, 2, 3, 4, 35] rfl ?_
   refine Nrm.pick [] rfl rfl ?_
   exact hj_1 _ _ ⟨rfl, rfl⟩
  ·replace hE_1 := if_ff g17 hE_1
   rcases Bool.eq_false_or_eq_true (a3 == a4) with g22 | g22
   ·replace hE_1 := if_tt g22 hE_1
    refine Tri.reg (l := List.range 24) rfl ?_
    refine F.qn rfl rfl rfl rfl (r_loadA ta27 ti27 rfl rfl (fun w hw => (box_cells (i := 0) rfl w hw))) ?_
    refine F.qn rfl rfl rfl rfl (r_move rfl) ?_
    refine F.qn rfl rfl rfl rfl (r_move rfl) ?_
    refine F.qcn rfl rfl rfl rfl (q_callF (xs := _) rfl ok113 rfl rfl (fun w hw => spec_l9Good.ok h15 w ((fun _ hw => hr_a0_1.sep hw) w hw) ((fun _ hw => hr_a0_2.sep hw) w hw) ((fun _ hw => hr_a2.sep hw) w hw))) ?_
    refine F.qn rfl rfl rfl rfl (r_not rfl) ?_
    refine F.qn rfl rfl rfl rfl (r_move rfl) ?_
    refine F.qg rfl rfl rfl rfl rfl rfl g17 (r_move rfl) ?_
    refine F.qg rfl rfl rfl rfl rfl rfl g17 (r_move rfl) ?_
    refine F.qg rfl rfl rfl rfl rfl rfl g17 (r_eql rfl rfl) ?_
    refine F.qn rfl rfl rfl rfl (r_pickf rfl rfl g17) ?_
    refine F.qn rfl rfl rfl rfl (r_move rfl) ?_
    iterate 5 refine F.sk rfl rfl rfl (wf rfl rfl rfl g22) ?_
    refine F.qn rfl rfl rfl rfl (r_pick rfl rfl g22) ?_
    refine F.qn rfl rfl rfl rfl (r_move rfl) ?_
    iterate 5 refine F.sk rfl rfl rfl (wf rfl rfl rfl rfl) ?_
    refine F.qn rfl rfl rfl rfl (r_pick rfl rfl rfl) ?_
    refine F.nil ?_
    cases hE_1
    refine Nrm.only [1, 2, 3, 4, 35] rfl ?_
    refine Nrm.pick [] rfl rfl ?_
    exact hj_1 _ _ ⟨rfl, rfl⟩
   ·replace hE_1 := if_ff g22 hE_1
    obtain ⟨t24, h24, hE_1⟩ := bind_some hE_1
    obtain ⟨t26, h26, hE_1⟩ := bind_some hE_1
    rcases Bool.eq_false_or_eq_true (!t26) with g29 | g29
    ·replace hE_1 := if_tt g29 hE_1
     refine Tri.reg (l := List.range 24) rfl ?_
     refine F.qn rfl rfl rfl rfl (r_loadA ta27 ti27 rfl rfl (fun w hw => (box_cells (i := 0) rfl w hw))) ?_
     refine F.qn rfl rfl rfl rfl (r_move rfl) ?_
     refine F.qn rfl rfl rfl rfl (r_move rfl) ?_
     refine F.qcn rfl rfl rfl rfl (q_callF (xs := _) rfl ok113 rfl rfl (fun w hw => spec_l9Good.ok h15 w ((fun _ hw => hr_a0_1.sep hw) w hw) ((fun _ hw => hr_a0_2.sep hw) w hw) ((fun _ hw => hr_a2.sep hw) w hw))) ?_
     refine F.qn rfl rfl rfl rfl (r_not rfl) ?_
     refine F.qn rfl rfl rfl rfl (r_move rfl) ?_
     refine F.qg rfl rfl rfl rfl rfl rfl g17 (r_move rfl) ?_
     refine F.qg rfl rfl rfl rfl rfl rfl g17 (r_move rfl) ?_
     refine F.qg rfl rfl rfl rfl rfl rfl g17 (r_eql rfl rfl) ?_
     refine F.qn rfl rfl rfl rfl (r_pickf rfl rfl g17) ?_
     refine F.qn rfl rfl rfl rfl (r_move rfl) ?_
     refine F.qg rfl rfl rfl rfl rfl rfl g22 (r_move rfl) ?_
     refine F.m rfl rfl rfl (wg rfl rfl rfl g22) (m_callF (xs := _) rfl ok94 rfl rfl (fun w hw => spec_l2Colours.ok h24 w )) ?_
     rintro v24_2 _ ⟨_, ⟨S24_2, hl_v24_2, rfl⟩, rfl⟩
     refine F.qg rfl rfl rfl rfl rfl rfl g22 (r_move rfl) ?_
     refine F.qc rfl rfl rfl (wg rfl rfl rfl g22) (q_callF (xs := _) rfl ok99 rfl rfl (fun w hw => spec_l1Has.ok h26 w ((rd_sl (i := 0) rfl) w hw))) ?_
     refine F.qg rfl rfl rfl rfl rfl rfl g22 (r_not rfl) ?_
     refine F.qn rfl rfl rfl rfl (r_pickf rfl rfl g22) ?_
     refine F.qn rfl rfl rfl rfl (r_move rfl) ?_
     iterate 5 refine F.sk rfl rfl rfl (wf rfl rfl rfl g29) ?_
     refine F.qn rfl rfl rfl rfl (r_pick rfl rfl g29) ?_
     refine F.nil ?_
     cases hE_1
     refine Nrm.only [1, 2, 3, 4, 35] rfl ?_
     refine Nrm.pick [] rfl rfl ?_
     exact hj_1 _ _ ⟨rfl, rfl⟩
    ·replace hE_1 := if_ff g29 hE_1
     obtain ⟨t31, h31, hE_1⟩ := bind_some hE_1
     obtain ⟨t33, h33, hE_1⟩ := bind_some hE_1
     refine Tri.reg (l := List.range 24) rfl ?_
     refine F.qn rfl rfl rfl rfl (r_loadA ta27 ti27 rfl rfl (fun w hw => (box_cells (i := 0) rfl w hw))) ?_
     refine F.qn rfl rfl rfl rfl (r_move rfl) ?_
     refine F.qn rfl rfl rfl rfl (r_move rfl) ?_
     refine F.qcn rfl rfl rfl rfl (q_callF (xs := _) rfl ok113 rfl rfl (fun w hw => spec_l9Good.ok h15 w ((fun _ hw => hr_a0_1.sep hw) w hw) ((fun _ hw => hr_a0_2.sep hw) w hw) ((fun _ hw => hr_a2.sep hw) w hw))) ?_
     refine F.qn rfl rfl rfl rfl (r_not rfl) ?_
     refine F.qn rfl rfl rfl rfl (r_move rfl) ?_
     refine F.qg rfl rfl rfl rfl rfl rfl g17 (r_move rfl) ?_
     refine F.qg rfl rfl rfl rfl rfl rfl g17 (r_move rfl) ?_
     refine F.qg rfl rfl rfl rfl rfl rfl g17 (r_eql rfl rfl) ?_
     refine F.qn rfl rfl rfl rfl (r_pickf rfl rfl g17) ?_
     refine F.qn rfl rfl rfl rfl (r_move rfl) ?_
     refine F.qg rfl rfl rfl rfl rfl rfl g22 (r_move rfl) ?_
     refine F.m rfl rfl rfl (wg rfl rfl rfl g22) (m_callF (xs := _) rfl ok94 rfl rfl (fun w hw => spec_l2Colours.ok h24 w )) ?_
     rintro v24_3 _ ⟨_, ⟨S24_3, hl_v24_3, rfl⟩, rfl⟩
     refine F.qg rfl rfl rfl rfl rfl rfl g22 (r_move rfl) ?_
     refine F.qc rfl rfl rfl (wg rfl rfl rfl g22) (q_callF (xs := _) rfl ok99 rfl rfl (fun w hw => spec_l1Has.ok h26 w ((rd_sl (i := 0) rfl) w hw))) ?_
     refine F.qg rfl rfl rfl rfl rfl rfl g22 (r_not rfl) ?_
     refine F.qn rfl rfl rfl rfl (r_pickf rfl rfl g22) ?_
     refine F.qn rfl rfl rfl rfl (r_move rfl) ?_
     refine F.qg rfl rfl rfl rfl rfl rfl g29 (r_move rfl) ?_
     refine F.m rfl rfl rfl (wg rfl rfl rfl g29) (m_callF (xs := _) rfl ok94 rfl rfl (fun w hw => spec_l2Colours.ok h31 w )) ?_
     rintro v31_1 _ ⟨_, ⟨S31_1, hl_v31_1, rfl⟩, rfl⟩
     refine F.qg rfl rfl rfl rfl rfl rfl g29 (r_move rfl) ?_
     refine F.qc rfl rfl rfl (wg rfl rfl rfl g29) (q_callF (xs := _) rfl ok99 rfl rfl (fun w hw => spec_l1Has.ok h33 w ((rd_sl (i := 0) rfl) w hw))) ?_
     refine F.qg rfl rfl rfl rfl rfl rfl g29 (r_not rfl) ?_
     refine F.qn rfl rfl rfl rfl (r_pickf rfl rfl g29) ?_
     refine F.nil ?_
     cases hE_1
     refine Nrm.only [1, 2, 3, 4, 35] rfl ?_
     refine Nrm.pick [] rfl rfl ?_
     exact hj_1 _ _ ⟨rfl, rfl⟩


def laws_vMaze.l0 (k : Nat) (a0_1 : List (Int × Int × Int)) (a1_1 : List (Int × Int × Int)) : Nat → Int → Option ((Unit) ⊕ (Bool))
 | 0, _ => none
 | n + 1, x5 => (if (decide (x5 < (a0_1.length : Int))) = true then (rdl a0_1 x5).bind fun t38 => (rdl a1_1 x5).bind fun t43 => (if (!decide ((t38.1, t38.2.1, t38.2.2) = (t43.1, t43.2.1, t43.2.2))) = true then some (Sum.inr false) else laws_vMaze.l0 k a0_1 a1_1 n (w64 (x5 + 1))) else some (Sum.inl ()))

def laws_vMaze.f (k : Nat) (a0_0 : Int) (a0_1 : List (Int × Int × Int)) (a0_2 : List Int) (a1_0 : Int) (a1_1 : List (Int × Int × Int)) (a1_2 : List Int) : Option (Bool) := ((if (a0_0 != a1_0) = true then some true else (if ((a0_1.length : Int) != (a1_1.length : Int)) = true then some true else (laws_vInts.f k a0_2 a1_2).bind fun t25 => some (!t25)))).bind fun y27 => (if y27 = true then some false else (laws_vMaze.l0 k a0_1 a1_1 k 0).bind fun s => Lr s some fun _ => some true)

theorem laws_vMaze.ok {k : Nat}  {a0_0 : Int} {a0_1 : List (Int × Int × Int)} {a0_2 : List Int} {a1_0 : Int} {a1_1 : List (Int × Int × Int)} {a1_2 : List Int} {r0 : Bool} (h : laws_vMaze.f k a0_0 a0_1 a0_2 a1_0 a1_1 a1_2 = some r0) (w : World) {va0_1 : Value} {va0_2 : Value} {va1_1 : Value} {va1_2 : Value} (hr_a0_1 : Rd w va0_1 a0_1) (hr_a0_2 : Rd w va0_2 a0_2) (hr_a1_1 : Rd w va1_1 a1_1) (hr_a1_2 : Rd w va1_2 a1_2) :
  Calls Try.prog 44 ([.agg ([.int .i64 a0_0, va0_1, va0_2].toArray), .agg ([.int .i64 a1_0, va1_1, va1_2].toArray)] : List Value).toArray w (fun e w' => e = .returned (.bool r0) ∧ Ext w w') := by
 unfold laws_vMaze.f at h
 have hl_va0_1 := hr_a0_1.len
 have hl_va0_2 := hr_a0_2.len
 have hl_va1_1 := hr_a1_1.len
 have hl_va1_2 := hr_a1_2.len
 refine Calls.of_tri (N := 46) Try.func44 rfl rfl rfl (Sep.nil (M := noM)) ?_
 refine Tri.seq (Tri.reg (l := [0, 1, 2]) rfl ?_)
 refine F.mn rfl rfl rfl rfl (m_boxG rfl rfl) ?_
 rintro _ _ ⟨b2_1, rfl, rfl⟩
 refine F.mn rfl rfl rfl rfl (m_boxG rfl rfl) ?_
 rintro _ _ ⟨b3_1, rfl, rfl⟩
 refine F.qn rfl rfl rfl rfl (r_assign rfl) ?_
 refine F.nil (Nrm.seq (Tri.seq (Tri.seq ?_)))
 obtain ⟨y27, hE_1, h⟩ := bind_some h
 refine Tri.cut (fun e' C' => e' = [(2, .pointer (some ⟨b2_1, 0, none⟩)), (3, .pointer (some ⟨b3_1, 0, none⟩)), (27, .bool y27)] ∧ C' = Sep w noM [R.box b3_1 27 [.int .i64 a1_0, va1_1, va1_2], R.box b2_1 27 [.int .i64 a0_0, va0_1, va0_2]]) ?_ (fun hj_1 => ?_)
 ·rintro _ _ ⟨rfl, rfl⟩
  refine Nrm.seq (Tri.cond (b := y27) rfl (fun g_1 => ?_) (fun g_1 => ?_))
  ·replace h := if_tt g_1 h
   refine Tri.seq (Tri.reg (l := [0]) rfl ?_)
   refine F.qn rfl rfl rfl rfl (r_assign rfl) ?_
   refine F.nil (Nrm.seq (Tri.ret ?_))
   refine Rtn.then ?_
   cases h
   exact Rtn.body (.tmp rfl .nil) (fun w hw => ⟨rfl, hw.ext⟩)
  ·replace h := if_ff g_1 h
   refine Tri.skip (Nrm.seq (Tri.seq (Tri.seq (Tri.reg (l := [0]) rfl ?_))))
   refine F.qn rfl rfl rfl rfl (r_assign rfl) ?_
   refine F.nil (Nrm.seq ?_)
   obtain ⟨s0, hE_2, h⟩ := bind_some h
   refine Tri.block ?_
   refine Tri.only [2, 3, 5] rfl ?_
   refine Tri.pick [0, 1] rfl rfl ?_
   refine Tri.rounds (fun n e' C' => ∃ (x5' : Int), laws_vMaze.l0 k a0_1 a1_1 n x5' = some s0 ∧ e' = [(2, .pointer (some ⟨b2_1, 0, none⟩)), (3, .pointer (some ⟨b3_1, 0, none⟩)), (5, .int .i64 x5')] ∧ C' = Sep w noM [R.box b3_1 27 [.int .i64 a1_0, va1_1, va1_2], R.box b2_1 27 [.int .i64 a0_0, va0_1, va0_2]]) k ?_ ?_ ?_
   ·exact ⟨0, hE_2, rfl, rfl⟩
   ·rintro _ _ ⟨_, hE_2, _⟩
    rw [laws_vMaze.l0.eq_1] at hE_2; cases hE_2
   ·rintro n_1 _ _ ⟨x5, hE_2, rfl, rfl⟩ ih_1
    rw [laws_vMaze.l0.eq_2] at hE_2
    refine Tri.seq (Tri.seq (Tri.reg (l := [0, 1, 2, 3, 4]) rfl ?_))
    refine F.qn rfl rfl rfl rfl (r_move rfl) ?_
    refine F.qn rfl rfl rfl rfl (r_fieldAddr tf27_1 rfl) ?_
    refine F.qn rfl rfl rfl rfl (r_load ta24 rfl (fun w hw => cell_1 (box_cells (i := 1) rfl w hw) rfl)) ?_
    refine F.qn rfl rfl rfl rfl (r_len Try.underlying24 rfl hl_va0_1) ?_
    refine F.qn rfl rfl rfl rfl (r_lss rfl rfl) ?_
    refine F.nil (Nrm.seq (Tri.cond (b := decide (x5 < (a0_1.length : Int))) rfl (fun g_2 => ?_) (fun g_2 => ?_)))
    ·replace hE_2 := if_tt g_2 hE_2
     refine Tri.skip (Nrm.seq (Tri.seq (Tri.block ?_)))
     refine Tri.seq ?_
     obtain ⟨t38, h38, hE_2⟩ := bind_some hE_2
     obtain ⟨t43, h43, hE_2⟩ := bind_some hE_2
     refine Tri.drawA mixedT Sep.up [(0, true), (1, true), (2, true), (3, true), (4, true), (5, true), (6, true), (7, true), (8, true), (9, true), (10, true)] [] (by kernel_rfl) ?_
     refine S.qn rfl rfl rfl rfl (r_fieldAddr tf27_1 rfl) ?_
     refine S.qn rfl rfl rfl rfl (r_load ta24 rfl (fun w hw => cell_1 (box_cells (i := 1) rfl w hw) rfl)) ?_
     refine S.qn rfl rfl rfl rfl (r_move rfl) ?_
     refine S.qn rfl rfl rfl rfl (r_indexAddrS Try.underlying24 ti121 rfl hl_va0_1 rfl (rdl_some h38).1 (rdl_some h38).2.1) ?_
     refine S.qn rfl rfl rfl rfl (r_loadA ta121 ti121 rfl rfl (fun w hw => (Rd.flat ((fun _ hw => hr_a0_1.sep hw) w hw) (rdl_some h38).2.2))) ?_
     refine S.qn rfl rfl rfl rfl (r_fieldAddr tf27_1 rfl) ?_
     refine S.qn rfl rfl rfl rfl (r_load ta24 rfl (fun w hw => cell_1 (box_cells (i := 0) rfl w hw) rfl)) ?_
     refine S.qn rfl rfl rfl rfl (r_move rfl) ?_
     refine S.qn rfl rfl rfl rfl (r_indexAddrS Try.underlying24 ti121 rfl hl_va1_1 rfl (rdl_some h43).1 (rdl_some h43).2.1) ?_
     refine S.qn rfl rfl rfl rfl (r_loadA ta121 ti121 rfl rfl (fun w hw => (Rd.flat ((fun _ hw => hr_a1_1.sep hw) w hw) (rdl_some h43).2.2))) ?_
     refine S.qn rfl rfl rfl rfl (r_neqA3 Try.underlying121 Try.underlying3 ti3 ta3 rfl rfl eg121) ?_
     refine S.nil (F.nil (Nrm.seq (Tri.cond (b := !decide ((t38.1, t38.2.1, t38.2.2) = (t43.1, t43.2.1, t43.2.2))) rfl (fun g_3 => ?_) (fun g_3 => ?_))))
     ·replace hE_2 := if_tt g_3 hE_2
      refine Tri.seq (Tri.reg (l := [0]) rfl ?_)
      refine F.qn rfl rfl rfl rfl (r_assign rfl) ?_
      refine F.nil (Nrm.seq (Tri.ret ?_))
      refine Rtn.block ?_
      refine Rtn.then ?_
      refine Rtn.then ?_
      refine Rtn.block ?_
      refine Rtn.then ?_
      cases hE_2
      replace h := Lr_inr h
      cases h
      exact Rtn.body (.tmp rfl .nil) (fun w hw => ⟨rfl, hw.ext⟩)
     ·replace hE_2 := if_ff g_3 hE_2
      refine Tri.skip (Nrm.block ?_)
      refine Nrm.seq (Tri.reg (l := [0, 1, 2]) rfl ?_)
      refine F.qn rfl rfl rfl rfl (r_move rfl) ?_
      refine F.qn rfl rfl rfl rfl (r_add rfl rfl) ?_
      refine F.qn rfl rfl rfl rfl (r_assign rfl) ?_
      refine F.nil (Nrm.round ?_)
      refine Rnd.only [2, 3, 5] rfl ?_
      refine Rnd.pick [0, 1] rfl rfl ?_
      exact ih_1 _ _ ⟨w64 (x5 + 1), hE_2, rfl, rfl⟩
    ·replace hE_2 := if_ff g_2 hE_2
     refine Tri.exit ?_
     refine Exi.then ?_
     refine Exi.then ?_
     refine Exi.same ?_
     cases hE_2
     replace h := Lr_inl h
     refine Nrm.seq (Tri.seq (Tri.reg (l := [0]) rfl ?_))
     refine F.qn rfl rfl rfl rfl (r_assign rfl) ?_
     refine F.nil (Nrm.seq (Tri.ret ?_))
     cases h
     exact Rtn.body (.tmp rfl .nil) (fun w hw => ⟨rfl, hw.ext⟩)
 ·rcases Bool.eq_false_or_eq_true (a0_0 != a1_0) with g11 | g11
  ·replace hE_1 := if_tt g11 hE_1
   refine Tri.reg (l := List.range 22) rfl ?_
   refine F.qn rfl rfl rfl rfl (r_fieldAddr tf27_0 rfl) ?_
   refine F.qn rfl rfl rfl rfl (r_load ta3 rfl (fun w hw => cell_1 (box_cells (i := 1) rfl w hw) rfl)) ?_
   refine F.qn rfl rfl rfl rfl (r_fieldAddr tf27_0 rfl) ?_
   refine F.qn rfl rfl rfl rfl (r_load ta3 rfl (fun w hw => cell_1 (box_cells (i := 0) rfl w hw) rfl)) ?_
   refine F.qn rfl rfl rfl rfl (r_neq rfl rfl) ?_
   refine F.qn rfl rfl rfl rfl (r_move rfl) ?_
   iterate 7 refine F.sk rfl rfl rfl (wf rfl rfl rfl g11) ?_
   refine F.qn rfl rfl rfl rfl (r_pick rfl rfl g11) ?_
   refine F.qn rfl rfl rfl rfl (r_move rfl) ?_
   iterate 6 refine F.sk rfl rfl rfl (wf rfl rfl rfl rfl) ?_
   refine F.qn rfl rfl rfl rfl (r_pick rfl rfl rfl) ?_
   refine F.nil ?_
   cases hE_1
   refine Nrm.only [2, 3, 27] rfl ?_
   refine Nrm.pick [0, 1] rfl rfl ?_
   exact hj_1 _ _ ⟨rfl, rfl⟩
  ·replace hE_1 := if_ff g11 hE_1
   rcases Bool.eq_false_or_eq_true ((a0_1.length : Int) != (a1_1.length : Int)) with g20 | g20
   ·replace hE_1 := if_tt g20 hE_1
    refine Tri.reg (l := List.range 22) rfl ?_
    refine F.qn rfl rfl rfl rfl (r_fieldAddr tf27_0 rfl) ?_
    refine F.qn rfl rfl rfl rfl (r_load ta3 rfl (fun w hw => cell_1 (box_cells (i := 1) rfl w hw) rfl)) ?_
    refine F.qn rfl rfl rfl rfl (r_fieldAddr tf27_0 rfl) ?_
    refine F.qn rfl rfl rfl rfl (r_load ta3 rfl (fun w hw => cell_1 (box_cells (i := 0) rfl w hw) rfl)) ?_
    refine F.qn rfl rfl rfl rfl (r_neq rfl rfl) ?_
    refine F.qn rfl rfl rfl rfl (r_move rfl) ?_
    refine F.qg rfl rfl rfl rfl rfl rfl g11 (r_fieldAddr tf27_1 rfl) ?_
    refine F.qg rfl rfl rfl rfl rfl rfl g11 (r_load ta24 rfl (fun w hw => cell_1 (box_cells (i := 1) rfl w hw) rfl)) ?_
    refine F.qg rfl rfl rfl rfl rfl rfl g11 (r_len Try.underlying24 rfl hl_va0_1) ?_
    refine F.qg rfl rfl rfl rfl rfl rfl g11 (r_fieldAddr tf27_1 rfl) ?_
    refine F.qg rfl rfl rfl rfl rfl rfl g11 (r_load ta24 rfl (fun w hw => cell_1 (box_cells (i := 0) rfl w hw) rfl)) ?_
    refine F.qg rfl rfl rfl rfl rfl rfl g11 (r_len Try.underlying24 rfl hl_va1_1) ?_
    refine F.qg rfl rfl rfl rfl rfl rfl g11 (r_neq rfl rfl) ?_
    refine F.qn rfl rfl rfl rfl (r_pickf rfl rfl g11) ?_
    refine F.qn rfl rfl rfl rfl (r_move rfl) ?_
    iterate 6 refine F.sk rfl rfl rfl (wf rfl rfl rfl g20) ?_
    refine F.qn rfl rfl rfl rfl (r_pick rfl rfl g20) ?_
    refine F.nil ?_
    cases hE_1
    refine Nrm.only [2, 3, 27] rfl ?_
    refine Nrm.pick [0, 1] rfl rfl ?_
    exact hj_1 _ _ ⟨rfl, rfl⟩
   ·replace hE_1 := if_ff g20 hE_1
    obtain ⟨t25, h25, hE_1⟩ := bind_some hE_1
    refine Tri.reg (l := List.range 22) rfl ?_
    refine F.qn rfl rfl rfl rfl (r_fieldAddr tf27_0 rfl) ?_
    refine F.qn rfl rfl rfl rfl (r_load ta3 rfl (fun w hw => cell_1 (box_cells (i := 1) rfl w hw) rfl)) ?_
    refine F.qn rfl rfl rfl rfl (r_fieldAddr tf27_0 rfl) ?_
    refine F.qn rfl rfl rfl rfl (r_load ta3 rfl (fun w hw => cell_1 (box_cells (i := 0) rfl w hw) rfl)) ?_
    refine F.qn rfl rfl rfl rfl (r_neq rfl rfl) ?_
    refine F.qn rfl rfl rfl rfl (r_move rfl) ?_
    refine F.qg rfl rfl rfl rfl rfl rfl g11 (r_fieldAddr tf27_1 rfl) ?_
    refine F.qg rfl rfl rfl rfl rfl rfl g11 (r_load ta24 rfl (fun w hw => cell_1 (box_cells (i := 1) rfl w hw) rfl)) ?_
    refine F.qg rfl rfl rfl rfl rfl rfl g11 (r_len Try.underlying24 rfl hl_va0_1) ?_
    refine F.qg rfl rfl rfl rfl rfl rfl g11 (r_fieldAddr tf27_1 rfl) ?_
    refine F.qg rfl rfl rfl rfl rfl rfl g11 (r_load ta24 rfl (fun w hw => cell_1 (box_cells (i := 0) rfl w hw) rfl)) ?_
    refine F.qg rfl rfl rfl rfl rfl rfl g11 (r_len Try.underlying24 rfl hl_va1_1) ?_
    refine F.qg rfl rfl rfl rfl rfl rfl g11 (r_neq rfl rfl) ?_
    refine F.qn rfl rfl rfl rfl (r_pickf rfl rfl g11) ?_
    refine F.qn rfl rfl rfl rfl (r_move rfl) ?_
    refine F.qg rfl rfl rfl rfl rfl rfl g20 (r_fieldAddr tf27_2 rfl) ?_
    refine F.qg rfl rfl rfl rfl rfl rfl g20 (r_load ta25 rfl (fun w hw => cell_1 (box_cells (i := 1) rfl w hw) rfl)) ?_
    refine F.qg rfl rfl rfl rfl rfl rfl g20 (r_fieldAddr tf27_2 rfl) ?_
    refine F.qg rfl rfl rfl rfl rfl rfl g20 (r_load ta25 rfl (fun w hw => cell_1 (box_cells (i := 0) rfl w hw) rfl)) ?_
    refine F.qc rfl rfl rfl (wg rfl rfl rfl g20) (q_callF (xs := _) rfl ok20 rfl rfl (fun w hw => laws_vInts.ok h25 w ((fun _ hw => hr_a0_2.sep hw) w hw) ((fun _ hw => hr_a1_2.sep hw) w hw))) ?_
    refine F.qg rfl rfl rfl rfl rfl rfl g20 (r_not rfl) ?_
    refine F.qn rfl rfl rfl rfl (r_pickf rfl rfl g20) ?_
    refine F.nil ?_
    cases hE_1
    refine Nrm.only [2, 3, 27] rfl ?_
    refine Nrm.pick [0, 1] rfl rfl ?_
    exact hj_1 _ _ ⟨rfl, rfl⟩


def laws_vPairs.l0 (k : Nat) (a0 : List (Int × Int)) (a1 : List (Int × Int)) : Nat → Int → Option ((Unit) ⊕ (Bool))
 | 0, _ => none
 | n + 1, x5 => (if (decide (x5 < (a0.length : Int))) = true then (rdl a0 x5).bind fun t19 => (rdl a1 x5).bind fun t23 => (if (!decide ((t19.1, t19.2) = (t23.1, t23.2))) = true then some (Sum.inr false) else laws_vPairs.l0 k a0 a1 n (w64 (x5 + 1))) else some (Sum.inl ()))

def laws_vPairs.f (k : Nat) (a0 : List (Int × Int)) (a1 : List (Int × Int)) : Option (Bool) := (if ((a0.length : Int) != (a1.length : Int)) = true then some false else (laws_vPairs.l0 k a0 a1 k 0).bind fun s => Lr s some fun _ => some true)

theorem laws_vPairs.ok {k : Nat}  {a0 : List (Int × Int)} {a1 : List (Int × Int)} {r0 : Bool} (h : laws_vPairs.f k a0 a1 = some r0) (w : World) {va0 : Value} {va1 : Value} (hr_a0 : Rd w va0 a0) (hr_a1 : Rd w va1 a1) :
  Calls Try.prog 45 ([va0, va1] : List Value).toArray w (fun e w' => e = .returned (.bool r0) ∧ Ext w w') := by
 unfold laws_vPairs.f at h
 have hl_va0 := hr_a0.len
 have hl_va1 := hr_a1.len
 refine Calls.of_tri (N := 26) Try.func45 rfl rfl rfl (Sep.nil (M := noM)) ?_
 refine Tri.seq (Tri.reg (l := [0]) rfl ?_)
 refine F.qn rfl rfl rfl rfl (r_assign rfl) ?_
 refine F.nil (Nrm.seq (Tri.seq (Tri.seq (Tri.reg (l := [0, 1, 2, 3, 4]) rfl ?_))))
 refine F.qn rfl rfl rfl rfl (r_move rfl) ?_
 refine F.qn rfl rfl rfl rfl (r_len Try.underlying56 rfl hl_va0) ?_
 refine F.qn rfl rfl rfl rfl (r_move rfl) ?_
 refine F.qn rfl rfl rfl rfl (r_len Try.underlying56 rfl hl_va1) ?_
 refine F.qn rfl rfl rfl rfl (r_neq rfl rfl) ?_
 refine F.nil (Nrm.seq (Tri.cond (b := (a0.length : Int) != (a1.length : Int)) rfl (fun g_1 => ?_) (fun g_1 => ?_)))
 ·replace h := if_tt g_1 h
  refine Tri.seq (Tri.reg (l := [0]) rfl ?_)
  refine F.qn rfl rfl rfl rfl (r_assign rfl) ?_
  refine F.nil (Nrm.seq (Tri.ret ?_))
  refine Rtn.then ?_
  cases h
  exact Rtn.body (.tmp rfl .nil) (fun w hw => ⟨rfl, hw.ext⟩)
 ·replace h := if_ff g_1 h
  refine Tri.skip (Nrm.seq (Tri.seq (Tri.seq (Tri.reg (l := [0]) rfl ?_))))
  refine F.qn rfl rfl rfl rfl (r_assign rfl) ?_
  refine F.nil (Nrm.seq ?_)
  obtain ⟨s0, hE_1, h⟩ := bind_some h
  refine Tri.block ?_
  refine Tri.only [0, 1, 5] rfl ?_
  refine Tri.pick [] rfl rfl ?_
  refine Tri.rounds (fun n e' C' => ∃ (x5' : Int), laws_vPairs.l0 k a0 a1 n x5' = some s0 ∧ e' = [(0, va0), (1, va1), (5, .int .i64 x5')] ∧ C' = Sep w noM []) k ?_ ?_ ?_
  ·exact ⟨0, hE_1, rfl, rfl⟩
  ·rintro _ _ ⟨_, hE_1, _⟩
   rw [laws_vPairs.l0.eq_1] at hE_1; cases hE_1
  ·rintro n_1 _ _ ⟨x5, hE_1, rfl, rfl⟩ ih_1
   rw [laws_vPairs.l0.eq_2] at hE_1
   refine Tri.seq (Tri.seq (Tri.reg (l := [0, 1, 2, 3]) rfl ?_))
   refine F.qn rfl rfl rfl rfl (r_move rfl) ?_
   refine F.qn rfl rfl rfl rfl (r_move rfl) ?_
   refine F.qn rfl rfl rfl rfl (r_len Try.underlying56 rfl hl_va0) ?_
   refine F.qn rfl rfl rfl rfl (r_lss rfl rfl) ?_
   refine F.nil (Nrm.seq (Tri.cond (b := decide (x5 < (a0.length : Int))) rfl (fun g_2 => ?_) (fun g_2 => ?_)))
   ·replace hE_1 := if_tt g_2 hE_1
    refine Tri.skip (Nrm.seq (Tri.seq (Tri.block ?_)))
    refine Tri.seq ?_
    obtain ⟨t19, h19, hE_1⟩ := bind_some hE_1
    obtain ⟨t23, h23, hE_1⟩ := bind_some hE_1
    refine Tri.drawA mixedT Sep.up [(0, true), (1, true), (2, true), (3, true), (4, true), (5, true), (6, true), (7, true), (8, true)] [] (by kernel_rfl) ?_
    refine S.qn rfl rfl rfl rfl (r_move rfl) ?_
    refine S.qn rfl rfl rfl rfl (r_move rfl) ?_
    refine S.qn rfl rfl rfl rfl (r_indexAddrS Try.underlying56 ti64 rfl hl_va0 rfl (rdl_some h19).1 (rdl_some h19).2.1) ?_
    refine S.qn rfl rfl rfl rfl (r_loadA ta64 ti64 rfl rfl (fun w hw => (Rd.flat ((fun _ hw => hr_a0.sep hw) w hw) (rdl_some h19).2.2))) ?_
    refine S.qn rfl rfl rfl rfl (r_move rfl) ?_
    refine S.qn rfl rfl rfl rfl (r_move rfl) ?_
    refine S.qn rfl rfl rfl rfl (r_indexAddrS Try.underlying56 ti64 rfl hl_va1 rfl (rdl_some h23).1 (rdl_some h23).2.1) ?_
    refine S.qn rfl rfl rfl rfl (r_loadA ta64 ti64 rfl rfl (fun w hw => (Rd.flat ((fun _ hw => hr_a1.sep hw) w hw) (rdl_some h23).2.2))) ?_
    refine S.qn rfl rfl rfl rfl (r_neqA2 Try.underlying64 Try.underlying3 ti3 ta3 rfl rfl eg64) ?_
    refine S.nil (F.nil (Nrm.seq (Tri.cond (b := !decide ((t19.1, t19.2) = (t23.1, t23.2))) rfl (fun g_3 => ?_) (fun g_3 => ?_))))
    ·replace hE_1 := if_tt g_3 hE_1
     refine Tri.seq (Tri.reg (l := [0]) rfl ?_)
     refine F.qn rfl rfl rfl rfl (r_assign rfl) ?_
     refine F.nil (Nrm.seq (Tri.ret ?_))
     refine Rtn.block ?_
     refine Rtn.then ?_
     refine Rtn.then ?_
     refine Rtn.block ?_
     refine Rtn.then ?_
     cases hE_1
     replace h := Lr_inr h
     cases h
     exact Rtn.body (.tmp rfl .nil) (fun w hw => ⟨rfl, hw.ext⟩)
    ·replace hE_1 := if_ff g_3 hE_1
     refine Tri.skip (Nrm.block ?_)
     refine Nrm.seq (Tri.reg (l := [0, 1, 2]) rfl ?_)
     refine F.qn rfl rfl rfl rfl (r_move rfl) ?_
     refine F.qn rfl rfl rfl rfl (r_add rfl rfl) ?_
     refine F.qn rfl rfl rfl rfl (r_assign rfl) ?_
     refine F.nil (Nrm.round ?_)
     refine Rnd.only [0, 1, 5] rfl ?_
     refine Rnd.pick [] rfl rfl ?_
     exact ih_1 _ _ ⟨w64 (x5 + 1), hE_1, rfl, rfl⟩
   ·replace hE_1 := if_ff g_2 hE_1
    refine Tri.exit ?_
    refine Exi.then ?_
    refine Exi.then ?_
    refine Exi.same ?_
    cases hE_1
    replace h := Lr_inl h
    refine Nrm.seq (Tri.seq (Tri.reg (l := [0]) rfl ?_))
    refine F.qn rfl rfl rfl rfl (r_assign rfl) ?_
    refine F.nil (Nrm.seq (Tri.ret ?_))
    cases h
    exact Rtn.body (.tmp rfl .nil) (fun w hw => ⟨rfl, hw.ext⟩)


def impl_WinRound.f (k : Nat) (a0_0 : Int) (a0_1 : List (Int × Int × Int)) (a0_2 : List Int) (a1 : Int) : Option (Int × Bool) := (impl_asked.f k a0_0 a0_1 a0_2 a1).bind fun t9 => (if (!t9) = true then some (0, false) else (impl_nodeRounds.f k a0_0 a0_1 a0_2 a1).bind fun t13 => (rdl t13 (w64 (a0_0 - 1))).bind fun t17 => some (t17, decide (t17 > 0)))

theorem impl_WinRound.ok {k : Nat}  {a0_0 : Int} {a0_1 : List (Int × Int × Int)} {a0_2 : List Int} {a1 : Int} {r0 : Int} {r1 : Bool} (h : impl_WinRound.f k a0_0 a0_1 a0_2 a1 = some (r0, r1)) (w : World) {va0_1 : Value} {va0_2 : Value} (hr_a0_1 : Rd w va0_1 a0_1) (hr_a0_2 : Rd w va0_2 a0_2) :
  Calls Try.prog 46 ([.agg ([.int .i64 a0_0, va0_1, va0_2].toArray), .int .i64 a1] : List Value).toArray w (fun e w' => e = .returned (.tuple #[.int .i64 r0, .bool r1]) ∧ Ext w w') := by
 unfold impl_WinRound.f at h
 have hl_va0_1 := hr_a0_1.len
 have hl_va0_2 := hr_a0_2.len
 refine Calls.of_tri (N := 22) Try.func46 rfl rfl rfl (Sep.nil (M := noM)) ?_
 refine Tri.seq (Tri.reg (l := [0, 1, 2]) rfl ?_)
 refine F.mn rfl rfl rfl rfl (m_boxG rfl rfl) ?_
 rintro _ _ ⟨b2_1, rfl, rfl⟩
 refine F.qn rfl rfl rfl rfl (r_assign rfl) ?_
 refine F.qn rfl rfl rfl rfl (r_assign rfl) ?_
 refine F.nil (Nrm.seq (Tri.seq (Tri.seq ?_)))
 obtain ⟨t9, h9, h⟩ := bind_some h
 refine Tri.reg (l := [0, 1, 2, 3]) rfl ?_
 refine F.qn rfl rfl rfl rfl (r_loadA ta27 ti27 rfl rfl (fun w hw => (box_cells (i := 0) rfl w hw))) ?_
 refine F.qn rfl rfl rfl rfl (r_move rfl) ?_
 refine F.qcn rfl rfl rfl rfl (q_callF (xs := _) rfl ok102 rfl rfl (fun w hw => impl_asked.ok h9 w ((fun _ hw => hr_a0_1.sep hw) w hw) ((fun _ hw => hr_a0_2.sep hw) w hw))) ?_
 refine F.qn rfl rfl rfl rfl (r_not rfl) ?_
 refine F.nil (Nrm.seq (Tri.cond (b := !t9) rfl (fun g_1 => ?_) (fun g_1 => ?_)))
 ·replace h := if_tt g_1 h
  refine Tri.seq (Tri.reg (l := [0, 1]) rfl ?_)
  refine F.qn rfl rfl rfl rfl (r_assign rfl) ?_
  refine F.qn rfl rfl rfl rfl (r_assign rfl) ?_
  refine F.nil (Nrm.seq (Tri.ret ?_))
  refine Rtn.then ?_
  cases h
  exact Rtn.body (.tmp rfl (.tmp rfl .nil)) (fun w hw => ⟨rfl, hw.ext⟩)
 ·replace h := if_ff g_1 h
  refine Tri.skip (Nrm.seq (Tri.seq ?_))
  obtain ⟨t13, h13, h⟩ := bind_some h
  obtain ⟨t17, h17, h⟩ := bind_some h
  refine Tri.drawA mixedT Sep.up [(0, true), (1, true), (3, true), (4, true), (5, true), (2, false), (6, true), (7, true), (8, true)] [] (by kernel_rfl) ?_
  refine S.qn rfl rfl rfl rfl (r_loadA ta27 ti27 rfl rfl (fun w hw => (box_cells (i := 0) rfl w hw))) ?_
  refine S.qn rfl rfl rfl rfl (r_move rfl) ?_
  refine S.qn rfl rfl rfl rfl (r_fieldAddr tf27_0 rfl) ?_
  refine S.qn rfl rfl rfl rfl (r_load ta3 rfl (fun w hw => cell_1 (box_cells (i := 0) rfl w hw) rfl)) ?_
  refine S.qn rfl rfl rfl rfl (r_sub rfl rfl) ?_
  refine S.m rfl rfl rfl (wanted_none rfl) (m_callF (xs := _) rfl ok120 rfl rfl (fun w hw => impl_nodeRounds.ok h13 w ((fun _ hw => hr_a0_1.sep hw) w hw) ((fun _ hw => hr_a0_2.sep hw) w hw))) ?_
  rintro v13_2 _ ⟨_, ⟨S13_2, hl_v13_2, rfl⟩, rfl⟩
  refine S.qn rfl rfl rfl rfl (r_indexAddrS Try.underlying25 ti3 rfl hl_v13_2 rfl (rdl_some h17).1 (rdl_some h17).2.1) ?_
  refine S.qn rfl rfl rfl rfl (r_load ta3 rfl (fun w hw => cell_0 (Rd.flat ((rd_sl (i := 0) rfl) w hw) (rdl_some h17).2.2) rfl)) ?_
  refine S.qn rfl rfl rfl rfl (r_assign rfl) ?_
  refine S.nil (F.nil (Nrm.seq (Tri.seq (Tri.reg (l := [0, 1, 2, 3, 4]) rfl ?_))))
  refine F.qn rfl rfl rfl rfl (r_move rfl) ?_
  refine F.qn rfl rfl rfl rfl (r_move rfl) ?_
  refine F.qn rfl rfl rfl rfl (r_gtr rfl rfl) ?_
  refine F.qn rfl rfl rfl rfl (r_assign rfl) ?_
  refine F.qn rfl rfl rfl rfl (r_assign rfl) ?_
  refine F.nil (Nrm.seq (Tri.ret ?_))
  cases h
  exact Rtn.body (.tmp rfl (.tmp rfl .nil)) (fun w hw => ⟨rfl, hw.ext⟩)

end Go.Proofs
