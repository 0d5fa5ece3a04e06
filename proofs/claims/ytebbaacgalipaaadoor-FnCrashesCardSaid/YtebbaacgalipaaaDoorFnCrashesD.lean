/- A part of the proof of FnCrashes: what the functions of the program compute, walked on the model. No condition. -/
import Derived.Test.YtebbaacgalipaaaDoorFnCrashesA
import Derived.Test.YtebbaacgalipaaaDoorFnCrashesB
import Derived.Test.YtebbaacgalipaaaDoorFnCrashesC
set_option linter.unusedSimpArgs false
/- loop.example/g01158/spec.l12Open -/
namespace Go.Proofs
open Go Go.Ga
set_option linter.unusedVariables false
set_option maxRecDepth 100000
set_option maxHeartbeats 4000000
def spec_l12Open.l0 (k : Nat) (a0 : ByteArray) : Nat → (List (ByteArray × ByteArray)) → Int → Option ((List (ByteArray × ByteArray)) × Int)
 | 0, _, _ => none
 | n + 1, x4, x5 => ((if (decide (x5 < (a0.size : Int))) = true then some (decide ((x4.length : Int) < 60)) else some false)).bind fun y18 => (if y18 = true then (scut a0 x5 (a0.size : Int)).bind fun t21 => (spec_l1Split.f k t21 10).bind fun t22 => (rdl t22 0).bind fun t25 => (spec_l12Decode.f k t25 (x4.length : Int)).bind fun (t29_1, t29_2, t29_3) => ((if (decide ((t22.length : Int) < 2)) = true then some true else some (!t29_3))).bind fun y38 => (if y38 = true then some (x4, x5) else if (x4 ++ ([(t29_1, t29_2)] : List (ByteArray × ByteArray))).length < 1099511627776 then (rdl t22 0).bind fun t45 => spec_l12Open.l0 k a0 n (x4 ++ ([(t29_1, t29_2)] : List (ByteArray × ByteArray))) (w64 ((w64 (x5 + (t45.size : Int))) + 1)) else none) else some (x4, x5))

def spec_l12Open.f (k : Nat) (a0 : ByteArray) : Option ((List (ByteArray × ByteArray)) × Int) := (spec_l12Open.l0 k a0 k ([] : List (ByteArray × ByteArray)) 0).bind fun (y4, y5) => some (y4, y5)

theorem spec_l12Open.ok {k : Nat}  {a0 : ByteArray} {r0 : List (ByteArray × ByteArray)} {r1 : Int} (h : spec_l12Open.f k a0 = some (r0, r1)) (w : World) :
  Calls Tryd.prog 46 ([.string a0] : List Value).toArray w (Post (fun u ns => ∃ (ur0 : Value) (Sr0 : Nat → Prop), u = .tuple #[ur0, .int .i64 r1] ∧ SlLen ur0 r0.length ∧ ns = [R.sl Sr0 ur0 r0]) w) := by
 unfold spec_l12Open.f at h
 refine Calls.of_tri (N := 52) Tryd.func46 rfl rfl rfl (Sep.nil (M := noM)) ?_
 refine Tri.seq (Tri.reg (l := [0, 1]) rfl ?_)
 refine F.qn rfl rfl rfl rfl (r_assign rfl) ?_
 refine F.qn rfl rfl rfl rfl (r_assign rfl) ?_
 refine F.nil (Nrm.seq (Tri.seq (Tri.reg (l := [0, 1]) rfl ?_)))
 refine F.mn rfl rfl rfl rfl (m_build0 (α := ByteArray × ByteArray) Tryd.underlying43 ti25) ?_
 rintro v9_1 _ ⟨S9_1, hl_v9_1, rfl⟩
 refine F.qn rfl rfl rfl rfl (r_assign rfl) ?_
 refine F.nil (Nrm.seq (Tri.seq (Tri.reg (l := [0]) rfl ?_)))
 refine F.qn rfl rfl rfl rfl (r_assign rfl) ?_
 refine F.nil (Nrm.seq (Tri.seq ?_))
 obtain ⟨⟨y4, y5⟩, hE_1, h⟩ := bind_some h
 refine Tri.cut (fun e' C' => ∃ (v4_1 : Value) (S4_1 : Nat → Prop), SlLen v4_1 (y4).length ∧ e' = [(4, v4_1), (5, .int .i64 y5)] ∧ C' = Sep w noM [R.sl S4_1 v4_1 (y4 : List (ByteArray × ByteArray))]) ?_ (fun hj_1 => ?_)
 ·rintro _ _ ⟨v4_1, S4_1, hl_v4_1, rfl, rfl⟩
  refine Nrm.seq (Tri.seq (Tri.reg (l := [0, 1, 2, 3]) rfl ?_))
  refine F.qn rfl rfl rfl rfl (r_move rfl) ?_
  refine F.qn rfl rfl rfl rfl (r_move rfl) ?_
  refine F.qn rfl rfl rfl rfl (r_assign rfl) ?_
  refine F.qn rfl rfl rfl rfl (r_assign rfl) ?_
  refine F.nil (Nrm.seq (Tri.ret ?_))
  cases h
  exact Rtn.body (.tmp rfl (.tmp rfl .nil)) (fun w hw => ⟨_, _, rfl, ⟨v4_1, S4_1, rfl, hl_v4_1, rfl⟩, Sep.pick (is := [0]) rfl rfl hw⟩)
 ·refine Tri.block ?_
  refine Tri.only [0, 4, 5] rfl ?_
  refine Tri.pick [0] rfl rfl ?_
  refine Tri.rounds (fun n e' C' => ∃ (x4' : List (ByteArray × ByteArray)) (x5' : Int) (w4 : Value) (T4 : Nat → Prop), spec_l12Open.l0 k a0 n x4' x5' = some (y4, y5) ∧ SlLen w4 (x4').length ∧ e' = [(0, .string a0), (4, w4), (5, .int .i64 x5')] ∧ C' = Sep w noM [R.sl T4 w4 (x4' : List (ByteArray × ByteArray))]) k ?_ ?_ ?_
  ·exact ⟨([] : List (ByteArray × ByteArray)), 0, v9_1, S9_1, hE_1, hl_v9_1, rfl, rfl⟩
  ·rintro _ _ ⟨_, _, _, _, hE_2, _⟩
   rw [spec_l12Open.l0.eq_1] at hE_2; cases hE_2
  ·rintro n_1 _ _ ⟨x4, x5, w4, T4, hE_2, hl_w4, rfl, rfl⟩ ih_1
   rw [spec_l12Open.l0.eq_2] at hE_2
   refine Tri.seq (Tri.seq ?_)
   obtain ⟨y18, hE_3, hE_2⟩ := bind_some hE_2
   refine Tri.cut (fun e' C' => e' = [(0, .string a0), (4, w4), (5, .int .i64 x5), (18, .bool y18)] ∧ C' = Sep w noM [R.sl T4 w4 (x4 : List (ByteArray × ByteArray))]) ?_ (fun hj_2 => ?_)
   ·rintro _ _ ⟨rfl, rfl⟩
    refine Nrm.seq (Tri.cond (b := y18) rfl (fun g_1 => ?_) (fun g_1 => ?_))
    ·replace hE_2 := if_tt g_1 hE_2
     refine Tri.skip (Nrm.seq (Tri.block ?_))
     refine Tri.seq ?_
     obtain ⟨t21, h21, hE_2⟩ := bind_some hE_2
     obtain ⟨t22, h22, hE_2⟩ := bind_some hE_2
     refine Tri.reg (l := [0, 1, 2, 3, 4]) rfl ?_
     refine F.qn rfl rfl rfl rfl (r_move rfl) ?_
     refine F.qn rfl rfl rfl rfl (r_move rfl) ?_
     refine F.qn rfl rfl rfl rfl (r_scutL Tryd.underlying9 rfl rfl h21) ?_
     refine F.mn rfl rfl rfl rfl (m_callF (xs := _) rfl ok61 rfl rfl (fun w hw => spec_l1Split.ok h22 w )) ?_
     rintro v22_1 _ ⟨_, ⟨S22_1, hl_v22_1, rfl⟩, rfl⟩
     refine F.qn rfl rfl rfl rfl (r_assign rfl) ?_
     refine F.nil (Nrm.seq (Tri.seq ?_))
     obtain ⟨t25, h25, hE_2⟩ := bind_some hE_2
     obtain ⟨⟨t29_1, t29_2, t29_3⟩, h29, hE_2⟩ := bind_some hE_2
     refine Tri.reg (l := List.range 12) rfl ?_
     refine F.qn rfl rfl rfl rfl (r_move rfl) ?_
     refine F.qn rfl rfl rfl rfl (r_indexAddrS Tryd.underlying75 ti9 rfl hl_v22_1 rfl (rdl_some h25).1 (rdl_some h25).2.1) ?_
     refine F.qn rfl rfl rfl rfl (r_load ta9 rfl (fun w hw => cell_0 (Rd.flat ((rd_sl (i := 0) rfl) w hw) (rdl_some h25).2.2) rfl)) ?_
     refine F.qn rfl rfl rfl rfl (r_move rfl) ?_
     refine F.qn rfl rfl rfl rfl (r_len Tryd.underlying43 rfl hl_w4) ?_
     refine F.qcn rfl rfl rfl rfl (q_callF (xs := _) rfl ok62 rfl rfl (fun w hw => spec_l12Decode.ok h29 w )) ?_
     refine F.qn rfl rfl rfl rfl (r_move rfl) ?_
     refine F.qn rfl rfl rfl rfl (r_extract rfl rfl) ?_
     refine F.qn rfl rfl rfl rfl (r_extract rfl rfl) ?_
     refine F.mn rfl rfl rfl rfl (m_alloc ti25) ?_
     rintro _ _ ⟨b7_1, rfl, rfl⟩
     refine F.ef0 rfl rfl (wanted_none rfl) (d_storeG0 (i := 0) (cs2 := [.string t29_1, .string t29_2]) ti25 rfl rfl rfl rfl rfl (Nat.le_of_ble_eq_true rfl) (lf_cons rfl (lf_cons rfl lf_nil))) ?_
     rintro _ _ ⟨rfl, rfl⟩
     refine F.qn rfl rfl rfl rfl (r_assign rfl) ?_
     refine F.nil (Nrm.seq (Tri.seq (Tri.seq ?_)))
     obtain ⟨y38, hE_4, hE_2⟩ := bind_some hE_2
     refine Tri.cut (fun e' C' => e' = [(0, .string a0), (4, w4), (5, .int .i64 x5), (6, v22_1), (7, .pointer (some ⟨b7_1, 0, none⟩)), (38, .bool y38)] ∧ C' = Sep w noM [R.box b7_1 25 [.string t29_1, .string t29_2], R.sl S22_1 v22_1 (t22 : List (ByteArray)), R.sl T4 w4 (x4 : List (ByteArray × ByteArray))]) ?_ (fun hj_3 => ?_)
     ·rintro _ _ ⟨rfl, rfl⟩
      refine Nrm.seq (Tri.cond (b := y38) rfl (fun g_2 => ?_) (fun g_2 => ?_))
      ·replace hE_2 := if_tt g_2 hE_2
       refine Tri.exit ?_
       refine Exi.then ?_
       refine Exi.other rfl ?_
       refine Exi.then ?_
       refine Exi.same ?_
       cases hE_2
       refine Nrm.only [4, 5] rfl ?_
       refine Nrm.pick [2] rfl rfl ?_
       exact hj_1 _ _ ⟨w4, T4, hl_w4, rfl, rfl⟩
      ·replace hE_2 := if_ff g_2 hE_2
       refine Tri.skip (Nrm.seq (Tri.seq ?_))
       obtain ⟨hs42, hE_2⟩ := ck hE_2
       refine Tri.reg (l := [0, 1, 2, 3, 4]) rfl ?_
       refine F.qn rfl rfl rfl rfl (r_move rfl) ?_
       refine F.qn rfl rfl rfl rfl (r_loadA ta25 ti25 rfl rfl (fun w hw => (box_cells (i := 0) rfl w hw))) ?_
       refine F.mn rfl rfl rfl rfl (m_buildF (l := ([(t29_1, t29_2)] : List (ByteArray × ByteArray))) Tryd.underlying43 ti25 rfl rfl rfl rfl rfl) ?_
       rintro v41_1 _ ⟨S41_1, hl_v41_1, rfl⟩
       refine F.efn rfl rfl rfl rfl (d_append (i := 3) Tryd.underlying43 Tryd.underlying43 ti25 rfl (by decide) rfl rfl rfl (rd_sl (i := 0) rfl) hs42) ?_
       rintro v42_1 _ ⟨S42_1, rfl, hl_v42_1⟩
       refine F.qn rfl rfl rfl rfl (r_assign rfl) ?_
       refine F.nil (Nrm.seq ?_)
       obtain ⟨t45, h45, hE_2⟩ := bind_some hE_2
       refine Tri.reg (l := [0, 1, 2, 3, 4, 5, 6, 7]) rfl ?_
       refine F.qn rfl rfl rfl rfl (r_move rfl) ?_
       refine F.qn rfl rfl rfl rfl (r_move rfl) ?_
       refine F.qn rfl rfl rfl rfl (r_indexAddrS Tryd.underlying75 ti9 rfl hl_v22_1 rfl (rdl_some h45).1 (rdl_some h45).2.1) ?_
       refine F.qn rfl rfl rfl rfl (r_load ta9 rfl (fun w hw => cell_0 (Rd.flat ((rd_sl (i := 2) rfl) w hw) (rdl_some h45).2.2) rfl)) ?_
       refine F.qn rfl rfl rfl rfl (r_lenS Tryd.underlying9 rfl) ?_
       refine F.qn rfl rfl rfl rfl (r_add rfl rfl) ?_
       refine F.qn rfl rfl rfl rfl (r_add rfl rfl) ?_
       refine F.qn rfl rfl rfl rfl (r_assign rfl) ?_
       refine F.nil (Nrm.block ?_)
       refine Nrm.round ?_
       refine Rnd.only [0, 4, 5] rfl ?_
       refine Rnd.pick [3] rfl rfl ?_
       exact ih_1 _ _ ⟨x4 ++ ([(t29_1, t29_2)] : List (ByteArray × ByteArray)), w64 ((w64 (x5 + (t45.size : Int))) + 1), v42_1, S42_1, hE_2, hl_v42_1, rfl, rfl⟩
     ·rcases Bool.eq_false_or_eq_true (decide ((t22.length : Int) < 2)) with g35 | g35
      ·replace hE_4 := if_tt g35 hE_4
       refine Tri.reg (l := [0, 1, 2, 3, 4, 5, 6]) rfl ?_
       refine F.qn rfl rfl rfl rfl (r_move rfl) ?_
       refine F.qn rfl rfl rfl rfl (r_len Tryd.underlying75 rfl hl_v22_1) ?_
       refine F.qn rfl rfl rfl rfl (r_lss rfl rfl) ?_
       refine F.qn rfl rfl rfl rfl (r_move rfl) ?_
       refine F.sk rfl rfl rfl (wf rfl rfl rfl g35) ?_
       refine F.sk rfl rfl rfl (wf rfl rfl rfl g35) ?_
       refine F.qn rfl rfl rfl rfl (r_pick rfl rfl g35) ?_
       refine F.nil ?_
       cases hE_4
       refine Nrm.only [0, 4, 5, 6, 7, 38] rfl ?_
       refine Nrm.pick [0, 1, 2] rfl rfl ?_
       exact hj_3 _ _ ⟨rfl, rfl⟩
      ·replace hE_4 := if_ff g35 hE_4
       refine Tri.reg (l := [0, 1, 2, 3, 4, 5, 6]) rfl ?_
       refine F.qn rfl rfl rfl rfl (r_move rfl) ?_
       refine F.qn rfl rfl rfl rfl (r_len Tryd.underlying75 rfl hl_v22_1) ?_
       refine F.qn rfl rfl rfl rfl (r_lss rfl rfl) ?_
       refine F.qn rfl rfl rfl rfl (r_move rfl) ?_
       refine F.qg rfl rfl rfl rfl rfl rfl g35 (r_move rfl) ?_
       refine F.qg rfl rfl rfl rfl rfl rfl g35 (r_not rfl) ?_
       refine F.qn rfl rfl rfl rfl (r_pickf rfl rfl g35) ?_
       refine F.nil ?_
       cases hE_4
       refine Nrm.only [0, 4, 5, 6, 7, 38] rfl ?_
       refine Nrm.pick [0, 1, 2] rfl rfl ?_
       exact hj_3 _ _ ⟨rfl, rfl⟩
    ·replace hE_2 := if_ff g_1 hE_2
     refine Tri.exit ?_
     refine Exi.then ?_
     refine Exi.then ?_
     refine Exi.same ?_
     cases hE_2
     refine Nrm.only [4, 5] rfl ?_
     refine Nrm.pick [0] rfl rfl ?_
     exact hj_1 _ _ ⟨w4, T4, hl_w4, rfl, rfl⟩
   ·rcases Bool.eq_false_or_eq_true (decide (x5 < (a0.size : Int))) with g14 | g14
    ·replace hE_3 := if_tt g14 hE_3
     refine Tri.reg (l := [0, 1, 2, 3, 4, 5, 6, 7, 8]) rfl ?_
     refine F.qn rfl rfl rfl rfl (r_move rfl) ?_
     refine F.qn rfl rfl rfl rfl (r_move rfl) ?_
     refine F.qn rfl rfl rfl rfl (r_lenS Tryd.underlying9 rfl) ?_
     refine F.qn rfl rfl rfl rfl (r_lss rfl rfl) ?_
     refine F.qn rfl rfl rfl rfl (r_move rfl) ?_
     refine F.qg rfl rfl rfl rfl rfl rfl g14 (r_move rfl) ?_
     refine F.qg rfl rfl rfl rfl rfl rfl g14 (r_len Tryd.underlying43 rfl hl_w4) ?_
     refine F.qg rfl rfl rfl rfl rfl rfl g14 (r_lss rfl rfl) ?_
     refine F.qn rfl rfl rfl rfl (r_pick rfl rfl g14) ?_
     refine F.nil ?_
     cases hE_3
     refine Nrm.only [0, 4, 5, 18] rfl ?_
     refine Nrm.pick [0] rfl rfl ?_
     exact hj_2 _ _ ⟨rfl, rfl⟩
    ·replace hE_3 := if_ff g14 hE_3
     refine Tri.reg (l := [0, 1, 2, 3, 4, 5, 6, 7, 8]) rfl ?_
     refine F.qn rfl rfl rfl rfl (r_move rfl) ?_
     refine F.qn rfl rfl rfl rfl (r_move rfl) ?_
     refine F.qn rfl rfl rfl rfl (r_lenS Tryd.underlying9 rfl) ?_
     refine F.qn rfl rfl rfl rfl (r_lss rfl rfl) ?_
     refine F.qn rfl rfl rfl rfl (r_move rfl) ?_
     iterate 3 refine F.sk rfl rfl rfl (wf rfl rfl rfl g14) ?_
     refine F.qn rfl rfl rfl rfl (r_pickf rfl rfl g14) ?_
     refine F.nil ?_
     cases hE_3
     refine Nrm.only [0, 4, 5, 18] rfl ?_
     refine Nrm.pick [0] rfl rfl ?_
     exact hj_2 _ _ ⟨rfl, rfl⟩


def spec_l12Valid.f (k : Nat) (a0_0 : ByteArray) (a0_1 : ByteArray) (a0_2 : Int) : Option (Bool) := (if (decide ((w64 ((a0_0.size : Int) + (a0_1.size : Int))) > 30000)) = true then some false else if (a0_0 ++ a0_1).size < 4611686018427387904 then (spec_l12Open.f k (a0_0 ++ a0_1)).bind fun (t21_1, t21_2) => (spec_l12Open.f k a0_0).bind fun (t27_1, t27_2) => ((if (t21_2 == (w64 ((a0_0.size : Int) + (a0_1.size : Int)))) = true then (if (t27_2 == (a0_0.size : Int)) = true then some ((t21_1.length : Int) == a0_2) else some false) else some false)).bind fun y2 => some y2 else none)

theorem spec_l12Valid.ok {k : Nat}  {a0_0 : ByteArray} {a0_1 : ByteArray} {a0_2 : Int} {r0 : Bool} (h : spec_l12Valid.f k a0_0 a0_1 a0_2 = some r0) (w : World) :
  Calls Tryd.prog 41 ([.agg ([.string a0_0, .string a0_1, .int .i64 a0_2].toArray)] : List Value).toArray w (fun e w' => e = .returned (.bool r0) ∧ Ext w w') := by
 unfold spec_l12Valid.f at h
 refine Calls.of_tri (N := 53) Tryd.func41 rfl rfl rfl (Sep.nil (M := noM)) ?_
 refine Tri.seq (Tri.reg (l := [0, 1]) rfl ?_)
 refine F.mn rfl rfl rfl rfl (m_boxG rfl rfl) ?_
 rintro _ _ ⟨b1_1, rfl, rfl⟩
 refine F.qn rfl rfl rfl rfl (r_assign rfl) ?_
 refine F.nil (Nrm.seq (Tri.seq (Tri.seq (Tri.reg (l := [0, 1, 2, 3, 4, 5, 6, 7]) rfl ?_))))
 refine F.qn rfl rfl rfl rfl (r_fieldAddr tf33_0 rfl) ?_
 refine F.qn rfl rfl rfl rfl (r_load ta9 rfl (fun w hw => cell_1 (box_cells (i := 0) rfl w hw) rfl)) ?_
 refine F.qn rfl rfl rfl rfl (r_lenS Tryd.underlying9 rfl) ?_
 refine F.qn rfl rfl rfl rfl (r_fieldAddr tf33_1 rfl) ?_
 refine F.qn rfl rfl rfl rfl (r_load ta9 rfl (fun w hw => cell_1 (box_cells (i := 0) rfl w hw) rfl)) ?_
 refine F.qn rfl rfl rfl rfl (r_lenS Tryd.underlying9 rfl) ?_
 refine F.qn rfl rfl rfl rfl (r_add rfl rfl) ?_
 refine F.qn rfl rfl rfl rfl (r_gtr rfl rfl) ?_
 refine F.nil (Nrm.seq (Tri.cond (b := decide ((w64 ((a0_0.size : Int) + (a0_1.size : Int))) > 30000)) rfl (fun g_1 => ?_) (fun g_1 => ?_)))
 ·replace h := if_tt g_1 h
  refine Tri.seq (Tri.reg (l := [0]) rfl ?_)
  refine F.qn rfl rfl rfl rfl (r_assign rfl) ?_
  refine F.nil (Nrm.seq (Tri.ret ?_))
  refine Rtn.then ?_
  cases h
  exact Rtn.body (.tmp rfl .nil) (fun w hw => ⟨rfl, hw.ext⟩)
 ·replace h := if_ff g_1 h
  refine Tri.skip (Nrm.seq (Tri.seq ?_))
  obtain ⟨hs20, h⟩ := ck h
  obtain ⟨⟨t21_1, t21_2⟩, h21, h⟩ := bind_some h
  refine Tri.reg (l := [0, 1, 2, 3, 4, 5, 6, 7, 8, 9, 10]) rfl ?_
  refine F.qn rfl rfl rfl rfl (r_fieldAddr tf33_0 rfl) ?_
  refine F.qn rfl rfl rfl rfl (r_load ta9 rfl (fun w hw => cell_1 (box_cells (i := 0) rfl w hw) rfl)) ?_
  refine F.qn rfl rfl rfl rfl (r_fieldAddr tf33_1 rfl) ?_
  refine F.qn rfl rfl rfl rfl (r_load ta9 rfl (fun w hw => cell_1 (box_cells (i := 0) rfl w hw) rfl)) ?_
  refine F.qn rfl rfl rfl rfl (r_addS rfl rfl hs20) ?_
  refine F.mn rfl rfl rfl rfl (m_callF (xs := _) rfl ok46 rfl rfl (fun w hw => spec_l12Open.ok h21 w )) ?_
  rintro _ _ ⟨_, ⟨v21_1, S21_1, rfl, hl_v21_1, rfl⟩, rfl⟩
  refine F.qn rfl rfl rfl rfl (r_move rfl) ?_
  refine F.qn rfl rfl rfl rfl (r_extract rfl rfl) ?_
  refine F.qn rfl rfl rfl rfl (r_extract rfl rfl) ?_
  refine F.qn rfl rfl rfl rfl (r_assign rfl) ?_
  refine F.qn rfl rfl rfl rfl (r_assign rfl) ?_
  refine F.nil (Nrm.seq (Tri.seq ?_))
  obtain ⟨⟨t27_1, t27_2⟩, h27, h⟩ := bind_some h
  refine Tri.reg (l := [0, 1, 2, 3, 4, 5, 6, 7]) rfl ?_
  refine F.qn rfl rfl rfl rfl (r_fieldAddr tf33_0 rfl) ?_
  refine F.qn rfl rfl rfl rfl (r_load ta9 rfl (fun w hw => cell_1 (box_cells (i := 1) rfl w hw) rfl)) ?_
  refine F.mn rfl rfl rfl rfl (m_callF (xs := _) rfl ok46 rfl rfl (fun w hw => spec_l12Open.ok h27 w )) ?_
  rintro _ _ ⟨_, ⟨v27_1, S27_1, rfl, hl_v27_1, rfl⟩, rfl⟩
  refine F.qn rfl rfl rfl rfl (r_move rfl) ?_
  refine F.qn rfl rfl rfl rfl (r_extract rfl rfl) ?_
  refine F.qn rfl rfl rfl rfl (r_extract rfl rfl) ?_
  refine F.qn rfl rfl rfl rfl (r_assign rfl) ?_
  refine F.qn rfl rfl rfl rfl (r_assign rfl) ?_
  refine F.nil (Nrm.seq (Tri.seq ?_))
  obtain ⟨y2, hE_1, h⟩ := bind_some h
  refine Tri.cut (fun e' C' => e' = [(2, .bool y2)] ∧ C' = Sep w noM []) ?_ (fun hj_1 => ?_)
  ·rintro _ _ ⟨rfl, rfl⟩
   refine Nrm.seq (Tri.ret ?_)
   cases h
   exact Rtn.body (.tmp rfl .nil) (fun w hw => ⟨rfl, hw.ext⟩)
  ·rcases Bool.eq_false_or_eq_true (t21_2 == (w64 ((a0_0.size : Int) + (a0_1.size : Int)))) with g39 | g39
   ·replace hE_1 := if_tt g39 hE_1
    rcases Bool.eq_false_or_eq_true (t27_2 == (a0_0.size : Int)) with g46 | g46
    ·replace hE_1 := if_tt g46 hE_1
     refine Tri.reg (l := List.range 24) rfl ?_
     refine F.qn rfl rfl rfl rfl (r_move rfl) ?_
     refine F.qn rfl rfl rfl rfl (r_fieldAddr tf33_0 rfl) ?_
     refine F.qn rfl rfl rfl rfl (r_load ta9 rfl (fun w hw => cell_1 (box_cells (i := 2) rfl w hw) rfl)) ?_
     refine F.qn rfl rfl rfl rfl (r_lenS Tryd.underlying9 rfl) ?_
     refine F.qn rfl rfl rfl rfl (r_fieldAddr tf33_1 rfl) ?_
     refine F.qn rfl rfl rfl rfl (r_load ta9 rfl (fun w hw => cell_1 (box_cells (i := 2) rfl w hw) rfl)) ?_
     refine F.qn rfl rfl rfl rfl (r_lenS Tryd.underlying9 rfl) ?_
     refine F.qn rfl rfl rfl rfl (r_add rfl rfl) ?_
     refine F.qn rfl rfl rfl rfl (r_eql rfl rfl) ?_
     refine F.qn rfl rfl rfl rfl (r_move rfl) ?_
     refine F.qg rfl rfl rfl rfl rfl rfl g39 (r_move rfl) ?_
     refine F.qg rfl rfl rfl rfl rfl rfl g39 (r_fieldAddr tf33_0 rfl) ?_
     refine F.qg rfl rfl rfl rfl rfl rfl g39 (r_load ta9 rfl (fun w hw => cell_1 (box_cells (i := 2) rfl w hw) rfl)) ?_
     refine F.qg rfl rfl rfl rfl rfl rfl g39 (r_lenS Tryd.underlying9 rfl) ?_
     refine F.qg rfl rfl rfl rfl rfl rfl g39 (r_eql rfl rfl) ?_
     refine F.qn rfl rfl rfl rfl (r_pick rfl rfl g39) ?_
     refine F.qn rfl rfl rfl rfl (r_move rfl) ?_
     refine F.qg rfl rfl rfl rfl rfl rfl g46 (r_move rfl) ?_
     refine F.qg rfl rfl rfl rfl rfl rfl g46 (r_len Tryd.underlying43 rfl hl_v21_1) ?_
     refine F.qg rfl rfl rfl rfl rfl rfl g46 (r_fieldAddr tf33_2 rfl) ?_
     refine F.qg rfl rfl rfl rfl rfl rfl g46 (r_load ta3 rfl (fun w hw => cell_1 (box_cells (i := 2) rfl w hw) rfl)) ?_
     refine F.qg rfl rfl rfl rfl rfl rfl g46 (r_eql rfl rfl) ?_
     refine F.qn rfl rfl rfl rfl (r_pick rfl rfl g46) ?_
     refine F.qn rfl rfl rfl rfl (r_assign rfl) ?_
     refine F.nil ?_
     cases hE_1
     refine Nrm.only [2] rfl ?_
     refine Nrm.pick [] rfl rfl ?_
     exact hj_1 _ _ ⟨rfl, rfl⟩
    ·replace hE_1 := if_ff g46 hE_1
     refine Tri.reg (l := List.range 24) rfl ?_
     refine F.qn rfl rfl rfl rfl (r_move rfl) ?_
     refine F.qn rfl rfl rfl rfl (r_fieldAddr tf33_0 rfl) ?_
     refine F.qn rfl rfl rfl rfl (r_load ta9 rfl (fun w hw => cell_1 (box_cells (i := 2) rfl w hw) rfl)) ?_
     refine F.qn rfl rfl rfl rfl (r_lenS Tryd.underlying9 rfl) ?_
     refine F.qn rfl rfl rfl rfl (r_fieldAddr tf33_1 rfl) ?_
     refine F.qn rfl rfl rfl rfl (r_load ta9 rfl (fun w hw => cell_1 (box_cells (i := 2) rfl w hw) rfl)) ?_
     refine F.qn rfl rfl rfl rfl (r_lenS Tryd.underlying9 rfl) ?_
     refine F.qn rfl rfl rfl rfl (r_add rfl rfl) ?_
     refine F.qn rfl rfl rfl rfl (r_eql rfl rfl) ?_
     refine F.qn rfl rfl rfl rfl (r_move rfl) ?_
     refine F.qg rfl rfl rfl rfl rfl rfl g39 (r_move rfl) ?_
     refine F.qg rfl rfl rfl rfl rfl rfl g39 (r_fieldAddr tf33_0 rfl) ?_
     refine F.qg rfl rfl rfl rfl rfl rfl g39 (r_load ta9 rfl (fun w hw => cell_1 (box_cells (i := 2) rfl w hw) rfl)) ?_
     refine F.qg rfl rfl rfl rfl rfl rfl g39 (r_lenS Tryd.underlying9 rfl) ?_
     refine F.qg rfl rfl rfl rfl rfl rfl g39 (r_eql rfl rfl) ?_
     refine F.qn rfl rfl rfl rfl (r_pick rfl rfl g39) ?_
     refine F.qn rfl rfl rfl rfl (r_move rfl) ?_
     iterate 5 refine F.sk rfl rfl rfl (wf rfl rfl rfl g46) ?_
     refine F.qn rfl rfl rfl rfl (r_pickf rfl rfl g46) ?_
     refine F.qn rfl rfl rfl rfl (r_assign rfl) ?_
     refine F.nil ?_
     cases hE_1
     refine Nrm.only [2] rfl ?_
     refine Nrm.pick [] rfl rfl ?_
     exact hj_1 _ _ ⟨rfl, rfl⟩
   ·replace hE_1 := if_ff g39 hE_1
    refine Tri.reg (l := List.range 24) rfl ?_
    refine F.qn rfl rfl rfl rfl (r_move rfl) ?_
    refine F.qn rfl rfl rfl rfl (r_fieldAddr tf33_0 rfl) ?_
    refine F.qn rfl rfl rfl rfl (r_load ta9 rfl (fun w hw => cell_1 (box_cells (i := 2) rfl w hw) rfl)) ?_
    refine F.qn rfl rfl rfl rfl (r_lenS Tryd.underlying9 rfl) ?_
    refine F.qn rfl rfl rfl rfl (r_fieldAddr tf33_1 rfl) ?_
    refine F.qn rfl rfl rfl rfl (r_load ta9 rfl (fun w hw => cell_1 (box_cells (i := 2) rfl w hw) rfl)) ?_
    refine F.qn rfl rfl rfl rfl (r_lenS Tryd.underlying9 rfl) ?_
    refine F.qn rfl rfl rfl rfl (r_add rfl rfl) ?_
    refine F.qn rfl rfl rfl rfl (r_eql rfl rfl) ?_
    refine F.qn rfl rfl rfl rfl (r_move rfl) ?_
    iterate 5 refine F.sk rfl rfl rfl (wf rfl rfl rfl g39) ?_
    refine F.qn rfl rfl rfl rfl (r_pickf rfl rfl g39) ?_
    refine F.qn rfl rfl rfl rfl (r_move rfl) ?_
    iterate 5 refine F.sk rfl rfl rfl (wf rfl rfl rfl rfl) ?_
    refine F.qn rfl rfl rfl rfl (r_pickf rfl rfl rfl) ?_
    refine F.qn rfl rfl rfl rfl (r_assign rfl) ?_
    refine F.nil ?_
    cases hE_1
    refine Nrm.only [2] rfl ?_
    refine Nrm.pick [] rfl rfl ?_
    exact hj_1 _ _ ⟨rfl, rfl⟩


def spec_AppendRecord.f (k : Nat) (a0_0 : ByteArray) (a0_1 : ByteArray) (a0_2 : Int) (a1_0 : ByteArray) (a1_1 : ByteArray) : Option (ByteArray × ByteArray × Int × Int) := ((spec_l12Valid.f k a0_0 a0_1 a0_2).bind fun t7 => (if (!t7) = true then some true else (spec_l12Record.f k a1_0 a1_1).bind fun t11 => some (!t11))).bind fun y13 => (if y13 = true then some (a0_0, a0_1, a0_2, 1) else (if (a0_2 == 60) = true then some (a0_0, a0_1, a0_2, 2) else (spec_l12Line.f k a0_2 a1_0 a1_1).bind fun t24 => if (a0_1 ++ t24).size < 4611686018427387904 then some (a0_0, a0_1 ++ t24, w64 (a0_2 + 1), 0) else none))

theorem spec_AppendRecord.ok {k : Nat}  {a0_0 : ByteArray} {a0_1 : ByteArray} {a0_2 : Int} {a1_0 : ByteArray} {a1_1 : ByteArray} {r0 : ByteArray} {r1 : ByteArray} {r2 : Int} {r3 : Int} (h : spec_AppendRecord.f k a0_0 a0_1 a0_2 a1_0 a1_1 = some (r0, r1, r2, r3)) (w : World) :
  Calls Tryd.prog 14 ([.agg ([.string a0_0, .string a0_1, .int .i64 a0_2].toArray), .agg ([.string a1_0, .string a1_1].toArray)] : List Value).toArray w (fun e w' => e = .returned (.tuple #[.agg [.string r0, .string r1, .int .i64 r2].toArray, .int .i64 r3]) ∧ Ext w w') := by
 unfold spec_AppendRecord.f at h
 refine Calls.of_tri (N := 32) Tryd.func14 rfl rfl rfl (Sep.nil (M := noM)) ?_
 refine Tri.seq (Tri.reg (l := [0, 1, 2, 3]) rfl ?_)
 refine F.mn rfl rfl rfl rfl (m_boxG rfl rfl) ?_
 rintro _ _ ⟨b2_1, rfl, rfl⟩
 refine F.mn rfl rfl rfl rfl (m_boxG rfl rfl) ?_
 rintro _ _ ⟨b3_1, rfl, rfl⟩
 refine F.mn rfl rfl rfl rfl (m_alloc ti33) ?_
 rintro _ _ ⟨b4_1, rfl, rfl⟩
 refine F.qn rfl rfl rfl rfl (r_assign rfl) ?_
 refine F.nil (Nrm.seq (Tri.seq (Tri.seq ?_)))
 obtain ⟨y13, hE_1, h⟩ := bind_some h
 refine Tri.cut (fun e' C' => e' = [(2, .pointer (some ⟨b2_1, 0, none⟩)), (3, .pointer (some ⟨b3_1, 0, none⟩)), (4, .pointer (some ⟨b4_1, 0, none⟩)), (13, .bool y13)] ∧ C' = Sep w noM [R.box b4_1 33 [.string ByteArray.empty, .string ByteArray.empty, .int .i64 0], R.box b3_1 25 [.string a1_0, .string a1_1], R.box b2_1 33 [.string a0_0, .string a0_1, .int .i64 a0_2]]) ?_ (fun hj_1 => ?_)
 ·rintro _ _ ⟨rfl, rfl⟩
  refine Nrm.seq (Tri.cond (b := y13) rfl (fun g_1 => ?_) (fun g_1 => ?_))
  ·replace h := if_tt g_1 h
   refine Tri.seq (Tri.reg (l := [0, 1, 2]) rfl ?_)
   refine F.qn rfl rfl rfl rfl (r_loadA ta33 ti33 rfl rfl (fun w hw => (box_cells (i := 2) rfl w hw))) ?_
   refine F.ef0 rfl rfl (wanted_none rfl) (d_storeG0 (i := 0) (cs2 := [.string a0_0, .string a0_1, .int .i64 a0_2]) ti33 rfl rfl rfl rfl rfl (Nat.le_of_ble_eq_true rfl) (lf_cons rfl (lf_cons rfl (lf_cons rfl lf_nil)))) ?_
   rintro _ _ ⟨rfl, rfl⟩
   refine F.qn rfl rfl rfl rfl (r_assign rfl) ?_
   refine F.nil (Nrm.seq (Tri.ret ?_))
   refine Rtn.then ?_
   cases h
   exact Rtn.body (.cell rfl ta33 ti33 rfl (fun _ hw => box_cells (i := 0) rfl _ hw) (.tmp rfl .nil)) (fun w hw => ⟨rfl, hw.ext⟩)
  ·replace h := if_ff g_1 h
   refine Tri.skip (Nrm.seq (Tri.seq (Tri.seq (Tri.reg (l := [0, 1, 2]) rfl ?_))))
   refine F.qn rfl rfl rfl rfl (r_fieldAddr tf33_2 rfl) ?_
   refine F.qn rfl rfl rfl rfl (r_load ta3 rfl (fun w hw => cell_1 (box_cells (i := 2) rfl w hw) rfl)) ?_
   refine F.qn rfl rfl rfl rfl (r_eql rfl rfl) ?_
   refine F.nil (Nrm.seq (Tri.cond (b := a0_2 == 60) rfl (fun g_2 => ?_) (fun g_2 => ?_)))
   ·replace h := if_tt g_2 h
    refine Tri.seq (Tri.reg (l := [0, 1, 2]) rfl ?_)
    refine F.qn rfl rfl rfl rfl (r_loadA ta33 ti33 rfl rfl (fun w hw => (box_cells (i := 2) rfl w hw))) ?_
    refine F.ef0 rfl rfl (wanted_none rfl) (d_storeG0 (i := 0) (cs2 := [.string a0_0, .string a0_1, .int .i64 a0_2]) ti33 rfl rfl rfl rfl rfl (Nat.le_of_ble_eq_true rfl) (lf_cons rfl (lf_cons rfl (lf_cons rfl lf_nil)))) ?_
    rintro _ _ ⟨rfl, rfl⟩
    refine F.qn rfl rfl rfl rfl (r_assign rfl) ?_
    refine F.nil (Nrm.seq (Tri.ret ?_))
    refine Rtn.then ?_
    cases h
    exact Rtn.body (.cell rfl ta33 ti33 rfl (fun _ hw => box_cells (i := 0) rfl _ hw) (.tmp rfl .nil)) (fun w hw => ⟨rfl, hw.ext⟩)
   ·replace h := if_ff g_2 h
    refine Tri.skip (Nrm.seq (Tri.seq ?_))
    obtain ⟨t24, h24, h⟩ := bind_some h
    obtain ⟨hs25, h⟩ := ck h
    refine Tri.drawA mixedT Sep.up [(0, true), (1, true), (2, true), (3, true), (4, true), (5, true), (6, true), (7, true)] [8] (by kernel_rfl) ?_
    refine S.qn rfl rfl rfl rfl (r_fieldAddr tf33_1 rfl) ?_
    refine S.qn rfl rfl rfl rfl (r_load ta9 rfl (fun w hw => cell_1 (box_cells (i := 2) rfl w hw) rfl)) ?_
    refine S.qn rfl rfl rfl rfl (r_fieldAddr tf33_2 rfl) ?_
    refine S.qn rfl rfl rfl rfl (r_load ta3 rfl (fun w hw => cell_1 (box_cells (i := 2) rfl w hw) rfl)) ?_
    refine S.qn rfl rfl rfl rfl (r_loadA ta25 ti25 rfl rfl (fun w hw => (box_cells (i := 1) rfl w hw))) ?_
    refine S.qcn rfl rfl rfl rfl (q_callF (xs := _) rfl ok37 rfl rfl (fun w hw => spec_l12Line.ok h24 w )) ?_
    refine S.qn rfl rfl rfl rfl (r_addS rfl rfl hs25) ?_
    refine S.qn rfl rfl rfl rfl (r_fieldAddr tf33_1 rfl) ?_
    refine S.nil (F.ef0 rfl rfl (wanted_none rfl) (d_storeG1 (i := 2) (cs2 := [.string (a0_1 ++ t24)]) ti9 rfl rfl rfl rfl rfl (Nat.le_of_ble_eq_true rfl) (lf_cons rfl lf_nil)) ?_)
    rintro _ _ ⟨rfl, rfl⟩
    refine F.nil (Nrm.seq (Tri.seq (Tri.reg (l := [0, 1, 2, 3, 4]) rfl ?_)))
    refine F.qn rfl rfl rfl rfl (r_fieldAddr tf33_2 rfl) ?_
    refine F.qn rfl rfl rfl rfl (r_load ta3 rfl (fun w hw => cell_1 (box_cells (i := 2) rfl w hw) rfl)) ?_
    refine F.qn rfl rfl rfl rfl (r_add rfl rfl) ?_
    refine F.qn rfl rfl rfl rfl (r_fieldAddr tf33_2 rfl) ?_
    refine F.ef0 rfl rfl (wanted_none rfl) (d_storeG1 (i := 2) (cs2 := [.int .i64 (w64 (a0_2 + 1))]) ti3 rfl rfl rfl rfl rfl (Nat.le_of_ble_eq_true rfl) (lf_cons rfl lf_nil)) ?_
    rintro _ _ ⟨rfl, rfl⟩
    refine F.nil (Nrm.seq (Tri.seq (Tri.reg (l := [0, 1, 2]) rfl ?_)))
    refine F.qn rfl rfl rfl rfl (r_loadA ta33 ti33 rfl rfl (fun w hw => (box_cells (i := 2) rfl w hw))) ?_
    refine F.ef0 rfl rfl (wanted_none rfl) (d_storeG0 (i := 0) (cs2 := [.string a0_0, .string (a0_1 ++ t24), .int .i64 (w64 (a0_2 + 1))]) ti33 rfl rfl rfl rfl rfl (Nat.le_of_ble_eq_true rfl) (lf_cons rfl (lf_cons rfl (lf_cons rfl lf_nil)))) ?_
    rintro _ _ ⟨rfl, rfl⟩
    refine F.qn rfl rfl rfl rfl (r_assign rfl) ?_
    refine F.nil (Nrm.seq (Tri.ret ?_))
    cases h
    exact Rtn.body (.cell rfl ta33 ti33 rfl (fun _ hw => box_cells (i := 0) rfl _ hw) (.tmp rfl .nil)) (fun w hw => ⟨rfl, hw.ext⟩)
 ·obtain ⟨t7, h7, hE_1⟩ := bind_some hE_1
  rcases Bool.eq_false_or_eq_true (!t7) with g9 | g9
  ·replace hE_1 := if_tt g9 hE_1
   refine Tri.reg (l := [0, 1, 2, 3, 4, 5, 6, 7]) rfl ?_
   refine F.qn rfl rfl rfl rfl (r_loadA ta33 ti33 rfl rfl (fun w hw => (box_cells (i := 2) rfl w hw))) ?_
   refine F.qcn rfl rfl rfl rfl (q_callF (xs := _) rfl ok41 rfl rfl (fun w hw => spec_l12Valid.ok h7 w )) ?_
   refine F.qn rfl rfl rfl rfl (r_not rfl) ?_
   refine F.qn rfl rfl rfl rfl (r_move rfl) ?_
   iterate 3 refine F.sk rfl rfl rfl (wf rfl rfl rfl g9) ?_
   refine F.qn rfl rfl rfl rfl (r_pick rfl rfl g9) ?_
   refine F.nil ?_
   cases hE_1
   refine Nrm.only [2, 3, 4, 13] rfl ?_
   refine Nrm.pick [0, 1, 2] rfl rfl ?_
   exact hj_1 _ _ ⟨rfl, rfl⟩
  ·replace hE_1 := if_ff g9 hE_1
   obtain ⟨t11, h11, hE_1⟩ := bind_some hE_1
   refine Tri.reg (l := [0, 1, 2, 3, 4, 5, 6, 7]) rfl ?_
   refine F.qn rfl rfl rfl rfl (r_loadA ta33 ti33 rfl rfl (fun w hw => (box_cells (i := 2) rfl w hw))) ?_
   refine F.qcn rfl rfl rfl rfl (q_callF (xs := _) rfl ok41 rfl rfl (fun w hw => spec_l12Valid.ok h7 w )) ?_
   refine F.qn rfl rfl rfl rfl (r_not rfl) ?_
   refine F.qn rfl rfl rfl rfl (r_move rfl) ?_
   refine F.qg rfl rfl rfl rfl rfl rfl g9 (r_loadA ta25 ti25 rfl rfl (fun w hw => (box_cells (i := 1) rfl w hw))) ?_
   refine F.qc rfl rfl rfl (wg rfl rfl rfl g9) (q_callF (xs := _) rfl ok36 rfl rfl (fun w hw => spec_l12Record.ok h11 w )) ?_
   refine F.qg rfl rfl rfl rfl rfl rfl g9 (r_not rfl) ?_
   refine F.qn rfl rfl rfl rfl (r_pickf rfl rfl g9) ?_
   refine F.nil ?_
   cases hE_1
   refine Nrm.only [2, 3, 4, 13] rfl ?_
   refine Nrm.pick [0, 1, 2] rfl rfl ?_
   exact hj_1 _ _ ⟨rfl, rfl⟩


def spec_SyncLog.f (k : Nat) (a0_0 : ByteArray) (a0_1 : ByteArray) (a0_2 : Int) : Option (ByteArray × ByteArray × Int × Bool) := (spec_l12Valid.f k a0_0 a0_1 a0_2).bind fun t5 => (if (!t5) = true then some (ByteArray.empty, ByteArray.empty, 0, false) else if (a0_0 ++ a0_1).size < 4611686018427387904 then some (a0_0 ++ a0_1, ByteArray.empty, a0_2, true) else none)

theorem spec_SyncLog.ok {k : Nat}  {a0_0 : ByteArray} {a0_1 : ByteArray} {a0_2 : Int} {r0 : ByteArray} {r1 : ByteArray} {r2 : Int} {r3 : Bool} (h : spec_SyncLog.f k a0_0 a0_1 a0_2 = some (r0, r1, r2, r3)) (w : World) :
  Calls Tryd.prog 20 ([.agg ([.string a0_0, .string a0_1, .int .i64 a0_2].toArray)] : List Value).toArray w (fun e w' => e = .returned (.tuple #[.agg [.string r0, .string r1, .int .i64 r2].toArray, .bool r3]) ∧ Ext w w') := by
 unfold spec_SyncLog.f at h
 refine Calls.of_tri (N := 16) Tryd.func20 rfl rfl rfl (Sep.nil (M := noM)) ?_
 refine Tri.seq (Tri.reg (l := [0, 1, 2]) rfl ?_)
 refine F.mn rfl rfl rfl rfl (m_boxG rfl rfl) ?_
 rintro _ _ ⟨b1_1, rfl, rfl⟩
 refine F.mn rfl rfl rfl rfl (m_alloc ti33) ?_
 rintro _ _ ⟨b2_1, rfl, rfl⟩
 refine F.qn rfl rfl rfl rfl (r_assign rfl) ?_
 refine F.nil (Nrm.seq (Tri.seq (Tri.seq ?_)))
 obtain ⟨t5, h5, h⟩ := bind_some h
 refine Tri.reg (l := [0, 1, 2]) rfl ?_
 refine F.qn rfl rfl rfl rfl (r_loadA ta33 ti33 rfl rfl (fun w hw => (box_cells (i := 1) rfl w hw))) ?_
 refine F.qcn rfl rfl rfl rfl (q_callF (xs := _) rfl ok41 rfl rfl (fun w hw => spec_l12Valid.ok h5 w )) ?_
 refine F.qn rfl rfl rfl rfl (r_not rfl) ?_
 refine F.nil (Nrm.seq (Tri.cond (b := !t5) rfl (fun g_1 => ?_) (fun g_1 => ?_)))
 ·replace h := if_tt g_1 h
  refine Tri.seq (Tri.reg (l := [0, 1, 2]) rfl ?_)
  refine F.qn rfl rfl rfl rfl (r_build (pl := [(0, 1), (1, 1), (2, 1)]) (qs := []) (cs := [.string ByteArray.empty, .string ByteArray.empty, .int .i64 0]) (by kernel_rfl) ti33 rfl .nil rfl rfl) ?_
  refine F.ef0 rfl rfl (wanted_none rfl) (d_storeG0 (i := 0) (cs2 := [.string ByteArray.empty, .string ByteArray.empty, .int .i64 0]) ti33 rfl rfl rfl rfl rfl (Nat.le_of_ble_eq_true rfl) (lf_cons rfl (lf_cons rfl (lf_cons rfl lf_nil)))) ?_
  rintro _ _ ⟨rfl, rfl⟩
  refine F.qn rfl rfl rfl rfl (r_assign rfl) ?_
  refine F.nil (Nrm.seq (Tri.ret ?_))
  refine Rtn.then ?_
  cases h
  exact Rtn.body (.cell rfl ta33 ti33 rfl (fun _ hw => box_cells (i := 0) rfl _ hw) (.tmp rfl .nil)) (fun w hw => ⟨rfl, hw.ext⟩)
 ·replace h := if_ff g_1 h
  refine Tri.skip (Nrm.seq (Tri.seq ?_))
  obtain ⟨hs12, h⟩ := ck h
  refine Tri.reg (l := [0, 1, 2, 3, 4, 5, 6, 7, 8, 9]) rfl ?_
  refine F.qn rfl rfl rfl rfl (r_fieldAddr tf33_0 rfl) ?_
  refine F.qn rfl rfl rfl rfl (r_load ta9 rfl (fun w hw => cell_1 (box_cells (i := 1) rfl w hw) rfl)) ?_
  refine F.qn rfl rfl rfl rfl (r_fieldAddr tf33_1 rfl) ?_
  refine F.qn rfl rfl rfl rfl (r_load ta9 rfl (fun w hw => cell_1 (box_cells (i := 1) rfl w hw) rfl)) ?_
  refine F.qn rfl rfl rfl rfl (r_addS rfl rfl hs12) ?_
  refine F.qn rfl rfl rfl rfl (r_fieldAddr tf33_2 rfl) ?_
  refine F.qn rfl rfl rfl rfl (r_load ta3 rfl (fun w hw => cell_1 (box_cells (i := 1) rfl w hw) rfl)) ?_
  refine F.qn rfl rfl rfl rfl (r_build (pl := [(0, 1), (1, 1), (2, 1)]) (qs := [(0, [.string (a0_0 ++ a0_1)]), (2, [.int .i64 a0_2])]) (cs := [.string (a0_0 ++ a0_1), .string ByteArray.empty, .int .i64 a0_2]) (by kernel_rfl) ti33 rfl (.cons rfl rfl (Nat.le_of_ble_eq_true rfl) (.cons rfl rfl (Nat.le_of_ble_eq_true rfl) .nil)) rfl rfl) ?_
  refine F.ef0 rfl rfl (wanted_none rfl) (d_storeG0 (i := 0) (cs2 := [.string (a0_0 ++ a0_1), .string ByteArray.empty, .int .i64 a0_2]) ti33 rfl rfl rfl rfl rfl (Nat.le_of_ble_eq_true rfl) (lf_cons rfl (lf_cons rfl (lf_cons rfl lf_nil)))) ?_
  rintro _ _ ⟨rfl, rfl⟩
  refine F.qn rfl rfl rfl rfl (r_assign rfl) ?_
  refine F.nil (Nrm.seq (Tri.ret ?_))
  cases h
  exact Rtn.body (.cell rfl ta33 ti33 rfl (fun _ hw => box_cells (i := 0) rfl _ hw) (.tmp rfl .nil)) (fun w hw => ⟨rfl, hw.ext⟩)


def spec_l1Cur_of.f (k : Nat) (a0_0 : List By) (a0_1 : Int) (a0_2 : Int) (a1 : List ByteArray) : Option (ByteArray × Int × Int) := (spec_l1Cur_pick.f k a0_0 a0_1 a0_2 (a1.length : Int)).bind fun (t9_1, t9_2, t9_3) => (rdl a1 t9_1).bind fun t10 => some (t10, t9_2, t9_3)

theorem spec_l1Cur_of.ok {k : Nat}  {a0_0 : List By} {a0_1 : Int} {a0_2 : Int} {a1 : List ByteArray} {r0 : ByteArray} {r1 : Int} {r2 : Int} (h : spec_l1Cur_of.f k a0_0 a0_1 a0_2 a1 = some (r0, r1, r2)) (w : World) {pa0 : Nat} {va0_0 : Value} (hr_a0_0 : RdM w (footM [R.box pa0 55 [va0_0, .int .i64 a0_1, .int .u64 a0_2]]) va0_0 a0_0) {va1 : Value} (hr_a1 : RdM w (footM [R.box pa0 55 [va0_0, .int .i64 a0_1, .int .u64 a0_2]]) va1 a1) (hw0 : Sep w (footM [R.box pa0 55 [va0_0, .int .i64 a0_1, .int .u64 a0_2]]) [R.box pa0 55 [va0_0, .int .i64 a0_1, .int .u64 a0_2]] w) :
  Calls Tryd.prog 49 ([.pointer (some ⟨pa0, 0, none⟩), va1] : List Value).toArray w (PostM (footM [R.box pa0 55 [va0_0, .int .i64 a0_1, .int .u64 a0_2]]) (fun u ns => u = .string r0 ∧ ns = [R.box pa0 55 [va0_0, .int .i64 r1, .int .u64 r2]]) w) := by
 unfold spec_l1Cur_of.f at h
 have hl_va0_0 := hr_a0_0.len
 have hl_va1 := hr_a1.len
 refine Calls.of_tri (N := 12) Tryd.func49 rfl rfl rfl hw0 ?_
 refine Tri.seq (Tri.reg (l := [0]) rfl ?_)
 refine F.qn rfl rfl rfl rfl (r_assign rfl) ?_
 refine F.nil (Nrm.seq (Tri.seq ?_))
 obtain ⟨⟨t9_1, t9_2, t9_3⟩, h9, h⟩ := bind_some h
 obtain ⟨t10, h10, h⟩ := bind_some h
 refine Tri.reg (l := [0, 1, 2, 3, 4, 5, 6, 7]) rfl ?_
 iterate 3 refine F.qn rfl rfl rfl rfl (r_move rfl) ?_
 refine F.qn rfl rfl rfl rfl (r_len Tryd.underlying75 rfl hl_va1) ?_
 refine F.efn rfl rfl rfl rfl (d_callM (xs := _) (cs := [R.box pa0 55 [va0_0, .int .i64 a0_1, .int .u64 a0_2]]) (rest := []) [0] [] rfl ok40 rfl rfl rfl rfl (fun w hw => spec_l1Cur_pick.ok h9 w (hr_a0_0.down hw) (Sep.sub hw))) ?_
 rintro _ _ ⟨_, ⟨rfl, rfl⟩, rfl⟩
 refine F.qn rfl rfl rfl rfl (r_indexAddrS Tryd.underlying75 ti9 rfl hl_va1 rfl (rdl_some h10).1 (rdl_some h10).2.1) ?_
 refine F.qn rfl rfl rfl rfl (r_load ta9 rfl (fun w hw => cell_0 (Rd.flat ((fun _ hw => hr_a1.sep hw) w hw) (rdl_some h10).2.2) rfl)) ?_
 refine F.qn rfl rfl rfl rfl (r_assign rfl) ?_
 refine F.nil (Nrm.seq (Tri.ret ?_))
 cases h
 exact Rtn.body (.tmp rfl .nil) (fun w hw => ⟨_, _, rfl, ⟨rfl, rfl⟩, Sep.pick (is := [0]) rfl rfl hw⟩)


def spec_l1Cur_logRecord.f (k : Nat) (a0_0 : List By) (a0_1 : Int) (a0_2 : Int) : Option (ByteArray × ByteArray × Int × Int) := (spec_l1Cur_of.f k a0_0 a0_1 a0_2 ([ByteArray.mk #[109, 97, 122, 101], ByteArray.mk #[103, 111, 32, 49], ByteArray.mk #[120], ByteArray.mk #[100, 114, 111, 112, 32, 50], ByteArray.mk #[48, 32, 49]] : List (ByteArray))).bind fun (t6_1, t6_2, t6_3) => (spec_l1Cur_of.f k a0_0 t6_2 t6_3 ([ByteArray.empty, ByteArray.mk #[51], ByteArray.mk #[63], ByteArray.mk #[97, 64, 98], ByteArray.mk #[51, 32, 49, 32, 50]] : List (ByteArray))).bind fun (t9_1, t9_2, t9_3) => (spec_l1Cur_pick.f k a0_0 t9_2 t9_3 24).bind fun (t12_1, t12_2, t12_3) => ((if (t12_1 == 0) = true then if 0 ≤ (3 : Int) ∧ (3 : Int) < 1099511627776 then (spec_l1Cur_of.f k a0_0 t12_2 t12_3 ([ByteArray.empty, ByteArray.mk #[97, 64, 98], ByteArray.mk #[97, 35], ByteArray.mk #[10], strBy (List.replicate (3 : Int).toNat (By.mk 0 : By))] : List (ByteArray))).bind fun (t19_1, t19_2, t19_3) => some (t19_2, t19_3, t19_1, t9_1) else none else ((if (t12_1 == 1) = true then (spec_l1Cur_of.f k a0_0 t12_2 t12_3 ([ByteArray.mk #[35], ByteArray.mk #[10], ByteArray.mk #[127]] : List (ByteArray))).bind fun (t25_1, t25_2, t25_3) => some (t25_2, t25_3, t25_1) else some (t12_2, t12_3, t9_1))).bind fun (ypa0_1, ypa0_2, yb3_1_1) => some (ypa0_1, ypa0_2, t6_1, yb3_1_1))).bind fun (ypa0_1, ypa0_2, yb3_1_0, yb3_1_1) => some (yb3_1_0, yb3_1_1, ypa0_1, ypa0_2)

theorem spec_l1Cur_logRecord.ok {k : Nat}  {a0_0 : List By} {a0_1 : Int} {a0_2 : Int} {r0 : ByteArray} {r1 : ByteArray} {r2 : Int} {r3 : Int} (h : spec_l1Cur_logRecord.f k a0_0 a0_1 a0_2 = some (r0, r1, r2, r3)) (w : World) {pa0 : Nat} {va0_0 : Value} (hr_a0_0 : RdM w (footM [R.box pa0 55 [va0_0, .int .i64 a0_1, .int .u64 a0_2]]) va0_0 a0_0) (hw0 : Sep w (footM [R.box pa0 55 [va0_0, .int .i64 a0_1, .int .u64 a0_2]]) [R.box pa0 55 [va0_0, .int .i64 a0_1, .int .u64 a0_2]] w) :
  Calls Tryd.prog 30 ([.pointer (some ⟨pa0, 0, none⟩)] : List Value).toArray w (PostM (footM [R.box pa0 55 [va0_0, .int .i64 a0_1, .int .u64 a0_2]]) (fun u ns => u = .agg [.string r0, .string r1].toArray ∧ ns = [R.box pa0 55 [va0_0, .int .i64 r2, .int .u64 r3]]) w) := by
 unfold spec_l1Cur_logRecord.f at h
 have hl_va0_0 := hr_a0_0.len
 refine Calls.of_tri (N := 28) Tryd.func30 rfl rfl rfl hw0 ?_
 refine Tri.seq (Tri.reg (l := [0]) rfl ?_)
 refine F.mn rfl rfl rfl rfl (m_alloc ti25) ?_
 rintro _ _ ⟨b2_1, rfl, rfl⟩
 refine F.nil (Nrm.seq (Tri.seq ?_))
 obtain ⟨⟨t6_1, t6_2, t6_3⟩, h6, h⟩ := bind_some h
 obtain ⟨⟨t9_1, t9_2, t9_3⟩, h9, h⟩ := bind_some h
 refine Tri.reg (l := [0, 1, 2, 3, 4, 5, 6, 7, 8]) rfl ?_
 refine F.qn rfl rfl rfl rfl (r_move rfl) ?_
 refine F.mn rfl rfl rfl rfl (m_buildF (l := ([ByteArray.mk #[109, 97, 122, 101], ByteArray.mk #[103, 111, 32, 49], ByteArray.mk #[120], ByteArray.mk #[100, 114, 111, 112, 32, 50], ByteArray.mk #[48, 32, 49]] : List (ByteArray))) Tryd.underlying75 ti9 rfl rfl rfl rfl rfl) ?_
 rintro v5_1 _ ⟨S5_1, hl_v5_1, rfl⟩
 refine F.efn rfl rfl rfl rfl (d_callM (xs := _) (cs := [R.box pa0 55 [va0_0, .int .i64 a0_1, .int .u64 a0_2]]) (rest := [R.sl S5_1 v5_1 (([ByteArray.mk #[109, 97, 122, 101], ByteArray.mk #[103, 111, 32, 49], ByteArray.mk #[120], ByteArray.mk #[100, 114, 111, 112, 32, 50], ByteArray.mk #[48, 32, 49]] : List (ByteArray)) : List (ByteArray)), R.box b2_1 25 [.string ByteArray.empty, .string ByteArray.empty]]) [2] [0, 1] rfl ok49 rfl rfl rfl rfl (fun w hw => spec_l1Cur_of.ok h6 w (hr_a0_0.down hw) (rdm_sl (i := 0) rfl hw) (Sep.sub hw))) ?_
 rintro _ _ ⟨_, ⟨rfl, rfl⟩, rfl⟩
 refine F.qn rfl rfl rfl rfl (r_move rfl) ?_
 refine F.mn rfl rfl rfl rfl (m_buildF (l := ([ByteArray.empty, ByteArray.mk #[51], ByteArray.mk #[63], ByteArray.mk #[97, 64, 98], ByteArray.mk #[51, 32, 49, 32, 50]] : List (ByteArray))) Tryd.underlying75 ti9 rfl rfl rfl rfl rfl) ?_
 rintro v8_1 _ ⟨S8_1, hl_v8_1, rfl⟩
 refine F.efn rfl rfl rfl rfl (d_callM (xs := _) (cs := [R.box pa0 55 [va0_0, .int .i64 t6_2, .int .u64 t6_3]]) (rest := [R.sl S8_1 v8_1 (([ByteArray.empty, ByteArray.mk #[51], ByteArray.mk #[63], ByteArray.mk #[97, 64, 98], ByteArray.mk #[51, 32, 49, 32, 50]] : List (ByteArray)) : List (ByteArray)), R.sl S5_1 v5_1 (([ByteArray.mk #[109, 97, 122, 101], ByteArray.mk #[103, 111, 32, 49], ByteArray.mk #[120], ByteArray.mk #[100, 114, 111, 112, 32, 50], ByteArray.mk #[48, 32, 49]] : List (ByteArray)) : List (ByteArray)), R.box b2_1 25 [.string ByteArray.empty, .string ByteArray.empty]]) [1] [0, 2, 3] rfl ok49 rfl rfl rfl rfl (fun w hw => spec_l1Cur_of.ok h9 w (hr_a0_0.down hw) (rdm_sl (i := 0) rfl hw) (Sep.sub hw))) ?_
 rintro _ _ ⟨_, ⟨rfl, rfl⟩, rfl⟩
 refine F.qn rfl rfl rfl rfl (r_build (pl := [(0, 1), (1, 1)]) (qs := [(0, [.string t6_1]), (1, [.string t9_1])]) (cs := [.string t6_1, .string t9_1]) (by kernel_rfl) ti25 rfl (.cons rfl rfl (Nat.le_of_ble_eq_true rfl) (.cons rfl rfl (Nat.le_of_ble_eq_true rfl) .nil)) rfl rfl) ?_
 refine F.mn rfl rfl rfl rfl (m_alloc ti25) ?_
 rintro _ _ ⟨b3_1, rfl, rfl⟩
 refine F.ef0 rfl rfl (wanted_none rfl) (d_storeG0 (i := 0) (cs2 := [.string t6_1, .string t9_1]) ti25 rfl rfl rfl rfl rfl (Nat.le_of_ble_eq_true rfl) (lf_cons rfl (lf_cons rfl lf_nil))) ?_
 rintro _ _ ⟨rfl, rfl⟩
 refine F.nil (Nrm.seq (Tri.seq (Tri.seq ?_)))
 obtain ⟨⟨t12_1, t12_2, t12_3⟩, h12, h⟩ := bind_some h
 refine Tri.reg (l := [0, 1]) rfl ?_
 refine F.qn rfl rfl rfl rfl (r_move rfl) ?_
 refine F.efn rfl rfl rfl rfl (d_callM (xs := _) (cs := [R.box pa0 55 [va0_0, .int .i64 t9_2, .int .u64 t9_3]]) (rest := [R.box b3_1 25 [.string t6_1, .string t9_1], R.sl S8_1 v8_1 (([ByteArray.empty, ByteArray.mk #[51], ByteArray.mk #[63], ByteArray.mk #[97, 64, 98], ByteArray.mk #[51, 32, 49, 32, 50]] : List (ByteArray)) : List (ByteArray)), R.sl S5_1 v5_1 (([ByteArray.mk #[109, 97, 122, 101], ByteArray.mk #[103, 111, 32, 49], ByteArray.mk #[120], ByteArray.mk #[100, 114, 111, 112, 32, 50], ByteArray.mk #[48, 32, 49]] : List (ByteArray)) : List (ByteArray)), R.box b2_1 25 [.string ByteArray.empty, .string ByteArray.empty]]) [1] [0, 2, 3, 4] rfl ok40 rfl rfl rfl rfl (fun w hw => spec_l1Cur_pick.ok h12 w (hr_a0_0.down hw) (Sep.sub hw))) ?_
 rintro _ _ ⟨_, ⟨rfl, rfl⟩, rfl⟩
 refine F.nil (Nrm.seq (Tri.block ?_))
 refine Tri.seq (Tri.reg (l := [0, 1]) rfl ?_)
 refine F.qn rfl rfl rfl rfl (r_eql rfl rfl) ?_
 refine F.qn rfl rfl rfl rfl (r_assign rfl) ?_
 refine F.nil (Nrm.seq ?_)
 obtain ⟨⟨ypa0_1, ypa0_2, yb3_1_0, yb3_1_1⟩, hE_1, h⟩ := bind_some h
 refine Tri.cut (fun e' C' => e' = [(2, .pointer (some ⟨b2_1, 0, none⟩)), (3, .pointer (some ⟨b3_1, 0, none⟩))] ∧ C' = Sep w (footM [R.box pa0 55 [va0_0, .int .i64 a0_1, .int .u64 a0_2]]) [R.box pa0 55 [va0_0, .int .i64 ypa0_1, .int .u64 ypa0_2], R.box b3_1 25 [.string yb3_1_0, .string yb3_1_1], R.box b2_1 25 [.string ByteArray.empty, .string ByteArray.empty]]) ?_ (fun hj_1 => ?_)
 ·rintro _ _ ⟨rfl, rfl⟩
  refine Nrm.block ?_
  refine Nrm.seq (Tri.seq (Tri.reg (l := [0, 1]) rfl ?_))
  refine F.qn rfl rfl rfl rfl (r_loadA ta25 ti25 rfl rfl (fun w hw => (box_cells (i := 1) rfl w hw))) ?_
  refine F.ef0 rfl rfl (wanted_none rfl) (d_storeG0 (i := 2) (cs2 := [.string yb3_1_0, .string yb3_1_1]) ti25 rfl rfl rfl rfl rfl (Nat.le_of_ble_eq_true rfl) (lf_cons rfl (lf_cons rfl lf_nil))) ?_
  rintro _ _ ⟨rfl, rfl⟩
  refine F.nil (Nrm.seq (Tri.ret ?_))
  cases h
  exact Rtn.body (.cell rfl ta25 ti25 rfl (fun _ hw => box_cells (i := 2) rfl _ hw) .nil) (fun w hw => ⟨_, _, rfl, ⟨rfl, rfl⟩, Sep.pick (is := [0]) rfl rfl hw⟩)
 ·refine Tri.cond (b := t12_1 == 0) rfl (fun g_1 => ?_) (fun g_1 => ?_)
  ·replace hE_1 := if_tt g_1 hE_1
   obtain ⟨hm16, hE_1⟩ := ck hE_1
   obtain ⟨⟨t19_1, t19_2, t19_3⟩, h19, hE_1⟩ := bind_some hE_1
   refine Tri.reg (l := [0, 1, 2, 3, 4, 5, 6]) rfl ?_
   refine F.qn rfl rfl rfl rfl (r_move rfl) ?_
   refine F.mn rfl rfl rfl rfl (m_make (x0 := (By.mk 0 : By)) Tryd.underlying22 ti5 rfl rfl rfl hm16.1 hm16.2 (by decide)) ?_
   rintro v16_1 _ ⟨S16_1, hl_v16_1, rfl⟩
   refine F.qn rfl rfl rfl rfl (r_bysStr Tryd.underlying22 Tryd.underlying5 Tryd.underlying9 rfl (rd_sl (i := 0) rfl)) ?_
   refine F.mn rfl rfl rfl rfl (m_buildF (l := ([ByteArray.empty, ByteArray.mk #[97, 64, 98], ByteArray.mk #[97, 35], ByteArray.mk #[10], strBy (List.replicate (3 : Int).toNat (By.mk 0 : By))] : List (ByteArray))) Tryd.underlying75 ti9 rfl rfl rfl rfl rfl) ?_
   rintro v18_1 _ ⟨S18_1, hl_v18_1, rfl⟩
   refine F.efn rfl rfl rfl rfl (d_callM (xs := _) (cs := [R.box pa0 55 [va0_0, .int .i64 t12_2, .int .u64 t12_3]]) (rest := [R.sl S18_1 v18_1 (([ByteArray.empty, ByteArray.mk #[97, 64, 98], ByteArray.mk #[97, 35], ByteArray.mk #[10], strBy (List.replicate (3 : Int).toNat (By.mk 0 : By))] : List (ByteArray)) : List (ByteArray)), R.sl S16_1 v16_1 (List.replicate (3 : Int).toNat (By.mk 0 : By) : List (By)), R.box b3_1 25 [.string t6_1, .string t9_1], R.sl S8_1 v8_1 (([ByteArray.empty, ByteArray.mk #[51], ByteArray.mk #[63], ByteArray.mk #[97, 64, 98], ByteArray.mk #[51, 32, 49, 32, 50]] : List (ByteArray)) : List (ByteArray)), R.sl S5_1 v5_1 (([ByteArray.mk #[109, 97, 122, 101], ByteArray.mk #[103, 111, 32, 49], ByteArray.mk #[120], ByteArray.mk #[100, 114, 111, 112, 32, 50], ByteArray.mk #[48, 32, 49]] : List (ByteArray)) : List (ByteArray)), R.box b2_1 25 [.string ByteArray.empty, .string ByteArray.empty]]) [2] [0, 1, 3, 4, 5, 6] rfl ok49 rfl rfl rfl rfl (fun w hw => spec_l1Cur_of.ok h19 w (hr_a0_0.down hw) (rdm_sl (i := 0) rfl hw) (Sep.sub hw))) ?_
   rintro _ _ ⟨_, ⟨rfl, rfl⟩, rfl⟩
   refine F.qn rfl rfl rfl rfl (r_fieldAddr tf25_0 rfl) ?_
   refine F.ef0 rfl rfl (wanted_none rfl) (d_storeG1 (i := 3) (cs2 := [.string t19_1]) ti9 rfl rfl rfl rfl rfl (Nat.le_of_ble_eq_true rfl) (lf_cons rfl lf_nil)) ?_
   rintro _ _ ⟨rfl, rfl⟩
   refine F.nil ?_
   cases hE_1
   refine Nrm.only [2, 3] rfl ?_
   refine Nrm.pick [0, 3, 6] rfl rfl ?_
   exact hj_1 _ _ ⟨rfl, rfl⟩
  ·replace hE_1 := if_ff g_1 hE_1
   refine Tri.seq (Tri.reg (l := [0, 1]) rfl ?_)
   refine F.qn rfl rfl rfl rfl (r_eql rfl rfl) ?_
   refine F.qn rfl rfl rfl rfl (r_assign rfl) ?_
   refine F.nil (Nrm.seq ?_)
   obtain ⟨⟨ypa0_1, ypa0_2, yb3_1_1⟩, hE_2, hE_1⟩ := bind_some hE_1
   refine Tri.cut (fun e' C' => e' = [(2, .pointer (some ⟨b2_1, 0, none⟩)), (3, .pointer (some ⟨b3_1, 0, none⟩))] ∧ C' = Sep w (footM [R.box pa0 55 [va0_0, .int .i64 a0_1, .int .u64 a0_2]]) [R.box pa0 55 [va0_0, .int .i64 ypa0_1, .int .u64 ypa0_2], R.box b3_1 25 [.string t6_1, .string yb3_1_1], R.box b2_1 25 [.string ByteArray.empty, .string ByteArray.empty]]) ?_ (fun hj_2 => ?_)
   ·rintro _ _ ⟨rfl, rfl⟩
    cases hE_1
    refine Nrm.only [2, 3] rfl ?_
    refine Nrm.pick [0, 1, 2] rfl rfl ?_
    exact hj_1 _ _ ⟨rfl, rfl⟩
   ·refine Tri.cond (b := t12_1 == 1) rfl (fun g_2 => ?_) (fun g_2 => ?_)
    ·replace hE_2 := if_tt g_2 hE_2
     obtain ⟨⟨t25_1, t25_2, t25_3⟩, h25, hE_2⟩ := bind_some hE_2
     refine Tri.reg (l := [0, 1, 2, 3, 4]) rfl ?_
     refine F.qn rfl rfl rfl rfl (r_move rfl) ?_
     refine F.mn rfl rfl rfl rfl (m_buildF (l := ([ByteArray.mk #[35], ByteArray.mk #[10], ByteArray.mk #[127]] : List (ByteArray))) Tryd.underlying75 ti9 rfl rfl rfl rfl rfl) ?_
     rintro v24_1 _ ⟨S24_1, hl_v24_1, rfl⟩
     refine F.efn rfl rfl rfl rfl (d_callM (xs := _) (cs := [R.box pa0 55 [va0_0, .int .i64 t12_2, .int .u64 t12_3]]) (rest := [R.sl S24_1 v24_1 (([ByteArray.mk #[35], ByteArray.mk #[10], ByteArray.mk #[127]] : List (ByteArray)) : List (ByteArray)), R.box b3_1 25 [.string t6_1, .string t9_1], R.sl S8_1 v8_1 (([ByteArray.empty, ByteArray.mk #[51], ByteArray.mk #[63], ByteArray.mk #[97, 64, 98], ByteArray.mk #[51, 32, 49, 32, 50]] : List (ByteArray)) : List (ByteArray)), R.sl S5_1 v5_1 (([ByteArray.mk #[109, 97, 122, 101], ByteArray.mk #[103, 111, 32, 49], ByteArray.mk #[120], ByteArray.mk #[100, 114, 111, 112, 32, 50], ByteArray.mk #[48, 32, 49]] : List (ByteArray)) : List (ByteArray)), R.box b2_1 25 [.string ByteArray.empty, .string ByteArray.empty]]) [1] [0, 2, 3, 4, 5] rfl ok49 rfl rfl rfl rfl (fun w hw => spec_l1Cur_of.ok h25 w (hr_a0_0.down hw) (rdm_sl (i := 0) rfl hw) (Sep.sub hw))) ?_
     rintro _ _ ⟨_, ⟨rfl, rfl⟩, rfl⟩
     refine F.qn rfl rfl rfl rfl (r_fieldAddr tf25_1 rfl) ?_
     refine F.ef0 rfl rfl (wanted_none rfl) (d_storeG1 (i := 2) (cs2 := [.string t25_1]) ti9 rfl rfl rfl rfl rfl (Nat.le_of_ble_eq_true rfl) (lf_cons rfl lf_nil)) ?_
     rintro _ _ ⟨rfl, rfl⟩
     refine F.nil ?_
     cases hE_2
     refine Nrm.only [2, 3] rfl ?_
     refine Nrm.pick [0, 2, 5] rfl rfl ?_
     exact hj_2 _ _ ⟨rfl, rfl⟩
    ·replace hE_2 := if_ff g_2 hE_2
     refine Tri.skip ?_
     cases hE_2
     refine Nrm.only [2, 3] rfl ?_
     refine Nrm.pick [0, 1, 4] rfl rfl ?_
     exact hj_2 _ _ ⟨rfl, rfl⟩


def spec_l1Cur_one.f (k : Nat) (a0_0 : List By) (a0_1 : Int) (a0_2 : Int) (a1 : Int) : Option (Bool × Int × Int) := (spec_l1Cur_pick.f k a0_0 a0_1 a0_2 a1).bind fun (t7_1, t7_2, t7_3) => some (t7_1 == 0, t7_2, t7_3)

theorem spec_l1Cur_one.ok {k : Nat}  {a0_0 : List By} {a0_1 : Int} {a0_2 : Int} {a1 : Int} {r0 : Bool} {r1 : Int} {r2 : Int} (h : spec_l1Cur_one.f k a0_0 a0_1 a0_2 a1 = some (r0, r1, r2)) (w : World) {pa0 : Nat} {va0_0 : Value} (hr_a0_0 : RdM w (footM [R.box pa0 55 [va0_0, .int .i64 a0_1, .int .u64 a0_2]]) va0_0 a0_0) (hw0 : Sep w (footM [R.box pa0 55 [va0_0, .int .i64 a0_1, .int .u64 a0_2]]) [R.box pa0 55 [va0_0, .int .i64 a0_1, .int .u64 a0_2]] w) :
  Calls Tryd.prog 39 ([.pointer (some ⟨pa0, 0, none⟩), .int .i64 a1] : List Value).toArray w (PostM (footM [R.box pa0 55 [va0_0, .int .i64 a0_1, .int .u64 a0_2]]) (fun u ns => u = .bool r0 ∧ ns = [R.box pa0 55 [va0_0, .int .i64 r1, .int .u64 r2]]) w) := by
 unfold spec_l1Cur_one.f at h
 have hl_va0_0 := hr_a0_0.len
 refine Calls.of_tri (N := 9) Tryd.func39 rfl rfl rfl hw0 ?_
 refine Tri.seq (Tri.reg (l := [0]) rfl ?_)
 refine F.qn rfl rfl rfl rfl (r_assign rfl) ?_
 refine F.nil (Nrm.seq (Tri.seq ?_))
 obtain ⟨⟨t7_1, t7_2, t7_3⟩, h7, h⟩ := bind_some h
 refine Tri.reg (l := [0, 1, 2, 3, 4]) rfl ?_
 refine F.qn rfl rfl rfl rfl (r_move rfl) ?_
 refine F.qn rfl rfl rfl rfl (r_move rfl) ?_
 refine F.efn rfl rfl rfl rfl (d_callM (xs := _) (cs := [R.box pa0 55 [va0_0, .int .i64 a0_1, .int .u64 a0_2]]) (rest := []) [0] [] rfl ok40 rfl rfl rfl rfl (fun w hw => spec_l1Cur_pick.ok h7 w (hr_a0_0.down hw) (Sep.sub hw))) ?_
 rintro _ _ ⟨_, ⟨rfl, rfl⟩, rfl⟩
 refine F.qn rfl rfl rfl rfl (r_eql rfl rfl) ?_
 refine F.qn rfl rfl rfl rfl (r_assign rfl) ?_
 refine F.nil (Nrm.seq (Tri.ret ?_))
 cases h
 exact Rtn.body (.tmp rfl .nil) (fun w hw => ⟨_, _, rfl, ⟨rfl, rfl⟩, Sep.pick (is := [0]) rfl rfl hw⟩)


def spec_l1Cur_log12.l0 (k : Nat) (a0_0 : List By) : Nat → Int → Int → Int → ByteArray → ByteArray → Int → Option (ByteArray × ByteArray × Int × Int × Int)
 | 0, _, _, _, _, _, _ => none
 | n + 1, x4, xpa0_1, xpa0_2, xb3_1_0, xb3_1_1, xb3_1_2 => (if (decide (x4 > 0)) = true then ((spec_l1Cur_logRecord.f k a0_0 xpa0_1 xpa0_2).bind fun (t15_1, t15_2, t15_3, t15_4) => (spec_AppendRecord.f k xb3_1_0 xb3_1_1 xb3_1_2 t15_1 t15_2).bind fun (t16_1, t16_2, t16_3, t16_4) => some (t15_3, t15_4, t16_1, t16_2, t16_3)).bind fun (ypa0_1, ypa0_2, yb3_1_0, yb3_1_1, yb3_1_2) => (spec_l1Cur_one.f k a0_0 ypa0_1 ypa0_2 4).bind fun (t20_1, t20_2, t20_3) => ((if t20_1 = true then (spec_SyncLog.f k yb3_1_0 yb3_1_1 yb3_1_2).bind fun (t23_1, t23_2, t23_3, t23_4) => some (t23_1, t23_2, t23_3) else some (yb3_1_0, yb3_1_1, yb3_1_2))).bind fun (yb3_1_0r, yb3_1_1r, yb3_1_2r) => spec_l1Cur_log12.l0 k a0_0 n (w64 (x4 - 1)) t20_2 t20_3 yb3_1_0r yb3_1_1r yb3_1_2r else some (xb3_1_0, xb3_1_1, xb3_1_2, xpa0_1, xpa0_2))

def spec_l1Cur_log12.f (k : Nat) (a0_0 : List By) (a0_1 : Int) (a0_2 : Int) : Option (ByteArray × ByteArray × Int × Int × Int) := (spec_l1Cur_pick.f k a0_0 a0_1 a0_2 7).bind fun (t7_1, t7_2, t7_3) => (spec_l1Cur_log12.l0 k a0_0 k t7_1 t7_2 t7_3 ByteArray.empty ByteArray.empty 0).bind fun (xb3_1_0, xb3_1_1, xb3_1_2, xpa0_1, xpa0_2) => some (xb3_1_0, xb3_1_1, xb3_1_2, xpa0_1, xpa0_2)

theorem spec_l1Cur_log12.ok {k : Nat}  {a0_0 : List By} {a0_1 : Int} {a0_2 : Int} {r0 : ByteArray} {r1 : ByteArray} {r2 : Int} {r3 : Int} {r4 : Int} (h : spec_l1Cur_log12.f k a0_0 a0_1 a0_2 = some (r0, r1, r2, r3, r4)) (w : World) {pa0 : Nat} {va0_0 : Value} (hr_a0_0 : RdM w (footM [R.box pa0 55 [va0_0, .int .i64 a0_1, .int .u64 a0_2]]) va0_0 a0_0) (hw0 : Sep w (footM [R.box pa0 55 [va0_0, .int .i64 a0_1, .int .u64 a0_2]]) [R.box pa0 55 [va0_0, .int .i64 a0_1, .int .u64 a0_2]] w) :
  Calls Tryd.prog 47 ([.pointer (some ⟨pa0, 0, none⟩)] : List Value).toArray w (PostM (footM [R.box pa0 55 [va0_0, .int .i64 a0_1, .int .u64 a0_2]]) (fun u ns => u = .agg [.string r0, .string r1, .int .i64 r2].toArray ∧ ns = [R.box pa0 55 [va0_0, .int .i64 r3, .int .u64 r4]]) w) := by
 unfold spec_l1Cur_log12.f at h
 have hl_va0_0 := hr_a0_0.len
 refine Calls.of_tri (N := 27) Tryd.func47 rfl rfl rfl hw0 ?_
 refine Tri.seq (Tri.reg (l := [0]) rfl ?_)
 refine F.mn rfl rfl rfl rfl (m_alloc ti33) ?_
 rintro _ _ ⟨b2_1, rfl, rfl⟩
 refine F.nil (Nrm.seq (Tri.seq (Tri.reg (l := [0, 1, 2]) rfl ?_)))
 refine F.qn rfl rfl rfl rfl (r_build (pl := [(0, 1), (1, 1), (2, 1)]) (qs := []) (cs := [.string ByteArray.empty, .string ByteArray.empty, .int .i64 0]) (by kernel_rfl) ti33 rfl .nil rfl rfl) ?_
 refine F.mn rfl rfl rfl rfl (m_alloc ti33) ?_
 rintro _ _ ⟨b3_1, rfl, rfl⟩
 refine F.ef0 rfl rfl (wanted_none rfl) (d_storeG0 (i := 0) (cs2 := [.string ByteArray.empty, .string ByteArray.empty, .int .i64 0]) ti33 rfl rfl rfl rfl rfl (Nat.le_of_ble_eq_true rfl) (lf_cons rfl (lf_cons rfl (lf_cons rfl lf_nil)))) ?_
 rintro _ _ ⟨rfl, rfl⟩
 refine F.nil (Nrm.seq (Tri.seq (Tri.seq ?_)))
 obtain ⟨⟨t7_1, t7_2, t7_3⟩, h7, h⟩ := bind_some h
 refine Tri.reg (l := [0, 1, 2]) rfl ?_
 refine F.qn rfl rfl rfl rfl (r_move rfl) ?_
 refine F.efn rfl rfl rfl rfl (d_callM (xs := _) (cs := [R.box pa0 55 [va0_0, .int .i64 a0_1, .int .u64 a0_2]]) (rest := [R.box b3_1 33 [.string ByteArray.empty, .string ByteArray.empty, .int .i64 0], R.box b2_1 33 [.string ByteArray.empty, .string ByteArray.empty, .int .i64 0]]) [2] [0, 1] rfl ok40 rfl rfl rfl rfl (fun w hw => spec_l1Cur_pick.ok h7 w (hr_a0_0.down hw) (Sep.sub hw))) ?_
 rintro _ _ ⟨_, ⟨rfl, rfl⟩, rfl⟩
 refine F.qn rfl rfl rfl rfl (r_assign rfl) ?_
 refine F.nil (Nrm.seq ?_)
 obtain ⟨⟨xb3_1_0, xb3_1_1, xb3_1_2, xpa0_1, xpa0_2⟩, hE_1, h⟩ := bind_some h
 refine Tri.block ?_
 refine Tri.only [0, 2, 3, 4] rfl ?_
 refine Tri.pick [0, 1, 2] rfl rfl ?_
 refine Tri.rounds (fun n e' C' => ∃ (x4' : Int) (xpa0_1' : Int) (xpa0_2' : Int) (xb3_1_0' : ByteArray) (xb3_1_1' : ByteArray) (xb3_1_2' : Int), spec_l1Cur_log12.l0 k a0_0 n x4' xpa0_1' xpa0_2' xb3_1_0' xb3_1_1' xb3_1_2' = some (xb3_1_0, xb3_1_1, xb3_1_2, xpa0_1, xpa0_2) ∧ e' = [(0, .pointer (some ⟨pa0, 0, none⟩)), (2, .pointer (some ⟨b2_1, 0, none⟩)), (3, .pointer (some ⟨b3_1, 0, none⟩)), (4, .int .i64 x4')] ∧ C' = Sep w (footM [R.box pa0 55 [va0_0, .int .i64 a0_1, .int .u64 a0_2]]) [R.box pa0 55 [va0_0, .int .i64 xpa0_1', .int .u64 xpa0_2'], R.box b3_1 33 [.string xb3_1_0', .string xb3_1_1', .int .i64 xb3_1_2'], R.box b2_1 33 [.string ByteArray.empty, .string ByteArray.empty, .int .i64 0]]) k ?_ ?_ ?_
 ·exact ⟨t7_1, t7_2, t7_3, ByteArray.empty, ByteArray.empty, 0, hE_1, rfl, rfl⟩
 ·rintro _ _ ⟨_, _, _, _, _, _, hE_1, _⟩
  rw [spec_l1Cur_log12.l0.eq_1] at hE_1; cases hE_1
 ·rintro n_1 _ _ ⟨x4, xpa0_1, xpa0_2, xb3_1_0, xb3_1_1, xb3_1_2, hE_1, rfl, rfl⟩ ih_1
  rw [spec_l1Cur_log12.l0.eq_2] at hE_1
  refine Tri.seq (Tri.seq (Tri.reg (l := [0, 1]) rfl ?_))
  refine F.qn rfl rfl rfl rfl (r_move rfl) ?_
  refine F.qn rfl rfl rfl rfl (r_gtr rfl rfl) ?_
  refine F.nil (Nrm.seq (Tri.cond (b := decide (x4 > 0)) rfl (fun g_1 => ?_) (fun g_1 => ?_)))
  ·replace hE_1 := if_tt g_1 hE_1
   refine Tri.skip (Nrm.seq (Tri.seq (Tri.block ?_)))
   refine Tri.seq ?_
   obtain ⟨⟨ypa0_1, ypa0_2, yb3_1_0, yb3_1_1, yb3_1_2⟩, hE_2, hE_1⟩ := bind_some hE_1
   refine Tri.cut (fun e' C' => e' = [(0, .pointer (some ⟨pa0, 0, none⟩)), (2, .pointer (some ⟨b2_1, 0, none⟩)), (3, .pointer (some ⟨b3_1, 0, none⟩)), (4, .int .i64 x4)] ∧ C' = Sep w (footM [R.box pa0 55 [va0_0, .int .i64 a0_1, .int .u64 a0_2]]) [R.box pa0 55 [va0_0, .int .i64 ypa0_1, .int .u64 ypa0_2], R.box b3_1 33 [.string yb3_1_0, .string yb3_1_1, .int .i64 yb3_1_2], R.box b2_1 33 [.string ByteArray.empty, .string ByteArray.empty, .int .i64 0]]) ?_ (fun hj_1 => ?_)
   ·rintro _ _ ⟨rfl, rfl⟩
    refine Nrm.seq (Tri.seq ?_)
    obtain ⟨⟨t20_1, t20_2, t20_3⟩, h20, hE_1⟩ := bind_some hE_1
    refine Tri.reg (l := [0, 1]) rfl ?_
    refine F.qn rfl rfl rfl rfl (r_move rfl) ?_
    refine F.efn rfl rfl rfl rfl (d_callM (xs := _) (cs := [R.box pa0 55 [va0_0, .int .i64 ypa0_1, .int .u64 ypa0_2]]) (rest := [R.box b3_1 33 [.string yb3_1_0, .string yb3_1_1, .int .i64 yb3_1_2], R.box b2_1 33 [.string ByteArray.empty, .string ByteArray.empty, .int .i64 0]]) [0] [1, 2] rfl ok39 rfl rfl rfl rfl (fun w hw => spec_l1Cur_one.ok h20 w (hr_a0_0.down hw) (Sep.sub hw))) ?_
    rintro _ _ ⟨_, ⟨rfl, rfl⟩, rfl⟩
    refine F.nil (Nrm.seq ?_)
    obtain ⟨⟨yb3_1_0r, yb3_1_1r, yb3_1_2r⟩, hE_3, hE_1⟩ := bind_some hE_1
    refine Tri.cut (fun e' C' => e' = [(0, .pointer (some ⟨pa0, 0, none⟩)), (2, .pointer (some ⟨b2_1, 0, none⟩)), (3, .pointer (some ⟨b3_1, 0, none⟩)), (4, .int .i64 x4)] ∧ C' = Sep w (footM [R.box pa0 55 [va0_0, .int .i64 a0_1, .int .u64 a0_2]]) [R.box pa0 55 [va0_0, .int .i64 t20_2, .int .u64 t20_3], R.box b3_1 33 [.string yb3_1_0r, .string yb3_1_1r, .int .i64 yb3_1_2r], R.box b2_1 33 [.string ByteArray.empty, .string ByteArray.empty, .int .i64 0]]) ?_ (fun hj_2 => ?_)
    ·rintro _ _ ⟨rfl, rfl⟩
     refine Nrm.block ?_
     refine Nrm.seq (Tri.reg (l := [0, 1, 2]) rfl ?_)
     refine F.qn rfl rfl rfl rfl (r_move rfl) ?_
     refine F.qn rfl rfl rfl rfl (r_sub rfl rfl) ?_
     refine F.qn rfl rfl rfl rfl (r_assign rfl) ?_
     refine F.nil (Nrm.round ?_)
     refine Rnd.only [0, 2, 3, 4] rfl ?_
     refine Rnd.pick [0, 1, 2] rfl rfl ?_
     exact ih_1 _ _ ⟨w64 (x4 - 1), t20_2, t20_3, yb3_1_0r, yb3_1_1r, yb3_1_2r, hE_1, rfl, rfl⟩
    ·refine Tri.cond (b := t20_1) rfl (fun g_2 => ?_) (fun g_2 => ?_)
     ·replace hE_3 := if_tt g_2 hE_3
      obtain ⟨⟨t23_1, t23_2, t23_3, t23_4⟩, h23, hE_3⟩ := bind_some hE_3
      refine Tri.reg (l := [0, 1, 2, 3, 4, 5]) rfl ?_
      refine F.qn rfl rfl rfl rfl (r_loadA ta33 ti33 rfl rfl (fun w hw => (box_cells (i := 1) rfl w hw))) ?_
      refine F.qcn rfl rfl rfl rfl (q_callF (xs := _) rfl ok20 rfl rfl (fun w hw => spec_SyncLog.ok h23 w )) ?_
      refine F.qn rfl rfl rfl rfl (r_move rfl) ?_
      refine F.qn rfl rfl rfl rfl (r_extract rfl rfl) ?_
      refine F.qn rfl rfl rfl rfl (r_extract rfl rfl) ?_
      refine F.ef0 rfl rfl (wanted_none rfl) (d_storeG0 (i := 1) (cs2 := [.string t23_1, .string t23_2, .int .i64 t23_3]) ti33 rfl rfl rfl rfl rfl (Nat.le_of_ble_eq_true rfl) (lf_cons rfl (lf_cons rfl (lf_cons rfl lf_nil)))) ?_
      rintro _ _ ⟨rfl, rfl⟩
      refine F.nil ?_
      cases hE_3
      refine Nrm.only [0, 2, 3, 4] rfl ?_
      refine Nrm.pick [0, 1, 2] rfl rfl ?_
      exact hj_2 _ _ ⟨rfl, rfl⟩
     ·replace hE_3 := if_ff g_2 hE_3
      refine Tri.skip ?_
      cases hE_3
      refine Nrm.only [0, 2, 3, 4] rfl ?_
      refine Nrm.pick [0, 1, 2] rfl rfl ?_
      exact hj_2 _ _ ⟨rfl, rfl⟩
   ·obtain ⟨⟨t15_1, t15_2, t15_3, t15_4⟩, h15, hE_2⟩ := bind_some hE_2
    obtain ⟨⟨t16_1, t16_2, t16_3, t16_4⟩, h16, hE_2⟩ := bind_some hE_2
    refine Tri.drawTK (B := Sep w (footM [R.box pa0 55 [va0_0, .int .i64 a0_1, .int .u64 a0_2]]) [R.box b2_1 33 [.string ByteArray.empty, .string ByteArray.empty, .int .i64 0]]) mixedT Sep.up [1, 0, 2, 3, 4, 5, 6, 7] [] (.q 1 (.alt 0 (.alt 2 (.q 3 (.q 4 (.q 5 (.q 6 (.alt 7 .nil .stop))))) .stop) (.alt 2 (.alt 0 (.q 3 (.q 4 (.q 5 (.q 6 (.alt 7 .nil .stop))))) .stop) .stop))) (by kernel_rfl) ?_
    refine TK.q [2] rfl rfl rfl rfl rfl (wanted_none rfl) (r_move rfl) ?_
    refine T.ef rfl rfl rfl (wanted_none rfl) (Runs.does (r_loadA ta33 ti33 rfl rfl (fun w hw => (box_cells (i := 1) rfl w hw)))) (by rintro _ _ ⟨rfl, rfl⟩; exact upd rfl [2] rfl rfl) ?_ ?_
    ·rintro _ _ ⟨rfl, rfl⟩
     refine T.ef rfl rfl rfl (wanted_none rfl) (d_callM (xs := _) (cs := [R.box pa0 55 [va0_0, .int .i64 xpa0_1, .int .u64 xpa0_2]]) (rest := [R.box b3_1 33 [.string xb3_1_0, .string xb3_1_1, .int .i64 xb3_1_2], R.box b2_1 33 [.string ByteArray.empty, .string ByteArray.empty, .int .i64 0]]) [0] [1, 2] rfl ok30 rfl rfl rfl rfl (fun w hw => spec_l1Cur_logRecord.ok h15 w (hr_a0_0.down hw) (Sep.sub hw))) (by rintro _ _ ⟨_, ⟨rfl, rfl⟩, rfl⟩; exact upd rfl [2] rfl rfl) ?_ ?_
     ·rintro _ _ ⟨_, ⟨rfl, rfl⟩, rfl⟩
      refine TK.qc [2] rfl rfl rfl rfl rfl (wanted_none rfl) (q_callF (xs := _) rfl ok14 rfl rfl (fun w hw => spec_AppendRecord.ok h16 w )) ?_
      refine TK.q [2] rfl rfl rfl rfl rfl (wanted_none rfl) (r_move rfl) ?_
      refine TK.q [2] rfl rfl rfl rfl rfl (wanted_none rfl) (r_extract rfl rfl) ?_
      refine TK.q [2] rfl rfl rfl rfl rfl (wanted_none rfl) (r_extract rfl rfl) ?_
      refine T.ef0 rfl rfl (wanted_none rfl) (d_storeG0 (i := 1) (cs2 := [.string t16_1, .string t16_2, .int .i64 t16_3]) ti33 rfl rfl rfl rfl rfl (Nat.le_of_ble_eq_true rfl) (lf_cons rfl (lf_cons rfl (lf_cons rfl lf_nil)))) (by rintro _ _ ⟨rfl, rfl⟩; exact upd rfl [2] rfl rfl) ?_ ?_
      ·rintro _ _ ⟨rfl, rfl⟩
       refine T.nil ?_
       refine F.nil ?_
       cases hE_2
       refine Nrm.only [0, 2, 3, 4] rfl ?_
       refine Nrm.pick [0, 1, 2] rfl rfl ?_
       exact hj_1 _ _ ⟨rfl, rfl⟩
      exact T.stop
     exact T.stop
    ·refine T.ef rfl rfl rfl (wanted_none rfl) (d_callM (xs := _) (cs := [R.box pa0 55 [va0_0, .int .i64 xpa0_1, .int .u64 xpa0_2]]) (rest := [R.box b3_1 33 [.string xb3_1_0, .string xb3_1_1, .int .i64 xb3_1_2], R.box b2_1 33 [.string ByteArray.empty, .string ByteArray.empty, .int .i64 0]]) [0] [1, 2] rfl ok30 rfl rfl rfl rfl (fun w hw => spec_l1Cur_logRecord.ok h15 w (hr_a0_0.down hw) (Sep.sub hw))) (by rintro _ _ ⟨_, ⟨rfl, rfl⟩, rfl⟩; exact upd rfl [2] rfl rfl) ?_ ?_
     ·rintro _ _ ⟨_, ⟨rfl, rfl⟩, rfl⟩
      refine T.ef rfl rfl rfl (wanted_none rfl) (Runs.does (r_loadA ta33 ti33 rfl rfl (fun w hw => (box_cells (i := 1) rfl w hw)))) (by rintro _ _ ⟨rfl, rfl⟩; exact upd rfl [2] rfl rfl) ?_ ?_
      ·rintro _ _ ⟨rfl, rfl⟩
       refine TK.qc [2] rfl rfl rfl rfl rfl (wanted_none rfl) (q_callF (xs := _) rfl ok14 rfl rfl (fun w hw => spec_AppendRecord.ok h16 w )) ?_
       refine TK.q [2] rfl rfl rfl rfl rfl (wanted_none rfl) (r_move rfl) ?_
       refine TK.q [2] rfl rfl rfl rfl rfl (wanted_none rfl) (r_extract rfl rfl) ?_
       refine TK.q [2] rfl rfl rfl rfl rfl (wanted_none rfl) (r_extract rfl rfl) ?_
       refine T.ef0 rfl rfl (wanted_none rfl) (d_storeG0 (i := 1) (cs2 := [.string t16_1, .string t16_2, .int .i64 t16_3]) ti33 rfl rfl rfl rfl rfl (Nat.le_of_ble_eq_true rfl) (lf_cons rfl (lf_cons rfl (lf_cons rfl lf_nil)))) (by rintro _ _ ⟨rfl, rfl⟩; exact upd rfl [2] rfl rfl) ?_ ?_
       ·rintro _ _ ⟨rfl, rfl⟩
        refine T.nil ?_
        refine F.nil ?_
        cases hE_2
        refine Nrm.only [0, 2, 3, 4] rfl ?_
        refine Nrm.pick [0, 1, 2] rfl rfl ?_
        exact hj_1 _ _ ⟨rfl, rfl⟩
       exact T.stop
      exact T.stop
     exact T.stop
  ·replace hE_1 := if_ff g_1 hE_1
   refine Tri.exit ?_
   refine Exi.then ?_
   refine Exi.then ?_
   refine Exi.same ?_
   cases hE_1
   refine Nrm.seq (Tri.seq (Tri.reg (l := [0, 1]) rfl ?_))
   refine F.qn rfl rfl rfl rfl (r_loadA ta33 ti33 rfl rfl (fun w hw => (box_cells (i := 1) rfl w hw))) ?_
   refine F.ef0 rfl rfl (wanted_none rfl) (d_storeG0 (i := 2) (cs2 := [.string xb3_1_0, .string xb3_1_1, .int .i64 xb3_1_2]) ti33 rfl rfl rfl rfl rfl (Nat.le_of_ble_eq_true rfl) (lf_cons rfl (lf_cons rfl (lf_cons rfl lf_nil)))) ?_
   rintro _ _ ⟨rfl, rfl⟩
   refine F.nil (Nrm.seq (Tri.ret ?_))
   cases h
   exact Rtn.body (.cell rfl ta33 ti33 rfl (fun _ hw => box_cells (i := 2) rfl _ hw) .nil) (fun w hw => ⟨_, _, rfl, ⟨rfl, rfl⟩, Sep.pick (is := [0]) rfl rfl hw⟩)


def spec_l1Cur_spoilt.f (k : Nat) (a0_0 : List By) (a0_1 : Int) (a0_2 : Int) (a1 : ByteArray) (a2 : ByteArray) : Option (ByteArray × Int × Int) := (if (a1.toList == ByteArray.empty.toList) = true then (scut a2 0 1).bind fun t12 => some (t12, a0_1, a0_2) else (spec_l1Cur_pick.f k a0_0 a0_1 a0_2 (a1.size : Int)).bind fun (t16_1, t16_2, t16_3) => (spec_l1Cur_pick.f k a0_0 t16_2 t16_3 (a2.size : Int)).bind fun (t21_1, t21_2, t21_3) => (scut a2 t21_1 (a2.size : Int)).bind fun t22 => (scut t22 0 1).bind fun t23 => (spec_l1Cur_pick.f k a0_0 t21_2 t21_3 3).bind fun (t25_1, t25_2, t25_3) => (if (t25_1 == 0) = true then (scut a1 0 t16_1).bind fun t30 => if (t30 ++ t23).size < 4611686018427387904 then (scut a1 t16_1 (a1.size : Int)).bind fun t35 => if ((t30 ++ t23) ++ t35).size < 4611686018427387904 then some ((t30 ++ t23) ++ t35, t25_2, t25_3) else none else none else (if (t25_1 == 1) = true then (scut a1 0 t16_1).bind fun t41 => if (t41 ++ t23).size < 4611686018427387904 then (scut a1 (w64 (t16_1 + 1)) (a1.size : Int)).bind fun t47 => if ((t41 ++ t23) ++ t47).size < 4611686018427387904 then some ((t41 ++ t23) ++ t47, t25_2, t25_3) else none else none else (scut a1 0 t16_1).bind fun t51 => (scut a1 (w64 (t16_1 + 1)) (a1.size : Int)).bind fun t55 => if (t51 ++ t55).size < 4611686018427387904 then some (t51 ++ t55, t25_2, t25_3) else none)))

theorem spec_l1Cur_spoilt.ok {k : Nat}  {a0_0 : List By} {a0_1 : Int} {a0_2 : Int} {a1 : ByteArray} {a2 : ByteArray} {r0 : ByteArray} {r1 : Int} {r2 : Int} (h : spec_l1Cur_spoilt.f k a0_0 a0_1 a0_2 a1 a2 = some (r0, r1, r2)) (w : World) {pa0 : Nat} {va0_0 : Value} (hr_a0_0 : RdM w (footM [R.box pa0 55 [va0_0, .int .i64 a0_1, .int .u64 a0_2]]) va0_0 a0_0) (hw0 : Sep w (footM [R.box pa0 55 [va0_0, .int .i64 a0_1, .int .u64 a0_2]]) [R.box pa0 55 [va0_0, .int .i64 a0_1, .int .u64 a0_2]] w) :
  Calls Tryd.prog 48 ([.pointer (some ⟨pa0, 0, none⟩), .string a1, .string a2] : List Value).toArray w (PostM (footM [R.box pa0 55 [va0_0, .int .i64 a0_1, .int .u64 a0_2]]) (fun u ns => u = .string r0 ∧ ns = [R.box pa0 55 [va0_0, .int .i64 r1, .int .u64 r2]]) w) := by
 unfold spec_l1Cur_spoilt.f at h
 have hl_va0_0 := hr_a0_0.len
 refine Calls.of_tri (N := 57) Tryd.func48 rfl rfl rfl hw0 ?_
 refine Tri.seq (Tri.reg (l := [0]) rfl ?_)
 refine F.qn rfl rfl rfl rfl (r_assign rfl) ?_
 refine F.nil (Nrm.seq (Tri.seq (Tri.seq (Tri.reg (l := [0, 1]) rfl ?_))))
 refine F.qn rfl rfl rfl rfl (r_move rfl) ?_
 refine F.qn rfl rfl rfl rfl (r_eqlS rfl rfl) ?_
 refine F.nil (Nrm.seq (Tri.cond (b := a1.toList == ByteArray.empty.toList) rfl (fun g_1 => ?_) (fun g_1 => ?_)))
 ·replace h := if_tt g_1 h
  refine Tri.seq ?_
  obtain ⟨t12, h12, h⟩ := bind_some h
  refine Tri.reg (l := [0, 1, 2]) rfl ?_
  refine F.qn rfl rfl rfl rfl (r_move rfl) ?_
  refine F.qn rfl rfl rfl rfl (r_scutH Tryd.underlying9 rfl rfl h12) ?_
  refine F.qn rfl rfl rfl rfl (r_assign rfl) ?_
  refine F.nil (Nrm.seq (Tri.ret ?_))
  refine Rtn.then ?_
  cases h
  exact Rtn.body (.tmp rfl .nil) (fun w hw => ⟨_, _, rfl, ⟨rfl, rfl⟩, Sep.pick (is := [0]) rfl rfl hw⟩)
 ·replace h := if_ff g_1 h
  refine Tri.skip (Nrm.seq (Tri.seq ?_))
  obtain ⟨⟨t16_1, t16_2, t16_3⟩, h16, h⟩ := bind_some h
  refine Tri.reg (l := [0, 1, 2, 3, 4]) rfl ?_
  refine F.qn rfl rfl rfl rfl (r_move rfl) ?_
  refine F.qn rfl rfl rfl rfl (r_move rfl) ?_
  refine F.qn rfl rfl rfl rfl (r_lenS Tryd.underlying9 rfl) ?_
  refine F.efn rfl rfl rfl rfl (d_callM (xs := _) (cs := [R.box pa0 55 [va0_0, .int .i64 a0_1, .int .u64 a0_2]]) (rest := []) [0] [] rfl ok40 rfl rfl rfl rfl (fun w hw => spec_l1Cur_pick.ok h16 w (hr_a0_0.down hw) (Sep.sub hw))) ?_
  rintro _ _ ⟨_, ⟨rfl, rfl⟩, rfl⟩
  refine F.qn rfl rfl rfl rfl (r_assign rfl) ?_
  refine F.nil (Nrm.seq (Tri.seq ?_))
  obtain ⟨⟨t21_1, t21_2, t21_3⟩, h21, h⟩ := bind_some h
  obtain ⟨t22, h22, h⟩ := bind_some h
  obtain ⟨t23, h23, h⟩ := bind_some h
  refine Tri.reg (l := [0, 1, 2, 3, 4, 5, 6, 7]) rfl ?_
  iterate 3 refine F.qn rfl rfl rfl rfl (r_move rfl) ?_
  refine F.qn rfl rfl rfl rfl (r_lenS Tryd.underlying9 rfl) ?_
  refine F.efn rfl rfl rfl rfl (d_callM (xs := _) (cs := [R.box pa0 55 [va0_0, .int .i64 t16_2, .int .u64 t16_3]]) (rest := []) [0] [] rfl ok40 rfl rfl rfl rfl (fun w hw => spec_l1Cur_pick.ok h21 w (hr_a0_0.down hw) (Sep.sub hw))) ?_
  rintro _ _ ⟨_, ⟨rfl, rfl⟩, rfl⟩
  refine F.qn rfl rfl rfl rfl (r_scutL Tryd.underlying9 rfl rfl h22) ?_
  refine F.qn rfl rfl rfl rfl (r_scutH Tryd.underlying9 rfl rfl h23) ?_
  refine F.qn rfl rfl rfl rfl (r_assign rfl) ?_
  refine F.nil (Nrm.seq (Tri.seq (Tri.seq ?_)))
  obtain ⟨⟨t25_1, t25_2, t25_3⟩, h25, h⟩ := bind_some h
  refine Tri.reg (l := [0, 1]) rfl ?_
  refine F.qn rfl rfl rfl rfl (r_move rfl) ?_
  refine F.efn rfl rfl rfl rfl (d_callM (xs := _) (cs := [R.box pa0 55 [va0_0, .int .i64 t21_2, .int .u64 t21_3]]) (rest := []) [0] [] rfl ok40 rfl rfl rfl rfl (fun w hw => spec_l1Cur_pick.ok h25 w (hr_a0_0.down hw) (Sep.sub hw))) ?_
  rintro _ _ ⟨_, ⟨rfl, rfl⟩, rfl⟩
  refine F.nil (Nrm.seq (Tri.block ?_))
  refine Tri.seq (Tri.reg (l := [0, 1]) rfl ?_)
  refine F.qn rfl rfl rfl rfl (r_eql rfl rfl) ?_
  refine F.qn rfl rfl rfl rfl (r_assign rfl) ?_
  refine F.nil (Nrm.seq (Tri.cond (b := t25_1 == 0) rfl (fun g_2 => ?_) (fun g_2 => ?_)))
  ·replace h := if_tt g_2 h
   refine Tri.seq ?_
   obtain ⟨t30, h30, h⟩ := bind_some h
   obtain ⟨hs32, h⟩ := ck h
   obtain ⟨t35, h35, h⟩ := bind_some h
   obtain ⟨hs36, h⟩ := ck h
   refine Tri.drawA mixedT Sep.up [(0, true), (1, true), (2, true), (3, true), (4, true), (5, true), (6, true), (7, true), (8, true), (9, true)] [] (by kernel_rfl) ?_
   refine S.qn rfl rfl rfl rfl (r_move rfl) ?_
   refine S.qn rfl rfl rfl rfl (r_move rfl) ?_
   refine S.qn rfl rfl rfl rfl (r_scutH Tryd.underlying9 rfl rfl h30) ?_
   refine S.qn rfl rfl rfl rfl (r_move rfl) ?_
   refine S.qn rfl rfl rfl rfl (r_addS rfl rfl hs32) ?_
   refine S.qn rfl rfl rfl rfl (r_move rfl) ?_
   refine S.qn rfl rfl rfl rfl (r_move rfl) ?_
   refine S.qn rfl rfl rfl rfl (r_scutL Tryd.underlying9 rfl rfl h35) ?_
   refine S.qn rfl rfl rfl rfl (r_addS rfl rfl hs36) ?_
   refine S.qn rfl rfl rfl rfl (r_assign rfl) ?_
   refine S.nil (F.nil (Nrm.seq (Tri.ret ?_)))
   refine Rtn.block ?_
   refine Rtn.then ?_
   cases h
   exact Rtn.body (.tmp rfl .nil) (fun w hw => ⟨_, _, rfl, ⟨rfl, rfl⟩, Sep.pick (is := [0]) rfl rfl hw⟩)
  ·replace h := if_ff g_2 h
   refine Tri.seq (Tri.reg (l := [0, 1]) rfl ?_)
   refine F.qn rfl rfl rfl rfl (r_eql rfl rfl) ?_
   refine F.qn rfl rfl rfl rfl (r_assign rfl) ?_
   refine F.nil (Nrm.seq (Tri.cond (b := t25_1 == 1) rfl (fun g_3 => ?_) (fun g_3 => ?_)))
   ·replace h := if_tt g_3 h
    refine Tri.seq ?_
    obtain ⟨t41, h41, h⟩ := bind_some h
    obtain ⟨hs43, h⟩ := ck h
    obtain ⟨t47, h47, h⟩ := bind_some h
    obtain ⟨hs48, h⟩ := ck h
    refine Tri.drawA mixedT Sep.up [(0, true), (1, true), (2, true), (3, true), (4, true), (5, true), (6, true), (7, true), (8, true), (9, true), (10, true)] [] (by kernel_rfl) ?_
    refine S.qn rfl rfl rfl rfl (r_move rfl) ?_
    refine S.qn rfl rfl rfl rfl (r_move rfl) ?_
    refine S.qn rfl rfl rfl rfl (r_scutH Tryd.underlying9 rfl rfl h41) ?_
    refine S.qn rfl rfl rfl rfl (r_move rfl) ?_
    refine S.qn rfl rfl rfl rfl (r_addS rfl rfl hs43) ?_
    refine S.qn rfl rfl rfl rfl (r_move rfl) ?_
    refine S.qn rfl rfl rfl rfl (r_move rfl) ?_
    refine S.qn rfl rfl rfl rfl (r_add rfl rfl) ?_
    refine S.qn rfl rfl rfl rfl (r_scutL Tryd.underlying9 rfl rfl h47) ?_
    refine S.qn rfl rfl rfl rfl (r_addS rfl rfl hs48) ?_
    refine S.qn rfl rfl rfl rfl (r_assign rfl) ?_
    refine S.nil (F.nil (Nrm.seq (Tri.ret ?_)))
    refine Rtn.block ?_
    refine Rtn.then ?_
    cases h
    exact Rtn.body (.tmp rfl .nil) (fun w hw => ⟨_, _, rfl, ⟨rfl, rfl⟩, Sep.pick (is := [0]) rfl rfl hw⟩)
   ·replace h := if_ff g_3 h
    refine Tri.skip (Nrm.block ?_)
    refine Nrm.seq (Tri.seq ?_)
    obtain ⟨t51, h51, h⟩ := bind_some h
    obtain ⟨t55, h55, h⟩ := bind_some h
    obtain ⟨hs56, h⟩ := ck h
    refine Tri.drawA mixedT Sep.up [(0, true), (1, true), (2, true), (3, true), (4, true), (5, true), (6, true), (7, true), (8, true)] [] (by kernel_rfl) ?_
    refine S.qn rfl rfl rfl rfl (r_move rfl) ?_
    refine S.qn rfl rfl rfl rfl (r_move rfl) ?_
    refine S.qn rfl rfl rfl rfl (r_scutH Tryd.underlying9 rfl rfl h51) ?_
    refine S.qn rfl rfl rfl rfl (r_move rfl) ?_
    refine S.qn rfl rfl rfl rfl (r_move rfl) ?_
    refine S.qn rfl rfl rfl rfl (r_add rfl rfl) ?_
    refine S.qn rfl rfl rfl rfl (r_scutL Tryd.underlying9 rfl rfl h55) ?_
    refine S.qn rfl rfl rfl rfl (r_addS rfl rfl hs56) ?_
    refine S.qn rfl rfl rfl rfl (r_assign rfl) ?_
    refine S.nil (F.nil (Nrm.seq (Tri.ret ?_)))
    cases h
    exact Rtn.body (.tmp rfl .nil) (fun w hw => ⟨_, _, rfl, ⟨rfl, rfl⟩, Sep.pick (is := [0]) rfl rfl hw⟩)


def spec_l1Cur_anyLog.f (k : Nat) (a0_0 : List By) (a0_1 : Int) (a0_2 : Int) : Option (ByteArray × ByteArray × Int × Int × Int) := (spec_l1Cur_log12.f k a0_0 a0_1 a0_2).bind fun (t5_1, t5_2, t5_3, t5_4, t5_5) => (spec_l1Cur_pick.f k a0_0 t5_4 t5_5 24).bind fun (t7_1, t7_2, t7_3) => ((if (t7_1 == 0) = true then some (t7_2, t7_3, t5_1, t5_2, w64 (t5_3 + 1)) else ((if (t7_1 == 1) = true then (spec_l1Cur_spoilt.f k a0_0 t7_2 t7_3 t5_2 (ByteArray.mk #[35, 64, 10, 48, 49])).bind fun (t19_1, t19_2, t19_3) => some (t19_2, t19_3, t5_1, t19_1) else ((if (t7_1 == 2) = true then if (t5_1 ++ t5_2).size < 4611686018427387904 then some (t5_1 ++ t5_2) else none else some t5_1)).bind fun yb3_1_0 => some (t7_2, t7_3, yb3_1_0, t5_2))).bind fun (ypa0_1, ypa0_2, yb3_1_0, yb3_1_1) => some (ypa0_1, ypa0_2, yb3_1_0, yb3_1_1, t5_3))).bind fun (ypa0_1, ypa0_2, yb3_1_0, yb3_1_1, yb3_1_2) => some (yb3_1_0, yb3_1_1, yb3_1_2, ypa0_1, ypa0_2)

theorem spec_l1Cur_anyLog.ok {k : Nat}  {a0_0 : List By} {a0_1 : Int} {a0_2 : Int} {r0 : ByteArray} {r1 : ByteArray} {r2 : Int} {r3 : Int} {r4 : Int} (h : spec_l1Cur_anyLog.f k a0_0 a0_1 a0_2 = some (r0, r1, r2, r3, r4)) (w : World) {pa0 : Nat} {va0_0 : Value} (hr_a0_0 : RdM w (footM [R.box pa0 55 [va0_0, .int .i64 a0_1, .int .u64 a0_2]]) va0_0 a0_0) (hw0 : Sep w (footM [R.box pa0 55 [va0_0, .int .i64 a0_1, .int .u64 a0_2]]) [R.box pa0 55 [va0_0, .int .i64 a0_1, .int .u64 a0_2]] w) :
  Calls Tryd.prog 38 ([.pointer (some ⟨pa0, 0, none⟩)] : List Value).toArray w (PostM (footM [R.box pa0 55 [va0_0, .int .i64 a0_1, .int .u64 a0_2]]) (fun u ns => u = .agg [.string r0, .string r1, .int .i64 r2].toArray ∧ ns = [R.box pa0 55 [va0_0, .int .i64 r3, .int .u64 r4]]) w) := by
 unfold spec_l1Cur_anyLog.f at h
 have hl_va0_0 := hr_a0_0.len
 refine Calls.of_tri (N := 30) Tryd.func38 rfl rfl rfl hw0 ?_
 refine Tri.seq (Tri.reg (l := [0]) rfl ?_)
 refine F.mn rfl rfl rfl rfl (m_alloc ti33) ?_
 rintro _ _ ⟨b2_1, rfl, rfl⟩
 refine F.nil (Nrm.seq (Tri.seq ?_))
 obtain ⟨⟨t5_1, t5_2, t5_3, t5_4, t5_5⟩, h5, h⟩ := bind_some h
 refine Tri.reg (l := [0, 1, 2, 3]) rfl ?_
 refine F.qn rfl rfl rfl rfl (r_move rfl) ?_
 refine F.efn rfl rfl rfl rfl (d_callM (xs := _) (cs := [R.box pa0 55 [va0_0, .int .i64 a0_1, .int .u64 a0_2]]) (rest := [R.box b2_1 33 [.string ByteArray.empty, .string ByteArray.empty, .int .i64 0]]) [1] [0] rfl ok47 rfl rfl rfl rfl (fun w hw => spec_l1Cur_log12.ok h5 w (hr_a0_0.down hw) (Sep.sub hw))) ?_
 rintro _ _ ⟨_, ⟨rfl, rfl⟩, rfl⟩
 refine F.mn rfl rfl rfl rfl (m_alloc ti33) ?_
 rintro _ _ ⟨b3_1, rfl, rfl⟩
 refine F.ef0 rfl rfl (wanted_none rfl) (d_storeG0 (i := 0) (cs2 := [.string t5_1, .string t5_2, .int .i64 t5_3]) ti33 rfl rfl rfl rfl rfl (Nat.le_of_ble_eq_true rfl) (lf_cons rfl (lf_cons rfl (lf_cons rfl lf_nil)))) ?_
 rintro _ _ ⟨rfl, rfl⟩
 refine F.nil (Nrm.seq (Tri.seq (Tri.seq ?_)))
 obtain ⟨⟨t7_1, t7_2, t7_3⟩, h7, h⟩ := bind_some h
 refine Tri.reg (l := [0, 1]) rfl ?_
 refine F.qn rfl rfl rfl rfl (r_move rfl) ?_
 refine F.efn rfl rfl rfl rfl (d_callM (xs := _) (cs := [R.box pa0 55 [va0_0, .int .i64 t5_4, .int .u64 t5_5]]) (rest := [R.box b3_1 33 [.string t5_1, .string t5_2, .int .i64 t5_3], R.box b2_1 33 [.string ByteArray.empty, .string ByteArray.empty, .int .i64 0]]) [1] [0, 2] rfl ok40 rfl rfl rfl rfl (fun w hw => spec_l1Cur_pick.ok h7 w (hr_a0_0.down hw) (Sep.sub hw))) ?_
 rintro _ _ ⟨_, ⟨rfl, rfl⟩, rfl⟩
 refine F.nil (Nrm.seq (Tri.block ?_))
 refine Tri.seq (Tri.reg (l := [0, 1]) rfl ?_)
 refine F.qn rfl rfl rfl rfl (r_eql rfl rfl) ?_
 refine F.qn rfl rfl rfl rfl (r_assign rfl) ?_
 refine F.nil (Nrm.seq ?_)
 obtain ⟨⟨ypa0_1, ypa0_2, yb3_1_0, yb3_1_1, yb3_1_2⟩, hE_1, h⟩ := bind_some h
 refine Tri.cut (fun e' C' => e' = [(2, .pointer (some ⟨b2_1, 0, none⟩)), (3, .pointer (some ⟨b3_1, 0, none⟩))] ∧ C' = Sep w (footM [R.box pa0 55 [va0_0, .int .i64 a0_1, .int .u64 a0_2]]) [R.box pa0 55 [va0_0, .int .i64 ypa0_1, .int .u64 ypa0_2], R.box b3_1 33 [.string yb3_1_0, .string yb3_1_1, .int .i64 yb3_1_2], R.box b2_1 33 [.string ByteArray.empty, .string ByteArray.empty, .int .i64 0]]) ?_ (fun hj_1 => ?_)
 ·rintro _ _ ⟨rfl, rfl⟩
  refine Nrm.block ?_
  refine Nrm.seq (Tri.seq (Tri.reg (l := [0, 1]) rfl ?_))
  refine F.qn rfl rfl rfl rfl (r_loadA ta33 ti33 rfl rfl (fun w hw => (box_cells (i := 1) rfl w hw))) ?_
  refine F.ef0 rfl rfl (wanted_none rfl) (d_storeG0 (i := 2) (cs2 := [.string yb3_1_0, .string yb3_1_1, .int .i64 yb3_1_2]) ti33 rfl rfl rfl rfl rfl (Nat.le_of_ble_eq_true rfl) (lf_cons rfl (lf_cons rfl (lf_cons rfl lf_nil)))) ?_
  rintro _ _ ⟨rfl, rfl⟩
  refine F.nil (Nrm.seq (Tri.ret ?_))
  cases h
  exact Rtn.body (.cell rfl ta33 ti33 rfl (fun _ hw => box_cells (i := 2) rfl _ hw) .nil) (fun w hw => ⟨_, _, rfl, ⟨rfl, rfl⟩, Sep.pick (is := [0]) rfl rfl hw⟩)
 ·refine Tri.cond (b := t7_1 == 0) rfl (fun g_1 => ?_) (fun g_1 => ?_)
  ·replace hE_1 := if_tt g_1 hE_1
   refine Tri.reg (l := [0, 1, 2, 3, 4]) rfl ?_
   refine F.qn rfl rfl rfl rfl (r_fieldAddr tf33_2 rfl) ?_
   refine F.qn rfl rfl rfl rfl (r_load ta3 rfl (fun w hw => cell_1 (box_cells (i := 1) rfl w hw) rfl)) ?_
   refine F.qn rfl rfl rfl rfl (r_add rfl rfl) ?_
   refine F.qn rfl rfl rfl rfl (r_fieldAddr tf33_2 rfl) ?_
   refine F.ef0 rfl rfl (wanted_none rfl) (d_storeG1 (i := 1) (cs2 := [.int .i64 (w64 (t5_3 + 1))]) ti3 rfl rfl rfl rfl rfl (Nat.le_of_ble_eq_true rfl) (lf_cons rfl lf_nil)) ?_
   rintro _ _ ⟨rfl, rfl⟩
   refine F.nil ?_
   cases hE_1
   refine Nrm.only [2, 3] rfl ?_
   refine Nrm.pick [0, 1, 2] rfl rfl ?_
   exact hj_1 _ _ ⟨rfl, rfl⟩
  ·replace hE_1 := if_ff g_1 hE_1
   refine Tri.seq (Tri.reg (l := [0, 1]) rfl ?_)
   refine F.qn rfl rfl rfl rfl (r_eql rfl rfl) ?_
   refine F.qn rfl rfl rfl rfl (r_assign rfl) ?_
   refine F.nil (Nrm.seq ?_)
   obtain ⟨⟨ypa0_1, ypa0_2, yb3_1_0, yb3_1_1⟩, hE_2, hE_1⟩ := bind_some hE_1
   refine Tri.cut (fun e' C' => e' = [(2, .pointer (some ⟨b2_1, 0, none⟩)), (3, .pointer (some ⟨b3_1, 0, none⟩))] ∧ C' = Sep w (footM [R.box pa0 55 [va0_0, .int .i64 a0_1, .int .u64 a0_2]]) [R.box pa0 55 [va0_0, .int .i64 ypa0_1, .int .u64 ypa0_2], R.box b3_1 33 [.string yb3_1_0, .string yb3_1_1, .int .i64 t5_3], R.box b2_1 33 [.string ByteArray.empty, .string ByteArray.empty, .int .i64 0]]) ?_ (fun hj_2 => ?_)
   ·rintro _ _ ⟨rfl, rfl⟩
    cases hE_1
    refine Nrm.only [2, 3] rfl ?_
    refine Nrm.pick [0, 1, 2] rfl rfl ?_
    exact hj_1 _ _ ⟨rfl, rfl⟩
   ·refine Tri.cond (b := t7_1 == 1) rfl (fun g_2 => ?_) (fun g_2 => ?_)
    ·replace hE_2 := if_tt g_2 hE_2
     obtain ⟨⟨t19_1, t19_2, t19_3⟩, h19, hE_2⟩ := bind_some hE_2
     refine Tri.reg (l := [0, 1, 2, 3, 4, 5]) rfl ?_
     refine F.qn rfl rfl rfl rfl (r_move rfl) ?_
     refine F.qn rfl rfl rfl rfl (r_fieldAddr tf33_1 rfl) ?_
     refine F.qn rfl rfl rfl rfl (r_load ta9 rfl (fun w hw => cell_1 (box_cells (i := 1) rfl w hw) rfl)) ?_
     refine F.efn rfl rfl rfl rfl (d_callM (xs := _) (cs := [R.box pa0 55 [va0_0, .int .i64 t7_2, .int .u64 t7_3]]) (rest := [R.box b3_1 33 [.string t5_1, .string t5_2, .int .i64 t5_3], R.box b2_1 33 [.string ByteArray.empty, .string ByteArray.empty, .int .i64 0]]) [0] [1, 2] rfl ok48 rfl rfl rfl rfl (fun w hw => spec_l1Cur_spoilt.ok h19 w (hr_a0_0.down hw) (Sep.sub hw))) ?_
     rintro _ _ ⟨_, ⟨rfl, rfl⟩, rfl⟩
     refine F.qn rfl rfl rfl rfl (r_fieldAddr tf33_1 rfl) ?_
     refine F.ef0 rfl rfl (wanted_none rfl) (d_storeG1 (i := 1) (cs2 := [.string t19_1]) ti9 rfl rfl rfl rfl rfl (Nat.le_of_ble_eq_true rfl) (lf_cons rfl lf_nil)) ?_
     rintro _ _ ⟨rfl, rfl⟩
     refine F.nil ?_
     cases hE_2
     refine Nrm.only [2, 3] rfl ?_
     refine Nrm.pick [0, 1, 2] rfl rfl ?_
     exact hj_2 _ _ ⟨rfl, rfl⟩
    ·replace hE_2 := if_ff g_2 hE_2
     refine Tri.seq (Tri.reg (l := [0, 1]) rfl ?_)
     refine F.qn rfl rfl rfl rfl (r_eql rfl rfl) ?_
     refine F.qn rfl rfl rfl rfl (r_assign rfl) ?_
     refine F.nil (Nrm.seq ?_)
     obtain ⟨yb3_1_0, hE_3, hE_2⟩ := bind_some hE_2
     refine Tri.cut (fun e' C' => e' = [(2, .pointer (some ⟨b2_1, 0, none⟩)), (3, .pointer (some ⟨b3_1, 0, none⟩))] ∧ C' = Sep w (footM [R.box pa0 55 [va0_0, .int .i64 a0_1, .int .u64 a0_2]]) [R.box pa0 55 [va0_0, .int .i64 t7_2, .int .u64 t7_3], R.box b3_1 33 [.string yb3_1_0, .string t5_2, .int .i64 t5_3], R.box b2_1 33 [.string ByteArray.empty, .string ByteArray.empty, .int .i64 0]]) ?_ (fun hj_3 => ?_)
     ·rintro _ _ ⟨rfl, rfl⟩
      cases hE_2
      refine Nrm.only [2, 3] rfl ?_
      refine Nrm.pick [0, 1, 2] rfl rfl ?_
      exact hj_2 _ _ ⟨rfl, rfl⟩
     ·refine Tri.cond (b := t7_1 == 2) rfl (fun g_3 => ?_) (fun g_3 => ?_)
      ·replace hE_3 := if_tt g_3 hE_3
       obtain ⟨hs27, hE_3⟩ := ck hE_3
       refine Tri.reg (l := [0, 1, 2, 3, 4, 5, 6]) rfl ?_
       refine F.qn rfl rfl rfl rfl (r_fieldAddr tf33_0 rfl) ?_
       refine F.qn rfl rfl rfl rfl (r_load ta9 rfl (fun w hw => cell_1 (box_cells (i := 1) rfl w hw) rfl)) ?_
       refine F.qn rfl rfl rfl rfl (r_fieldAddr tf33_1 rfl) ?_
       refine F.qn rfl rfl rfl rfl (r_load ta9 rfl (fun w hw => cell_1 (box_cells (i := 1) rfl w hw) rfl)) ?_
       refine F.qn rfl rfl rfl rfl (r_addS rfl rfl hs27) ?_
       refine F.qn rfl rfl rfl rfl (r_fieldAddr tf33_0 rfl) ?_
       refine F.ef0 rfl rfl (wanted_none rfl) (d_storeG1 (i := 1) (cs2 := [.string (t5_1 ++ t5_2)]) ti9 rfl rfl rfl rfl rfl (Nat.le_of_ble_eq_true rfl) (lf_cons rfl lf_nil)) ?_
       rintro _ _ ⟨rfl, rfl⟩
       refine F.nil ?_
       cases hE_3
       refine Nrm.only [2, 3] rfl ?_
       refine Nrm.pick [0, 1, 2] rfl rfl ?_
       exact hj_3 _ _ ⟨rfl, rfl⟩
      ·replace hE_3 := if_ff g_3 hE_3
       refine Tri.skip ?_
       cases hE_3
       refine Nrm.only [2, 3] rfl ?_
       refine Nrm.pick [0, 1, 2] rfl rfl ?_
       exact hj_3 _ _ ⟨rfl, rfl⟩


def spec_DrawCrashLog.f (k : Nat) (a0 : List By) : Option (ByteArray × ByteArray × Int × Int × Bool) := (spec_l1Cur_anyLog.f k a0 0 0).bind fun (t12_1, t12_2, t12_3, t12_4, t12_5) => (spec_l1Cur_pick.f k a0 t12_4 t12_5 (w64 ((t12_2.size : Int) + 3))).bind fun (t18_1, t18_2, t18_3) => ((spec_l1Cur_one.f k a0 t18_2 t18_3 2).bind fun (t23_1, t23_2, t23_3) => some (w64 (t18_1 - 1), t23_1, t12_1, t12_2, t12_3)).bind fun (y3, y4, yb2_1_0, yb2_1_1, yb2_1_2) => some (yb2_1_0, yb2_1_1, yb2_1_2, y3, y4)

theorem spec_DrawCrashLog.ok {k : Nat}  {a0 : List By} {r0 : ByteArray} {r1 : ByteArray} {r2 : Int} {r3 : Int} {r4 : Bool} (h : spec_DrawCrashLog.f k a0 = some (r0, r1, r2, r3, r4)) (w : World) {va0 : Value} (hr_a0 : Rd w va0 a0) :
  Calls Tryd.prog 24 ([va0] : List Value).toArray w (fun e w' => e = .returned (.tuple #[.agg [.string r0, .string r1, .int .i64 r2].toArray, .int .i64 r3, .bool r4]) ∧ Ext w w') := by
 unfold spec_DrawCrashLog.f at h
 have hl_va0 := hr_a0.len
 refine Calls.of_tri (N := 24) Tryd.func24 rfl rfl rfl (Sep.nil (M := noM)) ?_
 refine Tri.seq (Tri.reg (l := [0, 1, 2]) rfl ?_)
 refine F.mn rfl rfl rfl rfl (m_alloc ti33) ?_
 rintro _ _ ⟨b2_1, rfl, rfl⟩
 refine F.qn rfl rfl rfl rfl (r_assign rfl) ?_
 refine F.qn rfl rfl rfl rfl (r_assign rfl) ?_
 refine F.nil (Nrm.seq (Tri.seq (Tri.reg (l := [0, 1, 2, 3]) rfl ?_)))
 refine F.qn rfl rfl rfl rfl (r_move rfl) ?_
 refine F.qn rfl rfl rfl rfl (r_build (pl := [(0, 1), (1, 1), (2, 1)]) (qs := [(0, [va0])]) (cs := [va0, .int .i64 0, .int .u64 0]) (by kernel_rfl) ti55 rfl (.cons (sl_cells hl_va0) rfl (Nat.le_of_ble_eq_true rfl) .nil) rfl rfl) ?_
 refine F.mn rfl rfl rfl rfl (m_boxG rfl rfl) ?_
 rintro _ _ ⟨b10_1, rfl, rfl⟩
 refine F.qn rfl rfl rfl rfl (r_assign rfl) ?_
 refine F.nil (Nrm.seq (Tri.seq ?_))
 obtain ⟨⟨t12_1, t12_2, t12_3, t12_4, t12_5⟩, h12, h⟩ := bind_some h
 refine Tri.reg (l := [0, 1, 2, 3]) rfl ?_
 refine F.qn rfl rfl rfl rfl (r_move rfl) ?_
 refine F.efn rfl rfl rfl rfl (d_callM (xs := _) (cs := [R.box b10_1 55 [va0, .int .i64 0, .int .u64 0]]) (rest := [R.box b2_1 33 [.string ByteArray.empty, .string ByteArray.empty, .int .i64 0]]) [0] [1] rfl ok38 rfl rfl rfl rfl (fun w hw => spec_l1Cur_anyLog.ok h12 w (hr_a0.down hw) (Sep.sub hw))) ?_
 rintro _ _ ⟨_, ⟨rfl, rfl⟩, rfl⟩
 refine F.mn rfl rfl rfl rfl (m_alloc ti33) ?_
 rintro _ _ ⟨b6_1, rfl, rfl⟩
 refine F.ef0 rfl rfl (wanted_none rfl) (d_storeG0 (i := 0) (cs2 := [.string t12_1, .string t12_2, .int .i64 t12_3]) ti33 rfl rfl rfl rfl rfl (Nat.le_of_ble_eq_true rfl) (lf_cons rfl (lf_cons rfl (lf_cons rfl lf_nil)))) ?_
 rintro _ _ ⟨rfl, rfl⟩
 refine F.nil (Nrm.seq (Tri.seq ?_))
 obtain ⟨⟨t18_1, t18_2, t18_3⟩, h18, h⟩ := bind_some h
 refine Tri.reg (l := [0, 1, 2, 3, 4, 5, 6, 7]) rfl ?_
 refine F.qn rfl rfl rfl rfl (r_move rfl) ?_
 refine F.qn rfl rfl rfl rfl (r_fieldAddr tf33_1 rfl) ?_
 refine F.qn rfl rfl rfl rfl (r_load ta9 rfl (fun w hw => cell_1 (box_cells (i := 0) rfl w hw) rfl)) ?_
 refine F.qn rfl rfl rfl rfl (r_lenS Tryd.underlying9 rfl) ?_
 refine F.qn rfl rfl rfl rfl (r_add rfl rfl) ?_
 refine F.efn rfl rfl rfl rfl (d_callM (xs := _) (cs := [R.box b10_1 55 [va0, .int .i64 t12_4, .int .u64 t12_5]]) (rest := [R.box b6_1 33 [.string t12_1, .string t12_2, .int .i64 t12_3], R.box b2_1 33 [.string ByteArray.empty, .string ByteArray.empty, .int .i64 0]]) [1] [0, 2] rfl ok40 rfl rfl rfl rfl (fun w hw => spec_l1Cur_pick.ok h18 w (hr_a0.down hw) (Sep.sub hw))) ?_
 rintro _ _ ⟨_, ⟨rfl, rfl⟩, rfl⟩
 refine F.qn rfl rfl rfl rfl (r_sub rfl rfl) ?_
 refine F.qn rfl rfl rfl rfl (r_assign rfl) ?_
 refine F.nil (Nrm.seq (Tri.seq ?_))
 obtain ⟨⟨y3, y4, yb2_1_0, yb2_1_1, yb2_1_2⟩, hE_1, h⟩ := bind_some h
 refine Tri.cut (fun e' C' => e' = [(2, .pointer (some ⟨b2_1, 0, none⟩)), (3, .int .i64 y3), (4, .bool y4)] ∧ C' = Sep w noM [R.box b2_1 33 [.string yb2_1_0, .string yb2_1_1, .int .i64 yb2_1_2]]) ?_ (fun hj_1 => ?_)
 ·rintro _ _ ⟨rfl, rfl⟩
  refine Nrm.seq (Tri.ret ?_)
  cases h
  exact Rtn.body (.cell rfl ta33 ti33 rfl (fun _ hw => box_cells (i := 0) rfl _ hw) (.tmp rfl (.tmp rfl .nil))) (fun w hw => ⟨rfl, hw.ext⟩)
 ·obtain ⟨⟨t23_1, t23_2, t23_3⟩, h23, hE_1⟩ := bind_some hE_1
  refine Tri.drawTZ mixedT Sep.up [1, 2, 0, 3, 4] [5, 6] (.q 1 (.q 2 (.alt 0 (.alt 3 (.alt 4 .nil .stop) .stop) (.alt 3 (.alt 0 (.alt 4 .nil .stop) .stop) .stop)))) (by kernel_rfl) ?_
  refine TZ.q rfl rfl rfl (wanted_none rfl) (r_move rfl) ?_
  refine TZ.q rfl rfl rfl (wanted_none rfl) (r_move rfl) ?_
  refine T.ef rfl rfl rfl (wanted_none rfl) (Runs.does (r_loadA ta33 ti33 rfl rfl (fun w hw => (box_cells (i := 1) rfl w hw)))) (by rintro _ _ ⟨rfl, rfl⟩; exact ⟨Sep.up, fun _ _ => trivial⟩) ?_ ?_
  ·rintro _ _ ⟨rfl, rfl⟩
   refine T.ef rfl rfl rfl (wanted_none rfl) (d_callM (xs := _) (cs := [R.box b10_1 55 [va0, .int .i64 t18_2, .int .u64 t18_3]]) (rest := [R.box b6_1 33 [.string t12_1, .string t12_2, .int .i64 t12_3], R.box b2_1 33 [.string ByteArray.empty, .string ByteArray.empty, .int .i64 0]]) [0] [1, 2] rfl ok39 rfl rfl rfl rfl (fun w hw => spec_l1Cur_one.ok h23 w (hr_a0.down hw) (Sep.sub hw))) (by rintro _ _ ⟨_, ⟨rfl, rfl⟩, rfl⟩; exact ⟨Sep.up, fun _ _ => trivial⟩) ?_ ?_
   ·rintro _ _ ⟨_, ⟨rfl, rfl⟩, rfl⟩
    refine T.ef0 rfl rfl (wanted_none rfl) (d_storeG0 (i := 2) (cs2 := [.string t12_1, .string t12_2, .int .i64 t12_3]) ti33 rfl rfl rfl rfl rfl (Nat.le_of_ble_eq_true rfl) (lf_cons rfl (lf_cons rfl (lf_cons rfl lf_nil)))) (by rintro _ _ ⟨rfl, rfl⟩; exact ⟨Sep.up, fun _ _ => trivial⟩) ?_ ?_
    ·rintro _ _ ⟨rfl, rfl⟩
     refine T.nil ?_
     refine F.qn rfl rfl rfl rfl (r_assign rfl) ?_
     refine F.qn rfl rfl rfl rfl (r_assign rfl) ?_
     refine F.nil ?_
     cases hE_1
     refine Nrm.only [2, 3, 4] rfl ?_
     refine Nrm.pick [2] rfl rfl ?_
     exact hj_1 _ _ ⟨rfl, rfl⟩
    exact T.stop
   exact T.stop
  ·refine T.ef rfl rfl rfl (wanted_none rfl) (d_callM (xs := _) (cs := [R.box b10_1 55 [va0, .int .i64 t18_2, .int .u64 t18_3]]) (rest := [R.box b6_1 33 [.string t12_1, .string t12_2, .int .i64 t12_3], R.box b2_1 33 [.string ByteArray.empty, .string ByteArray.empty, .int .i64 0]]) [0] [1, 2] rfl ok39 rfl rfl rfl rfl (fun w hw => spec_l1Cur_one.ok h23 w (hr_a0.down hw) (Sep.sub hw))) (by rintro _ _ ⟨_, ⟨rfl, rfl⟩, rfl⟩; exact ⟨Sep.up, fun _ _ => trivial⟩) ?_ ?_
   ·rintro _ _ ⟨_, ⟨rfl, rfl⟩, rfl⟩
    refine T.ef rfl rfl rfl (wanted_none rfl) (Runs.does (r_loadA ta33 ti33 rfl rfl (fun w hw => (box_cells (i := 1) rfl w hw)))) (by rintro _ _ ⟨rfl, rfl⟩; exact ⟨Sep.up, fun _ _ => trivial⟩) ?_ ?_
    ·rintro _ _ ⟨rfl, rfl⟩
     refine T.ef0 rfl rfl (wanted_none rfl) (d_storeG0 (i := 2) (cs2 := [.string t12_1, .string t12_2, .int .i64 t12_3]) ti33 rfl rfl rfl rfl rfl (Nat.le_of_ble_eq_true rfl) (lf_cons rfl (lf_cons rfl (lf_cons rfl lf_nil)))) (by rintro _ _ ⟨rfl, rfl⟩; exact ⟨Sep.up, fun _ _ => trivial⟩) ?_ ?_
     ·rintro _ _ ⟨rfl, rfl⟩
      refine T.nil ?_
      refine F.qn rfl rfl rfl rfl (r_assign rfl) ?_
      refine F.qn rfl rfl rfl rfl (r_assign rfl) ?_
      refine F.nil ?_
      cases hE_1
      refine Nrm.only [2, 3, 4] rfl ?_
      refine Nrm.pick [2] rfl rfl ?_
      exact hj_1 _ _ ⟨rfl, rfl⟩
     exact T.stop
    exact T.stop
   exact T.stop


def impl_CrashLog.f (k : Nat) (a0_0 : ByteArray) (a0_1 : ByteArray) (a0_2 : Int) (a1 : Int) (a2 : Bool) : Option (ByteArray × Bool) := ((impl_IsValidLog.f k a0_0 a0_1 a0_2).bind fun t10 => (if (!t10) = true then some true else (impl_within.f k a1 0 (a0_1.size : Int)).bind fun t17 => some (!t17))).bind fun y19 => (if y19 = true then some (ByteArray.empty, false) else (scut a0_1 0 a1).bind fun t25 => if (a0_0 ++ t25).size < 4611686018427387904 then (if a2 = true then (if (decide (a1 > 0)) = true then (rdl ((a0_0 ++ t25).data.toList) (w64 ((((a0_0 ++ t25).data.toList).length : Int) - 1))).bind fun t41 => (rdl ((a0_0 ++ t25).data.toList) (w64 ((((a0_0 ++ t25).data.toList).length : Int) - 1))).bind fun t44 => some ((⟨(((a0_0 ++ t25).data.toList).set (w64 ((((a0_0 ++ t25).data.toList).length : Int) - 1)).toNat (UInt8.ofNat (IntKind.u8.wrap (255 - (t41.toNat : Int))).toNat)).toArray⟩ : ByteArray), true) else some ((⟨((a0_0 ++ t25).data.toList).toArray⟩ : ByteArray), true)) else some ((⟨((a0_0 ++ t25).data.toList).toArray⟩ : ByteArray), true)) else none)

theorem impl_CrashLog.ok {k : Nat}  {a0_0 : ByteArray} {a0_1 : ByteArray} {a0_2 : Int} {a1 : Int} {a2 : Bool} {r0 : ByteArray} {r1 : Bool} (h : impl_CrashLog.f k a0_0 a0_1 a0_2 a1 a2 = some (r0, r1)) (w : World) (ht : Lib.TabIs Tryd.prog w "internal/strconv.uint64pow10" .u64 Lib.pow10Tab) :
  Calls Tryd.prog 25 ([.agg ([.string a0_0, .string a0_1, .int .i64 a0_2].toArray), .int .i64 a1, .bool a2] : List Value).toArray w (fun e w' => e = .returned (.tuple #[.string r0, .bool r1]) ∧ Ext w w') := by
 unfold impl_CrashLog.f at h
 refine Calls.of_tri (N := 47) Tryd.func25 rfl rfl rfl (Sep.nil (M := noM)) ?_
 refine Tri.seq (Tri.reg (l := [0, 1, 2]) rfl ?_)
 refine F.mn rfl rfl rfl rfl (m_boxG rfl rfl) ?_
 rintro _ _ ⟨b3_1, rfl, rfl⟩
 refine F.qn rfl rfl rfl rfl (r_assign rfl) ?_
 refine F.qn rfl rfl rfl rfl (r_assign rfl) ?_
 refine F.nil (Nrm.seq (Tri.seq (Tri.seq ?_)))
 obtain ⟨y19, hE_1, h⟩ := bind_some h
 refine Tri.cut (fun e' C' => e' = [(1, .int .i64 a1), (2, .bool a2), (3, .pointer (some ⟨b3_1, 0, none⟩)), (19, .bool y19)] ∧ C' = Sep w noM [R.box b3_1 33 [.string a0_0, .string a0_1, .int .i64 a0_2]]) ?_ (fun hj_1 => ?_)
 ·rintro _ _ ⟨rfl, rfl⟩
  refine Nrm.seq (Tri.cond (b := y19) rfl (fun g_1 => ?_) (fun g_1 => ?_))
  ·replace h := if_tt g_1 h
   refine Tri.seq (Tri.reg (l := [0, 1]) rfl ?_)
   refine F.qn rfl rfl rfl rfl (r_assign rfl) ?_
   refine F.qn rfl rfl rfl rfl (r_assign rfl) ?_
   refine F.nil (Nrm.seq (Tri.ret ?_))
   refine Rtn.then ?_
   cases h
   exact Rtn.body (.tmp rfl (.tmp rfl .nil)) (fun w hw => ⟨rfl, hw.ext⟩)
  ·replace h := if_ff g_1 h
   refine Tri.skip (Nrm.seq (Tri.seq ?_))
   obtain ⟨t25, h25, h⟩ := bind_some h
   obtain ⟨hs26, h⟩ := ck h
   refine Tri.drawA mixedT Sep.up [(0, true), (1, true), (2, true), (3, true), (4, true), (5, true), (6, true), (7, false), (8, true)] [] (by kernel_rfl) ?_
   refine S.qn rfl rfl rfl rfl (r_fieldAddr tf33_0 rfl) ?_
   refine S.qn rfl rfl rfl rfl (r_load ta9 rfl (fun w hw => cell_1 (box_cells (i := 0) rfl w hw) rfl)) ?_
   refine S.qn rfl rfl rfl rfl (r_fieldAddr tf33_1 rfl) ?_
   refine S.qn rfl rfl rfl rfl (r_load ta9 rfl (fun w hw => cell_1 (box_cells (i := 0) rfl w hw) rfl)) ?_
   refine S.qn rfl rfl rfl rfl (r_move rfl) ?_
   refine S.qn rfl rfl rfl rfl (r_scutH Tryd.underlying9 rfl rfl h25) ?_
   refine S.qn rfl rfl rfl rfl (r_addS rfl rfl hs26) ?_
   refine S.m rfl rfl rfl (wanted_none rfl) (m_strBytes (s := (a0_0 ++ t25)) Tryd.underlying9 Tryd.underlying22 Tryd.underlying5 rfl) ?_
   rintro _ _ ⟨b27_2, c27_2, rfl, rfl⟩
   refine S.qn rfl rfl rfl rfl (r_assign rfl) ?_
   refine S.nil (F.nil (Nrm.seq (Tri.seq (Tri.seq ?_))))
   rcases Bool.eq_false_or_eq_true (a2) with g29 | g29
   ·replace h := if_tt g29 h
    refine Tri.reg (l := [0, 1, 2, 3, 4]) rfl ?_
    refine F.qn rfl rfl rfl rfl (r_move rfl) ?_
    refine F.qn rfl rfl rfl rfl (r_move rfl) ?_
    refine F.qg rfl rfl rfl rfl rfl rfl g29 (r_move rfl) ?_
    refine F.qg rfl rfl rfl rfl rfl rfl g29 (r_gtr rfl rfl) ?_
    refine F.qn rfl rfl rfl rfl (r_pick rfl rfl g29) ?_
    refine F.nil (Nrm.seq (Tri.cond (b := decide (a1 > 0)) rfl (fun g_2 => ?_) (fun g_2 => ?_)))
    ·replace h := if_tt g_2 h
     obtain ⟨t41, h41, h⟩ := bind_some h
     obtain ⟨t44, h44, h⟩ := bind_some h
     refine Tri.reg (l := List.range 13) rfl ?_
     refine F.qn rfl rfl rfl rfl (r_move rfl) ?_
     refine F.qn rfl rfl rfl rfl (r_move rfl) ?_
     refine F.qn rfl rfl rfl rfl (r_len Tryd.underlying22 rfl byt_len) ?_
     refine F.qn rfl rfl rfl rfl (r_sub rfl rfl) ?_
     refine F.qn rfl rfl rfl rfl (r_move rfl) ?_
     refine F.qn rfl rfl rfl rfl (r_move rfl) ?_
     refine F.qn rfl rfl rfl rfl (r_len Tryd.underlying22 rfl byt_len) ?_
     refine F.qn rfl rfl rfl rfl (r_sub rfl rfl) ?_
     refine F.qn rfl rfl rfl rfl (r_indexAddrS Tryd.underlying22 ti5 rfl byt_len rfl (rdl_some h41).1 (rdl_some h41).2.1) ?_
     refine F.qn rfl rfl rfl rfl (r_load ta5 rfl (fun w hw => byt_cell (i := 0) rfl h41 hw)) ?_
     refine F.qn rfl rfl rfl rfl (r_subB rfl rfl) ?_
     refine F.qn rfl rfl rfl rfl (r_indexAddrS Tryd.underlying22 ti5 rfl byt_len rfl (rdl_some h44).1 (rdl_some h44).2.1) ?_
     refine F.ef0 rfl rfl (wanted_none rfl) (d_storeByt (i := 0) (m := (IntKind.u8.wrap (255 - (t41.toNat : Int)))) ti5 rfl rfl rfl h44 (wrapB _)) ?_
     rintro _ _ ⟨rfl, rfl⟩
     refine F.nil (Nrm.seq (Tri.seq (Tri.reg (l := [0, 1, 2, 3]) rfl ?_)))
     refine F.qn rfl rfl rfl rfl (r_move rfl) ?_
     refine F.qn rfl rfl rfl rfl (r_bytsStr (i := 0) (l := (((a0_0 ++ t25).data.toList).set (w64 ((((a0_0 ++ t25).data.toList).length : Int) - 1)).toNat (UInt8.ofNat (IntKind.u8.wrap (255 - (t41.toNat : Int))).toNat))) Tryd.underlying22 Tryd.underlying5 Tryd.underlying9 rfl rfl (by simp)) ?_
     refine F.qn rfl rfl rfl rfl (r_assign rfl) ?_
     refine F.qn rfl rfl rfl rfl (r_assign rfl) ?_
     refine F.nil (Nrm.seq (Tri.ret ?_))
     cases h
     exact Rtn.body (.tmp rfl (.tmp rfl .nil)) (fun w hw => ⟨rfl, hw.ext⟩)
    ·replace h := if_ff g_2 h
     refine Tri.skip (Nrm.seq (Tri.seq (Tri.reg (l := [0, 1, 2, 3]) rfl ?_)))
     refine F.qn rfl rfl rfl rfl (r_move rfl) ?_
     refine F.qn rfl rfl rfl rfl (r_bytsStr (i := 0) (l := ((a0_0 ++ t25).data.toList)) Tryd.underlying22 Tryd.underlying5 Tryd.underlying9 rfl rfl (by simp)) ?_
     refine F.qn rfl rfl rfl rfl (r_assign rfl) ?_
     refine F.qn rfl rfl rfl rfl (r_assign rfl) ?_
     refine F.nil (Nrm.seq (Tri.ret ?_))
     cases h
     exact Rtn.body (.tmp rfl (.tmp rfl .nil)) (fun w hw => ⟨rfl, hw.ext⟩)
   ·replace h := if_ff g29 h
    refine Tri.reg (l := [0, 1, 2, 3, 4]) rfl ?_
    refine F.qn rfl rfl rfl rfl (r_move rfl) ?_
    refine F.qn rfl rfl rfl rfl (r_move rfl) ?_
    refine F.sk rfl rfl rfl (wf rfl rfl rfl g29) ?_
    refine F.sk rfl rfl rfl (wf rfl rfl rfl g29) ?_
    refine F.qn rfl rfl rfl rfl (r_pickf rfl rfl g29) ?_
    refine F.nil (Nrm.seq (Tri.condF rfl rfl ?_))
    refine Tri.skip (Nrm.seq (Tri.seq (Tri.reg (l := [0, 1, 2, 3]) rfl ?_)))
    refine F.qn rfl rfl rfl rfl (r_move rfl) ?_
    refine F.qn rfl rfl rfl rfl (r_bytsStr (i := 0) (l := ((a0_0 ++ t25).data.toList)) Tryd.underlying22 Tryd.underlying5 Tryd.underlying9 rfl rfl (by simp)) ?_
    refine F.qn rfl rfl rfl rfl (r_assign rfl) ?_
    refine F.qn rfl rfl rfl rfl (r_assign rfl) ?_
    refine F.nil (Nrm.seq (Tri.ret ?_))
    cases h
    exact Rtn.body (.tmp rfl (.tmp rfl .nil)) (fun w hw => ⟨rfl, hw.ext⟩)
 ·obtain ⟨t10, h10, hE_1⟩ := bind_some hE_1
  rcases Bool.eq_false_or_eq_true (!t10) with g12 | g12
  ·replace hE_1 := if_tt g12 hE_1
   refine Tri.reg (l := [0, 1, 2, 3, 4, 5, 6, 7, 8, 9, 10]) rfl ?_
   refine F.qn rfl rfl rfl rfl (r_loadA ta33 ti33 rfl rfl (fun w hw => (box_cells (i := 0) rfl w hw))) ?_
   refine F.qcn rfl rfl rfl rfl (q_callF (xs := _) rfl ok17 rfl rfl (fun w hw => impl_IsValidLog.ok h10 w (Tab.sep ht hw))) ?_
   refine F.qn rfl rfl rfl rfl (r_not rfl) ?_
   refine F.qn rfl rfl rfl rfl (r_move rfl) ?_
   iterate 6 refine F.sk rfl rfl rfl (wf rfl rfl rfl g12) ?_
   refine F.qn rfl rfl rfl rfl (r_pick rfl rfl g12) ?_
   refine F.nil ?_
   cases hE_1
   refine Nrm.only [1, 2, 3, 19] rfl ?_
   refine Nrm.pick [0] rfl rfl ?_
   exact hj_1 _ _ ⟨rfl, rfl⟩
  ·replace hE_1 := if_ff g12 hE_1
   obtain ⟨t17, h17, hE_1⟩ := bind_some hE_1
   refine Tri.reg (l := [0, 1, 2, 3, 4, 5, 6, 7, 8, 9, 10]) rfl ?_
   refine F.qn rfl rfl rfl rfl (r_loadA ta33 ti33 rfl rfl (fun w hw => (box_cells (i := 0) rfl w hw))) ?_
   refine F.qcn rfl rfl rfl rfl (q_callF (xs := _) rfl ok17 rfl rfl (fun w hw => impl_IsValidLog.ok h10 w (Tab.sep ht hw))) ?_
   refine F.qn rfl rfl rfl rfl (r_not rfl) ?_
   refine F.qn rfl rfl rfl rfl (r_move rfl) ?_
   refine F.qg rfl rfl rfl rfl rfl rfl g12 (r_move rfl) ?_
   refine F.qg rfl rfl rfl rfl rfl rfl g12 (r_fieldAddr tf33_1 rfl) ?_
   refine F.qg rfl rfl rfl rfl rfl rfl g12 (r_load ta9 rfl (fun w hw => cell_1 (box_cells (i := 0) rfl w hw) rfl)) ?_
   refine F.qg rfl rfl rfl rfl rfl rfl g12 (r_lenS Tryd.underlying9 rfl) ?_
   refine F.qc rfl rfl rfl (wg rfl rfl rfl g12) (q_callF (xs := _) rfl ok32 rfl rfl (fun w hw => impl_within.ok h17 w )) ?_
   refine F.qg rfl rfl rfl rfl rfl rfl g12 (r_not rfl) ?_
   refine F.qn rfl rfl rfl rfl (r_pickf rfl rfl g12) ?_
   refine F.nil ?_
   cases hE_1
   refine Nrm.only [1, 2, 3, 19] rfl ?_
   refine Nrm.pick [0] rfl rfl ?_
   exact hj_1 _ _ ⟨rfl, rfl⟩


def spec_CrashLog.f (k : Nat) (a0_0 : ByteArray) (a0_1 : ByteArray) (a0_2 : Int) (a1 : Int) (a2 : Bool) : Option (ByteArray × Bool) := ((spec_l12Valid.f k a0_0 a0_1 a0_2).bind fun t10 => (if (!t10) = true then some true else (spec_l1In.f k a1 0 (a0_1.size : Int)).bind fun t17 => some (!t17))).bind fun y19 => (if y19 = true then some (ByteArray.empty, false) else (scut a0_1 0 a1).bind fun t23 => (if a2 = true then (if (decide (a1 > 0)) = true then (rdl t23.data.toList (w64 (a1 - 1))).bind fun t36 => (rdl t23.data.toList (w64 (a1 - 1))).bind fun t39 => if (a0_0 ++ (⟨(t23.data.toList.set (w64 (a1 - 1)).toNat (UInt8.ofNat (IntKind.u8.wrap (255 - (t36.toNat : Int))).toNat)).toArray⟩ : ByteArray)).size < 4611686018427387904 then some (a0_0 ++ (⟨(t23.data.toList.set (w64 (a1 - 1)).toNat (UInt8.ofNat (IntKind.u8.wrap (255 - (t36.toNat : Int))).toNat)).toArray⟩ : ByteArray), true) else none else if (a0_0 ++ (⟨(t23.data.toList).toArray⟩ : ByteArray)).size < 4611686018427387904 then some (a0_0 ++ (⟨(t23.data.toList).toArray⟩ : ByteArray), true) else none) else if (a0_0 ++ (⟨(t23.data.toList).toArray⟩ : ByteArray)).size < 4611686018427387904 then some (a0_0 ++ (⟨(t23.data.toList).toArray⟩ : ByteArray), true) else none))

theorem spec_CrashLog.ok {k : Nat}  {a0_0 : ByteArray} {a0_1 : ByteArray} {a0_2 : Int} {a1 : Int} {a2 : Bool} {r0 : ByteArray} {r1 : Bool} (h : spec_CrashLog.f k a0_0 a0_1 a0_2 a1 a2 = some (r0, r1)) (w : World) :
  Calls Tryd.prog 26 ([.agg ([.string a0_0, .string a0_1, .int .i64 a0_2].toArray), .int .i64 a1, .bool a2] : List Value).toArray w (fun e w' => e = .returned (.tuple #[.string r0, .bool r1]) ∧ Ext w w') := by
 unfold spec_CrashLog.f at h
 refine Calls.of_tri (N := 45) Tryd.func26 rfl rfl rfl (Sep.nil (M := noM)) ?_
 refine Tri.seq (Tri.reg (l := [0, 1, 2]) rfl ?_)
 refine F.mn rfl rfl rfl rfl (m_boxG rfl rfl) ?_
 rintro _ _ ⟨b3_1, rfl, rfl⟩
 refine F.qn rfl rfl rfl rfl (r_assign rfl) ?_
 refine F.qn rfl rfl rfl rfl (r_assign rfl) ?_
 refine F.nil (Nrm.seq (Tri.seq (Tri.seq ?_)))
 obtain ⟨y19, hE_1, h⟩ := bind_some h
 refine Tri.cut (fun e' C' => e' = [(1, .int .i64 a1), (2, .bool a2), (3, .pointer (some ⟨b3_1, 0, none⟩)), (19, .bool y19)] ∧ C' = Sep w noM [R.box b3_1 33 [.string a0_0, .string a0_1, .int .i64 a0_2]]) ?_ (fun hj_1 => ?_)
 ·rintro _ _ ⟨rfl, rfl⟩
  refine Nrm.seq (Tri.cond (b := y19) rfl (fun g_1 => ?_) (fun g_1 => ?_))
  ·replace h := if_tt g_1 h
   refine Tri.seq (Tri.reg (l := [0, 1]) rfl ?_)
   refine F.qn rfl rfl rfl rfl (r_assign rfl) ?_
   refine F.qn rfl rfl rfl rfl (r_assign rfl) ?_
   refine F.nil (Nrm.seq (Tri.ret ?_))
   refine Rtn.then ?_
   cases h
   exact Rtn.body (.tmp rfl (.tmp rfl .nil)) (fun w hw => ⟨rfl, hw.ext⟩)
  ·replace h := if_ff g_1 h
   refine Tri.skip (Nrm.seq (Tri.seq ?_))
   obtain ⟨t23, h23, h⟩ := bind_some h
   refine Tri.reg (l := [0, 1, 2, 3, 4, 5]) rfl ?_
   refine F.qn rfl rfl rfl rfl (r_fieldAddr tf33_1 rfl) ?_
   refine F.qn rfl rfl rfl rfl (r_load ta9 rfl (fun w hw => cell_1 (box_cells (i := 0) rfl w hw) rfl)) ?_
   refine F.qn rfl rfl rfl rfl (r_move rfl) ?_
   refine F.qn rfl rfl rfl rfl (r_scutH Tryd.underlying9 rfl rfl h23) ?_
   refine F.mn rfl rfl rfl rfl (m_strBytes (s := t23) Tryd.underlying9 Tryd.underlying22 Tryd.underlying5 rfl) ?_
   rintro _ _ ⟨b24_1, c24_1, rfl, rfl⟩
   refine F.qn rfl rfl rfl rfl (r_assign rfl) ?_
   refine F.nil (Nrm.seq (Tri.seq (Tri.seq ?_)))
   rcases Bool.eq_false_or_eq_true (a2) with g26 | g26
   ·replace h := if_tt g26 h
    refine Tri.reg (l := [0, 1, 2, 3, 4]) rfl ?_
    refine F.qn rfl rfl rfl rfl (r_move rfl) ?_
    refine F.qn rfl rfl rfl rfl (r_move rfl) ?_
    refine F.qg rfl rfl rfl rfl rfl rfl g26 (r_move rfl) ?_
    refine F.qg rfl rfl rfl rfl rfl rfl g26 (r_gtr rfl rfl) ?_
    refine F.qn rfl rfl rfl rfl (r_pick rfl rfl g26) ?_
    refine F.nil (Nrm.seq (Tri.cond (b := decide (a1 > 0)) rfl (fun g_2 => ?_) (fun g_2 => ?_)))
    ·replace h := if_tt g_2 h
     obtain ⟨t36, h36, h⟩ := bind_some h
     obtain ⟨t39, h39, h⟩ := bind_some h
     refine Tri.reg (l := [0, 1, 2, 3, 4, 5, 6, 7, 8, 9, 10]) rfl ?_
     refine F.qn rfl rfl rfl rfl (r_move rfl) ?_
     refine F.qn rfl rfl rfl rfl (r_move rfl) ?_
     refine F.qn rfl rfl rfl rfl (r_sub rfl rfl) ?_
     refine F.qn rfl rfl rfl rfl (r_move rfl) ?_
     refine F.qn rfl rfl rfl rfl (r_move rfl) ?_
     refine F.qn rfl rfl rfl rfl (r_sub rfl rfl) ?_
     refine F.qn rfl rfl rfl rfl (r_indexAddrS Tryd.underlying22 ti5 rfl byt_len rfl (rdl_some h36).1 (rdl_some h36).2.1) ?_
     refine F.qn rfl rfl rfl rfl (r_load ta5 rfl (fun w hw => byt_cell (i := 0) rfl h36 hw)) ?_
     refine F.qn rfl rfl rfl rfl (r_subB rfl rfl) ?_
     refine F.qn rfl rfl rfl rfl (r_indexAddrS Tryd.underlying22 ti5 rfl byt_len rfl (rdl_some h39).1 (rdl_some h39).2.1) ?_
     refine F.ef0 rfl rfl (wanted_none rfl) (d_storeByt (i := 0) (m := (IntKind.u8.wrap (255 - (t36.toNat : Int)))) ti5 rfl rfl rfl h39 (wrapB _)) ?_
     rintro _ _ ⟨rfl, rfl⟩
     refine F.nil (Nrm.seq (Tri.seq ?_))
     obtain ⟨hs44, h⟩ := ck h
     refine Tri.reg (l := [0, 1, 2, 3, 4, 5, 6]) rfl ?_
     refine F.qn rfl rfl rfl rfl (r_fieldAddr tf33_0 rfl) ?_
     refine F.qn rfl rfl rfl rfl (r_load ta9 rfl (fun w hw => cell_1 (box_cells (i := 1) rfl w hw) rfl)) ?_
     refine F.qn rfl rfl rfl rfl (r_move rfl) ?_
     refine F.qn rfl rfl rfl rfl (r_bytsStr (i := 0) (l := (t23.data.toList.set (w64 (a1 - 1)).toNat (UInt8.ofNat (IntKind.u8.wrap (255 - (t36.toNat : Int))).toNat))) Tryd.underlying22 Tryd.underlying5 Tryd.underlying9 rfl rfl (by simp)) ?_
     refine F.qn rfl rfl rfl rfl (r_addS rfl rfl hs44) ?_
     refine F.qn rfl rfl rfl rfl (r_assign rfl) ?_
     refine F.qn rfl rfl rfl rfl (r_assign rfl) ?_
     refine F.nil (Nrm.seq (Tri.ret ?_))
     cases h
     exact Rtn.body (.tmp rfl (.tmp rfl .nil)) (fun w hw => ⟨rfl, hw.ext⟩)
    ·replace h := if_ff g_2 h
     refine Tri.skip (Nrm.seq (Tri.seq ?_))
     obtain ⟨hs44, h⟩ := ck h
     refine Tri.reg (l := [0, 1, 2, 3, 4, 5, 6]) rfl ?_
     refine F.qn rfl rfl rfl rfl (r_fieldAddr tf33_0 rfl) ?_
     refine F.qn rfl rfl rfl rfl (r_load ta9 rfl (fun w hw => cell_1 (box_cells (i := 1) rfl w hw) rfl)) ?_
     refine F.qn rfl rfl rfl rfl (r_move rfl) ?_
     refine F.qn rfl rfl rfl rfl (r_bytsStr (i := 0) (l := t23.data.toList) Tryd.underlying22 Tryd.underlying5 Tryd.underlying9 rfl rfl (by simp)) ?_
     refine F.qn rfl rfl rfl rfl (r_addS rfl rfl hs44) ?_
     refine F.qn rfl rfl rfl rfl (r_assign rfl) ?_
     refine F.qn rfl rfl rfl rfl (r_assign rfl) ?_
     refine F.nil (Nrm.seq (Tri.ret ?_))
     cases h
     exact Rtn.body (.tmp rfl (.tmp rfl .nil)) (fun w hw => ⟨rfl, hw.ext⟩)
   ·replace h := if_ff g26 h
    refine Tri.reg (l := [0, 1, 2, 3, 4]) rfl ?_
    refine F.qn rfl rfl rfl rfl (r_move rfl) ?_
    refine F.qn rfl rfl rfl rfl (r_move rfl) ?_
    refine F.sk rfl rfl rfl (wf rfl rfl rfl g26) ?_
    refine F.sk rfl rfl rfl (wf rfl rfl rfl g26) ?_
    refine F.qn rfl rfl rfl rfl (r_pickf rfl rfl g26) ?_
    refine F.nil (Nrm.seq (Tri.condF rfl rfl ?_))
    refine Tri.skip (Nrm.seq (Tri.seq ?_))
    obtain ⟨hs44, h⟩ := ck h
    refine Tri.reg (l := [0, 1, 2, 3, 4, 5, 6]) rfl ?_
    refine F.qn rfl rfl rfl rfl (r_fieldAddr tf33_0 rfl) ?_
    refine F.qn rfl rfl rfl rfl (r_load ta9 rfl (fun w hw => cell_1 (box_cells (i := 1) rfl w hw) rfl)) ?_
    refine F.qn rfl rfl rfl rfl (r_move rfl) ?_
    refine F.qn rfl rfl rfl rfl (r_bytsStr (i := 0) (l := t23.data.toList) Tryd.underlying22 Tryd.underlying5 Tryd.underlying9 rfl rfl (by simp)) ?_
    refine F.qn rfl rfl rfl rfl (r_addS rfl rfl hs44) ?_
    refine F.qn rfl rfl rfl rfl (r_assign rfl) ?_
    refine F.qn rfl rfl rfl rfl (r_assign rfl) ?_
    refine F.nil (Nrm.seq (Tri.ret ?_))
    cases h
    exact Rtn.body (.tmp rfl (.tmp rfl .nil)) (fun w hw => ⟨rfl, hw.ext⟩)
 ·obtain ⟨t10, h10, hE_1⟩ := bind_some hE_1
  rcases Bool.eq_false_or_eq_true (!t10) with g12 | g12
  ·replace hE_1 := if_tt g12 hE_1
   refine Tri.reg (l := [0, 1, 2, 3, 4, 5, 6, 7, 8, 9, 10]) rfl ?_
   refine F.qn rfl rfl rfl rfl (r_loadA ta33 ti33 rfl rfl (fun w hw => (box_cells (i := 0) rfl w hw))) ?_
   refine F.qcn rfl rfl rfl rfl (q_callF (xs := _) rfl ok41 rfl rfl (fun w hw => spec_l12Valid.ok h10 w )) ?_
   refine F.qn rfl rfl rfl rfl (r_not rfl) ?_
   refine F.qn rfl rfl rfl rfl (r_move rfl) ?_
   iterate 6 refine F.sk rfl rfl rfl (wf rfl rfl rfl g12) ?_
   refine F.qn rfl rfl rfl rfl (r_pick rfl rfl g12) ?_
   refine F.nil ?_
   cases hE_1
   refine Nrm.only [1, 2, 3, 19] rfl ?_
   refine Nrm.pick [0] rfl rfl ?_
   exact hj_1 _ _ ⟨rfl, rfl⟩
  ·replace hE_1 := if_ff g12 hE_1
   obtain ⟨t17, h17, hE_1⟩ := bind_some hE_1
   refine Tri.reg (l := [0, 1, 2, 3, 4, 5, 6, 7, 8, 9, 10]) rfl ?_
   refine F.qn rfl rfl rfl rfl (r_loadA ta33 ti33 rfl rfl (fun w hw => (box_cells (i := 0) rfl w hw))) ?_
   refine F.qcn rfl rfl rfl rfl (q_callF (xs := _) rfl ok41 rfl rfl (fun w hw => spec_l12Valid.ok h10 w )) ?_
   refine F.qn rfl rfl rfl rfl (r_not rfl) ?_
   refine F.qn rfl rfl rfl rfl (r_move rfl) ?_
   refine F.qg rfl rfl rfl rfl rfl rfl g12 (r_move rfl) ?_
   refine F.qg rfl rfl rfl rfl rfl rfl g12 (r_fieldAddr tf33_1 rfl) ?_
   refine F.qg rfl rfl rfl rfl rfl rfl g12 (r_load ta9 rfl (fun w hw => cell_1 (box_cells (i := 0) rfl w hw) rfl)) ?_
   refine F.qg rfl rfl rfl rfl rfl rfl g12 (r_lenS Tryd.underlying9 rfl) ?_
   refine F.qc rfl rfl rfl (wg rfl rfl rfl g12) (q_callF (xs := _) rfl ok35 rfl rfl (fun w hw => spec_l1In.ok h17 w )) ?_
   refine F.qg rfl rfl rfl rfl rfl rfl g12 (r_not rfl) ?_
   refine F.qn rfl rfl rfl rfl (r_pickf rfl rfl g12) ?_
   refine F.nil ?_
   cases hE_1
   refine Nrm.only [1, 2, 3, 19] rfl ?_
   refine Nrm.pick [0] rfl rfl ?_
   exact hj_1 _ _ ⟨rfl, rfl⟩


def spec_DrawRecoverLog.f (k : Nat) (a0 : List By) : Option (ByteArray) := (spec_l1Cur_log12.f k a0 0 0).bind fun (t10_1, t10_2, t10_3, t10_4, t10_5) => if (t10_1 ++ t10_2).size < 4611686018427387904 then (spec_l1Cur_pick.f k a0 t10_4 t10_5 4).bind fun (t17_1, t17_2, t17_3) => ((if (t17_1 == 0) = true then (spec_l1Cur_spoilt.f k a0 t17_2 t17_3 (t10_1 ++ t10_2) (ByteArray.mk #[35, 64, 10, 48, 49])).bind fun (t22_1, t22_2, t22_3) => some (t22_1, t22_2, t22_3) else ((if (t17_1 == 1) = true then (spec_l1Cur_pick.f k a0 t17_2 t17_3 (w64 (((t10_1 ++ t10_2).size : Int) + 1))).bind fun (t30_1, t30_2, t30_3) => (scut (t10_1 ++ t10_2) 0 t30_1).bind fun t31 => some (t31, t30_2, t30_3) else ((if (t17_1 == 2) = true then (spec_l1Cur_pick.f k a0 t17_2 t17_3 4).bind fun (t36_1, t36_2, t36_3) => (spec_l1Cur_logRecord.f k a0 t36_2 t36_3).bind fun (t38_1, t38_2, t38_3, t38_4) => (spec_l12Line.f k t36_1 t38_1 t38_2).bind fun t39 => if ((t10_1 ++ t10_2) ++ t39).size < 4611686018427387904 then some ((t10_1 ++ t10_2) ++ t39, t38_3, t38_4) else none else some (t10_1 ++ t10_2, t17_2, t17_3))).bind fun (y5, yb8_1_1, yb8_1_2) => some (y5, yb8_1_1, yb8_1_2))).bind fun (y5, yb8_1_1, yb8_1_2) => some (y5, yb8_1_1, yb8_1_2))).bind fun (y5, yb8_1_1, yb8_1_2) => (spec_l1Cur_one.f k a0 yb8_1_1 yb8_1_2 40).bind fun (t42_1, t42_2, t42_3) => ((if t42_1 = true then (spec_l1Cur_pick.f k a0 t42_2 t42_3 2).bind fun (t44_1, t44_2, t44_3) => if 0 ≤ w64 (30000 + t44_1) ∧ w64 (30000 + t44_1) < 1099511627776 then some (strBy (List.replicate (w64 (30000 + t44_1)).toNat (By.mk 0 : By))) else none else some y5)).bind fun y5r => some y5r else none

theorem spec_DrawRecoverLog.ok {k : Nat}  {a0 : List By} {r0 : ByteArray} (h : spec_DrawRecoverLog.f k a0 = some r0) (w : World) {va0 : Value} (hr_a0 : Rd w va0 a0) :
  Calls Tryd.prog 27 ([va0] : List Value).toArray w (fun e w' => e = .returned (.string r0) ∧ Ext w w') := by
 unfold spec_DrawRecoverLog.f at h
 have hl_va0 := hr_a0.len
 refine Calls.of_tri (N := 49) Tryd.func27 rfl rfl rfl (Sep.nil (M := noM)) ?_
 refine Tri.seq (Tri.reg (l := [0]) rfl ?_)
 refine F.qn rfl rfl rfl rfl (r_assign rfl) ?_
 refine F.nil (Nrm.seq (Tri.seq (Tri.reg (l := [0, 1, 2, 3]) rfl ?_)))
 refine F.qn rfl rfl rfl rfl (r_move rfl) ?_
 refine F.qn rfl rfl rfl rfl (r_build (pl := [(0, 1), (1, 1), (2, 1)]) (qs := [(0, [va0])]) (cs := [va0, .int .i64 0, .int .u64 0]) (by kernel_rfl) ti55 rfl (.cons (sl_cells hl_va0) rfl (Nat.le_of_ble_eq_true rfl) .nil) rfl rfl) ?_
 refine F.mn rfl rfl rfl rfl (m_boxG rfl rfl) ?_
 rintro _ _ ⟨b8_1, rfl, rfl⟩
 refine F.qn rfl rfl rfl rfl (r_assign rfl) ?_
 refine F.nil (Nrm.seq (Tri.seq ?_))
 obtain ⟨⟨t10_1, t10_2, t10_3, t10_4, t10_5⟩, h10, h⟩ := bind_some h
 refine Tri.reg (l := [0, 1, 2, 3]) rfl ?_
 refine F.qn rfl rfl rfl rfl (r_move rfl) ?_
 refine F.efn rfl rfl rfl rfl (d_callM (xs := _) (cs := [R.box b8_1 55 [va0, .int .i64 0, .int .u64 0]]) (rest := []) [0] [] rfl ok47 rfl rfl rfl rfl (fun w hw => spec_l1Cur_log12.ok h10 w (hr_a0.down hw) (Sep.sub hw))) ?_
 rintro _ _ ⟨_, ⟨rfl, rfl⟩, rfl⟩
 refine F.mn rfl rfl rfl rfl (m_alloc ti33) ?_
 rintro _ _ ⟨b4_1, rfl, rfl⟩
 refine F.ef0 rfl rfl (wanted_none rfl) (d_storeG0 (i := 0) (cs2 := [.string t10_1, .string t10_2, .int .i64 t10_3]) ti33 rfl rfl rfl rfl rfl (Nat.le_of_ble_eq_true rfl) (lf_cons rfl (lf_cons rfl (lf_cons rfl lf_nil)))) ?_
 rintro _ _ ⟨rfl, rfl⟩
 refine F.nil (Nrm.seq (Tri.seq ?_))
 obtain ⟨hs15, h⟩ := ck h
 refine Tri.reg (l := [0, 1, 2, 3, 4, 5]) rfl ?_
 refine F.qn rfl rfl rfl rfl (r_fieldAddr tf33_0 rfl) ?_
 refine F.qn rfl rfl rfl rfl (r_load ta9 rfl (fun w hw => cell_1 (box_cells (i := 0) rfl w hw) rfl)) ?_
 refine F.qn rfl rfl rfl rfl (r_fieldAddr tf33_1 rfl) ?_
 refine F.qn rfl rfl rfl rfl (r_load ta9 rfl (fun w hw => cell_1 (box_cells (i := 0) rfl w hw) rfl)) ?_
 refine F.qn rfl rfl rfl rfl (r_addS rfl rfl hs15) ?_
 refine F.qn rfl rfl rfl rfl (r_assign rfl) ?_
 refine F.nil (Nrm.seq (Tri.seq (Tri.seq ?_)))
 obtain ⟨⟨t17_1, t17_2, t17_3⟩, h17, h⟩ := bind_some h
 refine Tri.reg (l := [0, 1]) rfl ?_
 refine F.qn rfl rfl rfl rfl (r_move rfl) ?_
 refine F.efn rfl rfl rfl rfl (d_callM (xs := _) (cs := [R.box b8_1 55 [va0, .int .i64 t10_4, .int .u64 t10_5]]) (rest := [R.box b4_1 33 [.string t10_1, .string t10_2, .int .i64 t10_3]]) [1] [0] rfl ok40 rfl rfl rfl rfl (fun w hw => spec_l1Cur_pick.ok h17 w (hr_a0.down hw) (Sep.sub hw))) ?_
 rintro _ _ ⟨_, ⟨rfl, rfl⟩, rfl⟩
 refine F.nil (Nrm.seq (Tri.block ?_))
 refine Tri.seq (Tri.reg (l := [0, 1]) rfl ?_)
 refine F.qn rfl rfl rfl rfl (r_eql rfl rfl) ?_
 refine F.qn rfl rfl rfl rfl (r_assign rfl) ?_
 refine F.nil (Nrm.seq ?_)
 obtain ⟨⟨y5, yb8_1_1, yb8_1_2⟩, hE_1, h⟩ := bind_some h
 refine Tri.cut (fun e' C' => e' = [(3, .pointer (some ⟨b8_1, 0, none⟩)), (5, .string y5)] ∧ C' = Sep w noM [R.box b8_1 55 [va0, .int .i64 yb8_1_1, .int .u64 yb8_1_2]]) ?_ (fun hj_1 => ?_)
 ·rintro _ _ ⟨rfl, rfl⟩
  refine Nrm.block ?_
  refine Nrm.seq (Tri.seq (Tri.seq ?_))
  obtain ⟨⟨t42_1, t42_2, t42_3⟩, h42, h⟩ := bind_some h
  refine Tri.reg (l := [0, 1]) rfl ?_
  refine F.qn rfl rfl rfl rfl (r_move rfl) ?_
  refine F.efn rfl rfl rfl rfl (d_callM (xs := _) (cs := [R.box b8_1 55 [va0, .int .i64 yb8_1_1, .int .u64 yb8_1_2]]) (rest := []) [0] [] rfl ok39 rfl rfl rfl rfl (fun w hw => spec_l1Cur_one.ok h42 w (hr_a0.down hw) (Sep.sub hw))) ?_
  rintro _ _ ⟨_, ⟨rfl, rfl⟩, rfl⟩
  refine F.nil (Nrm.seq ?_)
  obtain ⟨y5r, hE_4, h⟩ := bind_some h
  refine Tri.cut (fun e' C' => e' = [(5, .string y5r)] ∧ C' = Sep w noM []) ?_ (fun hj_4 => ?_)
  ·rintro _ _ ⟨rfl, rfl⟩
   refine Nrm.seq (Tri.seq (Tri.reg (l := [0, 1]) rfl ?_))
   refine F.qn rfl rfl rfl rfl (r_move rfl) ?_
   refine F.qn rfl rfl rfl rfl (r_assign rfl) ?_
   refine F.nil (Nrm.seq (Tri.ret ?_))
   cases h
   exact Rtn.body (.tmp rfl .nil) (fun w hw => ⟨rfl, hw.ext⟩)
  ·refine Tri.cond (b := t42_1) rfl (fun g_4 => ?_) (fun g_4 => ?_)
   ·replace hE_4 := if_tt g_4 hE_4
    obtain ⟨⟨t44_1, t44_2, t44_3⟩, h44, hE_4⟩ := bind_some hE_4
    obtain ⟨hm46, hE_4⟩ := ck hE_4
    refine Tri.reg (l := [0, 1, 2, 3, 4, 5]) rfl ?_
    refine F.qn rfl rfl rfl rfl (r_move rfl) ?_
    refine F.efn rfl rfl rfl rfl (d_callM (xs := _) (cs := [R.box b8_1 55 [va0, .int .i64 t42_2, .int .u64 t42_3]]) (rest := []) [0] [] rfl ok40 rfl rfl rfl rfl (fun w hw => spec_l1Cur_pick.ok h44 w (hr_a0.down hw) (Sep.sub hw))) ?_
    rintro _ _ ⟨_, ⟨rfl, rfl⟩, rfl⟩
    refine F.qn rfl rfl rfl rfl (r_add rfl rfl) ?_
    refine F.mn rfl rfl rfl rfl (m_make (x0 := (By.mk 0 : By)) Tryd.underlying22 ti5 rfl rfl rfl hm46.1 hm46.2 (by decide)) ?_
    rintro v46_1 _ ⟨S46_1, hl_v46_1, rfl⟩
    refine F.qn rfl rfl rfl rfl (r_bysStr Tryd.underlying22 Tryd.underlying5 Tryd.underlying9 rfl (rd_sl (i := 0) rfl)) ?_
    refine F.qn rfl rfl rfl rfl (r_assign rfl) ?_
    refine F.nil ?_
    cases hE_4
    refine Nrm.only [5] rfl ?_
    refine Nrm.pick [] rfl rfl ?_
    exact hj_4 _ _ ⟨rfl, rfl⟩
   ·replace hE_4 := if_ff g_4 hE_4
    refine Tri.skip ?_
    cases hE_4
    refine Nrm.only [5] rfl ?_
    refine Nrm.pick [] rfl rfl ?_
    exact hj_4 _ _ ⟨rfl, rfl⟩
 ·refine Tri.cond (b := t17_1 == 0) rfl (fun g_1 => ?_) (fun g_1 => ?_)
  ·replace hE_1 := if_tt g_1 hE_1
   obtain ⟨⟨t22_1, t22_2, t22_3⟩, h22, hE_1⟩ := bind_some hE_1
   refine Tri.reg (l := [0, 1, 2, 3]) rfl ?_
   refine F.qn rfl rfl rfl rfl (r_move rfl) ?_
   refine F.qn rfl rfl rfl rfl (r_move rfl) ?_
   refine F.efn rfl rfl rfl rfl (d_callM (xs := _) (cs := [R.box b8_1 55 [va0, .int .i64 t17_2, .int .u64 t17_3]]) (rest := [R.box b4_1 33 [.string t10_1, .string t10_2, .int .i64 t10_3]]) [0] [1] rfl ok48 rfl rfl rfl rfl (fun w hw => spec_l1Cur_spoilt.ok h22 w (hr_a0.down hw) (Sep.sub hw))) ?_
   rintro _ _ ⟨_, ⟨rfl, rfl⟩, rfl⟩
   refine F.qn rfl rfl rfl rfl (r_assign rfl) ?_
   refine F.nil ?_
   cases hE_1
   refine Nrm.only [3, 5] rfl ?_
   refine Nrm.pick [0] rfl rfl ?_
   exact hj_1 _ _ ⟨rfl, rfl⟩
  ·replace hE_1 := if_ff g_1 hE_1
   refine Tri.seq (Tri.reg (l := [0, 1]) rfl ?_)
   refine F.qn rfl rfl rfl rfl (r_eql rfl rfl) ?_
   refine F.qn rfl rfl rfl rfl (r_assign rfl) ?_
   refine F.nil (Nrm.seq ?_)
   obtain ⟨⟨y5, yb8_1_1, yb8_1_2⟩, hE_2, hE_1⟩ := bind_some hE_1
   refine Tri.cut (fun e' C' => e' = [(3, .pointer (some ⟨b8_1, 0, none⟩)), (5, .string y5)] ∧ C' = Sep w noM [R.box b8_1 55 [va0, .int .i64 yb8_1_1, .int .u64 yb8_1_2]]) ?_ (fun hj_2 => ?_)
   ·rintro _ _ ⟨rfl, rfl⟩
    cases hE_1
    refine Nrm.only [3, 5] rfl ?_
    refine Nrm.pick [0] rfl rfl ?_
    exact hj_1 _ _ ⟨rfl, rfl⟩
   ·refine Tri.cond (b := t17_1 == 1) rfl (fun g_2 => ?_) (fun g_2 => ?_)
    ·replace hE_2 := if_tt g_2 hE_2
     obtain ⟨⟨t30_1, t30_2, t30_3⟩, h30, hE_2⟩ := bind_some hE_2
     obtain ⟨t31, h31, hE_2⟩ := bind_some hE_2
     refine Tri.reg (l := [0, 1, 2, 3, 4, 5, 6, 7]) rfl ?_
     iterate 3 refine F.qn rfl rfl rfl rfl (r_move rfl) ?_
     refine F.qn rfl rfl rfl rfl (r_lenS Tryd.underlying9 rfl) ?_
     refine F.qn rfl rfl rfl rfl (r_add rfl rfl) ?_
     refine F.efn rfl rfl rfl rfl (d_callM (xs := _) (cs := [R.box b8_1 55 [va0, .int .i64 t17_2, .int .u64 t17_3]]) (rest := [R.box b4_1 33 [.string t10_1, .string t10_2, .int .i64 t10_3]]) [0] [1] rfl ok40 rfl rfl rfl rfl (fun w hw => spec_l1Cur_pick.ok h30 w (hr_a0.down hw) (Sep.sub hw))) ?_
     rintro _ _ ⟨_, ⟨rfl, rfl⟩, rfl⟩
     refine F.qn rfl rfl rfl rfl (r_scutH Tryd.underlying9 rfl rfl h31) ?_
     refine F.qn rfl rfl rfl rfl (r_assign rfl) ?_
     refine F.nil ?_
     cases hE_2
     refine Nrm.only [3, 5] rfl ?_
     refine Nrm.pick [0] rfl rfl ?_
     exact hj_2 _ _ ⟨rfl, rfl⟩
    ·replace hE_2 := if_ff g_2 hE_2
     refine Tri.seq (Tri.reg (l := [0, 1]) rfl ?_)
     refine F.qn rfl rfl rfl rfl (r_eql rfl rfl) ?_
     refine F.qn rfl rfl rfl rfl (r_assign rfl) ?_
     refine F.nil (Nrm.seq ?_)
     obtain ⟨⟨y5, yb8_1_1, yb8_1_2⟩, hE_3, hE_2⟩ := bind_some hE_2
     refine Tri.cut (fun e' C' => e' = [(3, .pointer (some ⟨b8_1, 0, none⟩)), (5, .string y5)] ∧ C' = Sep w noM [R.box b8_1 55 [va0, .int .i64 yb8_1_1, .int .u64 yb8_1_2]]) ?_ (fun hj_3 => ?_)
     ·rintro _ _ ⟨rfl, rfl⟩
      cases hE_2
      refine Nrm.only [3, 5] rfl ?_
      refine Nrm.pick [0] rfl rfl ?_
      exact hj_2 _ _ ⟨rfl, rfl⟩
     ·refine Tri.cond (b := t17_1 == 2) rfl (fun g_3 => ?_) (fun g_3 => ?_)
      ·replace hE_3 := if_tt g_3 hE_3
       obtain ⟨⟨t36_1, t36_2, t36_3⟩, h36, hE_3⟩ := bind_some hE_3
       obtain ⟨⟨t38_1, t38_2, t38_3, t38_4⟩, h38, hE_3⟩ := bind_some hE_3
       obtain ⟨t39, h39, hE_3⟩ := bind_some hE_3
       obtain ⟨hs40, hE_3⟩ := ck hE_3
       refine Tri.reg (l := [0, 1, 2, 3, 4, 5, 6, 7]) rfl ?_
       refine F.qn rfl rfl rfl rfl (r_move rfl) ?_
       refine F.qn rfl rfl rfl rfl (r_move rfl) ?_
       refine F.efn rfl rfl rfl rfl (d_callM (xs := _) (cs := [R.box b8_1 55 [va0, .int .i64 t17_2, .int .u64 t17_3]]) (rest := [R.box b4_1 33 [.string t10_1, .string t10_2, .int .i64 t10_3]]) [0] [1] rfl ok40 rfl rfl rfl rfl (fun w hw => spec_l1Cur_pick.ok h36 w (hr_a0.down hw) (Sep.sub hw))) ?_
       rintro _ _ ⟨_, ⟨rfl, rfl⟩, rfl⟩
       refine F.qn rfl rfl rfl rfl (r_move rfl) ?_
       refine F.efn rfl rfl rfl rfl (d_callM (xs := _) (cs := [R.box b8_1 55 [va0, .int .i64 t36_2, .int .u64 t36_3]]) (rest := [R.box b4_1 33 [.string t10_1, .string t10_2, .int .i64 t10_3]]) [0] [1] rfl ok30 rfl rfl rfl rfl (fun w hw => spec_l1Cur_logRecord.ok h38 w (hr_a0.down hw) (Sep.sub hw))) ?_
       rintro _ _ ⟨_, ⟨rfl, rfl⟩, rfl⟩
       refine F.qcn rfl rfl rfl rfl (q_callF (xs := _) rfl ok37 rfl rfl (fun w hw => spec_l12Line.ok h39 w )) ?_
       refine F.qn rfl rfl rfl rfl (r_addS rfl rfl hs40) ?_
       refine F.qn rfl rfl rfl rfl (r_assign rfl) ?_
       refine F.nil ?_
       cases hE_3
       refine Nrm.only [3, 5] rfl ?_
       refine Nrm.pick [0] rfl rfl ?_
       exact hj_3 _ _ ⟨rfl, rfl⟩
      ·replace hE_3 := if_ff g_3 hE_3
       refine Tri.skip ?_
       cases hE_3
       refine Nrm.only [3, 5] rfl ?_
       refine Nrm.pick [0] rfl rfl ?_
       exact hj_3 _ _ ⟨rfl, rfl⟩


def impl_RecoverLog.f (k : Nat) (a0 : ByteArray) : Option (ByteArray × ByteArray × Int × Int × Bool) := (if (decide ((a0.size : Int) > 30000)) = true then some (ByteArray.empty, ByteArray.empty, 0, 0, false) else (impl_read.f k a0).bind fun (t14_1, t14_2) => (rdl t14_2 (t14_1.length : Int)).bind fun t20 => (scut a0 0 t20).bind fun t24 => some (t24, ByteArray.empty, (t14_1.length : Int), t20, true))

theorem impl_RecoverLog.ok {k : Nat}  {a0 : ByteArray} {r0 : ByteArray} {r1 : ByteArray} {r2 : Int} {r3 : Int} {r4 : Bool} (h : impl_RecoverLog.f k a0 = some (r0, r1, r2, r3, r4)) (w : World) (ht : Lib.TabIs Tryd.prog w "internal/strconv.uint64pow10" .u64 Lib.pow10Tab) :
  Calls Tryd.prog 28 ([.string a0] : List Value).toArray w (fun e w' => e = .returned (.tuple #[.agg [.string r0, .string r1, .int .i64 r2].toArray, .int .i64 r3, .bool r4]) ∧ Ext w w') := by
 unfold impl_RecoverLog.f at h
 refine Calls.of_tri (N := 29) Tryd.func28 rfl rfl rfl (Sep.nil (M := noM)) ?_
 refine Tri.seq (Tri.reg (l := [0, 1, 2]) rfl ?_)
 refine F.mn rfl rfl rfl rfl (m_alloc ti33) ?_
 rintro _ _ ⟨b2_1, rfl, rfl⟩
 refine F.qn rfl rfl rfl rfl (r_assign rfl) ?_
 refine F.qn rfl rfl rfl rfl (r_assign rfl) ?_
 refine F.nil (Nrm.seq (Tri.seq (Tri.seq (Tri.reg (l := [0, 1, 2]) rfl ?_))))
 refine F.qn rfl rfl rfl rfl (r_move rfl) ?_
 refine F.qn rfl rfl rfl rfl (r_lenS Tryd.underlying9 rfl) ?_
 refine F.qn rfl rfl rfl rfl (r_gtr rfl rfl) ?_
 refine F.nil (Nrm.seq (Tri.cond (b := decide ((a0.size : Int) > 30000)) rfl (fun g_1 => ?_) (fun g_1 => ?_)))
 ·replace h := if_tt g_1 h
  refine Tri.seq (Tri.reg (l := [0, 1, 2, 3]) rfl ?_)
  refine F.qn rfl rfl rfl rfl (r_build (pl := [(0, 1), (1, 1), (2, 1)]) (qs := []) (cs := [.string ByteArray.empty, .string ByteArray.empty, .int .i64 0]) (by kernel_rfl) ti33 rfl .nil rfl rfl) ?_
  refine F.ef0 rfl rfl (wanted_none rfl) (d_storeG0 (i := 0) (cs2 := [.string ByteArray.empty, .string ByteArray.empty, .int .i64 0]) ti33 rfl rfl rfl rfl rfl (Nat.le_of_ble_eq_true rfl) (lf_cons rfl (lf_cons rfl (lf_cons rfl lf_nil)))) ?_
  rintro _ _ ⟨rfl, rfl⟩
  refine F.qn rfl rfl rfl rfl (r_assign rfl) ?_
  refine F.qn rfl rfl rfl rfl (r_assign rfl) ?_
  refine F.nil (Nrm.seq (Tri.ret ?_))
  refine Rtn.then ?_
  cases h
  exact Rtn.body (.cell rfl ta33 ti33 rfl (fun _ hw => box_cells (i := 0) rfl _ hw) (.tmp rfl (.tmp rfl .nil))) (fun w hw => ⟨rfl, hw.ext⟩)
 ·replace h := if_ff g_1 h
  refine Tri.skip (Nrm.seq (Tri.seq ?_))
  obtain ⟨⟨t14_1, t14_2⟩, h14, h⟩ := bind_some h
  refine Tri.reg (l := [0, 1, 2, 3, 4, 5, 6]) rfl ?_
  refine F.qn rfl rfl rfl rfl (r_move rfl) ?_
  refine F.mn rfl rfl rfl rfl (m_callF (xs := _) rfl ok44 rfl rfl (fun w hw => impl_read.ok h14 w (Tab.sep ht hw))) ?_
  rintro _ _ ⟨_, ⟨v14_1, S14_1, v14_2, S14_2, rfl, hl_v14_1, hl_v14_2, rfl⟩, rfl⟩
  refine F.qn rfl rfl rfl rfl (r_move rfl) ?_
  refine F.qn rfl rfl rfl rfl (r_extract rfl rfl) ?_
  refine F.qn rfl rfl rfl rfl (r_extract rfl rfl) ?_
  refine F.qn rfl rfl rfl rfl (r_assign rfl) ?_
  refine F.qn rfl rfl rfl rfl (r_assign rfl) ?_
  refine F.nil (Nrm.seq (Tri.seq ?_))
  obtain ⟨t20, h20, h⟩ := bind_some h
  refine Tri.reg (l := [0, 1, 2, 3, 4, 5]) rfl ?_
  refine F.qn rfl rfl rfl rfl (r_move rfl) ?_
  refine F.qn rfl rfl rfl rfl (r_move rfl) ?_
  refine F.qn rfl rfl rfl rfl (r_len Tryd.underlying43 rfl hl_v14_1) ?_
  refine F.qn rfl rfl rfl rfl (r_indexAddrS Tryd.underlying58 ti3 rfl hl_v14_2 rfl (rdl_some h20).1 (rdl_some h20).2.1) ?_
  refine F.qn rfl rfl rfl rfl (r_load ta3 rfl (fun w hw => cell_0 (Rd.flat ((rd_sl (i := 1) rfl) w hw) (rdl_some h20).2.2) rfl)) ?_
  refine F.qn rfl rfl rfl rfl (r_assign rfl) ?_
  refine F.nil (Nrm.seq (Tri.seq ?_))
  obtain ⟨t24, h24, h⟩ := bind_some h
  refine Tri.reg (l := [0, 1, 2, 3, 4, 5, 6, 7, 8, 9]) rfl ?_
  refine F.qn rfl rfl rfl rfl (r_move rfl) ?_
  refine F.qn rfl rfl rfl rfl (r_move rfl) ?_
  refine F.qn rfl rfl rfl rfl (r_scutH Tryd.underlying9 rfl rfl h24) ?_
  refine F.qn rfl rfl rfl rfl (r_move rfl) ?_
  refine F.qn rfl rfl rfl rfl (r_len Tryd.underlying43 rfl hl_v14_1) ?_
  refine F.qn rfl rfl rfl rfl (r_build (pl := [(0, 1), (1, 1), (2, 1)]) (qs := [(0, [.string t24]), (2, [.int .i64 (t14_1.length : Int)])]) (cs := [.string t24, .string ByteArray.empty, .int .i64 (t14_1.length : Int)]) (by kernel_rfl) ti33 rfl (.cons rfl rfl (Nat.le_of_ble_eq_true rfl) (.cons rfl rfl (Nat.le_of_ble_eq_true rfl) .nil)) rfl rfl) ?_
  refine F.qn rfl rfl rfl rfl (r_move rfl) ?_
  refine F.ef0 rfl rfl (wanted_none rfl) (d_storeG0 (i := 2) (cs2 := [.string t24, .string ByteArray.empty, .int .i64 (t14_1.length : Int)]) ti33 rfl rfl rfl rfl rfl (Nat.le_of_ble_eq_true rfl) (lf_cons rfl (lf_cons rfl (lf_cons rfl lf_nil)))) ?_
  rintro _ _ ⟨rfl, rfl⟩
  refine F.qn rfl rfl rfl rfl (r_assign rfl) ?_
  refine F.qn rfl rfl rfl rfl (r_assign rfl) ?_
  refine F.nil (Nrm.seq (Tri.ret ?_))
  cases h
  exact Rtn.body (.cell rfl ta33 ti33 rfl (fun _ hw => box_cells (i := 2) rfl _ hw) (.tmp rfl (.tmp rfl .nil))) (fun w hw => ⟨rfl, hw.ext⟩)


def spec_RecoverLog.f (k : Nat) (a0 : ByteArray) : Option (ByteArray × ByteArray × Int × Int × Bool) := (if (decide ((a0.size : Int) > 30000)) = true then some (ByteArray.empty, ByteArray.empty, 0, 0, false) else (spec_l12Open.f k a0).bind fun (t13_1, t13_2) => (scut a0 0 t13_2).bind fun t18 => some (t18, ByteArray.empty, (t13_1.length : Int), t13_2, true))

theorem spec_RecoverLog.ok {k : Nat}  {a0 : ByteArray} {r0 : ByteArray} {r1 : ByteArray} {r2 : Int} {r3 : Int} {r4 : Bool} (h : spec_RecoverLog.f k a0 = some (r0, r1, r2, r3, r4)) (w : World) :
  Calls Tryd.prog 29 ([.string a0] : List Value).toArray w (fun e w' => e = .returned (.tuple #[.agg [.string r0, .string r1, .int .i64 r2].toArray, .int .i64 r3, .bool r4]) ∧ Ext w w') := by
 unfold spec_RecoverLog.f at h
 refine Calls.of_tri (N := 23) Tryd.func29 rfl rfl rfl (Sep.nil (M := noM)) ?_
 refine Tri.seq (Tri.reg (l := [0, 1, 2]) rfl ?_)
 refine F.mn rfl rfl rfl rfl (m_alloc ti33) ?_
 rintro _ _ ⟨b2_1, rfl, rfl⟩
 refine F.qn rfl rfl rfl rfl (r_assign rfl) ?_
 refine F.qn rfl rfl rfl rfl (r_assign rfl) ?_
 refine F.nil (Nrm.seq (Tri.seq (Tri.seq (Tri.reg (l := [0, 1, 2]) rfl ?_))))
 refine F.qn rfl rfl rfl rfl (r_move rfl) ?_
 refine F.qn rfl rfl rfl rfl (r_lenS Tryd.underlying9 rfl) ?_
 refine F.qn rfl rfl rfl rfl (r_gtr rfl rfl) ?_
 refine F.nil (Nrm.seq (Tri.cond (b := decide ((a0.size : Int) > 30000)) rfl (fun g_1 => ?_) (fun g_1 => ?_)))
 ·replace h := if_tt g_1 h
  refine Tri.seq (Tri.reg (l := [0, 1, 2, 3]) rfl ?_)
  refine F.qn rfl rfl rfl rfl (r_build (pl := [(0, 1), (1, 1), (2, 1)]) (qs := []) (cs := [.string ByteArray.empty, .string ByteArray.empty, .int .i64 0]) (by kernel_rfl) ti33 rfl .nil rfl rfl) ?_
  refine F.ef0 rfl rfl (wanted_none rfl) (d_storeG0 (i := 0) (cs2 := [.string ByteArray.empty, .string ByteArray.empty, .int .i64 0]) ti33 rfl rfl rfl rfl rfl (Nat.le_of_ble_eq_true rfl) (lf_cons rfl (lf_cons rfl (lf_cons rfl lf_nil)))) ?_
  rintro _ _ ⟨rfl, rfl⟩
  refine F.qn rfl rfl rfl rfl (r_assign rfl) ?_
  refine F.qn rfl rfl rfl rfl (r_assign rfl) ?_
  refine F.nil (Nrm.seq (Tri.ret ?_))
  refine Rtn.then ?_
  cases h
  exact Rtn.body (.cell rfl ta33 ti33 rfl (fun _ hw => box_cells (i := 0) rfl _ hw) (.tmp rfl (.tmp rfl .nil))) (fun w hw => ⟨rfl, hw.ext⟩)
 ·replace h := if_ff g_1 h
  refine Tri.skip (Nrm.seq (Tri.seq ?_))
  obtain ⟨⟨t13_1, t13_2⟩, h13, h⟩ := bind_some h
  refine Tri.reg (l := [0, 1, 2, 3, 4, 5, 6]) rfl ?_
  refine F.qn rfl rfl rfl rfl (r_move rfl) ?_
  refine F.mn rfl rfl rfl rfl (m_callF (xs := _) rfl ok46 rfl rfl (fun w hw => spec_l12Open.ok h13 w )) ?_
  rintro _ _ ⟨_, ⟨v13_1, S13_1, rfl, hl_v13_1, rfl⟩, rfl⟩
  refine F.qn rfl rfl rfl rfl (r_move rfl) ?_
  refine F.qn rfl rfl rfl rfl (r_extract rfl rfl) ?_
  refine F.qn rfl rfl rfl rfl (r_extract rfl rfl) ?_
  refine F.qn rfl rfl rfl rfl (r_assign rfl) ?_
  refine F.qn rfl rfl rfl rfl (r_assign rfl) ?_
  refine F.nil (Nrm.seq (Tri.seq ?_))
  obtain ⟨t18, h18, h⟩ := bind_some h
  refine Tri.reg (l := [0, 1, 2, 3, 4, 5, 6, 7, 8, 9]) rfl ?_
  refine F.qn rfl rfl rfl rfl (r_move rfl) ?_
  refine F.qn rfl rfl rfl rfl (r_move rfl) ?_
  refine F.qn rfl rfl rfl rfl (r_scutH Tryd.underlying9 rfl rfl h18) ?_
  refine F.qn rfl rfl rfl rfl (r_move rfl) ?_
  refine F.qn rfl rfl rfl rfl (r_len Tryd.underlying43 rfl hl_v13_1) ?_
  refine F.qn rfl rfl rfl rfl (r_build (pl := [(0, 1), (1, 1), (2, 1)]) (qs := [(0, [.string t18]), (2, [.int .i64 (t13_1.length : Int)])]) (cs := [.string t18, .string ByteArray.empty, .int .i64 (t13_1.length : Int)]) (by kernel_rfl) ti33 rfl (.cons rfl rfl (Nat.le_of_ble_eq_true rfl) (.cons rfl rfl (Nat.le_of_ble_eq_true rfl) .nil)) rfl rfl) ?_
  refine F.qn rfl rfl rfl rfl (r_move rfl) ?_
  refine F.ef0 rfl rfl (wanted_none rfl) (d_storeG0 (i := 1) (cs2 := [.string t18, .string ByteArray.empty, .int .i64 (t13_1.length : Int)]) ti33 rfl rfl rfl rfl rfl (Nat.le_of_ble_eq_true rfl) (lf_cons rfl (lf_cons rfl (lf_cons rfl lf_nil)))) ?_
  rintro _ _ ⟨rfl, rfl⟩
  refine F.qn rfl rfl rfl rfl (r_assign rfl) ?_
  refine F.qn rfl rfl rfl rfl (r_assign rfl) ?_
  refine F.nil (Nrm.seq (Tri.ret ?_))
  cases h
  exact Rtn.body (.cell rfl ta33 ti33 rfl (fun _ hw => box_cells (i := 1) rfl _ hw) (.tmp rfl (.tmp rfl .nil))) (fun w hw => ⟨rfl, hw.ext⟩)


def laws_FnCrashes.f (k : Nat) (a0 : List By) : Option (Bool) := (laws_vBig.f k a0).bind fun t25 => (if t25 = true then some true else (spec_DrawCrashLog.f k a0).bind fun (t28_1, t28_2, t28_3, t28_4, t28_5) => (impl_CrashLog.f k t28_1 t28_2 t28_3 t28_4 t28_5).bind fun (t36_1, t36_2) => (spec_CrashLog.f k t28_1 t28_2 t28_3 t28_4 t28_5).bind fun (t43_1, t43_2) => (laws_vCut.f k a0 1).bind fun t47 => (spec_DrawRecoverLog.f k t47).bind fun t48 => (impl_RecoverLog.f k t48).bind fun (t51_1, t51_2, t51_3, t51_4, t51_5) => (spec_RecoverLog.f k t48).bind fun (t57_1, t57_2, t57_3, t57_4, t57_5) => ((if (!(t36_1.toList == t43_1.toList)) = true then some true else (if (t36_2 != t43_2) = true then some true else (if (!(t51_1.toList == t57_1.toList && (t51_2.toList == t57_2.toList && (t51_3 == t57_3 && true)))) = true then some true else (if (t51_4 != t57_4) = true then some true else some (t51_5 != t57_5)))))).bind fun y83 => (if y83 = true then some false else (if (!t36_2) = true then some true else (impl_RecoverLog.f k t36_1).bind fun (t88_1, t88_2, t88_3, t88_4, t88_5) => ((if (!t88_5) = true then some true else (impl_IsValidLog.f k t88_1 t88_2 t88_3).bind fun t96 => (if (!t96) = true then some true else (if (decide (t88_4 < (t28_1.size : Int))) = true then some true else some ((t88_1.size : Int) != t88_4))))).bind fun y112 => (if y112 = true then some false else (impl_LogRecords.f k t28_1 t28_2 t28_3).bind fun (t115_1, t115_2) => (impl_LogRecords.f k t88_1 t88_2 t88_3).bind fun (t120_1, t120_2) => ((if (decide ((t120_1.length : Int) ≤ (t115_1.length : Int))) = true then (slc t115_1 0 (t120_1.length : Int)).bind fun t133 => (laws_vRecords.f k t120_1 t133).bind fun t134 => (if t134 = true then (if t28_5 = true then some true else (if (decide (t28_4 < (t28_2.size : Int))) = true then some true else some ((t120_1.length : Int) == (t115_1.length : Int)))) else some false) else some false)).bind fun y2 => some y2))))

theorem laws_FnCrashes.ok {k : Nat}  {a0 : List By} {r0 : Bool} (h : laws_FnCrashes.f k a0 = some r0) (w : World) {va0 : Value} (hr_a0 : Rd w va0 a0) (ht : Lib.TabIs Tryd.prog w "internal/strconv.uint64pow10" .u64 Lib.pow10Tab) :
  Calls Tryd.prog 4 ([va0] : List Value).toArray w (fun e w' => e = .returned (.bool r0) ∧ Ext w w') := by
 unfold laws_FnCrashes.f at h
 have hl_va0 := hr_a0.len
 refine Calls.of_tri (N := 153) Tryd.func4 rfl rfl rfl (Sep.nil (M := noM)) ?_
 refine Tri.seq (Tri.reg (l := [0]) rfl ?_)
 refine F.qn rfl rfl rfl rfl (r_assign rfl) ?_
 refine F.nil (Nrm.seq (Tri.seq (Tri.seq ?_)))
 obtain ⟨t25, h25, h⟩ := bind_some h
 refine Tri.reg (l := [0, 1]) rfl ?_
 refine F.qn rfl rfl rfl rfl (r_move rfl) ?_
 refine F.qcn rfl rfl rfl rfl (q_callF (xs := _) rfl ok5 rfl rfl (fun w hw => laws_vBig.ok h25 w ((fun _ hw => hr_a0.sep hw) w hw))) ?_
 refine F.nil (Nrm.seq (Tri.cond (b := t25) rfl (fun g_1 => ?_) (fun g_1 => ?_)))
 ·replace h := if_tt g_1 h
  refine Tri.seq (Tri.reg (l := [0]) rfl ?_)
  refine F.qn rfl rfl rfl rfl (r_assign rfl) ?_
  refine F.nil (Nrm.seq (Tri.ret ?_))
  refine Rtn.then ?_
  cases h
  exact Rtn.body (.tmp rfl .nil) (fun w hw => ⟨rfl, hw.ext⟩)
 ·replace h := if_ff g_1 h
  refine Tri.skip (Nrm.seq (Tri.seq ?_))
  obtain ⟨⟨t28_1, t28_2, t28_3, t28_4, t28_5⟩, h28, h⟩ := bind_some h
  refine Tri.reg (l := [0, 1, 2, 3, 4, 5, 6, 7, 8, 9]) rfl ?_
  refine F.qn rfl rfl rfl rfl (r_move rfl) ?_
  refine F.qcn rfl rfl rfl rfl (q_callF (xs := _) rfl ok24 rfl rfl (fun w hw => spec_DrawCrashLog.ok h28 w ((fun _ hw => hr_a0.sep hw) w hw))) ?_
  refine F.qn rfl rfl rfl rfl (r_move rfl) ?_
  iterate 3 refine F.qn rfl rfl rfl rfl (r_extract rfl rfl) ?_
  refine F.mn rfl rfl rfl rfl (m_alloc ti33) ?_
  rintro _ _ ⟨b3_1, rfl, rfl⟩
  refine F.ef0 rfl rfl (wanted_none rfl) (d_storeG0 (i := 0) (cs2 := [.string t28_1, .string t28_2, .int .i64 t28_3]) ti33 rfl rfl rfl rfl rfl (Nat.le_of_ble_eq_true rfl) (lf_cons rfl (lf_cons rfl (lf_cons rfl lf_nil)))) ?_
  rintro _ _ ⟨rfl, rfl⟩
  refine F.qn rfl rfl rfl rfl (r_assign rfl) ?_
  refine F.qn rfl rfl rfl rfl (r_assign rfl) ?_
  refine F.nil (Nrm.seq (Tri.seq ?_))
  obtain ⟨⟨t36_1, t36_2⟩, h36, h⟩ := bind_some h
  refine Tri.reg (l := [0, 1, 2, 3, 4, 5, 6, 7, 8]) rfl ?_
  refine F.qn rfl rfl rfl rfl (r_loadA ta33 ti33 rfl rfl (fun w hw => (box_cells (i := 0) rfl w hw))) ?_
  refine F.qn rfl rfl rfl rfl (r_move rfl) ?_
  refine F.qn rfl rfl rfl rfl (r_move rfl) ?_
  refine F.qcn rfl rfl rfl rfl (q_callF (xs := _) rfl ok25 rfl rfl (fun w hw => impl_CrashLog.ok h36 w (Tab.sep ht hw))) ?_
  refine F.qn rfl rfl rfl rfl (r_move rfl) ?_
  refine F.qn rfl rfl rfl rfl (r_extract rfl rfl) ?_
  refine F.qn rfl rfl rfl rfl (r_extract rfl rfl) ?_
  refine F.qn rfl rfl rfl rfl (r_assign rfl) ?_
  refine F.qn rfl rfl rfl rfl (r_assign rfl) ?_
  refine F.nil (Nrm.seq (Tri.seq ?_))
  obtain ⟨⟨t43_1, t43_2⟩, h43, h⟩ := bind_some h
  refine Tri.reg (l := [0, 1, 2, 3, 4, 5, 6, 7, 8]) rfl ?_
  refine F.qn rfl rfl rfl rfl (r_loadA ta33 ti33 rfl rfl (fun w hw => (box_cells (i := 0) rfl w hw))) ?_
  refine F.qn rfl rfl rfl rfl (r_move rfl) ?_
  refine F.qn rfl rfl rfl rfl (r_move rfl) ?_
  refine F.qcn rfl rfl rfl rfl (q_callF (xs := _) rfl ok26 rfl rfl (fun w hw => spec_CrashLog.ok h43 w )) ?_
  refine F.qn rfl rfl rfl rfl (r_move rfl) ?_
  refine F.qn rfl rfl rfl rfl (r_extract rfl rfl) ?_
  refine F.qn rfl rfl rfl rfl (r_extract rfl rfl) ?_
  refine F.qn rfl rfl rfl rfl (r_assign rfl) ?_
  refine F.qn rfl rfl rfl rfl (r_assign rfl) ?_
  refine F.nil (Nrm.seq (Tri.seq ?_))
  obtain ⟨t47, h47, h⟩ := bind_some h
  obtain ⟨t48, h48, h⟩ := bind_some h
  refine Tri.reg (l := [0, 1, 2, 3]) rfl ?_
  refine F.qn rfl rfl rfl rfl (r_move rfl) ?_
  refine F.mn rfl rfl rfl rfl (m_callF (xs := _) rfl ok8 rfl rfl (fun w hw => laws_vCut.ok h47 w ((fun _ hw => hr_a0.sep hw) w hw))) ?_
  rintro v47_1 _ ⟨_, ⟨S47_1, hl_v47_1, rfl⟩, rfl⟩
  refine F.qcn rfl rfl rfl rfl (q_callF (xs := _) rfl ok27 rfl rfl (fun w hw => spec_DrawRecoverLog.ok h48 w ((rd_sl (i := 0) rfl) w hw))) ?_
  refine F.qn rfl rfl rfl rfl (r_assign rfl) ?_
  refine F.nil (Nrm.seq (Tri.seq ?_))
  obtain ⟨⟨t51_1, t51_2, t51_3, t51_4, t51_5⟩, h51, h⟩ := bind_some h
  refine Tri.reg (l := [0, 1, 2, 3, 4, 5, 6, 7, 8, 9]) rfl ?_
  refine F.qn rfl rfl rfl rfl (r_move rfl) ?_
  refine F.qcn rfl rfl rfl rfl (q_callF (xs := _) rfl ok28 rfl rfl (fun w hw => impl_RecoverLog.ok h51 w (Tab.sep ht hw))) ?_
  refine F.qn rfl rfl rfl rfl (r_move rfl) ?_
  iterate 3 refine F.qn rfl rfl rfl rfl (r_extract rfl rfl) ?_
  refine F.mn rfl rfl rfl rfl (m_alloc ti33) ?_
  rintro _ _ ⟨b11_1, rfl, rfl⟩
  refine F.ef0 rfl rfl (wanted_none rfl) (d_storeG0 (i := 0) (cs2 := [.string t51_1, .string t51_2, .int .i64 t51_3]) ti33 rfl rfl rfl rfl rfl (Nat.le_of_ble_eq_true rfl) (lf_cons rfl (lf_cons rfl (lf_cons rfl lf_nil)))) ?_
  rintro _ _ ⟨rfl, rfl⟩
  refine F.qn rfl rfl rfl rfl (r_assign rfl) ?_
  refine F.qn rfl rfl rfl rfl (r_assign rfl) ?_
  refine F.nil (Nrm.seq (Tri.seq ?_))
  obtain ⟨⟨t57_1, t57_2, t57_3, t57_4, t57_5⟩, h57, h⟩ := bind_some h
  refine Tri.reg (l := [0, 1, 2, 3, 4, 5, 6, 7, 8, 9]) rfl ?_
  refine F.qn rfl rfl rfl rfl (r_move rfl) ?_
  refine F.qcn rfl rfl rfl rfl (q_callF (xs := _) rfl ok29 rfl rfl (fun w hw => spec_RecoverLog.ok h57 w )) ?_
  refine F.qn rfl rfl rfl rfl (r_move rfl) ?_
  iterate 3 refine F.qn rfl rfl rfl rfl (r_extract rfl rfl) ?_
  refine F.mn rfl rfl rfl rfl (m_alloc ti33) ?_
  rintro _ _ ⟨b14_1, rfl, rfl⟩
  refine F.ef0 rfl rfl (wanted_none rfl) (d_storeG0 (i := 0) (cs2 := [.string t57_1, .string t57_2, .int .i64 t57_3]) ti33 rfl rfl rfl rfl rfl (Nat.le_of_ble_eq_true rfl) (lf_cons rfl (lf_cons rfl (lf_cons rfl lf_nil)))) ?_
  rintro _ _ ⟨rfl, rfl⟩
  refine F.qn rfl rfl rfl rfl (r_assign rfl) ?_
  refine F.qn rfl rfl rfl rfl (r_assign rfl) ?_
  refine F.nil (Nrm.seq (Tri.seq (Tri.seq ?_)))
  obtain ⟨y83, hE_1, h⟩ := bind_some h
  refine Tri.cut (fun e' C' => e' = [(3, .pointer (some ⟨b3_1, 0, none⟩)), (4, .int .i64 t28_4), (5, .bool t28_5), (6, .string t36_1), (7, .bool t36_2), (83, .bool y83)] ∧ C' = Sep w noM [R.box b3_1 33 [.string t28_1, .string t28_2, .int .i64 t28_3]]) ?_ (fun hj_1 => ?_)
  ·rintro _ _ ⟨rfl, rfl⟩
   refine Nrm.seq (Tri.cond (b := y83) rfl (fun g_2 => ?_) (fun g_2 => ?_))
   ·replace h := if_tt g_2 h
    refine Tri.seq (Tri.reg (l := [0]) rfl ?_)
    refine F.qn rfl rfl rfl rfl (r_assign rfl) ?_
    refine F.nil (Nrm.seq (Tri.ret ?_))
    refine Rtn.then ?_
    cases h
    exact Rtn.body (.tmp rfl .nil) (fun w hw => ⟨rfl, hw.ext⟩)
   ·replace h := if_ff g_2 h
    refine Tri.skip (Nrm.seq (Tri.seq (Tri.seq (Tri.reg (l := [0, 1]) rfl ?_))))
    refine F.qn rfl rfl rfl rfl (r_move rfl) ?_
    refine F.qn rfl rfl rfl rfl (r_not rfl) ?_
    refine F.nil (Nrm.seq (Tri.cond (b := !t36_2) rfl (fun g_3 => ?_) (fun g_3 => ?_)))
    ·replace h := if_tt g_3 h
     refine Tri.seq (Tri.reg (l := [0]) rfl ?_)
     refine F.qn rfl rfl rfl rfl (r_assign rfl) ?_
     refine F.nil (Nrm.seq (Tri.ret ?_))
     refine Rtn.then ?_
     cases h
     exact Rtn.body (.tmp rfl .nil) (fun w hw => ⟨rfl, hw.ext⟩)
    ·replace h := if_ff g_3 h
     refine Tri.skip (Nrm.seq (Tri.seq ?_))
     obtain ⟨⟨t88_1, t88_2, t88_3, t88_4, t88_5⟩, h88, h⟩ := bind_some h
     refine Tri.reg (l := [0, 1, 2, 3, 4, 5, 6, 7, 8, 9]) rfl ?_
     refine F.qn rfl rfl rfl rfl (r_move rfl) ?_
     refine F.qcn rfl rfl rfl rfl (q_callF (xs := _) rfl ok28 rfl rfl (fun w hw => impl_RecoverLog.ok h88 w (Tab.sep ht hw))) ?_
     refine F.qn rfl rfl rfl rfl (r_move rfl) ?_
     iterate 3 refine F.qn rfl rfl rfl rfl (r_extract rfl rfl) ?_
     refine F.mn rfl rfl rfl rfl (m_alloc ti33) ?_
     rintro _ _ ⟨b17_1, rfl, rfl⟩
     refine F.ef0 rfl rfl (wanted_none rfl) (d_storeG0 (i := 0) (cs2 := [.string t88_1, .string t88_2, .int .i64 t88_3]) ti33 rfl rfl rfl rfl rfl (Nat.le_of_ble_eq_true rfl) (lf_cons rfl (lf_cons rfl (lf_cons rfl lf_nil)))) ?_
     rintro _ _ ⟨rfl, rfl⟩
     refine F.qn rfl rfl rfl rfl (r_assign rfl) ?_
     refine F.qn rfl rfl rfl rfl (r_assign rfl) ?_
     refine F.nil (Nrm.seq (Tri.seq (Tri.seq ?_)))
     obtain ⟨y112, hE_2, h⟩ := bind_some h
     refine Tri.cut (fun e' C' => e' = [(3, .pointer (some ⟨b3_1, 0, none⟩)), (4, .int .i64 t28_4), (5, .bool t28_5), (17, .pointer (some ⟨b17_1, 0, none⟩)), (112, .bool y112)] ∧ C' = Sep w noM [R.box b17_1 33 [.string t88_1, .string t88_2, .int .i64 t88_3], R.box b3_1 33 [.string t28_1, .string t28_2, .int .i64 t28_3]]) ?_ (fun hj_2 => ?_)
     ·rintro _ _ ⟨rfl, rfl⟩
      refine Nrm.seq (Tri.cond (b := y112) rfl (fun g_4 => ?_) (fun g_4 => ?_))
      ·replace h := if_tt g_4 h
       refine Tri.seq (Tri.reg (l := [0]) rfl ?_)
       refine F.qn rfl rfl rfl rfl (r_assign rfl) ?_
       refine F.nil (Nrm.seq (Tri.ret ?_))
       refine Rtn.then ?_
       cases h
       exact Rtn.body (.tmp rfl .nil) (fun w hw => ⟨rfl, hw.ext⟩)
      ·replace h := if_ff g_4 h
       refine Tri.skip (Nrm.seq (Tri.seq ?_))
       obtain ⟨⟨t115_1, t115_2⟩, h115, h⟩ := bind_some h
       refine Tri.reg (l := [0, 1, 2, 3, 4, 5, 6]) rfl ?_
       refine F.qn rfl rfl rfl rfl (r_loadA ta33 ti33 rfl rfl (fun w hw => (box_cells (i := 1) rfl w hw))) ?_
       refine F.mn rfl rfl rfl rfl (m_callF (xs := _) rfl ok21 rfl rfl (fun w hw => impl_LogRecords.ok h115 w (Tab.sep ht hw))) ?_
       rintro _ _ ⟨_, ⟨v115_1, S115_1, rfl, hl_v115_1, rfl⟩, rfl⟩
       refine F.qn rfl rfl rfl rfl (r_move rfl) ?_
       refine F.qn rfl rfl rfl rfl (r_extract rfl rfl) ?_
       refine F.qn rfl rfl rfl rfl (r_extract rfl rfl) ?_
       refine F.qn rfl rfl rfl rfl (r_assign rfl) ?_
       refine F.qn rfl rfl rfl rfl (r_assign rfl) ?_
       refine F.nil (Nrm.seq (Tri.seq ?_))
       obtain ⟨⟨t120_1, t120_2⟩, h120, h⟩ := bind_some h
       refine Tri.reg (l := [0, 1, 2, 3, 4, 5, 6]) rfl ?_
       refine F.qn rfl rfl rfl rfl (r_loadA ta33 ti33 rfl rfl (fun w hw => (box_cells (i := 1) rfl w hw))) ?_
       refine F.mn rfl rfl rfl rfl (m_callF (xs := _) rfl ok21 rfl rfl (fun w hw => impl_LogRecords.ok h120 w (Tab.sep ht hw))) ?_
       rintro _ _ ⟨_, ⟨v120_1, S120_1, rfl, hl_v120_1, rfl⟩, rfl⟩
       refine F.qn rfl rfl rfl rfl (r_move rfl) ?_
       refine F.qn rfl rfl rfl rfl (r_extract rfl rfl) ?_
       refine F.qn rfl rfl rfl rfl (r_extract rfl rfl) ?_
       refine F.qn rfl rfl rfl rfl (r_assign rfl) ?_
       refine F.qn rfl rfl rfl rfl (r_assign rfl) ?_
       refine F.nil (Nrm.seq (Tri.seq ?_))
       obtain ⟨y2, hE_3, h⟩ := bind_some h
       refine Tri.cut (fun e' C' => e' = [(2, .bool y2)] ∧ C' = Sep w noM []) ?_ (fun hj_3 => ?_)
       ·rintro _ _ ⟨rfl, rfl⟩
        refine Nrm.seq (Tri.ret ?_)
        cases h
        exact Rtn.body (.tmp rfl .nil) (fun w hw => ⟨rfl, hw.ext⟩)
       ·rcases Bool.eq_false_or_eq_true (decide ((t120_1.length : Int) ≤ (t115_1.length : Int))) with g128 | g128
        ·replace hE_3 := if_tt g128 hE_3
         obtain ⟨t133, h133, hE_3⟩ := bind_some hE_3
         obtain ⟨t134, h134, hE_3⟩ := bind_some hE_3
         rcases Bool.eq_false_or_eq_true (t134) with g136 | g136
         ·replace hE_3 := if_tt g136 hE_3
          rcases Bool.eq_false_or_eq_true (t28_5) with g138 | g138
          ·replace hE_3 := if_tt g138 hE_3
           refine Tri.reg (l := List.range 31) rfl ?_
           refine F.qn rfl rfl rfl rfl (r_move rfl) ?_
           refine F.qn rfl rfl rfl rfl (r_len Tryd.underlying43 rfl hl_v120_1) ?_
           refine F.qn rfl rfl rfl rfl (r_move rfl) ?_
           refine F.qn rfl rfl rfl rfl (r_len Tryd.underlying43 rfl hl_v115_1) ?_
           refine F.qn rfl rfl rfl rfl (r_leq rfl rfl) ?_
           refine F.qn rfl rfl rfl rfl (r_move rfl) ?_
           iterate 3 refine F.qg rfl rfl rfl rfl rfl rfl g128 (r_move rfl) ?_
           refine F.qg rfl rfl rfl rfl rfl rfl g128 (r_len Tryd.underlying43 rfl hl_v120_1) ?_
           refine F.qg rfl rfl rfl rfl rfl rfl g128 (r_sliceH Tryd.underlying43 ti25 rfl (rd_sl (i := 1) rfl) rfl h133) ?_
           refine F.qc rfl rfl rfl (wg rfl rfl rfl g128) (q_callF (xs := _) rfl ok23 rfl rfl (fun w hw => laws_vRecords.ok h134 w ((rd_sl (i := 0) rfl) w hw) ((fun w hw => rd_slc ((rd_sl (i := 1) rfl) w hw) h133) w hw))) ?_
           refine F.qn rfl rfl rfl rfl (r_pick rfl rfl g128) ?_
           refine F.qn rfl rfl rfl rfl (r_move rfl) ?_
           refine F.qg rfl rfl rfl rfl rfl rfl g136 (r_move rfl) ?_
           refine F.qg rfl rfl rfl rfl rfl rfl g136 (r_move rfl) ?_
           iterate 5 refine F.sk rfl rfl rfl (wf rfl rfl rfl g138) ?_
           refine F.qg rfl rfl rfl rfl rfl rfl g136 (r_pick rfl rfl g138) ?_
           refine F.qg rfl rfl rfl rfl rfl rfl g136 (r_move rfl) ?_
           iterate 5 refine F.sk rfl rfl rfl (wf rfl rfl rfl rfl) ?_
           refine F.qg rfl rfl rfl rfl rfl rfl g136 (r_pick rfl rfl rfl) ?_
           refine F.qn rfl rfl rfl rfl (r_pick rfl rfl g136) ?_
           refine F.qn rfl rfl rfl rfl (r_assign rfl) ?_
           refine F.nil ?_
           cases hE_3
           refine Nrm.only [2] rfl ?_
           refine Nrm.pick [] rfl rfl ?_
           exact hj_3 _ _ ⟨rfl, rfl⟩
          ·replace hE_3 := if_ff g138 hE_3
           rcases Bool.eq_false_or_eq_true (decide (t28_4 < (t28_2.size : Int))) with g145 | g145
           ·replace hE_3 := if_tt g145 hE_3
            refine Tri.reg (l := List.range 31) rfl ?_
            refine F.qn rfl rfl rfl rfl (r_move rfl) ?_
            refine F.qn rfl rfl rfl rfl (r_len Tryd.underlying43 rfl hl_v120_1) ?_
            refine F.qn rfl rfl rfl rfl (r_move rfl) ?_
            refine F.qn rfl rfl rfl rfl (r_len Tryd.underlying43 rfl hl_v115_1) ?_
            refine F.qn rfl rfl rfl rfl (r_leq rfl rfl) ?_
            refine F.qn rfl rfl rfl rfl (r_move rfl) ?_
            iterate 3 refine F.qg rfl rfl rfl rfl rfl rfl g128 (r_move rfl) ?_
            refine F.qg rfl rfl rfl rfl rfl rfl g128 (r_len Tryd.underlying43 rfl hl_v120_1) ?_
            refine F.qg rfl rfl rfl rfl rfl rfl g128 (r_sliceH Tryd.underlying43 ti25 rfl (rd_sl (i := 1) rfl) rfl h133) ?_
            refine F.qc rfl rfl rfl (wg rfl rfl rfl g128) (q_callF (xs := _) rfl ok23 rfl rfl (fun w hw => laws_vRecords.ok h134 w ((rd_sl (i := 0) rfl) w hw) ((fun w hw => rd_slc ((rd_sl (i := 1) rfl) w hw) h133) w hw))) ?_
            refine F.qn rfl rfl rfl rfl (r_pick rfl rfl g128) ?_
            refine F.qn rfl rfl rfl rfl (r_move rfl) ?_
            refine F.qg rfl rfl rfl rfl rfl rfl g136 (r_move rfl) ?_
            refine F.qg rfl rfl rfl rfl rfl rfl g136 (r_move rfl) ?_
            refine F.qg rfl rfl rfl rfl rfl rfl g138 (r_move rfl) ?_
            refine F.qg rfl rfl rfl rfl rfl rfl g138 (r_fieldAddr tf33_1 rfl) ?_
            refine F.qg rfl rfl rfl rfl rfl rfl g138 (r_load ta9 rfl (fun w hw => cell_1 (box_cells (i := 3) rfl w hw) rfl)) ?_
            refine F.qg rfl rfl rfl rfl rfl rfl g138 (r_lenS Tryd.underlying9 rfl) ?_
            refine F.qg rfl rfl rfl rfl rfl rfl g138 (r_lss rfl rfl) ?_
            refine F.qg rfl rfl rfl rfl rfl rfl g136 (r_pickf rfl rfl g138) ?_
            refine F.qg rfl rfl rfl rfl rfl rfl g136 (r_move rfl) ?_
            iterate 5 refine F.sk rfl rfl rfl (wf rfl rfl rfl g145) ?_
            refine F.qg rfl rfl rfl rfl rfl rfl g136 (r_pick rfl rfl g145) ?_
            refine F.qn rfl rfl rfl rfl (r_pick rfl rfl g136) ?_
            refine F.qn rfl rfl rfl rfl (r_assign rfl) ?_
            refine F.nil ?_
            cases hE_3
            refine Nrm.only [2] rfl ?_
            refine Nrm.pick [] rfl rfl ?_
            exact hj_3 _ _ ⟨rfl, rfl⟩
           ·replace hE_3 := if_ff g145 hE_3
            refine Tri.reg (l := List.range 31) rfl ?_
            refine F.qn rfl rfl rfl rfl (r_move rfl) ?_
            refine F.qn rfl rfl rfl rfl (r_len Tryd.underlying43 rfl hl_v120_1) ?_
            refine F.qn rfl rfl rfl rfl (r_move rfl) ?_
            refine F.qn rfl rfl rfl rfl (r_len Tryd.underlying43 rfl hl_v115_1) ?_
            refine F.qn rfl rfl rfl rfl (r_leq rfl rfl) ?_
            refine F.qn rfl rfl rfl rfl (r_move rfl) ?_
            iterate 3 refine F.qg rfl rfl rfl rfl rfl rfl g128 (r_move rfl) ?_
            refine F.qg rfl rfl rfl rfl rfl rfl g128 (r_len Tryd.underlying43 rfl hl_v120_1) ?_
            refine F.qg rfl rfl rfl rfl rfl rfl g128 (r_sliceH Tryd.underlying43 ti25 rfl (rd_sl (i := 1) rfl) rfl h133) ?_
            refine F.qc rfl rfl rfl (wg rfl rfl rfl g128) (q_callF (xs := _) rfl ok23 rfl rfl (fun w hw => laws_vRecords.ok h134 w ((rd_sl (i := 0) rfl) w hw) ((fun w hw => rd_slc ((rd_sl (i := 1) rfl) w hw) h133) w hw))) ?_
            refine F.qn rfl rfl rfl rfl (r_pick rfl rfl g128) ?_
            refine F.qn rfl rfl rfl rfl (r_move rfl) ?_
            refine F.qg rfl rfl rfl rfl rfl rfl g136 (r_move rfl) ?_
            refine F.qg rfl rfl rfl rfl rfl rfl g136 (r_move rfl) ?_
            refine F.qg rfl rfl rfl rfl rfl rfl g138 (r_move rfl) ?_
            refine F.qg rfl rfl rfl rfl rfl rfl g138 (r_fieldAddr tf33_1 rfl) ?_
            refine F.qg rfl rfl rfl rfl rfl rfl g138 (r_load ta9 rfl (fun w hw => cell_1 (box_cells (i := 3) rfl w hw) rfl)) ?_
            refine F.qg rfl rfl rfl rfl rfl rfl g138 (r_lenS Tryd.underlying9 rfl) ?_
            refine F.qg rfl rfl rfl rfl rfl rfl g138 (r_lss rfl rfl) ?_
            refine F.qg rfl rfl rfl rfl rfl rfl g136 (r_pickf rfl rfl g138) ?_
            refine F.qg rfl rfl rfl rfl rfl rfl g136 (r_move rfl) ?_
            refine F.qg rfl rfl rfl rfl rfl rfl g145 (r_move rfl) ?_
            refine F.qg rfl rfl rfl rfl rfl rfl g145 (r_len Tryd.underlying43 rfl hl_v120_1) ?_
            refine F.qg rfl rfl rfl rfl rfl rfl g145 (r_move rfl) ?_
            refine F.qg rfl rfl rfl rfl rfl rfl g145 (r_len Tryd.underlying43 rfl hl_v115_1) ?_
            refine F.qg rfl rfl rfl rfl rfl rfl g145 (r_eql rfl rfl) ?_
            refine F.qg rfl rfl rfl rfl rfl rfl g136 (r_pickf rfl rfl g145) ?_
            refine F.qn rfl rfl rfl rfl (r_pick rfl rfl g136) ?_
            refine F.qn rfl rfl rfl rfl (r_assign rfl) ?_
            refine F.nil ?_
            cases hE_3
            refine Nrm.only [2] rfl ?_
            refine Nrm.pick [] rfl rfl ?_
            exact hj_3 _ _ ⟨rfl, rfl⟩
         ·replace hE_3 := if_ff g136 hE_3
          refine Tri.reg (l := List.range 31) rfl ?_
          refine F.qn rfl rfl rfl rfl (r_move rfl) ?_
          refine F.qn rfl rfl rfl rfl (r_len Tryd.underlying43 rfl hl_v120_1) ?_
          refine F.qn rfl rfl rfl rfl (r_move rfl) ?_
          refine F.qn rfl rfl rfl rfl (r_len Tryd.underlying43 rfl hl_v115_1) ?_
          refine F.qn rfl rfl rfl rfl (r_leq rfl rfl) ?_
          refine F.qn rfl rfl rfl rfl (r_move rfl) ?_
          iterate 3 refine F.qg rfl rfl rfl rfl rfl rfl g128 (r_move rfl) ?_
          refine F.qg rfl rfl rfl rfl rfl rfl g128 (r_len Tryd.underlying43 rfl hl_v120_1) ?_
          refine F.qg rfl rfl rfl rfl rfl rfl g128 (r_sliceH Tryd.underlying43 ti25 rfl (rd_sl (i := 1) rfl) rfl h133) ?_
          refine F.qc rfl rfl rfl (wg rfl rfl rfl g128) (q_callF (xs := _) rfl ok23 rfl rfl (fun w hw => laws_vRecords.ok h134 w ((rd_sl (i := 0) rfl) w hw) ((fun w hw => rd_slc ((rd_sl (i := 1) rfl) w hw) h133) w hw))) ?_
          refine F.qn rfl rfl rfl rfl (r_pick rfl rfl g128) ?_
          refine F.qn rfl rfl rfl rfl (r_move rfl) ?_
          refine F.sk rfl rfl rfl (wf rfl rfl rfl g136) ?_
          refine F.sk rfl rfl rfl (wf rfl rfl rfl g136) ?_
          iterate 5 refine F.sk rfl rfl rfl (wanted_undef rfl rfl rfl) ?_
          refine F.sk rfl rfl rfl (wf rfl rfl rfl g136) ?_
          refine F.sk rfl rfl rfl (wf rfl rfl rfl g136) ?_
          iterate 5 refine F.sk rfl rfl rfl (wanted_undef rfl rfl rfl) ?_
          refine F.sk rfl rfl rfl (wf rfl rfl rfl g136) ?_
          refine F.qn rfl rfl rfl rfl (r_pickf rfl rfl g136) ?_
          refine F.qn rfl rfl rfl rfl (r_assign rfl) ?_
          refine F.nil ?_
          cases hE_3
          refine Nrm.only [2] rfl ?_
          refine Nrm.pick [] rfl rfl ?_
          exact hj_3 _ _ ⟨rfl, rfl⟩
        ·replace hE_3 := if_ff g128 hE_3
         refine Tri.reg (l := List.range 31) rfl ?_
         refine F.qn rfl rfl rfl rfl (r_move rfl) ?_
         refine F.qn rfl rfl rfl rfl (r_len Tryd.underlying43 rfl hl_v120_1) ?_
         refine F.qn rfl rfl rfl rfl (r_move rfl) ?_
         refine F.qn rfl rfl rfl rfl (r_len Tryd.underlying43 rfl hl_v115_1) ?_
         refine F.qn rfl rfl rfl rfl (r_leq rfl rfl) ?_
         refine F.qn rfl rfl rfl rfl (r_move rfl) ?_
         iterate 6 refine F.sk rfl rfl rfl (wf rfl rfl rfl g128) ?_
         refine F.qn rfl rfl rfl rfl (r_pickf rfl rfl g128) ?_
         refine F.qn rfl rfl rfl rfl (r_move rfl) ?_
         refine F.sk rfl rfl rfl (wf rfl rfl rfl rfl) ?_
         refine F.sk rfl rfl rfl (wf rfl rfl rfl rfl) ?_
         iterate 5 refine F.sk rfl rfl rfl (wanted_undef rfl rfl rfl) ?_
         refine F.sk rfl rfl rfl (wf rfl rfl rfl rfl) ?_
         refine F.sk rfl rfl rfl (wf rfl rfl rfl rfl) ?_
         iterate 5 refine F.sk rfl rfl rfl (wanted_undef rfl rfl rfl) ?_
         refine F.sk rfl rfl rfl (wf rfl rfl rfl rfl) ?_
         refine F.qn rfl rfl rfl rfl (r_pickf rfl rfl rfl) ?_
         refine F.qn rfl rfl rfl rfl (r_assign rfl) ?_
         refine F.nil ?_
         cases hE_3
         refine Nrm.only [2] rfl ?_
         refine Nrm.pick [] rfl rfl ?_
         exact hj_3 _ _ ⟨rfl, rfl⟩
     ·rcases Bool.eq_false_or_eq_true (!t88_5) with g94 | g94
      ·replace hE_2 := if_tt g94 hE_2
       refine Tri.reg (l := List.range 21) rfl ?_
       refine F.qn rfl rfl rfl rfl (r_move rfl) ?_
       refine F.qn rfl rfl rfl rfl (r_not rfl) ?_
       refine F.qn rfl rfl rfl rfl (r_move rfl) ?_
       iterate 3 refine F.sk rfl rfl rfl (wf rfl rfl rfl g94) ?_
       refine F.qn rfl rfl rfl rfl (r_pick rfl rfl g94) ?_
       refine F.qn rfl rfl rfl rfl (r_move rfl) ?_
       iterate 5 refine F.sk rfl rfl rfl (wf rfl rfl rfl rfl) ?_
       refine F.qn rfl rfl rfl rfl (r_pick rfl rfl rfl) ?_
       refine F.qn rfl rfl rfl rfl (r_move rfl) ?_
       iterate 5 refine F.sk rfl rfl rfl (wf rfl rfl rfl rfl) ?_
       refine F.qn rfl rfl rfl rfl (r_pick rfl rfl rfl) ?_
       refine F.nil ?_
       cases hE_2
       refine Nrm.only [3, 4, 5, 17, 112] rfl ?_
       refine Nrm.pick [0, 1] rfl rfl ?_
       exact hj_2 _ _ ⟨rfl, rfl⟩
      ·replace hE_2 := if_ff g94 hE_2
       obtain ⟨t96, h96, hE_2⟩ := bind_some hE_2
       rcases Bool.eq_false_or_eq_true (!t96) with g99 | g99
       ·replace hE_2 := if_tt g99 hE_2
        refine Tri.reg (l := List.range 21) rfl ?_
        refine F.qn rfl rfl rfl rfl (r_move rfl) ?_
        refine F.qn rfl rfl rfl rfl (r_not rfl) ?_
        refine F.qn rfl rfl rfl rfl (r_move rfl) ?_
        refine F.qg rfl rfl rfl rfl rfl rfl g94 (r_loadA ta33 ti33 rfl rfl (fun w hw => (box_cells (i := 0) rfl w hw))) ?_
        refine F.qc rfl rfl rfl (wg rfl rfl rfl g94) (q_callF (xs := _) rfl ok17 rfl rfl (fun w hw => impl_IsValidLog.ok h96 w (Tab.sep ht hw))) ?_
        refine F.qg rfl rfl rfl rfl rfl rfl g94 (r_not rfl) ?_
        refine F.qn rfl rfl rfl rfl (r_pickf rfl rfl g94) ?_
        refine F.qn rfl rfl rfl rfl (r_move rfl) ?_
        iterate 5 refine F.sk rfl rfl rfl (wf rfl rfl rfl g99) ?_
        refine F.qn rfl rfl rfl rfl (r_pick rfl rfl g99) ?_
        refine F.qn rfl rfl rfl rfl (r_move rfl) ?_
        iterate 5 refine F.sk rfl rfl rfl (wf rfl rfl rfl rfl) ?_
        refine F.qn rfl rfl rfl rfl (r_pick rfl rfl rfl) ?_
        refine F.nil ?_
        cases hE_2
        refine Nrm.only [3, 4, 5, 17, 112] rfl ?_
        refine Nrm.pick [0, 1] rfl rfl ?_
        exact hj_2 _ _ ⟨rfl, rfl⟩
       ·replace hE_2 := if_ff g99 hE_2
        rcases Bool.eq_false_or_eq_true (decide (t88_4 < (t28_1.size : Int))) with g106 | g106
        ·replace hE_2 := if_tt g106 hE_2
         refine Tri.reg (l := List.range 21) rfl ?_
         refine F.qn rfl rfl rfl rfl (r_move rfl) ?_
         refine F.qn rfl rfl rfl rfl (r_not rfl) ?_
         refine F.qn rfl rfl rfl rfl (r_move rfl) ?_
         refine F.qg rfl rfl rfl rfl rfl rfl g94 (r_loadA ta33 ti33 rfl rfl (fun w hw => (box_cells (i := 0) rfl w hw))) ?_
         refine F.qc rfl rfl rfl (wg rfl rfl rfl g94) (q_callF (xs := _) rfl ok17 rfl rfl (fun w hw => impl_IsValidLog.ok h96 w (Tab.sep ht hw))) ?_
         refine F.qg rfl rfl rfl rfl rfl rfl g94 (r_not rfl) ?_
         refine F.qn rfl rfl rfl rfl (r_pickf rfl rfl g94) ?_
         refine F.qn rfl rfl rfl rfl (r_move rfl) ?_
         refine F.qg rfl rfl rfl rfl rfl rfl g99 (r_move rfl) ?_
         refine F.qg rfl rfl rfl rfl rfl rfl g99 (r_fieldAddr tf33_0 rfl) ?_
         refine F.qg rfl rfl rfl rfl rfl rfl g99 (r_load ta9 rfl (fun w hw => cell_1 (box_cells (i := 1) rfl w hw) rfl)) ?_
         refine F.qg rfl rfl rfl rfl rfl rfl g99 (r_lenS Tryd.underlying9 rfl) ?_
         refine F.qg rfl rfl rfl rfl rfl rfl g99 (r_lss rfl rfl) ?_
         refine F.qn rfl rfl rfl rfl (r_pickf rfl rfl g99) ?_
         refine F.qn rfl rfl rfl rfl (r_move rfl) ?_
         iterate 5 refine F.sk rfl rfl rfl (wf rfl rfl rfl g106) ?_
         refine F.qn rfl rfl rfl rfl (r_pick rfl rfl g106) ?_
         refine F.nil ?_
         cases hE_2
         refine Nrm.only [3, 4, 5, 17, 112] rfl ?_
         refine Nrm.pick [0, 1] rfl rfl ?_
         exact hj_2 _ _ ⟨rfl, rfl⟩
        ·replace hE_2 := if_ff g106 hE_2
         refine Tri.reg (l := List.range 21) rfl ?_
         refine F.qn rfl rfl rfl rfl (r_move rfl) ?_
         refine F.qn rfl rfl rfl rfl (r_not rfl) ?_
         refine F.qn rfl rfl rfl rfl (r_move rfl) ?_
         refine F.qg rfl rfl rfl rfl rfl rfl g94 (r_loadA ta33 ti33 rfl rfl (fun w hw => (box_cells (i := 0) rfl w hw))) ?_
         refine F.qc rfl rfl rfl (wg rfl rfl rfl g94) (q_callF (xs := _) rfl ok17 rfl rfl (fun w hw => impl_IsValidLog.ok h96 w (Tab.sep ht hw))) ?_
         refine F.qg rfl rfl rfl rfl rfl rfl g94 (r_not rfl) ?_
         refine F.qn rfl rfl rfl rfl (r_pickf rfl rfl g94) ?_
         refine F.qn rfl rfl rfl rfl (r_move rfl) ?_
         refine F.qg rfl rfl rfl rfl rfl rfl g99 (r_move rfl) ?_
         refine F.qg rfl rfl rfl rfl rfl rfl g99 (r_fieldAddr tf33_0 rfl) ?_
         refine F.qg rfl rfl rfl rfl rfl rfl g99 (r_load ta9 rfl (fun w hw => cell_1 (box_cells (i := 1) rfl w hw) rfl)) ?_
         refine F.qg rfl rfl rfl rfl rfl rfl g99 (r_lenS Tryd.underlying9 rfl) ?_
         refine F.qg rfl rfl rfl rfl rfl rfl g99 (r_lss rfl rfl) ?_
         refine F.qn rfl rfl rfl rfl (r_pickf rfl rfl g99) ?_
         refine F.qn rfl rfl rfl rfl (r_move rfl) ?_
         refine F.qg rfl rfl rfl rfl rfl rfl g106 (r_fieldAddr tf33_0 rfl) ?_
         refine F.qg rfl rfl rfl rfl rfl rfl g106 (r_load ta9 rfl (fun w hw => cell_1 (box_cells (i := 0) rfl w hw) rfl)) ?_
         refine F.qg rfl rfl rfl rfl rfl rfl g106 (r_lenS Tryd.underlying9 rfl) ?_
         refine F.qg rfl rfl rfl rfl rfl rfl g106 (r_move rfl) ?_
         refine F.qg rfl rfl rfl rfl rfl rfl g106 (r_neq rfl rfl) ?_
         refine F.qn rfl rfl rfl rfl (r_pickf rfl rfl g106) ?_
         refine F.nil ?_
         cases hE_2
         refine Nrm.only [3, 4, 5, 17, 112] rfl ?_
         refine Nrm.pick [0, 1] rfl rfl ?_
         exact hj_2 _ _ ⟨rfl, rfl⟩
  ·rcases Bool.eq_false_or_eq_true (!(t36_1.toList == t43_1.toList)) with g64 | g64
   ·replace hE_1 := if_tt g64 hE_1
    refine Tri.reg (l := List.range 23) rfl ?_
    refine F.qn rfl rfl rfl rfl (r_move rfl) ?_
    refine F.qn rfl rfl rfl rfl (r_move rfl) ?_
    refine F.qn rfl rfl rfl rfl (r_neqS rfl rfl) ?_
    refine F.qn rfl rfl rfl rfl (r_move rfl) ?_
    iterate 3 refine F.sk rfl rfl rfl (wf rfl rfl rfl g64) ?_
    refine F.qn rfl rfl rfl rfl (r_pick rfl rfl g64) ?_
    refine F.qn rfl rfl rfl rfl (r_move rfl) ?_
    iterate 3 refine F.sk rfl rfl rfl (wf rfl rfl rfl rfl) ?_
    refine F.qn rfl rfl rfl rfl (r_pick rfl rfl rfl) ?_
    refine F.qn rfl rfl rfl rfl (r_move rfl) ?_
    iterate 3 refine F.sk rfl rfl rfl (wf rfl rfl rfl rfl) ?_
    refine F.qn rfl rfl rfl rfl (r_pick rfl rfl rfl) ?_
    refine F.qn rfl rfl rfl rfl (r_move rfl) ?_
    iterate 3 refine F.sk rfl rfl rfl (wf rfl rfl rfl rfl) ?_
    refine F.qn rfl rfl rfl rfl (r_pick rfl rfl rfl) ?_
    refine F.nil ?_
    cases hE_1
    refine Nrm.only [3, 4, 5, 6, 7, 83] rfl ?_
    refine Nrm.pick [3] rfl rfl ?_
    exact hj_1 _ _ ⟨rfl, rfl⟩
   ·replace hE_1 := if_ff g64 hE_1
    rcases Bool.eq_false_or_eq_true (t36_2 != t43_2) with g69 | g69
    ·replace hE_1 := if_tt g69 hE_1
     refine Tri.reg (l := List.range 23) rfl ?_
     refine F.qn rfl rfl rfl rfl (r_move rfl) ?_
     refine F.qn rfl rfl rfl rfl (r_move rfl) ?_
     refine F.qn rfl rfl rfl rfl (r_neqS rfl rfl) ?_
     refine F.qn rfl rfl rfl rfl (r_move rfl) ?_
     refine F.qg rfl rfl rfl rfl rfl rfl g64 (r_move rfl) ?_
     refine F.qg rfl rfl rfl rfl rfl rfl g64 (r_move rfl) ?_
     refine F.qg rfl rfl rfl rfl rfl rfl g64 (r_neqB Tryd.underlying4 rfl rfl) ?_
     refine F.qn rfl rfl rfl rfl (r_pickf rfl rfl g64) ?_
     refine F.qn rfl rfl rfl rfl (r_move rfl) ?_
     iterate 3 refine F.sk rfl rfl rfl (wf rfl rfl rfl g69) ?_
     refine F.qn rfl rfl rfl rfl (r_pick rfl rfl g69) ?_
     refine F.qn rfl rfl rfl rfl (r_move rfl) ?_
     iterate 3 refine F.sk rfl rfl rfl (wf rfl rfl rfl rfl) ?_
     refine F.qn rfl rfl rfl rfl (r_pick rfl rfl rfl) ?_
     refine F.qn rfl rfl rfl rfl (r_move rfl) ?_
     iterate 3 refine F.sk rfl rfl rfl (wf rfl rfl rfl rfl) ?_
     refine F.qn rfl rfl rfl rfl (r_pick rfl rfl rfl) ?_
     refine F.nil ?_
     cases hE_1
     refine Nrm.only [3, 4, 5, 6, 7, 83] rfl ?_
     refine Nrm.pick [3] rfl rfl ?_
     exact hj_1 _ _ ⟨rfl, rfl⟩
    ·replace hE_1 := if_ff g69 hE_1
     rcases Bool.eq_false_or_eq_true (!(t51_1.toList == t57_1.toList && (t51_2.toList == t57_2.toList && (t51_3 == t57_3 && true)))) with g74 | g74
     ·replace hE_1 := if_tt g74 hE_1
      refine Tri.reg (l := List.range 23) rfl ?_
      refine F.qn rfl rfl rfl rfl (r_move rfl) ?_
      refine F.qn rfl rfl rfl rfl (r_move rfl) ?_
      refine F.qn rfl rfl rfl rfl (r_neqS rfl rfl) ?_
      refine F.qn rfl rfl rfl rfl (r_move rfl) ?_
      refine F.qg rfl rfl rfl rfl rfl rfl g64 (r_move rfl) ?_
      refine F.qg rfl rfl rfl rfl rfl rfl g64 (r_move rfl) ?_
      refine F.qg rfl rfl rfl rfl rfl rfl g64 (r_neqB Tryd.underlying4 rfl rfl) ?_
      refine F.qn rfl rfl rfl rfl (r_pickf rfl rfl g64) ?_
      refine F.qn rfl rfl rfl rfl (r_move rfl) ?_
      refine F.qg rfl rfl rfl rfl rfl rfl g69 (r_loadA ta33 ti33 rfl rfl (fun w hw => (box_cells (i := 1) rfl w hw))) ?_
      refine F.qg rfl rfl rfl rfl rfl rfl g69 (r_loadA ta33 ti33 rfl rfl (fun w hw => (box_cells (i := 0) rfl w hw))) ?_
      refine F.qg rfl rfl rfl rfl rfl rfl g69 (r_neqSt (by kernel_rfl) (by kernel_rfl) (by kernel_rfl) rfl rfl sq33) ?_
      refine F.qn rfl rfl rfl rfl (r_pickf rfl rfl g69) ?_
      refine F.qn rfl rfl rfl rfl (r_move rfl) ?_
      iterate 3 refine F.sk rfl rfl rfl (wf rfl rfl rfl g74) ?_
      refine F.qn rfl rfl rfl rfl (r_pick rfl rfl g74) ?_
      refine F.qn rfl rfl rfl rfl (r_move rfl) ?_
      iterate 3 refine F.sk rfl rfl rfl (wf rfl rfl rfl rfl) ?_
      refine F.qn rfl rfl rfl rfl (r_pick rfl rfl rfl) ?_
      refine F.nil ?_
      cases hE_1
      refine Nrm.only [3, 4, 5, 6, 7, 83] rfl ?_
      refine Nrm.pick [3] rfl rfl ?_
      exact hj_1 _ _ ⟨rfl, rfl⟩
     ·replace hE_1 := if_ff g74 hE_1
      rcases Bool.eq_false_or_eq_true (t51_4 != t57_4) with g79 | g79
      ·replace hE_1 := if_tt g79 hE_1
       refine Tri.reg (l := List.range 23) rfl ?_
       refine F.qn rfl rfl rfl rfl (r_move rfl) ?_
       refine F.qn rfl rfl rfl rfl (r_move rfl) ?_
       refine F.qn rfl rfl rfl rfl (r_neqS rfl rfl) ?_
       refine F.qn rfl rfl rfl rfl (r_move rfl) ?_
       refine F.qg rfl rfl rfl rfl rfl rfl g64 (r_move rfl) ?_
       refine F.qg rfl rfl rfl rfl rfl rfl g64 (r_move rfl) ?_
       refine F.qg rfl rfl rfl rfl rfl rfl g64 (r_neqB Tryd.underlying4 rfl rfl) ?_
       refine F.qn rfl rfl rfl rfl (r_pickf rfl rfl g64) ?_
       refine F.qn rfl rfl rfl rfl (r_move rfl) ?_
       refine F.qg rfl rfl rfl rfl rfl rfl g69 (r_loadA ta33 ti33 rfl rfl (fun w hw => (box_cells (i := 1) rfl w hw))) ?_
       refine F.qg rfl rfl rfl rfl rfl rfl g69 (r_loadA ta33 ti33 rfl rfl (fun w hw => (box_cells (i := 0) rfl w hw))) ?_
       refine F.qg rfl rfl rfl rfl rfl rfl g69 (r_neqSt (by kernel_rfl) (by kernel_rfl) (by kernel_rfl) rfl rfl sq33) ?_
       refine F.qn rfl rfl rfl rfl (r_pickf rfl rfl g69) ?_
       refine F.qn rfl rfl rfl rfl (r_move rfl) ?_
       refine F.qg rfl rfl rfl rfl rfl rfl g74 (r_move rfl) ?_
       refine F.qg rfl rfl rfl rfl rfl rfl g74 (r_move rfl) ?_
       refine F.qg rfl rfl rfl rfl rfl rfl g74 (r_neq rfl rfl) ?_
       refine F.qn rfl rfl rfl rfl (r_pickf rfl rfl g74) ?_
       refine F.qn rfl rfl rfl rfl (r_move rfl) ?_
       iterate 3 refine F.sk rfl rfl rfl (wf rfl rfl rfl g79) ?_
       refine F.qn rfl rfl rfl rfl (r_pick rfl rfl g79) ?_
       refine F.nil ?_
       cases hE_1
       refine Nrm.only [3, 4, 5, 6, 7, 83] rfl ?_
       refine Nrm.pick [3] rfl rfl ?_
       exact hj_1 _ _ ⟨rfl, rfl⟩
      ·replace hE_1 := if_ff g79 hE_1
       refine Tri.reg (l := List.range 23) rfl ?_
       refine F.qn rfl rfl rfl rfl (r_move rfl) ?_
       refine F.qn rfl rfl rfl rfl (r_move rfl) ?_
       refine F.qn rfl rfl rfl rfl (r_neqS rfl rfl) ?_
       refine F.qn rfl rfl rfl rfl (r_move rfl) ?_
       refine F.qg rfl rfl rfl rfl rfl rfl g64 (r_move rfl) ?_
       refine F.qg rfl rfl rfl rfl rfl rfl g64 (r_move rfl) ?_
       refine F.qg rfl rfl rfl rfl rfl rfl g64 (r_neqB Tryd.underlying4 rfl rfl) ?_
       refine F.qn rfl rfl rfl rfl (r_pickf rfl rfl g64) ?_
       refine F.qn rfl rfl rfl rfl (r_move rfl) ?_
       refine F.qg rfl rfl rfl rfl rfl rfl g69 (r_loadA ta33 ti33 rfl rfl (fun w hw => (box_cells (i := 1) rfl w hw))) ?_
       refine F.qg rfl rfl rfl rfl rfl rfl g69 (r_loadA ta33 ti33 rfl rfl (fun w hw => (box_cells (i := 0) rfl w hw))) ?_
       refine F.qg rfl rfl rfl rfl rfl rfl g69 (r_neqSt (by kernel_rfl) (by kernel_rfl) (by kernel_rfl) rfl rfl sq33) ?_
       refine F.qn rfl rfl rfl rfl (r_pickf rfl rfl g69) ?_
       refine F.qn rfl rfl rfl rfl (r_move rfl) ?_
       refine F.qg rfl rfl rfl rfl rfl rfl g74 (r_move rfl) ?_
       refine F.qg rfl rfl rfl rfl rfl rfl g74 (r_move rfl) ?_
       refine F.qg rfl rfl rfl rfl rfl rfl g74 (r_neq rfl rfl) ?_
       refine F.qn rfl rfl rfl rfl (r_pickf rfl rfl g74) ?_
       refine F.qn rfl rfl rfl rfl (r_move rfl) ?_
       refine F.qg rfl rfl rfl rfl rfl rfl g79 (r_move rfl) ?_
       refine F.qg rfl rfl rfl rfl rfl rfl g79 (r_move rfl) ?_
       refine F.qg rfl rfl rfl rfl rfl rfl g79 (r_neqB Tryd.underlying4 rfl rfl) ?_
       refine F.qn rfl rfl rfl rfl (r_pickf rfl rfl g79) ?_
       refine F.nil ?_
       cases hE_1
       refine Nrm.only [3, 4, 5, 6, 7, 83] rfl ?_
       refine Nrm.pick [3] rfl rfl ?_
       exact hj_1 _ _ ⟨rfl, rfl⟩


def impl_EncodeRecord.f (k : Nat) (a0 : Int) (a1_0 : ByteArray) (a1_1 : ByteArray) : Option (ByteArray × Bool) := ((impl_within.f k a0 0 59).bind fun t9 => (if (!t9) = true then some true else (impl_IsValidRecord.f k a1_0 a1_1).bind fun t13 => some (!t13))).bind fun y15 => (if y15 = true then some (ByteArray.empty, false) else (strconv_Itoa.f k a0).bind fun t18 => if (t18 ++ (ByteArray.mk #[32])).size < 4611686018427387904 then if ((t18 ++ (ByteArray.mk #[32])) ++ a1_0).size < 4611686018427387904 then if (((t18 ++ (ByteArray.mk #[32])) ++ a1_0) ++ (ByteArray.mk #[64])).size < 4611686018427387904 then if ((((t18 ++ (ByteArray.mk #[32])) ++ a1_0) ++ (ByteArray.mk #[64])) ++ a1_1).size < 4611686018427387904 then (impl_AppendChecksum.f k ((((t18 ++ (ByteArray.mk #[32])) ++ a1_0) ++ (ByteArray.mk #[64])) ++ a1_1)).bind fun (t27_1, t27_2) => (if (!t27_2) = true then some (ByteArray.empty, false) else if (t27_1 ++ (ByteArray.mk #[10])).size < 4611686018427387904 then some (t27_1 ++ (ByteArray.mk #[10]), true) else none) else none else none else none else none)


def impl_AppendRecord.f (k : Nat) (a0_0 : ByteArray) (a0_1 : ByteArray) (a0_2 : Int) (a1_0 : ByteArray) (a1_1 : ByteArray) : Option (ByteArray × ByteArray × Int × Int) := ((impl_IsValidLog.f k a0_0 a0_1 a0_2).bind fun t10 => (if (!t10) = true then some true else (impl_IsValidRecord.f k a1_0 a1_1).bind fun t14 => some (!t14))).bind fun y8 => (if y8 = true then some (a0_0, a0_1, a0_2, 1) else (if (a0_2 == 60) = true then some (a0_0, a0_1, a0_2, 2) else (impl_EncodeRecord.f k a0_2 a1_0 a1_1).bind fun (t27_1, t27_2) => if (a0_1 ++ t27_1).size < 4611686018427387904 then some (a0_0, a0_1 ++ t27_1, w64 (a0_2 + 1), 0) else none))


def impl_SyncLog.f (k : Nat) (a0_0 : ByteArray) (a0_1 : ByteArray) (a0_2 : Int) : Option (ByteArray × ByteArray × Int × Bool) := (impl_IsValidLog.f k a0_0 a0_1 a0_2).bind fun t5 => (if (!t5) = true then some (ByteArray.empty, ByteArray.empty, 0, false) else if (a0_0 ++ a0_1).size < 4611686018427387904 then some (a0_0 ++ a0_1, ByteArray.empty, a0_2, true) else none)


def spec_LogRecords.f (k : Nat) (a0_0 : ByteArray) (a0_1 : ByteArray) (a0_2 : Int) : Option ((List (ByteArray × ByteArray)) × Bool) := (spec_l12Valid.f k a0_0 a0_1 a0_2).bind fun t7 => (if (!t7) = true then some (([] : List (ByteArray × ByteArray)), false) else if (a0_0 ++ a0_1).size < 4611686018427387904 then (spec_l12Open.f k (a0_0 ++ a0_1)).bind fun (t16_1, t16_2) => some (t16_1, true) else none)

end Go.Proofs
