/- A part of the proof of FnLogs: what the functions of the program compute, walked on the model. No condition. -/
import Derived.Test.YtebbaacgalipaaaDoorFnLogsC
set_option linter.unusedSimpArgs false
/- (*loop.example/g01158/spec.l1Cur).log12 -/
namespace Go.Proofs
open Go Go.Ga
set_option linter.unusedVariables false
set_option maxRecDepth 100000
set_option maxHeartbeats 4000000
def spec_l1Cur_log12.l0 (k : Nat) (a0_0 : List By) : Nat → Int → Int → Int → ByteArray → ByteArray → Int → Option (ByteArray × ByteArray × Int × Int × Int)
 | 0, _, _, _, _, _, _ => none
 | n + 1, x4, xpa0_1, xpa0_2, xb3_1_0, xb3_1_1, xb3_1_2 => (if (decide (x4 > 0)) = true then ((spec_l1Cur_logRecord.f k a0_0 xpa0_1 xpa0_2).bind fun (t15_1, t15_2, t15_3, t15_4) => (spec_AppendRecord.f k xb3_1_0 xb3_1_1 xb3_1_2 t15_1 t15_2).bind fun (t16_1, t16_2, t16_3, t16_4) => some (t15_3, t15_4, t16_1, t16_2, t16_3)).bind fun (ypa0_1, ypa0_2, yb3_1_0, yb3_1_1, yb3_1_2) => (spec_l1Cur_one.f k a0_0 ypa0_1 ypa0_2 4).bind fun (t20_1, t20_2, t20_3) => ((if t20_1 = true then (spec_SyncLog.f k yb3_1_0 yb3_1_1 yb3_1_2).bind fun (t23_1, t23_2, t23_3, t23_4) => some (t23_1, t23_2, t23_3) else some (yb3_1_0, yb3_1_1, yb3_1_2))).bind fun (yb3_1_0r, yb3_1_1r, yb3_1_2r) => spec_l1Cur_log12.l0 k a0_0 n (w64 (x4 - 1)) t20_2 t20_3 yb3_1_0r yb3_1_1r yb3_1_2r else some (xb3_1_0, xb3_1_1, xb3_1_2, xpa0_1, xpa0_2))

def spec_l1Cur_log12.f (k : Nat) (a0_0 : List By) (a0_1 : Int) (a0_2 : Int) : Option (ByteArray × ByteArray × Int × Int × Int) := (spec_l1Cur_pick.f k a0_0 a0_1 a0_2 7).bind fun (t7_1, t7_2, t7_3) => (spec_l1Cur_log12.l0 k a0_0 k t7_1 t7_2 t7_3 ByteArray.empty ByteArray.empty 0).bind fun (xb3_1_0, xb3_1_1, xb3_1_2, xpa0_1, xpa0_2) => some (xb3_1_0, xb3_1_1, xb3_1_2, xpa0_1, xpa0_2)

theorem spec_l1Cur_log12.ok {k : Nat}  {a0_0 : List By} {a0_1 : Int} {a0_2 : Int} {r0 : ByteArray} {r1 : ByteArray} {r2 : Int} {r3 : Int} {r4 : Int} (h : spec_l1Cur_log12.f k a0_0 a0_1 a0_2 = some (r0, r1, r2, r3, r4)) (w : World) {pa0 : Nat} {va0_0 : Value} (hr_a0_0 : RdM w (footM [R.box pa0 55 [va0_0, .int .i64 a0_1, .int .u64 a0_2]]) va0_0 a0_0) (hw0 : Sep w (footM [R.box pa0 55 [va0_0, .int .i64 a0_1, .int .u64 a0_2]]) [R.box pa0 55 [va0_0, .int .i64 a0_1, .int .u64 a0_2]] w) :
  Calls Tryd.prog 47 ([.pointer (some ⟨pa0, 0, none⟩)] : List Value).toArray w (PostM (footM [R.box pa0 55 [va0_0, .int .i64 a0_1, .int .u64 a0_2]]) (fun u ns => u = .agg [.string r0, .string r1, .int .i64 r2].toArray ∧ ns = [R.box pa0 55 [va0_0, .int .i64 r3, .int .u64 r4]]) w) := by
 unfold spec_l1Cur_log12.f at h
 have hl_va0_0 := hr_a0_0.len
 refine Calls.of_tri (N := 27) Tryd.func47 rfl rfl rfl hw0 ?_
 refine Tri.seq (Tri.reg (l := [0]) rfl ?_)
 refine F.mn rfl rfl rfl rfl (m_alloc ti33) ?_
 rintro _ _ ⟨b2_1, rfl, rfl⟩
 refine F.nil (Nrm.seq (Tri.seq (Tri.reg (l := [0, 1, 2]) rfl ?_)))
 refine F.qn rfl rfl rfl rfl (r_build (pl := [(0, 1), (1, 1), (2, 1)]) (qs := []) (cs := [.string ByteArray.empty, .string ByteArray.empty, .int .i64 0]) (by kernel_rfl) ti33 rfl .nil rfl rfl) ?_
 refine F.mn rfl rfl rfl rfl (m_alloc ti33) ?_
 rintro _ _ ⟨b3_1, rfl, rfl⟩
 refine F.ef0 rfl rfl (wanted_none rfl) (d_storeG0 (i := 0) (cs2 := [.string ByteArray.empty, .string ByteArray.empty, .int .i64 0]) ti33 rfl rfl rfl rfl rfl (Nat.le_of_ble_eq_true rfl) (lf_cons rfl (lf_cons rfl (lf_cons rfl lf_nil)))) ?_
 rintro _ _ ⟨rfl, rfl⟩
 refine F.nil (Nrm.seq (Tri.seq (Tri.seq ?_)))
 obtain ⟨⟨t7_1, t7_2, t7_3⟩, h7, h⟩ := bind_some h
 refine Tri.reg (l := [0, 1, 2]) rfl ?_
 refine F.qn rfl rfl rfl rfl (r_move rfl) ?_
 refine F.efn rfl rfl rfl rfl (d_callM (xs := _) (cs := [R.box pa0 55 [va0_0, .int .i64 a0_1, .int .u64 a0_2]]) (rest := [R.box b3_1 33 [.string ByteArray.empty, .string ByteArray.empty, .int .i64 0], R.box b2_1 33 [.string ByteArray.empty, .string ByteArray.empty, .int .i64 0]]) [2] [0, 1] rfl ok40 rfl rfl rfl rfl (fun w hw => spec_l1Cur_pick.ok h7 w (hr_a0_0.down hw) (Sep.sub hw))) ?_
 rintro _ _ ⟨_, ⟨rfl, rfl⟩, rfl⟩
 refine F.qn rfl rfl rfl rfl (r_assign rfl) ?_
 refine F.nil (Nrm.seq ?_)
 obtain ⟨⟨xb3_1_0, xb3_1_1, xb3_1_2, xpa0_1, xpa0_2⟩, hE_1, h⟩ := bind_some h
 refine Tri.block ?_
 refine Tri.only [0, 2, 3, 4] rfl ?_
 refine Tri.pick [0, 1, 2] rfl rfl ?_
 refine Tri.rounds (fun n e' C' => ∃ (x4' : Int) (xpa0_1' : Int) (xpa0_2' : Int) (xb3_1_0' : ByteArray) (xb3_1_1' : ByteArray) (xb3_1_2' : Int), spec_l1Cur_log12.l0 k a0_0 n x4' xpa0_1' xpa0_2' xb3_1_0' xb3_1_1' xb3_1_2' = some (xb3_1_0, xb3_1_1, xb3_1_2, xpa0_1, xpa0_2) ∧ e' = [(0, .pointer (some ⟨pa0, 0, none⟩)), (2, .pointer (some ⟨b2_1, 0, none⟩)), (3, .pointer (some ⟨b3_1, 0, none⟩)), (4, .int .i64 x4')] ∧ C' = Sep w (footM [R.box pa0 55 [va0_0, .int .i64 a0_1, .int .u64 a0_2]]) [R.box pa0 55 [va0_0, .int .i64 xpa0_1', .int .u64 xpa0_2'], R.box b3_1 33 [.string xb3_1_0', .string xb3_1_1', .int .i64 xb3_1_2'], R.box b2_1 33 [.string ByteArray.empty, .string ByteArray.empty, .int .i64 0]]) k ?_ ?_ ?_
 ·exact ⟨t7_1, t7_2, t7_3, ByteArray.empty, ByteArray.empty, 0, hE_1, rfl, rfl⟩
 ·rintro _ _ ⟨_, _, _, _, _, _, hE_1, _⟩
  rw [spec_l1Cur_log12.l0.eq_1] at hE_1; cases hE_1
 ·rintro n_1 _ _ ⟨x4, xpa0_1, xpa0_2, xb3_1_0, xb3_1_1, xb3_1_2, hE_1, rfl, rfl⟩ ih_1
  rw [spec_l1Cur_log12.l0.eq_2] at hE_1
  refine Tri.seq (Tri.seq (Tri.reg (l := [0, 1]) rfl ?_))
  refine F.qn rfl rfl rfl rfl (r_move rfl) ?_
  refine F.qn rfl rfl rfl rfl (r_gtr rfl rfl) ?_
  refine F.nil (Nrm.seq (Tri.cond (b := decide (x4 > 0)) rfl (fun g_1 => ?_) (fun g_1 => ?_)))
  ·replace hE_1 := if_tt g_1 hE_1
   refine Tri.skip (Nrm.seq (Tri.seq (Tri.block ?_)))
   refine Tri.seq ?_
   obtain ⟨⟨ypa0_1, ypa0_2, yb3_1_0, yb3_1_1, yb3_1_2⟩, hE_2, hE_1⟩ := bind_some hE_1
   refine Tri.cut (fun e' C' => e' = [(0, .pointer (some ⟨pa0, 0, none⟩)), (2, .pointer (some ⟨b2_1, 0, none⟩)), (3, .pointer (some ⟨b3_1, 0, none⟩)), (4, .int .i64 x4)] ∧ C' = Sep w (footM [R.box pa0 55 [va0_0, .int .i64 a0_1, .int .u64 a0_2]]) [R.box pa0 55 [va0_0, .int .i64 ypa0_1, .int .u64 ypa0_2], R.box b3_1 33 [.string yb3_1_0, .string yb3_1_1, .int .i64 yb3_1_2], R.box b2_1 33 [.string ByteArray.empty, .string ByteArray.empty, .int .i64 0]]) ?_ (fun hj_1 => ?_)
   ·rintro _ _ ⟨rfl, rfl⟩
    refine Nrm.seq (Tri.seq ?_)
    obtain ⟨⟨t20_1, t20_2, t20_3⟩, h20, hE_1⟩ := bind_some hE_1
    refine Tri.reg (l := [0, 1]) rfl ?_
    refine F.qn rfl rfl rfl rfl (r_move rfl) ?_
    refine F.efn rfl rfl rfl rfl (d_callM (xs := _) (cs := [R.box pa0 55 [va0_0, .int .i64 ypa0_1, .int .u64 ypa0_2]]) (rest := [R.box b3_1 33 [.string yb3_1_0, .string yb3_1_1, .int .i64 yb3_1_2], R.box b2_1 33 [.string ByteArray.empty, .string ByteArray.empty, .int .i64 0]]) [0] [1, 2] rfl ok39 rfl rfl rfl rfl (fun w hw => spec_l1Cur_one.ok h20 w (hr_a0_0.down hw) (Sep.sub hw))) ?_
    rintro _ _ ⟨_, ⟨rfl, rfl⟩, rfl⟩
    refine F.nil (Nrm.seq ?_)
    obtain ⟨⟨yb3_1_0r, yb3_1_1r, yb3_1_2r⟩, hE_3, hE_1⟩ := bind_some hE_1
    refine Tri.cut (fun e' C' => e' = [(0, .pointer (some ⟨pa0, 0, none⟩)), (2, .pointer (some ⟨b2_1, 0, none⟩)), (3, .pointer (some ⟨b3_1, 0, none⟩)), (4, .int .i64 x4)] ∧ C' = Sep w (footM [R.box pa0 55 [va0_0, .int .i64 a0_1, .int .u64 a0_2]]) [R.box pa0 55 [va0_0, .int .i64 t20_2, .int .u64 t20_3], R.box b3_1 33 [.string yb3_1_0r, .string yb3_1_1r, .int .i64 yb3_1_2r], R.box b2_1 33 [.string ByteArray.empty, .string ByteArray.empty, .int .i64 0]]) ?_ (fun hj_2 => ?_)
    ·rintro _ _ ⟨rfl, rfl⟩
     refine Nrm.block ?_
     refine Nrm.seq (Tri.reg (l := [0, 1, 2]) rfl ?_)
     refine F.qn rfl rfl rfl rfl (r_move rfl) ?_
     refine F.qn rfl rfl rfl rfl (r_sub rfl rfl) ?_
     refine F.qn rfl rfl rfl rfl (r_assign rfl) ?_
     refine F.nil (Nrm.round ?_)
     refine Rnd.only [0, 2, 3, 4] rfl ?_
     refine Rnd.pick [0, 1, 2] rfl rfl ?_
     exact ih_1 _ _ ⟨w64 (x4 - 1), t20_2, t20_3, yb3_1_0r, yb3_1_1r, yb3_1_2r, hE_1, rfl, rfl⟩
    ·refine Tri.cond (b := t20_1) rfl (fun g_2 => ?_) (fun g_2 => ?_)
     ·replace hE_3 := if_tt g_2 hE_3
      obtain ⟨⟨t23_1, t23_2, t23_3, t23_4⟩, h23, hE_3⟩ := bind_some hE_3
      refine Tri.reg (l := [0, 1, 2, 3, 4, 5]) rfl ?_
      refine F.qn rfl rfl rfl rfl (r_loadA ta33 ti33 rfl rfl (fun w hw => (box_cells (i := 1) rfl w hw))) ?_
      refine F.qcn rfl rfl rfl rfl (q_callF (xs := _) rfl ok20 rfl rfl (fun w hw => spec_SyncLog.ok h23 w )) ?_
      refine F.qn rfl rfl rfl rfl (r_move rfl) ?_
      refine F.qn rfl rfl rfl rfl (r_extract rfl rfl) ?_
      refine F.qn rfl rfl rfl rfl (r_extract rfl rfl) ?_
      refine F.ef0 rfl rfl (wanted_none rfl) (d_storeG0 (i := 1) (cs2 := [.string t23_1, .string t23_2, .int .i64 t23_3]) ti33 rfl rfl rfl rfl rfl (Nat.le_of_ble_eq_true rfl) (lf_cons rfl (lf_cons rfl (lf_cons rfl lf_nil)))) ?_
      rintro _ _ ⟨rfl, rfl⟩
      refine F.nil ?_
      cases hE_3
      refine Nrm.only [0, 2, 3, 4] rfl ?_
      refine Nrm.pick [0, 1, 2] rfl rfl ?_
      exact hj_2 _ _ ⟨rfl, rfl⟩
     ·replace hE_3 := if_ff g_2 hE_3
      refine Tri.skip ?_
      cases hE_3
      refine Nrm.only [0, 2, 3, 4] rfl ?_
      refine Nrm.pick [0, 1, 2] rfl rfl ?_
      exact hj_2 _ _ ⟨rfl, rfl⟩
   ·obtain ⟨⟨t15_1, t15_2, t15_3, t15_4⟩, h15, hE_2⟩ := bind_some hE_2
    obtain ⟨⟨t16_1, t16_2, t16_3, t16_4⟩, h16, hE_2⟩ := bind_some hE_2
    refine Tri.drawTK (B := Sep w (footM [R.box pa0 55 [va0_0, .int .i64 a0_1, .int .u64 a0_2]]) [R.box b2_1 33 [.string ByteArray.empty, .string ByteArray.empty, .int .i64 0]]) mixedT Sep.up [1, 0, 2, 3, 4, 5, 6, 7] [] (.q 1 (.alt 0 (.alt 2 (.q 3 (.q 4 (.q 5 (.q 6 (.alt 7 .nil .stop))))) .stop) (.alt 2 (.alt 0 (.q 3 (.q 4 (.q 5 (.q 6 (.alt 7 .nil .stop))))) .stop) .stop))) (by kernel_rfl) ?_
    refine TK.q [2] rfl rfl rfl rfl rfl (wanted_none rfl) (r_move rfl) ?_
    refine T.ef rfl rfl rfl (wanted_none rfl) (Runs.does (r_loadA ta33 ti33 rfl rfl (fun w hw => (box_cells (i := 1) rfl w hw)))) (by rintro _ _ ⟨rfl, rfl⟩; exact upd rfl [2] rfl rfl) ?_ ?_
    ·rintro _ _ ⟨rfl, rfl⟩
     refine T.ef rfl rfl rfl (wanted_none rfl) (d_callM (xs := _) (cs := [R.box pa0 55 [va0_0, .int .i64 xpa0_1, .int .u64 xpa0_2]]) (rest := [R.box b3_1 33 [.string xb3_1_0, .string xb3_1_1, .int .i64 xb3_1_2], R.box b2_1 33 [.string ByteArray.empty, .string ByteArray.empty, .int .i64 0]]) [0] [1, 2] rfl ok30 rfl rfl rfl rfl (fun w hw => spec_l1Cur_logRecord.ok h15 w (hr_a0_0.down hw) (Sep.sub hw))) (by rintro _ _ ⟨_, ⟨rfl, rfl⟩, rfl⟩; exact upd rfl [2] rfl rfl) ?_ ?_
     ·rintro _ _ ⟨_, ⟨rfl, rfl⟩, rfl⟩
      refine TK.qc [2] rfl rfl rfl rfl rfl (wanted_none rfl) (q_callF (xs := _) rfl ok14 rfl rfl (fun w hw => spec_AppendRecord.ok h16 w )) ?_
      refine TK.q [2] rfl rfl rfl rfl rfl (wanted_none rfl) (r_move rfl) ?_
      refine TK.q [2] rfl rfl rfl rfl rfl (wanted_none rfl) (r_extract rfl rfl) ?_
      refine TK.q [2] rfl rfl rfl rfl rfl (wanted_none rfl) (r_extract rfl rfl) ?_
      refine T.ef0 rfl rfl (wanted_none rfl) (d_storeG0 (i := 1) (cs2 := [.string t16_1, .string t16_2, .int .i64 t16_3]) ti33 rfl rfl rfl rfl rfl (Nat.le_of_ble_eq_true rfl) (lf_cons rfl (lf_cons rfl (lf_cons rfl lf_nil)))) (by rintro _ _ ⟨rfl, rfl⟩; exact upd rfl [2] rfl rfl) ?_ ?_
      ·rintro _ _ ⟨rfl, rfl⟩
       refine T.nil ?_
       refine F.nil ?_
       cases hE_2
       refine Nrm.only [0, 2, 3, 4] rfl ?_
       refine Nrm.pick [0, 1, 2] rfl rfl ?_
       exact hj_1 _ _ ⟨rfl, rfl⟩
      exact T.stop
     exact T.stop
    ·refine T.ef rfl rfl rfl (wanted_none rfl) (d_callM (xs := _) (cs := [R.box pa0 55 [va0_0, .int .i64 xpa0_1, .int .u64 xpa0_2]]) (rest := [R.box b3_1 33 [.string xb3_1_0, .string xb3_1_1, .int .i64 xb3_1_2], R.box b2_1 33 [.string ByteArray.empty, .string ByteArray.empty, .int .i64 0]]) [0] [1, 2] rfl ok30 rfl rfl rfl rfl (fun w hw => spec_l1Cur_logRecord.ok h15 w (hr_a0_0.down hw) (Sep.sub hw))) (by rintro _ _ ⟨_, ⟨rfl, rfl⟩, rfl⟩; exact upd rfl [2] rfl rfl) ?_ ?_
     ·rintro _ _ ⟨_, ⟨rfl, rfl⟩, rfl⟩
      refine T.ef rfl rfl rfl (wanted_none rfl) (Runs.does (r_loadA ta33 ti33 rfl rfl (fun w hw => (box_cells (i := 1) rfl w hw)))) (by rintro _ _ ⟨rfl, rfl⟩; exact upd rfl [2] rfl rfl) ?_ ?_
      ·rintro _ _ ⟨rfl, rfl⟩
       refine TK.qc [2] rfl rfl rfl rfl rfl (wanted_none rfl) (q_callF (xs := _) rfl ok14 rfl rfl (fun w hw => spec_AppendRecord.ok h16 w )) ?_
       refine TK.q [2] rfl rfl rfl rfl rfl (wanted_none rfl) (r_move rfl) ?_
       refine TK.q [2] rfl rfl rfl rfl rfl (wanted_none rfl) (r_extract rfl rfl) ?_
       refine TK.q [2] rfl rfl rfl rfl rfl (wanted_none rfl) (r_extract rfl rfl) ?_
       refine T.ef0 rfl rfl (wanted_none rfl) (d_storeG0 (i := 1) (cs2 := [.string t16_1, .string t16_2, .int .i64 t16_3]) ti33 rfl rfl rfl rfl rfl (Nat.le_of_ble_eq_true rfl) (lf_cons rfl (lf_cons rfl (lf_cons rfl lf_nil)))) (by rintro _ _ ⟨rfl, rfl⟩; exact upd rfl [2] rfl rfl) ?_ ?_
       ·rintro _ _ ⟨rfl, rfl⟩
        refine T.nil ?_
        refine F.nil ?_
        cases hE_2
        refine Nrm.only [0, 2, 3, 4] rfl ?_
        refine Nrm.pick [0, 1, 2] rfl rfl ?_
        exact hj_1 _ _ ⟨rfl, rfl⟩
       exact T.stop
      exact T.stop
     exact T.stop
  ·replace hE_1 := if_ff g_1 hE_1
   refine Tri.exit ?_
   refine Exi.then ?_
   refine Exi.then ?_
   refine Exi.same ?_
   cases hE_1
   refine Nrm.seq (Tri.seq (Tri.reg (l := [0, 1]) rfl ?_))
   refine F.qn rfl rfl rfl rfl (r_loadA ta33 ti33 rfl rfl (fun w hw => (box_cells (i := 1) rfl w hw))) ?_
   refine F.ef0 rfl rfl (wanted_none rfl) (d_storeG0 (i := 2) (cs2 := [.string xb3_1_0, .string xb3_1_1, .int .i64 xb3_1_2]) ti33 rfl rfl rfl rfl rfl (Nat.le_of_ble_eq_true rfl) (lf_cons rfl (lf_cons rfl (lf_cons rfl lf_nil)))) ?_
   rintro _ _ ⟨rfl, rfl⟩
   refine F.nil (Nrm.seq (Tri.ret ?_))
   cases h
   exact Rtn.body (.cell rfl ta33 ti33 rfl (fun _ hw => box_cells (i := 2) rfl _ hw) .nil) (fun w hw => ⟨_, _, rfl, ⟨rfl, rfl⟩, Sep.pick (is := [0]) rfl rfl hw⟩)


def spec_l1Cur_spoilt.f (k : Nat) (a0_0 : List By) (a0_1 : Int) (a0_2 : Int) (a1 : ByteArray) (a2 : ByteArray) : Option (ByteArray × Int × Int) := (if (a1.toList == ByteArray.empty.toList) = true then (scut a2 0 1).bind fun t12 => some (t12, a0_1, a0_2) else (spec_l1Cur_pick.f k a0_0 a0_1 a0_2 (a1.size : Int)).bind fun (t16_1, t16_2, t16_3) => (spec_l1Cur_pick.f k a0_0 t16_2 t16_3 (a2.size : Int)).bind fun (t21_1, t21_2, t21_3) => (scut a2 t21_1 (a2.size : Int)).bind fun t22 => (scut t22 0 1).bind fun t23 => (spec_l1Cur_pick.f k a0_0 t21_2 t21_3 3).bind fun (t25_1, t25_2, t25_3) => (if (t25_1 == 0) = true then (scut a1 0 t16_1).bind fun t30 => if (t30 ++ t23).size < 4611686018427387904 then (scut a1 t16_1 (a1.size : Int)).bind fun t35 => if ((t30 ++ t23) ++ t35).size < 4611686018427387904 then some ((t30 ++ t23) ++ t35, t25_2, t25_3) else none else none else (if (t25_1 == 1) = true then (scut a1 0 t16_1).bind fun t41 => if (t41 ++ t23).size < 4611686018427387904 then (scut a1 (w64 (t16_1 + 1)) (a1.size : Int)).bind fun t47 => if ((t41 ++ t23) ++ t47).size < 4611686018427387904 then some ((t41 ++ t23) ++ t47, t25_2, t25_3) else none else none else (scut a1 0 t16_1).bind fun t51 => (scut a1 (w64 (t16_1 + 1)) (a1.size : Int)).bind fun t55 => if (t51 ++ t55).size < 4611686018427387904 then some (t51 ++ t55, t25_2, t25_3) else none)))

theorem spec_l1Cur_spoilt.ok {k : Nat}  {a0_0 : List By} {a0_1 : Int} {a0_2 : Int} {a1 : ByteArray} {a2 : ByteArray} {r0 : ByteArray} {r1 : Int} {r2 : Int} (h : spec_l1Cur_spoilt.f k a0_0 a0_1 a0_2 a1 a2 = some (r0, r1, r2)) (w : World) {pa0 : Nat} {va0_0 : Value} (hr_a0_0 : RdM w (footM [R.box pa0 55 [va0_0, .int .i64 a0_1, .int .u64 a0_2]]) va0_0 a0_0) (hw0 : Sep w (footM [R.box pa0 55 [va0_0, .int .i64 a0_1, .int .u64 a0_2]]) [R.box pa0 55 [va0_0, .int .i64 a0_1, .int .u64 a0_2]] w) :
  Calls Tryd.prog 48 ([.pointer (some ⟨pa0, 0, none⟩), .string a1, .string a2] : List Value).toArray w (PostM (footM [R.box pa0 55 [va0_0, .int .i64 a0_1, .int .u64 a0_2]]) (fun u ns => u = .string r0 ∧ ns = [R.box pa0 55 [va0_0, .int .i64 r1, .int .u64 r2]]) w) := by
 unfold spec_l1Cur_spoilt.f at h
 have hl_va0_0 := hr_a0_0.len
 refine Calls.of_tri (N := 57) Tryd.func48 rfl rfl rfl hw0 ?_
 refine Tri.seq (Tri.reg (l := [0]) rfl ?_)
 refine F.qn rfl rfl rfl rfl (r_assign rfl) ?_
 refine F.nil (Nrm.seq (Tri.seq (Tri.seq (Tri.reg (l := [0, 1]) rfl ?_))))
 refine F.qn rfl rfl rfl rfl (r_move rfl) ?_
 refine F.qn rfl rfl rfl rfl (r_eqlS rfl rfl) ?_
 refine F.nil (Nrm.seq (Tri.cond (b := a1.toList == ByteArray.empty.toList) rfl (fun g_1 => ?_) (fun g_1 => ?_)))
 ·replace h := if_tt g_1 h
  refine Tri.seq ?_
  obtain ⟨t12, h12, h⟩ := bind_some h
  refine Tri.reg (l := [0, 1, 2]) rfl ?_
  refine F.qn rfl rfl rfl rfl (r_move rfl) ?_
  refine F.qn rfl rfl rfl rfl (r_scutH Tryd.underlying9 rfl rfl h12) ?_
  refine F.qn rfl rfl rfl rfl (r_assign rfl) ?_
  refine F.nil (Nrm.seq (Tri.ret ?_))
  refine Rtn.then ?_
  cases h
  exact Rtn.body (.tmp rfl .nil) (fun w hw => ⟨_, _, rfl, ⟨rfl, rfl⟩, Sep.pick (is := [0]) rfl rfl hw⟩)
 ·replace h := if_ff g_1 h
  refine Tri.skip (Nrm.seq (Tri.seq ?_))
  obtain ⟨⟨t16_1, t16_2, t16_3⟩, h16, h⟩ := bind_some h
  refine Tri.reg (l := [0, 1, 2, 3, 4]) rfl ?_
  refine F.qn rfl rfl rfl rfl (r_move rfl) ?_
  refine F.qn rfl rfl rfl rfl (r_move rfl) ?_
  refine F.qn rfl rfl rfl rfl (r_lenS Tryd.underlying9 rfl) ?_
  refine F.efn rfl rfl rfl rfl (d_callM (xs := _) (cs := [R.box pa0 55 [va0_0, .int .i64 a0_1, .int .u64 a0_2]]) (rest := []) [0] [] rfl ok40 rfl rfl rfl rfl (fun w hw => spec_l1Cur_pick.ok h16 w (hr_a0_0.down hw) (Sep.sub hw))) ?_
  rintro _ _ ⟨_, ⟨rfl, rfl⟩, rfl⟩
  refine F.qn rfl rfl rfl rfl (r_assign rfl) ?_
  refine F.nil (Nrm.seq (Tri.seq ?_))
  obtain ⟨⟨t21_1, t21_2, t21_3⟩, h21, h⟩ := bind_some h
  obtain ⟨t22, h22, h⟩ := bind_some h
  obtain ⟨t23, h23, h⟩ := bind_some h
  refine Tri.reg (l := [0, 1, 2, 3, 4, 5, 6, 7]) rfl ?_
  iterate 3 refine F.qn rfl rfl rfl rfl (r_move rfl) ?_
  refine F.qn rfl rfl rfl rfl (r_lenS Tryd.underlying9 rfl) ?_
  refine F.efn rfl rfl rfl rfl (d_callM (xs := _) (cs := [R.box pa0 55 [va0_0, .int .i64 t16_2, .int .u64 t16_3]]) (rest := []) [0] [] rfl ok40 rfl rfl rfl rfl (fun w hw => spec_l1Cur_pick.ok h21 w (hr_a0_0.down hw) (Sep.sub hw))) ?_
  rintro _ _ ⟨_, ⟨rfl, rfl⟩, rfl⟩
  refine F.qn rfl rfl rfl rfl (r_scutL Tryd.underlying9 rfl rfl h22) ?_
  refine F.qn rfl rfl rfl rfl (r_scutH Tryd.underlying9 rfl rfl h23) ?_
  refine F.qn rfl rfl rfl rfl (r_assign rfl) ?_
  refine F.nil (Nrm.seq (Tri.seq (Tri.seq ?_)))
  obtain ⟨⟨t25_1, t25_2, t25_3⟩, h25, h⟩ := bind_some h
  refine Tri.reg (l := [0, 1]) rfl ?_
  refine F.qn rfl rfl rfl rfl (r_move rfl) ?_
  refine F.efn rfl rfl rfl rfl (d_callM (xs := _) (cs := [R.box pa0 55 [va0_0, .int .i64 t21_2, .int .u64 t21_3]]) (rest := []) [0] [] rfl ok40 rfl rfl rfl rfl (fun w hw => spec_l1Cur_pick.ok h25 w (hr_a0_0.down hw) (Sep.sub hw))) ?_
  rintro _ _ ⟨_, ⟨rfl, rfl⟩, rfl⟩
  refine F.nil (Nrm.seq (Tri.block ?_))
  refine Tri.seq (Tri.reg (l := [0, 1]) rfl ?_)
  refine F.qn rfl rfl rfl rfl (r_eql rfl rfl) ?_
  refine F.qn rfl rfl rfl rfl (r_assign rfl) ?_
  refine F.nil (Nrm.seq (Tri.cond (b := t25_1 == 0) rfl (fun g_2 => ?_) (fun g_2 => ?_)))
  ·replace h := if_tt g_2 h
   refine Tri.seq ?_
   obtain ⟨t30, h30, h⟩ := bind_some h
   obtain ⟨hs32, h⟩ := ck h
   obtain ⟨t35, h35, h⟩ := bind_some h
   obtain ⟨hs36, h⟩ := ck h
   refine Tri.drawA mixedT Sep.up [(0, true), (1, true), (2, true), (3, true), (4, true), (5, true), (6, true), (7, true), (8, true), (9, true)] [] (by kernel_rfl) ?_
   refine S.qn rfl rfl rfl rfl (r_move rfl) ?_
   refine S.qn rfl rfl rfl rfl (r_move rfl) ?_
   refine S.qn rfl rfl rfl rfl (r_scutH Tryd.underlying9 rfl rfl h30) ?_
   refine S.qn rfl rfl rfl rfl (r_move rfl) ?_
   refine S.qn rfl rfl rfl rfl (r_addS rfl rfl hs32) ?_
   refine S.qn rfl rfl rfl rfl (r_move rfl) ?_
   refine S.qn rfl rfl rfl rfl (r_move rfl) ?_
   refine S.qn rfl rfl rfl rfl (r_scutL Tryd.underlying9 rfl rfl h35) ?_
   refine S.qn rfl rfl rfl rfl (r_addS rfl rfl hs36) ?_
   refine S.qn rfl rfl rfl rfl (r_assign rfl) ?_
   refine S.nil (F.nil (Nrm.seq (Tri.ret ?_)))
   refine Rtn.block ?_
   refine Rtn.then ?_
   cases h
   exact Rtn.body (.tmp rfl .nil) (fun w hw => ⟨_, _, rfl, ⟨rfl, rfl⟩, Sep.pick (is := [0]) rfl rfl hw⟩)
  ·replace h := if_ff g_2 h
   refine Tri.seq (Tri.reg (l := [0, 1]) rfl ?_)
   refine F.qn rfl rfl rfl rfl (r_eql rfl rfl) ?_
   refine F.qn rfl rfl rfl rfl (r_assign rfl) ?_
   refine F.nil (Nrm.seq (Tri.cond (b := t25_1 == 1) rfl (fun g_3 => ?_) (fun g_3 => ?_)))
   ·replace h := if_tt g_3 h
    refine Tri.seq ?_
    obtain ⟨t41, h41, h⟩ := bind_some h
    obtain ⟨hs43, h⟩ := ck h
    obtain ⟨t47, h47, h⟩ := bind_some h
    obtain ⟨hs48, h⟩ := ck h
    refine Tri.drawA mixedT Sep.up [(0, true), (1, true), (2, true), (3, true), (4, true), (5, true), (6, true), (7, true), (8, true), (9, true), (10, true)] [] (by kernel_rfl) ?_
    refine S.qn rfl rfl rfl rfl (r_move rfl) ?_
    refine S.qn rfl rfl rfl rfl (r_move rfl) ?_
    refine S.qn rfl rfl rfl rfl (r_scutH Tryd.underlying9 rfl rfl h41) ?_
    refine S.qn rfl rfl rfl rfl (r_move rfl) ?_
    refine S.qn rfl rfl rfl rfl (r_addS rfl rfl hs43) ?_
    refine S.qn rfl rfl rfl rfl (r_move rfl) ?_
    refine S.qn rfl rfl rfl rfl (r_move rfl) ?_
    refine S.qn rfl rfl rfl rfl (r_add rfl rfl) ?_
    refine S.qn rfl rfl rfl rfl (r_scutL Tryd.underlying9 rfl rfl h47) ?_
    refine S.qn rfl rfl rfl rfl (r_addS rfl rfl hs48) ?_
    refine S.qn rfl rfl rfl rfl (r_assign rfl) ?_
    refine S.nil (F.nil (Nrm.seq (Tri.ret ?_)))
    refine Rtn.block ?_
    refine Rtn.then ?_
    cases h
    exact Rtn.body (.tmp rfl .nil) (fun w hw => ⟨_, _, rfl, ⟨rfl, rfl⟩, Sep.pick (is := [0]) rfl rfl hw⟩)
   ·replace h := if_ff g_3 h
    refine Tri.skip (Nrm.block ?_)
    refine Nrm.seq (Tri.seq ?_)
    obtain ⟨t51, h51, h⟩ := bind_some h
    obtain ⟨t55, h55, h⟩ := bind_some h
    obtain ⟨hs56, h⟩ := ck h
    refine Tri.drawA mixedT Sep.up [(0, true), (1, true), (2, true), (3, true), (4, true), (5, true), (6, true), (7, true), (8, true)] [] (by kernel_rfl) ?_
    refine S.qn rfl rfl rfl rfl (r_move rfl) ?_
    refine S.qn rfl rfl rfl rfl (r_move rfl) ?_
    refine S.qn rfl rfl rfl rfl (r_scutH Tryd.underlying9 rfl rfl h51) ?_
    refine S.qn rfl rfl rfl rfl (r_move rfl) ?_
    refine S.qn rfl rfl rfl rfl (r_move rfl) ?_
    refine S.qn rfl rfl rfl rfl (r_add rfl rfl) ?_
    refine S.qn rfl rfl rfl rfl (r_scutL Tryd.underlying9 rfl rfl h55) ?_
    refine S.qn rfl rfl rfl rfl (r_addS rfl rfl hs56) ?_
    refine S.qn rfl rfl rfl rfl (r_assign rfl) ?_
    refine S.nil (F.nil (Nrm.seq (Tri.ret ?_)))
    cases h
    exact Rtn.body (.tmp rfl .nil) (fun w hw => ⟨_, _, rfl, ⟨rfl, rfl⟩, Sep.pick (is := [0]) rfl rfl hw⟩)


def spec_l1Cur_anyLog.f (k : Nat) (a0_0 : List By) (a0_1 : Int) (a0_2 : Int) : Option (ByteArray × ByteArray × Int × Int × Int) := (spec_l1Cur_log12.f k a0_0 a0_1 a0_2).bind fun (t5_1, t5_2, t5_3, t5_4, t5_5) => (spec_l1Cur_pick.f k a0_0 t5_4 t5_5 24).bind fun (t7_1, t7_2, t7_3) => ((if (t7_1 == 0) = true then some (t7_2, t7_3, t5_1, t5_2, w64 (t5_3 + 1)) else ((if (t7_1 == 1) = true then (spec_l1Cur_spoilt.f k a0_0 t7_2 t7_3 t5_2 (ByteArray.mk #[35, 64, 10, 48, 49])).bind fun (t19_1, t19_2, t19_3) => some (t19_2, t19_3, t5_1, t19_1) else ((if (t7_1 == 2) = true then if (t5_1 ++ t5_2).size < 4611686018427387904 then some (t5_1 ++ t5_2) else none else some t5_1)).bind fun yb3_1_0 => some (t7_2, t7_3, yb3_1_0, t5_2))).bind fun (ypa0_1, ypa0_2, yb3_1_0, yb3_1_1) => some (ypa0_1, ypa0_2, yb3_1_0, yb3_1_1, t5_3))).bind fun (ypa0_1, ypa0_2, yb3_1_0, yb3_1_1, yb3_1_2) => some (yb3_1_0, yb3_1_1, yb3_1_2, ypa0_1, ypa0_2)

theorem spec_l1Cur_anyLog.ok {k : Nat}  {a0_0 : List By} {a0_1 : Int} {a0_2 : Int} {r0 : ByteArray} {r1 : ByteArray} {r2 : Int} {r3 : Int} {r4 : Int} (h : spec_l1Cur_anyLog.f k a0_0 a0_1 a0_2 = some (r0, r1, r2, r3, r4)) (w : World) {pa0 : Nat} {va0_0 : Value} (hr_a0_0 : RdM w (footM [R.box pa0 55 [va0_0, .int .i64 a0_1, .int .u64 a0_2]]) va0_0 a0_0) (hw0 : Sep w (footM [R.box pa0 55 [va0_0, .int .i64 a0_1, .int .u64 a0_2]]) [R.box pa0 55 [va0_0, .int .i64 a0_1, .int .u64 a0_2]] w) :
  Calls Tryd.prog 38 ([.pointer (some ⟨pa0, 0, none⟩)] : List Value).toArray w (PostM (footM [R.box pa0 55 [va0_0, .int .i64 a0_1, .int .u64 a0_2]]) (fun u ns => u = .agg [.string r0, .string r1, .int .i64 r2].toArray ∧ ns = [R.box pa0 55 [va0_0, .int .i64 r3, .int .u64 r4]]) w) := by
 unfold spec_l1Cur_anyLog.f at h
 have hl_va0_0 := hr_a0_0.len
 refine Calls.of_tri (N := 30) Tryd.func38 rfl rfl rfl hw0 ?_
 refine Tri.seq (Tri.reg (l := [0]) rfl ?_)
 refine F.mn rfl rfl rfl rfl (m_alloc ti33) ?_
 rintro _ _ ⟨b2_1, rfl, rfl⟩
 refine F.nil (Nrm.seq (Tri.seq ?_))
 obtain ⟨⟨t5_1, t5_2, t5_3, t5_4, t5_5⟩, h5, h⟩ := bind_some h
 refine Tri.reg (l := [0, 1, 2, 3]) rfl ?_
 refine F.qn rfl rfl rfl rfl (r_move rfl) ?_
 refine F.efn rfl rfl rfl rfl (d_callM (xs := _) (cs := [R.box pa0 55 [va0_0, .int .i64 a0_1, .int .u64 a0_2]]) (rest := [R.box b2_1 33 [.string ByteArray.empty, .string ByteArray.empty, .int .i64 0]]) [1] [0] rfl ok47 rfl rfl rfl rfl (fun w hw => spec_l1Cur_log12.ok h5 w (hr_a0_0.down hw) (Sep.sub hw))) ?_
 rintro _ _ ⟨_, ⟨rfl, rfl⟩, rfl⟩
 refine F.mn rfl rfl rfl rfl (m_alloc ti33) ?_
 rintro _ _ ⟨b3_1, rfl, rfl⟩
 refine F.ef0 rfl rfl (wanted_none rfl) (d_storeG0 (i := 0) (cs2 := [.string t5_1, .string t5_2, .int .i64 t5_3]) ti33 rfl rfl rfl rfl rfl (Nat.le_of_ble_eq_true rfl) (lf_cons rfl (lf_cons rfl (lf_cons rfl lf_nil)))) ?_
 rintro _ _ ⟨rfl, rfl⟩
 refine F.nil (Nrm.seq (Tri.seq (Tri.seq ?_)))
 obtain ⟨⟨t7_1, t7_2, t7_3⟩, h7, h⟩ := bind_some h
 refine Tri.reg (l := [0, 1]) rfl ?_
 refine F.qn rfl rfl rfl rfl (r_move rfl) ?_
 refine F.efn rfl rfl rfl rfl (d_callM (xs := _) (cs := [R.box pa0 55 [va0_0, .int .i64 t5_4, .int .u64 t5_5]]) (rest := [R.box b3_1 33 [.string t5_1, .string t5_2, .int .i64 t5_3], R.box b2_1 33 [.string ByteArray.empty, .string ByteArray.empty, .int .i64 0]]) [1] [0, 2] rfl ok40 rfl rfl rfl rfl (fun w hw => spec_l1Cur_pick.ok h7 w (hr_a0_0.down hw) (Sep.sub hw))) ?_
 rintro _ _ ⟨_, ⟨rfl, rfl⟩, rfl⟩
 refine F.nil (Nrm.seq (Tri.block ?_))
 refine Tri.seq (Tri.reg (l := [0, 1]) rfl ?_)
 refine F.qn rfl rfl rfl rfl (r_eql rfl rfl) ?_
 refine F.qn rfl rfl rfl rfl (r_assign rfl) ?_
 refine F.nil (Nrm.seq ?_)
 obtain ⟨⟨ypa0_1, ypa0_2, yb3_1_0, yb3_1_1, yb3_1_2⟩, hE_1, h⟩ := bind_some h
 refine Tri.cut (fun e' C' => e' = [(2, .pointer (some ⟨b2_1, 0, none⟩)), (3, .pointer (some ⟨b3_1, 0, none⟩))] ∧ C' = Sep w (footM [R.box pa0 55 [va0_0, .int .i64 a0_1, .int .u64 a0_2]]) [R.box pa0 55 [va0_0, .int .i64 ypa0_1, .int .u64 ypa0_2], R.box b3_1 33 [.string yb3_1_0, .string yb3_1_1, .int .i64 yb3_1_2], R.box b2_1 33 [.string ByteArray.empty, .string ByteArray.empty, .int .i64 0]]) ?_ (fun hj_1 => ?_)
 ·rintro _ _ ⟨rfl, rfl⟩
  refine Nrm.block ?_
  refine Nrm.seq (Tri.seq (Tri.reg (l := [0, 1]) rfl ?_))
  refine F.qn rfl rfl rfl rfl (r_loadA ta33 ti33 rfl rfl (fun w hw => (box_cells (i := 1) rfl w hw))) ?_
  refine F.ef0 rfl rfl (wanted_none rfl) (d_storeG0 (i := 2) (cs2 := [.string yb3_1_0, .string yb3_1_1, .int .i64 yb3_1_2]) ti33 rfl rfl rfl rfl rfl (Nat.le_of_ble_eq_true rfl) (lf_cons rfl (lf_cons rfl (lf_cons rfl lf_nil)))) ?_
  rintro _ _ ⟨rfl, rfl⟩
  refine F.nil (Nrm.seq (Tri.ret ?_))
  cases h
  exact Rtn.body (.cell rfl ta33 ti33 rfl (fun _ hw => box_cells (i := 2) rfl _ hw) .nil) (fun w hw => ⟨_, _, rfl, ⟨rfl, rfl⟩, Sep.pick (is := [0]) rfl rfl hw⟩)
 ·refine Tri.cond (b := t7_1 == 0) rfl (fun g_1 => ?_) (fun g_1 => ?_)
  ·replace hE_1 := if_tt g_1 hE_1
   refine Tri.reg (l := [0, 1, 2, 3, 4]) rfl ?_
   refine F.qn rfl rfl rfl rfl (r_fieldAddr tf33_2 rfl) ?_
   refine F.qn rfl rfl rfl rfl (r_load ta3 rfl (fun w hw => cell_1 (box_cells (i := 1) rfl w hw) rfl)) ?_
   refine F.qn rfl rfl rfl rfl (r_add rfl rfl) ?_
   refine F.qn rfl rfl rfl rfl (r_fieldAddr tf33_2 rfl) ?_
   refine F.ef0 rfl rfl (wanted_none rfl) (d_storeG1 (i := 1) (cs2 := [.int .i64 (w64 (t5_3 + 1))]) ti3 rfl rfl rfl rfl rfl (Nat.le_of_ble_eq_true rfl) (lf_cons rfl lf_nil)) ?_
   rintro _ _ ⟨rfl, rfl⟩
   refine F.nil ?_
   cases hE_1
   refine Nrm.only [2, 3] rfl ?_
   refine Nrm.pick [0, 1, 2] rfl rfl ?_
   exact hj_1 _ _ ⟨rfl, rfl⟩
  ·replace hE_1 := if_ff g_1 hE_1
   refine Tri.seq (Tri.reg (l := [0, 1]) rfl ?_)
   refine F.qn rfl rfl rfl rfl (r_eql rfl rfl) ?_
   refine F.qn rfl rfl rfl rfl (r_assign rfl) ?_
   refine F.nil (Nrm.seq ?_)
   obtain ⟨⟨ypa0_1, ypa0_2, yb3_1_0, yb3_1_1⟩, hE_2, hE_1⟩ := bind_some hE_1
   refine Tri.cut (fun e' C' => e' = [(2, .pointer (some ⟨b2_1, 0, none⟩)), (3, .pointer (some ⟨b3_1, 0, none⟩))] ∧ C' = Sep w (footM [R.box pa0 55 [va0_0, .int .i64 a0_1, .int .u64 a0_2]]) [R.box pa0 55 [va0_0, .int .i64 ypa0_1, .int .u64 ypa0_2], R.box b3_1 33 [.string yb3_1_0, .string yb3_1_1, .int .i64 t5_3], R.box b2_1 33 [.string ByteArray.empty, .string ByteArray.empty, .int .i64 0]]) ?_ (fun hj_2 => ?_)
   ·rintro _ _ ⟨rfl, rfl⟩
    cases hE_1
    refine Nrm.only [2, 3] rfl ?_
    refine Nrm.pick [0, 1, 2] rfl rfl ?_
    exact hj_1 _ _ ⟨rfl, rfl⟩
   ·refine Tri.cond (b := t7_1 == 1) rfl (fun g_2 => ?_) (fun g_2 => ?_)
    ·replace hE_2 := if_tt g_2 hE_2
     obtain ⟨⟨t19_1, t19_2, t19_3⟩, h19, hE_2⟩ := bind_some hE_2
     refine Tri.reg (l := [0, 1, 2, 3, 4, 5]) rfl ?_
     refine F.qn rfl rfl rfl rfl (r_move rfl) ?_
     refine F.qn rfl rfl rfl rfl (r_fieldAddr tf33_1 rfl) ?_
     refine F.qn rfl rfl rfl rfl (r_load ta9 rfl (fun w hw => cell_1 (box_cells (i := 1) rfl w hw) rfl)) ?_
     refine F.efn rfl rfl rfl rfl (d_callM (xs := _) (cs := [R.box pa0 55 [va0_0, .int .i64 t7_2, .int .u64 t7_3]]) (rest := [R.box b3_1 33 [.string t5_1, .string t5_2, .int .i64 t5_3], R.box b2_1 33 [.string ByteArray.empty, .string ByteArray.empty, .int .i64 0]]) [0] [1, 2] rfl ok48 rfl rfl rfl rfl (fun w hw => spec_l1Cur_spoilt.ok h19 w (hr_a0_0.down hw) (Sep.sub hw))) ?_
     rintro _ _ ⟨_, ⟨rfl, rfl⟩, rfl⟩
     refine F.qn rfl rfl rfl rfl (r_fieldAddr tf33_1 rfl) ?_
     refine F.ef0 rfl rfl (wanted_none rfl) (d_storeG1 (i := 1) (cs2 := [.string t19_1]) ti9 rfl rfl rfl rfl rfl (Nat.le_of_ble_eq_true rfl) (lf_cons rfl lf_nil)) ?_
     rintro _ _ ⟨rfl, rfl⟩
     refine F.nil ?_
     cases hE_2
     refine Nrm.only [2, 3] rfl ?_
     refine Nrm.pick [0, 1, 2] rfl rfl ?_
     exact hj_2 _ _ ⟨rfl, rfl⟩
    ·replace hE_2 := if_ff g_2 hE_2
     refine Tri.seq (Tri.reg (l := [0, 1]) rfl ?_)
     refine F.qn rfl rfl rfl rfl (r_eql rfl rfl) ?_
     refine F.qn rfl rfl rfl rfl (r_assign rfl) ?_
     refine F.nil (Nrm.seq ?_)
     obtain ⟨yb3_1_0, hE_3, hE_2⟩ := bind_some hE_2
     refine Tri.cut (fun e' C' => e' = [(2, .pointer (some ⟨b2_1, 0, none⟩)), (3, .pointer (some ⟨b3_1, 0, none⟩))] ∧ C' = Sep w (footM [R.box pa0 55 [va0_0, .int .i64 a0_1, .int .u64 a0_2]]) [R.box pa0 55 [va0_0, .int .i64 t7_2, .int .u64 t7_3], R.box b3_1 33 [.string yb3_1_0, .string t5_2, .int .i64 t5_3], R.box b2_1 33 [.string ByteArray.empty, .string ByteArray.empty, .int .i64 0]]) ?_ (fun hj_3 => ?_)
     ·rintro _ _ ⟨rfl, rfl⟩
      cases hE_2
      refine Nrm.only [2, 3] rfl ?_
      refine Nrm.pick [0, 1, 2] rfl rfl ?_
      exact hj_2 _ _ ⟨rfl, rfl⟩
     ·refine Tri.cond (b := t7_1 == 2) rfl (fun g_3 => ?_) (fun g_3 => ?_)
      ·replace hE_3 := if_tt g_3 hE_3
       obtain ⟨hs27, hE_3⟩ := ck hE_3
       refine Tri.reg (l := [0, 1, 2, 3, 4, 5, 6]) rfl ?_
       refine F.qn rfl rfl rfl rfl (r_fieldAddr tf33_0 rfl) ?_
       refine F.qn rfl rfl rfl rfl (r_load ta9 rfl (fun w hw => cell_1 (box_cells (i := 1) rfl w hw) rfl)) ?_
       refine F.qn rfl rfl rfl rfl (r_fieldAddr tf33_1 rfl) ?_
       refine F.qn rfl rfl rfl rfl (r_load ta9 rfl (fun w hw => cell_1 (box_cells (i := 1) rfl w hw) rfl)) ?_
       refine F.qn rfl rfl rfl rfl (r_addS rfl rfl hs27) ?_
       refine F.qn rfl rfl rfl rfl (r_fieldAddr tf33_0 rfl) ?_
       refine F.ef0 rfl rfl (wanted_none rfl) (d_storeG1 (i := 1) (cs2 := [.string (t5_1 ++ t5_2)]) ti9 rfl rfl rfl rfl rfl (Nat.le_of_ble_eq_true rfl) (lf_cons rfl lf_nil)) ?_
       rintro _ _ ⟨rfl, rfl⟩
       refine F.nil ?_
       cases hE_3
       refine Nrm.only [2, 3] rfl ?_
       refine Nrm.pick [0, 1, 2] rfl rfl ?_
       exact hj_3 _ _ ⟨rfl, rfl⟩
      ·replace hE_3 := if_ff g_3 hE_3
       refine Tri.skip ?_
       cases hE_3
       refine Nrm.only [2, 3] rfl ?_
       refine Nrm.pick [0, 1, 2] rfl rfl ?_
       exact hj_3 _ _ ⟨rfl, rfl⟩


def spec_DrawIsValidLog.f (k : Nat) (a0 : List By) : Option (ByteArray × ByteArray × Int) := (spec_l1Cur_anyLog.f k a0 0 0).bind fun (t8_1, t8_2, t8_3, t8_4, t8_5) => some (t8_1, t8_2, t8_3)

theorem spec_DrawIsValidLog.ok {k : Nat}  {a0 : List By} {r0 : ByteArray} {r1 : ByteArray} {r2 : Int} (h : spec_DrawIsValidLog.f k a0 = some (r0, r1, r2)) (w : World) {va0 : Value} (hr_a0 : Rd w va0 a0) :
  Calls Tryd.prog 11 ([va0] : List Value).toArray w (fun e w' => e = .returned (.agg [.string r0, .string r1, .int .i64 r2].toArray) ∧ Ext w w') := by
 unfold spec_DrawIsValidLog.f at h
 have hl_va0 := hr_a0.len
 refine Calls.of_tri (N := 9) Tryd.func11 rfl rfl rfl (Sep.nil (M := noM)) ?_
 refine Tri.seq (Tri.reg (l := [0]) rfl ?_)
 refine F.mn rfl rfl rfl rfl (m_alloc ti33) ?_
 rintro _ _ ⟨b2_1, rfl, rfl⟩
 refine F.nil (Nrm.seq (Tri.seq (Tri.reg (l := [0, 1, 2, 3]) rfl ?_)))
 refine F.qn rfl rfl rfl rfl (r_move rfl) ?_
 refine F.qn rfl rfl rfl rfl (r_build (pl := [(0, 1), (1, 1), (2, 1)]) (qs := [(0, [va0])]) (cs := [va0, .int .i64 0, .int .u64 0]) (by kernel_rfl) ti55 rfl (.cons (sl_cells hl_va0) rfl (Nat.le_of_ble_eq_true rfl) .nil) rfl rfl) ?_
 refine F.mn rfl rfl rfl rfl (m_boxG rfl rfl) ?_
 rintro _ _ ⟨b6_1, rfl, rfl⟩
 refine F.qn rfl rfl rfl rfl (r_assign rfl) ?_
 refine F.nil (Nrm.seq (Tri.seq ?_))
 obtain ⟨⟨t8_1, t8_2, t8_3, t8_4, t8_5⟩, h8, h⟩ := bind_some h
 refine Tri.reg (l := [0, 1, 2]) rfl ?_
 refine F.qn rfl rfl rfl rfl (r_move rfl) ?_
 refine F.efn rfl rfl rfl rfl (d_callM (xs := _) (cs := [R.box b6_1 55 [va0, .int .i64 0, .int .u64 0]]) (rest := [R.box b2_1 33 [.string ByteArray.empty, .string ByteArray.empty, .int .i64 0]]) [0] [1] rfl ok38 rfl rfl rfl rfl (fun w hw => spec_l1Cur_anyLog.ok h8 w (hr_a0.down hw) (Sep.sub hw))) ?_
 rintro _ _ ⟨_, ⟨rfl, rfl⟩, rfl⟩
 refine F.ef0 rfl rfl (wanted_none rfl) (d_storeG0 (i := 1) (cs2 := [.string t8_1, .string t8_2, .int .i64 t8_3]) ti33 rfl rfl rfl rfl rfl (Nat.le_of_ble_eq_true rfl) (lf_cons rfl (lf_cons rfl (lf_cons rfl lf_nil)))) ?_
 rintro _ _ ⟨rfl, rfl⟩
 refine F.nil (Nrm.seq (Tri.ret ?_))
 cases h
 exact Rtn.body (.cell rfl ta33 ti33 rfl (fun _ hw => box_cells (i := 1) rfl _ hw) .nil) (fun w hw => ⟨rfl, hw.ext⟩)


def spec_DrawAppendRecord.l0 (k : Nat) : Nat → Int → ByteArray → ByteArray → Int → Option (ByteArray × ByteArray × Int)
 | 0, _, _, _, _ => none
 | n + 1, x6, xb5_1_0, xb5_1_1, xb5_1_2 => (if (decide (x6 > 0)) = true then (spec_AppendRecord.f k xb5_1_0 xb5_1_1 xb5_1_2 (ByteArray.mk #[120]) ByteArray.empty).bind fun (t25_1, t25_2, t25_3, t25_4) => spec_DrawAppendRecord.l0 k n (w64 (x6 - 1)) t25_1 t25_2 t25_3 else some (xb5_1_0, xb5_1_1, xb5_1_2))

def spec_DrawAppendRecord.f (k : Nat) (a0 : List By) : Option (ByteArray × ByteArray × Int × ByteArray × ByteArray) := (spec_l1Cur_anyLog.f k a0 0 0).bind fun (t11_1, t11_2, t11_3, t11_4, t11_5) => (spec_l1Cur_one.f k a0 t11_4 t11_5 40).bind fun (t13_1, t13_2, t13_3) => ((if t13_1 = true then (spec_l1Cur_pick.f k a0 t13_2 t13_3 2).bind fun (t16_1, t16_2, t16_3) => (spec_DrawAppendRecord.l0 k k (w64 (59 + t16_1)) ByteArray.empty ByteArray.empty 0).bind fun (xb5_1_0, xb5_1_1, xb5_1_2) => some (t16_2, t16_3, xb5_1_0, xb5_1_1, xb5_1_2) else some (t13_2, t13_3, t11_1, t11_2, t11_3))).bind fun (yb9_1_1, yb9_1_2, yb5_1_0, yb5_1_1, yb5_1_2) => (spec_l1Cur_logRecord.f k a0 yb9_1_1 yb9_1_2).bind fun (t30_1, t30_2, t30_3, t30_4) => some (yb5_1_0, yb5_1_1, yb5_1_2, t30_1, t30_2)

theorem spec_DrawAppendRecord.ok {k : Nat}  {a0 : List By} {r0 : ByteArray} {r1 : ByteArray} {r2 : Int} {r3 : ByteArray} {r4 : ByteArray} (h : spec_DrawAppendRecord.f k a0 = some (r0, r1, r2, r3, r4)) (w : World) {va0 : Value} (hr_a0 : Rd w va0 a0) :
  Calls Tryd.prog 12 ([va0] : List Value).toArray w (fun e w' => e = .returned (.tuple #[.agg [.string r0, .string r1, .int .i64 r2].toArray, .agg [.string r3, .string r4].toArray]) ∧ Ext w w') := by
 unfold spec_DrawAppendRecord.f at h
 have hl_va0 := hr_a0.len
 refine Calls.of_tri (N := 31) Tryd.func12 rfl rfl rfl (Sep.nil (M := noM)) ?_
 refine Tri.seq (Tri.reg (l := [0, 1]) rfl ?_)
 refine F.mn rfl rfl rfl rfl (m_alloc ti33) ?_
 rintro _ _ ⟨b2_1, rfl, rfl⟩
 refine F.mn rfl rfl rfl rfl (m_alloc ti25) ?_
 rintro _ _ ⟨b3_1, rfl, rfl⟩
 refine F.nil (Nrm.seq (Tri.seq (Tri.reg (l := [0, 1, 2, 3]) rfl ?_)))
 refine F.qn rfl rfl rfl rfl (r_move rfl) ?_
 refine F.qn rfl rfl rfl rfl (r_build (pl := [(0, 1), (1, 1), (2, 1)]) (qs := [(0, [va0])]) (cs := [va0, .int .i64 0, .int .u64 0]) (by kernel_rfl) ti55 rfl (.cons (sl_cells hl_va0) rfl (Nat.le_of_ble_eq_true rfl) .nil) rfl rfl) ?_
 refine F.mn rfl rfl rfl rfl (m_boxG rfl rfl) ?_
 rintro _ _ ⟨b9_1, rfl, rfl⟩
 refine F.qn rfl rfl rfl rfl (r_assign rfl) ?_
 refine F.nil (Nrm.seq (Tri.seq ?_))
 obtain ⟨⟨t11_1, t11_2, t11_3, t11_4, t11_5⟩, h11, h⟩ := bind_some h
 refine Tri.reg (l := [0, 1, 2, 3]) rfl ?_
 refine F.qn rfl rfl rfl rfl (r_move rfl) ?_
 refine F.efn rfl rfl rfl rfl (d_callM (xs := _) (cs := [R.box b9_1 55 [va0, .int .i64 0, .int .u64 0]]) (rest := [R.box b3_1 25 [.string ByteArray.empty, .string ByteArray.empty], R.box b2_1 33 [.string ByteArray.empty, .string ByteArray.empty, .int .i64 0]]) [0] [1, 2] rfl ok38 rfl rfl rfl rfl (fun w hw => spec_l1Cur_anyLog.ok h11 w (hr_a0.down hw) (Sep.sub hw))) ?_
 rintro _ _ ⟨_, ⟨rfl, rfl⟩, rfl⟩
 refine F.mn rfl rfl rfl rfl (m_alloc ti33) ?_
 rintro _ _ ⟨b5_1, rfl, rfl⟩
 refine F.ef0 rfl rfl (wanted_none rfl) (d_storeG0 (i := 0) (cs2 := [.string t11_1, .string t11_2, .int .i64 t11_3]) ti33 rfl rfl rfl rfl rfl (Nat.le_of_ble_eq_true rfl) (lf_cons rfl (lf_cons rfl (lf_cons rfl lf_nil)))) ?_
 rintro _ _ ⟨rfl, rfl⟩
 refine F.nil (Nrm.seq (Tri.seq (Tri.seq ?_)))
 obtain ⟨⟨t13_1, t13_2, t13_3⟩, h13, h⟩ := bind_some h
 refine Tri.reg (l := [0, 1]) rfl ?_
 refine F.qn rfl rfl rfl rfl (r_move rfl) ?_
 refine F.efn rfl rfl rfl rfl (d_callM (xs := _) (cs := [R.box b9_1 55 [va0, .int .i64 t11_4, .int .u64 t11_5]]) (rest := [R.box b5_1 33 [.string t11_1, .string t11_2, .int .i64 t11_3], R.box b3_1 25 [.string ByteArray.empty, .string ByteArray.empty], R.box b2_1 33 [.string ByteArray.empty, .string ByteArray.empty, .int .i64 0]]) [1] [0, 2, 3] rfl ok39 rfl rfl rfl rfl (fun w hw => spec_l1Cur_one.ok h13 w (hr_a0.down hw) (Sep.sub hw))) ?_
 rintro _ _ ⟨_, ⟨rfl, rfl⟩, rfl⟩
 refine F.nil (Nrm.seq ?_)
 obtain ⟨⟨yb9_1_1, yb9_1_2, yb5_1_0, yb5_1_1, yb5_1_2⟩, hE_1, h⟩ := bind_some h
 refine Tri.cut (fun e' C' => e' = [(2, .pointer (some ⟨b2_1, 0, none⟩)), (3, .pointer (some ⟨b3_1, 0, none⟩)), (4, .pointer (some ⟨b9_1, 0, none⟩)), (5, .pointer (some ⟨b5_1, 0, none⟩))] ∧ C' = Sep w noM [R.box b9_1 55 [va0, .int .i64 yb9_1_1, .int .u64 yb9_1_2], R.box b5_1 33 [.string yb5_1_0, .string yb5_1_1, .int .i64 yb5_1_2], R.box b3_1 25 [.string ByteArray.empty, .string ByteArray.empty], R.box b2_1 33 [.string ByteArray.empty, .string ByteArray.empty, .int .i64 0]]) ?_ (fun hj_1 => ?_)
 ·rintro _ _ ⟨rfl, rfl⟩
  refine Nrm.seq (Tri.seq ?_)
  obtain ⟨⟨t30_1, t30_2, t30_3, t30_4⟩, h30, h⟩ := bind_some h
  refine Tri.drawK (B := Sep w noM [R.box b5_1 33 [.string yb5_1_0, .string yb5_1_1, .int .i64 yb5_1_2], R.box b3_1 25 [.string ByteArray.empty, .string ByteArray.empty], R.box b2_1 33 [.string ByteArray.empty, .string ByteArray.empty, .int .i64 0]]) mixedT Sep.up [(0, true), (1, true), (2, false)] [3, 4] (by kernel_rfl) ?_
  refine K.q [1, 2, 3] rfl rfl rfl rfl rfl (wanted_none rfl) (r_loadA ta33 ti33 rfl rfl (fun w hw => (box_cells (i := 0) rfl w hw))) ?_
  refine K.q [1, 2, 3] rfl rfl rfl rfl rfl (wanted_none rfl) (r_move rfl) ?_
  refine B.ef rfl rfl rfl (wanted_none rfl) (d_callM (xs := _) (cs := [R.box b9_1 55 [va0, .int .i64 yb9_1_1, .int .u64 yb9_1_2]]) (rest := [R.box b5_1 33 [.string yb5_1_0, .string yb5_1_1, .int .i64 yb5_1_2], R.box b3_1 25 [.string ByteArray.empty, .string ByteArray.empty], R.box b2_1 33 [.string ByteArray.empty, .string ByteArray.empty, .int .i64 0]]) [0] [1, 2, 3] rfl ok30 rfl rfl rfl rfl (fun w hw => spec_l1Cur_logRecord.ok h30 w (hr_a0.down hw) (Sep.sub hw))) (by rintro _ _ ⟨_, ⟨rfl, rfl⟩, rfl⟩; exact upd rfl [1, 2, 3] rfl rfl) ?_
  rintro _ _ ⟨_, ⟨rfl, rfl⟩, rfl⟩
  refine B.nil ?_
  refine F.ef0 rfl rfl (wanted_none rfl) (d_storeG0 (i := 3) (cs2 := [.string yb5_1_0, .string yb5_1_1, .int .i64 yb5_1_2]) ti33 rfl rfl rfl rfl rfl (Nat.le_of_ble_eq_true rfl) (lf_cons rfl (lf_cons rfl (lf_cons rfl lf_nil)))) ?_
  rintro _ _ ⟨rfl, rfl⟩
  refine F.ef0 rfl rfl (wanted_none rfl) (d_storeG0 (i := 2) (cs2 := [.string t30_1, .string t30_2]) ti25 rfl rfl rfl rfl rfl (Nat.le_of_ble_eq_true rfl) (lf_cons rfl (lf_cons rfl lf_nil))) ?_
  rintro _ _ ⟨rfl, rfl⟩
  refine F.nil (Nrm.seq (Tri.ret ?_))
  cases h
  exact Rtn.body (.cell rfl ta33 ti33 rfl (fun _ hw => box_cells (i := 3) rfl _ hw) (.cell rfl ta25 ti25 rfl (fun _ hw => box_cells (i := 2) rfl _ hw) .nil)) (fun w hw => ⟨rfl, hw.ext⟩)
 ·refine Tri.cond (b := t13_1) rfl (fun g_1 => ?_) (fun g_1 => ?_)
  ·replace hE_1 := if_tt g_1 hE_1
   refine Tri.seq (Tri.reg (l := [0, 1]) rfl ?_)
   refine F.qn rfl rfl rfl rfl (r_build (pl := [(0, 1), (1, 1), (2, 1)]) (qs := []) (cs := [.string ByteArray.empty, .string ByteArray.empty, .int .i64 0]) (by kernel_rfl) ti33 rfl .nil rfl rfl) ?_
   refine F.ef0 rfl rfl (wanted_none rfl) (d_storeG0 (i := 1) (cs2 := [.string ByteArray.empty, .string ByteArray.empty, .int .i64 0]) ti33 rfl rfl rfl rfl rfl (Nat.le_of_ble_eq_true rfl) (lf_cons rfl (lf_cons rfl (lf_cons rfl lf_nil)))) ?_
   rintro _ _ ⟨rfl, rfl⟩
   refine F.nil (Nrm.seq (Tri.seq ?_))
   obtain ⟨⟨t16_1, t16_2, t16_3⟩, h16, hE_1⟩ := bind_some hE_1
   refine Tri.reg (l := [0, 1, 2, 3]) rfl ?_
   refine F.qn rfl rfl rfl rfl (r_move rfl) ?_
   refine F.efn rfl rfl rfl rfl (d_callM (xs := _) (cs := [R.box b9_1 55 [va0, .int .i64 t13_2, .int .u64 t13_3]]) (rest := [R.box b5_1 33 [.string ByteArray.empty, .string ByteArray.empty, .int .i64 0], R.box b3_1 25 [.string ByteArray.empty, .string ByteArray.empty], R.box b2_1 33 [.string ByteArray.empty, .string ByteArray.empty, .int .i64 0]]) [0] [1, 2, 3] rfl ok40 rfl rfl rfl rfl (fun w hw => spec_l1Cur_pick.ok h16 w (hr_a0.down hw) (Sep.sub hw))) ?_
   rintro _ _ ⟨_, ⟨rfl, rfl⟩, rfl⟩
   refine F.qn rfl rfl rfl rfl (r_add rfl rfl) ?_
   refine F.qn rfl rfl rfl rfl (r_assign rfl) ?_
   refine F.nil (Nrm.seq ?_)
   obtain ⟨⟨xb5_1_0, xb5_1_1, xb5_1_2⟩, hE_2, hE_1⟩ := bind_some hE_1
   refine Tri.block ?_
   refine Tri.only [2, 3, 4, 5, 6] rfl ?_
   refine Tri.pick [0, 1, 2, 3] rfl rfl ?_
   refine Tri.rounds (fun n e' C' => ∃ (x6' : Int) (xb5_1_0' : ByteArray) (xb5_1_1' : ByteArray) (xb5_1_2' : Int), spec_DrawAppendRecord.l0 k n x6' xb5_1_0' xb5_1_1' xb5_1_2' = some (xb5_1_0, xb5_1_1, xb5_1_2) ∧ e' = [(2, .pointer (some ⟨b2_1, 0, none⟩)), (3, .pointer (some ⟨b3_1, 0, none⟩)), (4, .pointer (some ⟨b9_1, 0, none⟩)), (5, .pointer (some ⟨b5_1, 0, none⟩)), (6, .int .i64 x6')] ∧ C' = Sep w noM [R.box b9_1 55 [va0, .int .i64 t16_2, .int .u64 t16_3], R.box b5_1 33 [.string xb5_1_0', .string xb5_1_1', .int .i64 xb5_1_2'], R.box b3_1 25 [.string ByteArray.empty, .string ByteArray.empty], R.box b2_1 33 [.string ByteArray.empty, .string ByteArray.empty, .int .i64 0]]) k ?_ ?_ ?_
   ·exact ⟨w64 (59 + t16_1), ByteArray.empty, ByteArray.empty, 0, hE_2, rfl, rfl⟩
   ·rintro _ _ ⟨_, _, _, _, hE_2, _⟩
    rw [spec_DrawAppendRecord.l0.eq_1] at hE_2; cases hE_2
   ·rintro n_1 _ _ ⟨x6, xb5_1_0, xb5_1_1, xb5_1_2, hE_2, rfl, rfl⟩ ih_1
    rw [spec_DrawAppendRecord.l0.eq_2] at hE_2
    refine Tri.seq (Tri.seq (Tri.reg (l := [0, 1]) rfl ?_))
    refine F.qn rfl rfl rfl rfl (r_move rfl) ?_
    refine F.qn rfl rfl rfl rfl (r_gtr rfl rfl) ?_
    refine F.nil (Nrm.seq (Tri.cond (b := decide (x6 > 0)) rfl (fun g_2 => ?_) (fun g_2 => ?_)))
    ·replace hE_2 := if_tt g_2 hE_2
     refine Tri.skip (Nrm.seq (Tri.seq (Tri.block ?_)))
     obtain ⟨⟨t25_1, t25_2, t25_3, t25_4⟩, h25, hE_2⟩ := bind_some hE_2
     refine Tri.reg (l := [0, 1, 2, 3, 4, 5, 6]) rfl ?_
     refine F.qn rfl rfl rfl rfl (r_loadA ta33 ti33 rfl rfl (fun w hw => (box_cells (i := 1) rfl w hw))) ?_
     refine F.qn rfl rfl rfl rfl (r_build (pl := [(0, 1), (1, 1)]) (qs := [(0, [.string (ByteArray.mk #[120])])]) (cs := [.string (ByteArray.mk #[120]), .string ByteArray.empty]) (by kernel_rfl) ti25 rfl (.cons rfl rfl (Nat.le_of_ble_eq_true rfl) .nil) rfl rfl) ?_
     refine F.qcn rfl rfl rfl rfl (q_callF (xs := _) rfl ok14 rfl rfl (fun w hw => spec_AppendRecord.ok h25 w )) ?_
     refine F.qn rfl rfl rfl rfl (r_move rfl) ?_
     refine F.qn rfl rfl rfl rfl (r_extract rfl rfl) ?_
     refine F.qn rfl rfl rfl rfl (r_extract rfl rfl) ?_
     refine F.ef0 rfl rfl (wanted_none rfl) (d_storeG0 (i := 1) (cs2 := [.string t25_1, .string t25_2, .int .i64 t25_3]) ti33 rfl rfl rfl rfl rfl (Nat.le_of_ble_eq_true rfl) (lf_cons rfl (lf_cons rfl (lf_cons rfl lf_nil)))) ?_
     rintro _ _ ⟨rfl, rfl⟩
     refine F.nil (Nrm.block ?_)
     refine Nrm.seq (Tri.reg (l := [0, 1, 2]) rfl ?_)
     refine F.qn rfl rfl rfl rfl (r_move rfl) ?_
     refine F.qn rfl rfl rfl rfl (r_sub rfl rfl) ?_
     refine F.qn rfl rfl rfl rfl (r_assign rfl) ?_
     refine F.nil (Nrm.round ?_)
     refine Rnd.only [2, 3, 4, 5, 6] rfl ?_
     refine Rnd.pick [0, 1, 2, 3] rfl rfl ?_
     exact ih_1 _ _ ⟨w64 (x6 - 1), t25_1, t25_2, t25_3, hE_2, rfl, rfl⟩
    ·replace hE_2 := if_ff g_2 hE_2
     refine Tri.exit ?_
     refine Exi.then ?_
     refine Exi.then ?_
     refine Exi.same ?_
     cases hE_2
     cases hE_1
     refine Nrm.only [2, 3, 4, 5] rfl ?_
     refine Nrm.pick [0, 1, 2, 3] rfl rfl ?_
     exact hj_1 _ _ ⟨rfl, rfl⟩
  ·replace hE_1 := if_ff g_1 hE_1
   refine Tri.skip ?_
   cases hE_1
   refine Nrm.only [2, 3, 4, 5] rfl ?_
   refine Nrm.pick [0, 1, 2, 3] rfl rfl ?_
   exact hj_1 _ _ ⟨rfl, rfl⟩


def stringslite_Cut.f (k : Nat) (a0 : ByteArray) (a1 : ByteArray) : Option (ByteArray × ByteArray × Bool) := (stringslite_Index.f k a0 a1).bind fun t10 => (if (decide (t10 ≥ 0)) = true then (scut a0 0 t10).bind fun t15 => (scut a0 (w64 (t10 + (a1.size : Int))) (a0.size : Int)).bind fun t21 => some (t15, t21, true) else some (a0, ByteArray.empty, false))

theorem stringslite_Cut.ok {k : Nat}  {a0 : ByteArray} {a1 : ByteArray} {r0 : ByteArray} {r1 : ByteArray} {r2 : Bool} (h : stringslite_Cut.f k a0 a1 = some (r0, r1, r2)) (w : World) :
  Calls Tryd.prog 76 ([.string a0, .string a1] : List Value).toArray w (fun e w' => e = .returned (.tuple #[.string r0, .string r1, .bool r2]) ∧ Ext w w') := by
 unfold stringslite_Cut.f at h
 refine Calls.of_tri (N := 23) Tryd.func76 rfl rfl rfl (Sep.nil (M := noM)) ?_
 refine Tri.seq (Tri.reg (l := [0, 1, 2]) rfl ?_)
 iterate 3 refine F.qn rfl rfl rfl rfl (r_assign rfl) ?_
 refine F.nil (Nrm.seq (Tri.seq (Tri.seq ?_)))
 obtain ⟨t10, h10, h⟩ := bind_some h
 refine Tri.reg (l := [0, 1, 2, 3]) rfl ?_
 refine F.qn rfl rfl rfl rfl (r_move rfl) ?_
 refine F.qn rfl rfl rfl rfl (r_move rfl) ?_
 refine F.qcn rfl rfl rfl rfl (q_callF (xs := _) rfl ok70 rfl rfl (fun w hw => stringslite_Index.ok h10 w )) ?_
 refine F.qn rfl rfl rfl rfl (r_assign rfl) ?_
 refine F.nil (Nrm.seq (Tri.seq (Tri.reg (l := [0, 1]) rfl ?_)))
 refine F.qn rfl rfl rfl rfl (r_move rfl) ?_
 refine F.qn rfl rfl rfl rfl (r_geq rfl rfl) ?_
 refine F.nil (Nrm.seq (Tri.cond (b := decide (t10 ≥ 0)) rfl (fun g_1 => ?_) (fun g_1 => ?_)))
 ·replace h := if_tt g_1 h
  refine Tri.seq ?_
  obtain ⟨t15, h15, h⟩ := bind_some h
  obtain ⟨t21, h21, h⟩ := bind_some h
  refine Tri.drawA mixedT Sep.up [(0, true), (1, true), (2, true), (3, true), (4, true), (5, true), (6, true), (7, true), (8, true), (9, true), (10, true), (11, true)] [] (by kernel_rfl) ?_
  refine S.qn rfl rfl rfl rfl (r_move rfl) ?_
  refine S.qn rfl rfl rfl rfl (r_move rfl) ?_
  refine S.qn rfl rfl rfl rfl (r_scutH Tryd.underlying9 rfl rfl h15) ?_
  iterate 3 refine S.qn rfl rfl rfl rfl (r_move rfl) ?_
  refine S.qn rfl rfl rfl rfl (r_lenS Tryd.underlying9 rfl) ?_
  refine S.qn rfl rfl rfl rfl (r_add rfl rfl) ?_
  refine S.qn rfl rfl rfl rfl (r_scutL Tryd.underlying9 rfl rfl h21) ?_
  iterate 3 refine S.qn rfl rfl rfl rfl (r_assign rfl) ?_
  refine S.nil (F.nil (Nrm.seq (Tri.ret ?_)))
  refine Rtn.then ?_
  cases h
  exact Rtn.body (.tmp rfl (.tmp rfl (.tmp rfl .nil))) (fun w hw => ⟨rfl, hw.ext⟩)
 ·replace h := if_ff g_1 h
  refine Tri.skip (Nrm.seq (Tri.seq (Tri.reg (l := [0, 1, 2, 3]) rfl ?_)))
  refine F.qn rfl rfl rfl rfl (r_move rfl) ?_
  iterate 3 refine F.qn rfl rfl rfl rfl (r_assign rfl) ?_
  refine F.nil (Nrm.seq (Tri.ret ?_))
  cases h
  exact Rtn.body (.tmp rfl (.tmp rfl (.tmp rfl .nil))) (fun w hw => ⟨rfl, hw.ext⟩)


def strings_Cut.f (k : Nat) (a0 : ByteArray) (a1 : ByteArray) : Option (ByteArray × ByteArray × Bool) := (stringslite_Cut.f k a0 a1).bind fun (t9_1, t9_2, t9_3) => some (t9_1, t9_2, t9_3)

theorem strings_Cut.ok {k : Nat}  {a0 : ByteArray} {a1 : ByteArray} {r0 : ByteArray} {r1 : ByteArray} {r2 : Bool} (h : strings_Cut.f k a0 a1 = some (r0, r1, r2)) (w : World) :
  Calls Tryd.prog 67 ([.string a0, .string a1] : List Value).toArray w (fun e w' => e = .returned (.tuple #[.string r0, .string r1, .bool r2]) ∧ Ext w w') := by
 unfold strings_Cut.f at h
 refine Calls.of_tri (N := 13) Tryd.func67 rfl rfl rfl (Sep.nil (M := noM)) ?_
 refine Tri.seq (Tri.reg (l := [0, 1, 2]) rfl ?_)
 iterate 3 refine F.qn rfl rfl rfl rfl (r_assign rfl) ?_
 refine F.nil (Nrm.seq (Tri.seq ?_))
 obtain ⟨⟨t9_1, t9_2, t9_3⟩, h9, h⟩ := bind_some h
 refine Tri.reg (l := [0, 1, 2, 3, 4, 5, 6, 7, 8]) rfl ?_
 refine F.qn rfl rfl rfl rfl (r_move rfl) ?_
 refine F.qn rfl rfl rfl rfl (r_move rfl) ?_
 refine F.qcn rfl rfl rfl rfl (q_callF (xs := _) rfl ok76 rfl rfl (fun w hw => stringslite_Cut.ok h9 w )) ?_
 iterate 3 refine F.qn rfl rfl rfl rfl (r_extract rfl rfl) ?_
 iterate 3 refine F.qn rfl rfl rfl rfl (r_assign rfl) ?_
 refine F.nil (Nrm.seq (Tri.ret ?_))
 cases h
 exact Rtn.body (.tmp rfl (.tmp rfl (.tmp rfl .nil))) (fun w hw => ⟨rfl, hw.ext⟩)


def impl_VerifyChecksum.f (k : Nat) (a0 : ByteArray) : Option (ByteArray × Bool) := (strings_Cut.f k a0 (ByteArray.mk #[35])).bind fun (t11_1, t11_2, t11_3) => (impl_AppendChecksum.f k t11_1).bind fun (t17_1, t17_2) => ((if (!t17_2) = true then some true else some (!(t17_1.toList == a0.toList)))).bind fun y26 => (if y26 = true then some (ByteArray.empty, false) else some (t11_1, true))

theorem impl_VerifyChecksum.ok {k : Nat}  {a0 : ByteArray} {r0 : ByteArray} {r1 : Bool} (h : impl_VerifyChecksum.f k a0 = some (r0, r1)) (w : World) (ht : Lib.TabIs Tryd.prog w "internal/strconv.uint64pow10" .u64 Lib.pow10Tab) :
  Calls Tryd.prog 68 ([.string a0] : List Value).toArray w (fun e w' => e = .returned (.tuple #[.string r0, .bool r1]) ∧ Ext w w') := by
 unfold impl_VerifyChecksum.f at h
 refine Calls.of_tri (N := 28) Tryd.func68 rfl rfl rfl (Sep.nil (M := noM)) ?_
 refine Tri.seq (Tri.reg (l := [0, 1]) rfl ?_)
 refine F.qn rfl rfl rfl rfl (r_assign rfl) ?_
 refine F.qn rfl rfl rfl rfl (r_assign rfl) ?_
 refine F.nil (Nrm.seq (Tri.seq ?_))
 obtain ⟨⟨t11_1, t11_2, t11_3⟩, h11, h⟩ := bind_some h
 refine Tri.reg (l := [0, 1, 2, 3, 4, 5, 6, 7, 8]) rfl ?_
 refine F.qn rfl rfl rfl rfl (r_move rfl) ?_
 refine F.qcn rfl rfl rfl rfl (q_callF (xs := _) rfl ok67 rfl rfl (fun w hw => strings_Cut.ok h11 w )) ?_
 refine F.qn rfl rfl rfl rfl (r_move rfl) ?_
 iterate 3 refine F.qn rfl rfl rfl rfl (r_extract rfl rfl) ?_
 iterate 3 refine F.qn rfl rfl rfl rfl (r_assign rfl) ?_
 refine F.nil (Nrm.seq (Tri.seq (Tri.seq ?_)))
 obtain ⟨⟨t17_1, t17_2⟩, h17, h⟩ := bind_some h
 refine Tri.reg (l := [0, 1, 2, 3, 4, 5, 6]) rfl ?_
 refine F.qn rfl rfl rfl rfl (r_move rfl) ?_
 refine F.qcn rfl rfl rfl rfl (q_callF (xs := _) rfl ok33 rfl rfl (fun w hw => impl_AppendChecksum.ok h17 w (Tab.sep ht hw))) ?_
 refine F.qn rfl rfl rfl rfl (r_move rfl) ?_
 refine F.qn rfl rfl rfl rfl (r_extract rfl rfl) ?_
 refine F.qn rfl rfl rfl rfl (r_extract rfl rfl) ?_
 refine F.qn rfl rfl rfl rfl (r_assign rfl) ?_
 refine F.qn rfl rfl rfl rfl (r_assign rfl) ?_
 refine F.nil (Nrm.seq (Tri.seq ?_))
 obtain ⟨y26, hE_1, h⟩ := bind_some h
 refine Tri.cut (fun e' C' => e' = [(4, .string t11_1), (26, .bool y26)] ∧ C' = Sep w noM []) ?_ (fun hj_1 => ?_)
 ·rintro _ _ ⟨rfl, rfl⟩
  refine Nrm.seq (Tri.cond (b := y26) rfl (fun g_1 => ?_) (fun g_1 => ?_))
  ·replace h := if_tt g_1 h
   refine Tri.seq (Tri.reg (l := [0, 1]) rfl ?_)
   refine F.qn rfl rfl rfl rfl (r_assign rfl) ?_
   refine F.qn rfl rfl rfl rfl (r_assign rfl) ?_
   refine F.nil (Nrm.seq (Tri.ret ?_))
   refine Rtn.then ?_
   cases h
   exact Rtn.body (.tmp rfl (.tmp rfl .nil)) (fun w hw => ⟨rfl, hw.ext⟩)
  ·replace h := if_ff g_1 h
   refine Tri.skip (Nrm.seq (Tri.seq (Tri.reg (l := [0, 1, 2]) rfl ?_)))
   refine F.qn rfl rfl rfl rfl (r_move rfl) ?_
   refine F.qn rfl rfl rfl rfl (r_assign rfl) ?_
   refine F.qn rfl rfl rfl rfl (r_assign rfl) ?_
   refine F.nil (Nrm.seq (Tri.ret ?_))
   cases h
   exact Rtn.body (.tmp rfl (.tmp rfl .nil)) (fun w hw => ⟨rfl, hw.ext⟩)
 ·rcases Bool.eq_false_or_eq_true (!t17_2) with g22 | g22
  ·replace hE_1 := if_tt g22 hE_1
   refine Tri.reg (l := [0, 1, 2, 3, 4, 5, 6]) rfl ?_
   refine F.qn rfl rfl rfl rfl (r_move rfl) ?_
   refine F.qn rfl rfl rfl rfl (r_not rfl) ?_
   refine F.qn rfl rfl rfl rfl (r_move rfl) ?_
   iterate 3 refine F.sk rfl rfl rfl (wf rfl rfl rfl g22) ?_
   refine F.qn rfl rfl rfl rfl (r_pick rfl rfl g22) ?_
   refine F.nil ?_
   cases hE_1
   refine Nrm.only [4, 26] rfl ?_
   refine Nrm.pick [] rfl rfl ?_
   exact hj_1 _ _ ⟨rfl, rfl⟩
  ·replace hE_1 := if_ff g22 hE_1
   refine Tri.reg (l := [0, 1, 2, 3, 4, 5, 6]) rfl ?_
   refine F.qn rfl rfl rfl rfl (r_move rfl) ?_
   refine F.qn rfl rfl rfl rfl (r_not rfl) ?_
   refine F.qn rfl rfl rfl rfl (r_move rfl) ?_
   refine F.qg rfl rfl rfl rfl rfl rfl g22 (r_move rfl) ?_
   refine F.qg rfl rfl rfl rfl rfl rfl g22 (r_move rfl) ?_
   refine F.qg rfl rfl rfl rfl rfl rfl g22 (r_neqS rfl rfl) ?_
   refine F.qn rfl rfl rfl rfl (r_pickf rfl rfl g22) ?_
   refine F.nil ?_
   cases hE_1
   refine Nrm.only [4, 26] rfl ?_
   refine Nrm.pick [] rfl rfl ?_
   exact hj_1 _ _ ⟨rfl, rfl⟩


def stringslite_HasPrefix.f (k : Nat) (a0 : ByteArray) (a1 : ByteArray) : Option (Bool) := ((if (decide ((a0.size : Int) ≥ (a1.size : Int))) = true then (scut a0 0 (a1.size : Int)).bind fun t14 => some (t14.toList == a1.toList) else some false)).bind fun y4 => some y4

theorem stringslite_HasPrefix.ok {k : Nat}  {a0 : ByteArray} {a1 : ByteArray} {r0 : Bool} (h : stringslite_HasPrefix.f k a0 a1 = some r0) (w : World) :
  Calls Tryd.prog 86 ([.string a0, .string a1] : List Value).toArray w (fun e w' => e = .returned (.bool r0) ∧ Ext w w') := by
 unfold stringslite_HasPrefix.f at h
 refine Calls.of_tri (N := 18) Tryd.func86 rfl rfl rfl (Sep.nil (M := noM)) ?_
 refine Tri.seq (Tri.reg (l := [0]) rfl ?_)
 refine F.qn rfl rfl rfl rfl (r_assign rfl) ?_
 refine F.nil (Nrm.seq (Tri.seq ?_))
 obtain ⟨y4, hE_1, h⟩ := bind_some h
 refine Tri.cut (fun e' C' => e' = [(4, .bool y4)] ∧ C' = Sep w noM []) ?_ (fun hj_1 => ?_)
 ·rintro _ _ ⟨rfl, rfl⟩
  refine Nrm.seq (Tri.ret ?_)
  cases h
  exact Rtn.body (.tmp rfl .nil) (fun w hw => ⟨rfl, hw.ext⟩)
 ·rcases Bool.eq_false_or_eq_true (decide ((a0.size : Int) ≥ (a1.size : Int))) with g10 | g10
  ·replace hE_1 := if_tt g10 hE_1
   obtain ⟨t14, h14, hE_1⟩ := bind_some hE_1
   refine Tri.reg (l := List.range 14) rfl ?_
   refine F.qn rfl rfl rfl rfl (r_move rfl) ?_
   refine F.qn rfl rfl rfl rfl (r_lenS Tryd.underlying9 rfl) ?_
   refine F.qn rfl rfl rfl rfl (r_move rfl) ?_
   refine F.qn rfl rfl rfl rfl (r_lenS Tryd.underlying9 rfl) ?_
   refine F.qn rfl rfl rfl rfl (r_geq rfl rfl) ?_
   refine F.qn rfl rfl rfl rfl (r_move rfl) ?_
   refine F.qg rfl rfl rfl rfl rfl rfl g10 (r_move rfl) ?_
   refine F.qg rfl rfl rfl rfl rfl rfl g10 (r_move rfl) ?_
   refine F.qg rfl rfl rfl rfl rfl rfl g10 (r_lenS Tryd.underlying9 rfl) ?_
   refine F.qg rfl rfl rfl rfl rfl rfl g10 (r_scutH Tryd.underlying9 rfl rfl h14) ?_
   refine F.qg rfl rfl rfl rfl rfl rfl g10 (r_move rfl) ?_
   refine F.qg rfl rfl rfl rfl rfl rfl g10 (r_eqlS rfl rfl) ?_
   refine F.qn rfl rfl rfl rfl (r_pick rfl rfl g10) ?_
   refine F.qn rfl rfl rfl rfl (r_assign rfl) ?_
   refine F.nil ?_
   cases hE_1
   refine Nrm.only [4] rfl ?_
   refine Nrm.pick [] rfl rfl ?_
   exact hj_1 _ _ ⟨rfl, rfl⟩
  ·replace hE_1 := if_ff g10 hE_1
   refine Tri.reg (l := List.range 14) rfl ?_
   refine F.qn rfl rfl rfl rfl (r_move rfl) ?_
   refine F.qn rfl rfl rfl rfl (r_lenS Tryd.underlying9 rfl) ?_
   refine F.qn rfl rfl rfl rfl (r_move rfl) ?_
   refine F.qn rfl rfl rfl rfl (r_lenS Tryd.underlying9 rfl) ?_
   refine F.qn rfl rfl rfl rfl (r_geq rfl rfl) ?_
   refine F.qn rfl rfl rfl rfl (r_move rfl) ?_
   iterate 6 refine F.sk rfl rfl rfl (wf rfl rfl rfl g10) ?_
   refine F.qn rfl rfl rfl rfl (r_pickf rfl rfl g10) ?_
   refine F.qn rfl rfl rfl rfl (r_assign rfl) ?_
   refine F.nil ?_
   cases hE_1
   refine Nrm.only [4] rfl ?_
   refine Nrm.pick [] rfl rfl ?_
   exact hj_1 _ _ ⟨rfl, rfl⟩


def stringslite_CutPrefix.f (k : Nat) (a0 : ByteArray) (a1 : ByteArray) : Option (ByteArray × Bool) := (stringslite_HasPrefix.f k a0 a1).bind fun t8 => (if (!t8) = true then some (a0, false) else (scut a0 (a1.size : Int) (a0.size : Int)).bind fun t14 => some (t14, true))

theorem stringslite_CutPrefix.ok {k : Nat}  {a0 : ByteArray} {a1 : ByteArray} {r0 : ByteArray} {r1 : Bool} (h : stringslite_CutPrefix.f k a0 a1 = some (r0, r1)) (w : World) :
  Calls Tryd.prog 77 ([.string a0, .string a1] : List Value).toArray w (fun e w' => e = .returned (.tuple #[.string r0, .bool r1]) ∧ Ext w w') := by
 unfold stringslite_CutPrefix.f at h
 refine Calls.of_tri (N := 15) Tryd.func77 rfl rfl rfl (Sep.nil (M := noM)) ?_
 refine Tri.seq (Tri.reg (l := [0, 1]) rfl ?_)
 refine F.qn rfl rfl rfl rfl (r_assign rfl) ?_
 refine F.qn rfl rfl rfl rfl (r_assign rfl) ?_
 refine F.nil (Nrm.seq (Tri.seq (Tri.seq ?_)))
 obtain ⟨t8, h8, h⟩ := bind_some h
 refine Tri.reg (l := [0, 1, 2, 3]) rfl ?_
 refine F.qn rfl rfl rfl rfl (r_move rfl) ?_
 refine F.qn rfl rfl rfl rfl (r_move rfl) ?_
 refine F.qcn rfl rfl rfl rfl (q_callF (xs := _) rfl ok86 rfl rfl (fun w hw => stringslite_HasPrefix.ok h8 w )) ?_
 refine F.qn rfl rfl rfl rfl (r_not rfl) ?_
 refine F.nil (Nrm.seq (Tri.cond (b := !t8) rfl (fun g_1 => ?_) (fun g_1 => ?_)))
 ·replace h := if_tt g_1 h
  refine Tri.seq (Tri.reg (l := [0, 1, 2]) rfl ?_)
  refine F.qn rfl rfl rfl rfl (r_move rfl) ?_
  refine F.qn rfl rfl rfl rfl (r_assign rfl) ?_
  refine F.qn rfl rfl rfl rfl (r_assign rfl) ?_
  refine F.nil (Nrm.seq (Tri.ret ?_))
  refine Rtn.then ?_
  cases h
  exact Rtn.body (.tmp rfl (.tmp rfl .nil)) (fun w hw => ⟨rfl, hw.ext⟩)
 ·replace h := if_ff g_1 h
  refine Tri.skip (Nrm.seq (Tri.seq ?_))
  obtain ⟨t14, h14, h⟩ := bind_some h
  refine Tri.reg (l := [0, 1, 2, 3, 4, 5]) rfl ?_
  refine F.qn rfl rfl rfl rfl (r_move rfl) ?_
  refine F.qn rfl rfl rfl rfl (r_move rfl) ?_
  refine F.qn rfl rfl rfl rfl (r_lenS Tryd.underlying9 rfl) ?_
  refine F.qn rfl rfl rfl rfl (r_scutL Tryd.underlying9 rfl rfl h14) ?_
  refine F.qn rfl rfl rfl rfl (r_assign rfl) ?_
  refine F.qn rfl rfl rfl rfl (r_assign rfl) ?_
  refine F.nil (Nrm.seq (Tri.ret ?_))
  cases h
  exact Rtn.body (.tmp rfl (.tmp rfl .nil)) (fun w hw => ⟨rfl, hw.ext⟩)


def strings_CutPrefix.f (k : Nat) (a0 : ByteArray) (a1 : ByteArray) : Option (ByteArray × Bool) := (stringslite_CutPrefix.f k a0 a1).bind fun (t8_1, t8_2) => some (t8_1, t8_2)

theorem strings_CutPrefix.ok {k : Nat}  {a0 : ByteArray} {a1 : ByteArray} {r0 : ByteArray} {r1 : Bool} (h : strings_CutPrefix.f k a0 a1 = some (r0, r1)) (w : World) :
  Calls Tryd.prog 69 ([.string a0, .string a1] : List Value).toArray w (fun e w' => e = .returned (.tuple #[.string r0, .bool r1]) ∧ Ext w w') := by
 unfold strings_CutPrefix.f at h
 refine Calls.of_tri (N := 11) Tryd.func69 rfl rfl rfl (Sep.nil (M := noM)) ?_
 refine Tri.seq (Tri.reg (l := [0, 1]) rfl ?_)
 refine F.qn rfl rfl rfl rfl (r_assign rfl) ?_
 refine F.qn rfl rfl rfl rfl (r_assign rfl) ?_
 refine F.nil (Nrm.seq (Tri.seq ?_))
 obtain ⟨⟨t8_1, t8_2⟩, h8, h⟩ := bind_some h
 refine Tri.reg (l := [0, 1, 2, 3, 4, 5, 6]) rfl ?_
 refine F.qn rfl rfl rfl rfl (r_move rfl) ?_
 refine F.qn rfl rfl rfl rfl (r_move rfl) ?_
 refine F.qcn rfl rfl rfl rfl (q_callF (xs := _) rfl ok77 rfl rfl (fun w hw => stringslite_CutPrefix.ok h8 w )) ?_
 refine F.qn rfl rfl rfl rfl (r_extract rfl rfl) ?_
 refine F.qn rfl rfl rfl rfl (r_extract rfl rfl) ?_
 refine F.qn rfl rfl rfl rfl (r_assign rfl) ?_
 refine F.qn rfl rfl rfl rfl (r_assign rfl) ?_
 refine F.nil (Nrm.seq (Tri.ret ?_))
 cases h
 exact Rtn.body (.tmp rfl (.tmp rfl .nil)) (fun w hw => ⟨rfl, hw.ext⟩)


def impl_decode.f (k : Nat) (a0 : Int) (a1 : ByteArray) : Option (ByteArray × ByteArray × Int × Bool) := (strings_Cut.f k a1 (ByteArray.mk #[10])).bind fun (t20_1, t20_2, t20_3) => (impl_VerifyChecksum.f k t20_1).bind fun (t26_1, t26_2) => (strconv_Itoa.f k a0).bind fun t32 => if (t32 ++ (ByteArray.mk #[32])).size < 4611686018427387904 then (strings_CutPrefix.f k t26_1 (t32 ++ (ByteArray.mk #[32]))).bind fun (t34_1, t34_2) => (strings_Cut.f k t34_1 (ByteArray.mk #[64])).bind fun (t39_1, t39_2, t39_3) => ((if (!t20_3) = true then some true else (if (!t26_2) = true then some true else (if (!t34_2) = true then some true else (if (!t39_3) = true then some true else (if (decide (a0 ≥ 60)) = true then some true else (impl_IsValidRecord.f k t39_1 t39_2).bind fun t66 => some (!t66))))))).bind fun y68 => (if y68 = true then some (ByteArray.empty, ByteArray.empty, 0, false) else some (t39_1, t39_2, w64 ((t20_1.size : Int) + 1), true)) else none

theorem impl_decode.ok {k : Nat}  {a0 : Int} {a1 : ByteArray} {r0 : ByteArray} {r1 : ByteArray} {r2 : Int} {r3 : Bool} (h : impl_decode.f k a0 a1 = some (r0, r1, r2, r3)) (w : World) (ht : Lib.TabIs Tryd.prog w "internal/strconv.uint64pow10" .u64 Lib.pow10Tab) :
  Calls Tryd.prog 59 ([.int .i64 a0, .string a1] : List Value).toArray w (fun e w' => e = .returned (.tuple #[.agg [.string r0, .string r1].toArray, .int .i64 r2, .bool r3]) ∧ Ext w w') := by
 unfold impl_decode.f at h
 refine Calls.of_tri (N := 74) Tryd.func59 rfl rfl rfl (Sep.nil (M := noM)) ?_
 refine Tri.seq (Tri.reg (l := [0, 1, 2]) rfl ?_)
 refine F.mn rfl rfl rfl rfl (m_alloc ti25) ?_
 rintro _ _ ⟨b4_1, rfl, rfl⟩
 refine F.qn rfl rfl rfl rfl (r_assign rfl) ?_
 refine F.qn rfl rfl rfl rfl (r_assign rfl) ?_
 refine F.nil (Nrm.seq (Tri.seq ?_))
 obtain ⟨⟨t20_1, t20_2, t20_3⟩, h20, h⟩ := bind_some h
 refine Tri.reg (l := [0, 1, 2, 3, 4, 5, 6, 7, 8]) rfl ?_
 refine F.qn rfl rfl rfl rfl (r_move rfl) ?_
 refine F.qcn rfl rfl rfl rfl (q_callF (xs := _) rfl ok67 rfl rfl (fun w hw => strings_Cut.ok h20 w )) ?_
 refine F.qn rfl rfl rfl rfl (r_move rfl) ?_
 iterate 3 refine F.qn rfl rfl rfl rfl (r_extract rfl rfl) ?_
 iterate 3 refine F.qn rfl rfl rfl rfl (r_assign rfl) ?_
 refine F.nil (Nrm.seq (Tri.seq ?_))
 obtain ⟨⟨t26_1, t26_2⟩, h26, h⟩ := bind_some h
 refine Tri.reg (l := [0, 1, 2, 3, 4, 5, 6]) rfl ?_
 refine F.qn rfl rfl rfl rfl (r_move rfl) ?_
 refine F.qcn rfl rfl rfl rfl (q_callF (xs := _) rfl ok68 rfl rfl (fun w hw => impl_VerifyChecksum.ok h26 w (Tab.sep ht hw))) ?_
 refine F.qn rfl rfl rfl rfl (r_move rfl) ?_
 refine F.qn rfl rfl rfl rfl (r_extract rfl rfl) ?_
 refine F.qn rfl rfl rfl rfl (r_extract rfl rfl) ?_
 refine F.qn rfl rfl rfl rfl (r_assign rfl) ?_
 refine F.qn rfl rfl rfl rfl (r_assign rfl) ?_
 refine F.nil (Nrm.seq (Tri.seq ?_))
 obtain ⟨t32, h32, h⟩ := bind_some h
 obtain ⟨hs33, h⟩ := ck h
 obtain ⟨⟨t34_1, t34_2⟩, h34, h⟩ := bind_some h
 refine Tri.reg (l := [0, 1, 2, 3, 4, 5, 6, 7, 8, 9]) rfl ?_
 refine F.qn rfl rfl rfl rfl (r_move rfl) ?_
 refine F.qn rfl rfl rfl rfl (r_move rfl) ?_
 refine F.qcn rfl rfl rfl rfl (q_callF (xs := _) rfl ok34 rfl rfl (fun w hw => strconv_Itoa.ok h32 w (Tab.sep ht hw))) ?_
 refine F.qn rfl rfl rfl rfl (r_addS rfl rfl hs33) ?_
 refine F.qcn rfl rfl rfl rfl (q_callF (xs := _) rfl ok69 rfl rfl (fun w hw => strings_CutPrefix.ok h34 w )) ?_
 refine F.qn rfl rfl rfl rfl (r_move rfl) ?_
 refine F.qn rfl rfl rfl rfl (r_extract rfl rfl) ?_
 refine F.qn rfl rfl rfl rfl (r_extract rfl rfl) ?_
 refine F.qn rfl rfl rfl rfl (r_assign rfl) ?_
 refine F.qn rfl rfl rfl rfl (r_assign rfl) ?_
 refine F.nil (Nrm.seq (Tri.seq ?_))
 obtain ⟨⟨t39_1, t39_2, t39_3⟩, h39, h⟩ := bind_some h
 refine Tri.reg (l := [0, 1, 2, 3, 4, 5, 6, 7, 8]) rfl ?_
 refine F.qn rfl rfl rfl rfl (r_move rfl) ?_
 refine F.qcn rfl rfl rfl rfl (q_callF (xs := _) rfl ok67 rfl rfl (fun w hw => strings_Cut.ok h39 w )) ?_
 refine F.qn rfl rfl rfl rfl (r_move rfl) ?_
 iterate 3 refine F.qn rfl rfl rfl rfl (r_extract rfl rfl) ?_
 iterate 3 refine F.qn rfl rfl rfl rfl (r_assign rfl) ?_
 refine F.nil (Nrm.seq (Tri.seq (Tri.reg (l := [0, 1, 2, 3, 4]) rfl ?_)))
 refine F.qn rfl rfl rfl rfl (r_move rfl) ?_
 refine F.qn rfl rfl rfl rfl (r_move rfl) ?_
 refine F.qn rfl rfl rfl rfl (r_build (pl := [(0, 1), (1, 1)]) (qs := [(0, [.string t39_1]), (1, [.string t39_2])]) (cs := [.string t39_1, .string t39_2]) (by kernel_rfl) ti25 rfl (.cons rfl rfl (Nat.le_of_ble_eq_true rfl) (.cons rfl rfl (Nat.le_of_ble_eq_true rfl) .nil)) rfl rfl) ?_
 refine F.mn rfl rfl rfl rfl (m_alloc ti25) ?_
 rintro _ _ ⟨b17_1, rfl, rfl⟩
 refine F.ef0 rfl rfl (wanted_none rfl) (d_storeG0 (i := 0) (cs2 := [.string t39_1, .string t39_2]) ti25 rfl rfl rfl rfl rfl (Nat.le_of_ble_eq_true rfl) (lf_cons rfl (lf_cons rfl lf_nil))) ?_
 rintro _ _ ⟨rfl, rfl⟩
 refine F.nil (Nrm.seq (Tri.seq (Tri.seq ?_)))
 obtain ⟨y68, hE_1, h⟩ := bind_some h
 refine Tri.cut (fun e' C' => e' = [(4, .pointer (some ⟨b4_1, 0, none⟩)), (7, .string t20_1), (17, .pointer (some ⟨b17_1, 0, none⟩)), (68, .bool y68)] ∧ C' = Sep w noM [R.box b17_1 25 [.string t39_1, .string t39_2], R.box b4_1 25 [.string ByteArray.empty, .string ByteArray.empty]]) ?_ (fun hj_1 => ?_)
 ·rintro _ _ ⟨rfl, rfl⟩
  refine Nrm.seq (Tri.cond (b := y68) rfl (fun g_1 => ?_) (fun g_1 => ?_))
  ·replace h := if_tt g_1 h
   refine Tri.seq (Tri.reg (l := [0, 1, 2, 3]) rfl ?_)
   refine F.qn rfl rfl rfl rfl (r_build (pl := [(0, 1), (1, 1)]) (qs := []) (cs := [.string ByteArray.empty, .string ByteArray.empty]) (by kernel_rfl) ti25 rfl .nil rfl rfl) ?_
   refine F.ef0 rfl rfl (wanted_none rfl) (d_storeG0 (i := 1) (cs2 := [.string ByteArray.empty, .string ByteArray.empty]) ti25 rfl rfl rfl rfl rfl (Nat.le_of_ble_eq_true rfl) (lf_cons rfl (lf_cons rfl lf_nil))) ?_
   rintro _ _ ⟨rfl, rfl⟩
   refine F.qn rfl rfl rfl rfl (r_assign rfl) ?_
   refine F.qn rfl rfl rfl rfl (r_assign rfl) ?_
   refine F.nil (Nrm.seq (Tri.ret ?_))
   refine Rtn.then ?_
   cases h
   exact Rtn.body (.cell rfl ta25 ti25 rfl (fun _ hw => box_cells (i := 1) rfl _ hw) (.tmp rfl (.tmp rfl .nil))) (fun w hw => ⟨rfl, hw.ext⟩)
  ·replace h := if_ff g_1 h
   refine Tri.skip (Nrm.seq (Tri.seq (Tri.reg (l := [0, 1, 2, 3, 4, 5, 6]) rfl ?_)))
   refine F.qn rfl rfl rfl rfl (r_loadA ta25 ti25 rfl rfl (fun w hw => (box_cells (i := 0) rfl w hw))) ?_
   refine F.qn rfl rfl rfl rfl (r_move rfl) ?_
   refine F.qn rfl rfl rfl rfl (r_lenS Tryd.underlying9 rfl) ?_
   refine F.qn rfl rfl rfl rfl (r_add rfl rfl) ?_
   refine F.ef0 rfl rfl (wanted_none rfl) (d_storeG0 (i := 1) (cs2 := [.string t39_1, .string t39_2]) ti25 rfl rfl rfl rfl rfl (Nat.le_of_ble_eq_true rfl) (lf_cons rfl (lf_cons rfl lf_nil))) ?_
   rintro _ _ ⟨rfl, rfl⟩
   refine F.qn rfl rfl rfl rfl (r_assign rfl) ?_
   refine F.qn rfl rfl rfl rfl (r_assign rfl) ?_
   refine F.nil (Nrm.seq (Tri.ret ?_))
   cases h
   exact Rtn.body (.cell rfl ta25 ti25 rfl (fun _ hw => box_cells (i := 1) rfl _ hw) (.tmp rfl (.tmp rfl .nil))) (fun w hw => ⟨rfl, hw.ext⟩)
 ·rcases Bool.eq_false_or_eq_true (!t20_3) with g48 | g48
  ·replace hE_1 := if_tt g48 hE_1
   refine Tri.reg (l := List.range 23) rfl ?_
   refine F.qn rfl rfl rfl rfl (r_move rfl) ?_
   refine F.qn rfl rfl rfl rfl (r_not rfl) ?_
   refine F.qn rfl rfl rfl rfl (r_move rfl) ?_
   refine F.sk rfl rfl rfl (wf rfl rfl rfl g48) ?_
   refine F.sk rfl rfl rfl (wf rfl rfl rfl g48) ?_
   refine F.qn rfl rfl rfl rfl (r_pick rfl rfl g48) ?_
   refine F.qn rfl rfl rfl rfl (r_move rfl) ?_
   refine F.sk rfl rfl rfl (wf rfl rfl rfl rfl) ?_
   refine F.sk rfl rfl rfl (wf rfl rfl rfl rfl) ?_
   refine F.qn rfl rfl rfl rfl (r_pick rfl rfl rfl) ?_
   refine F.qn rfl rfl rfl rfl (r_move rfl) ?_
   refine F.sk rfl rfl rfl (wf rfl rfl rfl rfl) ?_
   refine F.sk rfl rfl rfl (wf rfl rfl rfl rfl) ?_
   refine F.qn rfl rfl rfl rfl (r_pick rfl rfl rfl) ?_
   refine F.qn rfl rfl rfl rfl (r_move rfl) ?_
   refine F.sk rfl rfl rfl (wf rfl rfl rfl rfl) ?_
   refine F.sk rfl rfl rfl (wf rfl rfl rfl rfl) ?_
   refine F.qn rfl rfl rfl rfl (r_pick rfl rfl rfl) ?_
   refine F.qn rfl rfl rfl rfl (r_move rfl) ?_
   iterate 3 refine F.sk rfl rfl rfl (wf rfl rfl rfl rfl) ?_
   refine F.qn rfl rfl rfl rfl (r_pick rfl rfl rfl) ?_
   refine F.nil ?_
   cases hE_1
   refine Nrm.only [4, 7, 17, 68] rfl ?_
   refine Nrm.pick [0, 1] rfl rfl ?_
   exact hj_1 _ _ ⟨rfl, rfl⟩
  ·replace hE_1 := if_ff g48 hE_1
   rcases Bool.eq_false_or_eq_true (!t26_2) with g52 | g52
   ·replace hE_1 := if_tt g52 hE_1
    refine Tri.reg (l := List.range 23) rfl ?_
    refine F.qn rfl rfl rfl rfl (r_move rfl) ?_
    refine F.qn rfl rfl rfl rfl (r_not rfl) ?_
    refine F.qn rfl rfl rfl rfl (r_move rfl) ?_
    refine F.qg rfl rfl rfl rfl rfl rfl g48 (r_move rfl) ?_
    refine F.qg rfl rfl rfl rfl rfl rfl g48 (r_not rfl) ?_
    refine F.qn rfl rfl rfl rfl (r_pickf rfl rfl g48) ?_
    refine F.qn rfl rfl rfl rfl (r_move rfl) ?_
    refine F.sk rfl rfl rfl (wf rfl rfl rfl g52) ?_
    refine F.sk rfl rfl rfl (wf rfl rfl rfl g52) ?_
    refine F.qn rfl rfl rfl rfl (r_pick rfl rfl g52) ?_
    refine F.qn rfl rfl rfl rfl (r_move rfl) ?_
    refine F.sk rfl rfl rfl (wf rfl rfl rfl rfl) ?_
    refine F.sk rfl rfl rfl (wf rfl rfl rfl rfl) ?_
    refine F.qn rfl rfl rfl rfl (r_pick rfl rfl rfl) ?_
    refine F.qn rfl rfl rfl rfl (r_move rfl) ?_
    refine F.sk rfl rfl rfl (wf rfl rfl rfl rfl) ?_
    refine F.sk rfl rfl rfl (wf rfl rfl rfl rfl) ?_
    refine F.qn rfl rfl rfl rfl (r_pick rfl rfl rfl) ?_
    refine F.qn rfl rfl rfl rfl (r_move rfl) ?_
    iterate 3 refine F.sk rfl rfl rfl (wf rfl rfl rfl rfl) ?_
    refine F.qn rfl rfl rfl rfl (r_pick rfl rfl rfl) ?_
    refine F.nil ?_
    cases hE_1
    refine Nrm.only [4, 7, 17, 68] rfl ?_
    refine Nrm.pick [0, 1] rfl rfl ?_
    exact hj_1 _ _ ⟨rfl, rfl⟩
   ·replace hE_1 := if_ff g52 hE_1
    rcases Bool.eq_false_or_eq_true (!t34_2) with g56 | g56
    ·replace hE_1 := if_tt g56 hE_1
     refine Tri.reg (l := List.range 23) rfl ?_
     refine F.qn rfl rfl rfl rfl (r_move rfl) ?_
     refine F.qn rfl rfl rfl rfl (r_not rfl) ?_
     refine F.qn rfl rfl rfl rfl (r_move rfl) ?_
     refine F.qg rfl rfl rfl rfl rfl rfl g48 (r_move rfl) ?_
     refine F.qg rfl rfl rfl rfl rfl rfl g48 (r_not rfl) ?_
     refine F.qn rfl rfl rfl rfl (r_pickf rfl rfl g48) ?_
     refine F.qn rfl rfl rfl rfl (r_move rfl) ?_
     refine F.qg rfl rfl rfl rfl rfl rfl g52 (r_move rfl) ?_
     refine F.qg rfl rfl rfl rfl rfl rfl g52 (r_not rfl) ?_
     refine F.qn rfl rfl rfl rfl (r_pickf rfl rfl g52) ?_
     refine F.qn rfl rfl rfl rfl (r_move rfl) ?_
     refine F.sk rfl rfl rfl (wf rfl rfl rfl g56) ?_
     refine F.sk rfl rfl rfl (wf rfl rfl rfl g56) ?_
     refine F.qn rfl rfl rfl rfl (r_pick rfl rfl g56) ?_
     refine F.qn rfl rfl rfl rfl (r_move rfl) ?_
     refine F.sk rfl rfl rfl (wf rfl rfl rfl rfl) ?_
     refine F.sk rfl rfl rfl (wf rfl rfl rfl rfl) ?_
     refine F.qn rfl rfl rfl rfl (r_pick rfl rfl rfl) ?_
     refine F.qn rfl rfl rfl rfl (r_move rfl) ?_
     iterate 3 refine F.sk rfl rfl rfl (wf rfl rfl rfl rfl) ?_
     refine F.qn rfl rfl rfl rfl (r_pick rfl rfl rfl) ?_
     refine F.nil ?_
     cases hE_1
     refine Nrm.only [4, 7, 17, 68] rfl ?_
     refine Nrm.pick [0, 1] rfl rfl ?_
     exact hj_1 _ _ ⟨rfl, rfl⟩
    ·replace hE_1 := if_ff g56 hE_1
     rcases Bool.eq_false_or_eq_true (!t39_3) with g60 | g60
     ·replace hE_1 := if_tt g60 hE_1
      refine Tri.reg (l := List.range 23) rfl ?_
      refine F.qn rfl rfl rfl rfl (r_move rfl) ?_
      refine F.qn rfl rfl rfl rfl (r_not rfl) ?_
      refine F.qn rfl rfl rfl rfl (r_move rfl) ?_
      refine F.qg rfl rfl rfl rfl rfl rfl g48 (r_move rfl) ?_
      refine F.qg rfl rfl rfl rfl rfl rfl g48 (r_not rfl) ?_
      refine F.qn rfl rfl rfl rfl (r_pickf rfl rfl g48) ?_
      refine F.qn rfl rfl rfl rfl (r_move rfl) ?_
      refine F.qg rfl rfl rfl rfl rfl rfl g52 (r_move rfl) ?_
      refine F.qg rfl rfl rfl rfl rfl rfl g52 (r_not rfl) ?_
      refine F.qn rfl rfl rfl rfl (r_pickf rfl rfl g52) ?_
      refine F.qn rfl rfl rfl rfl (r_move rfl) ?_
      refine F.qg rfl rfl rfl rfl rfl rfl g56 (r_move rfl) ?_
      refine F.qg rfl rfl rfl rfl rfl rfl g56 (r_not rfl) ?_
      refine F.qn rfl rfl rfl rfl (r_pickf rfl rfl g56) ?_
      refine F.qn rfl rfl rfl rfl (r_move rfl) ?_
      refine F.sk rfl rfl rfl (wf rfl rfl rfl g60) ?_
      refine F.sk rfl rfl rfl (wf rfl rfl rfl g60) ?_
      refine F.qn rfl rfl rfl rfl (r_pick rfl rfl g60) ?_
      refine F.qn rfl rfl rfl rfl (r_move rfl) ?_
      iterate 3 refine F.sk rfl rfl rfl (wf rfl rfl rfl rfl) ?_
      refine F.qn rfl rfl rfl rfl (r_pick rfl rfl rfl) ?_
      refine F.nil ?_
      cases hE_1
      refine Nrm.only [4, 7, 17, 68] rfl ?_
      refine Nrm.pick [0, 1] rfl rfl ?_
      exact hj_1 _ _ ⟨rfl, rfl⟩
     ·replace hE_1 := if_ff g60 hE_1
      rcases Bool.eq_false_or_eq_true (decide (a0 ≥ 60)) with g64 | g64
      ·replace hE_1 := if_tt g64 hE_1
       refine Tri.reg (l := List.range 23) rfl ?_
       refine F.qn rfl rfl rfl rfl (r_move rfl) ?_
       refine F.qn rfl rfl rfl rfl (r_not rfl) ?_
       refine F.qn rfl rfl rfl rfl (r_move rfl) ?_
       refine F.qg rfl rfl rfl rfl rfl rfl g48 (r_move rfl) ?_
       refine F.qg rfl rfl rfl rfl rfl rfl g48 (r_not rfl) ?_
       refine F.qn rfl rfl rfl rfl (r_pickf rfl rfl g48) ?_
       refine F.qn rfl rfl rfl rfl (r_move rfl) ?_
       refine F.qg rfl rfl rfl rfl rfl rfl g52 (r_move rfl) ?_
       refine F.qg rfl rfl rfl rfl rfl rfl g52 (r_not rfl) ?_
       refine F.qn rfl rfl rfl rfl (r_pickf rfl rfl g52) ?_
       refine F.qn rfl rfl rfl rfl (r_move rfl) ?_
       refine F.qg rfl rfl rfl rfl rfl rfl g56 (r_move rfl) ?_
       refine F.qg rfl rfl rfl rfl rfl rfl g56 (r_not rfl) ?_
       refine F.qn rfl rfl rfl rfl (r_pickf rfl rfl g56) ?_
       refine F.qn rfl rfl rfl rfl (r_move rfl) ?_
       refine F.qg rfl rfl rfl rfl rfl rfl g60 (r_move rfl) ?_
       refine F.qg rfl rfl rfl rfl rfl rfl g60 (r_geq rfl rfl) ?_
       refine F.qn rfl rfl rfl rfl (r_pickf rfl rfl g60) ?_
       refine F.qn rfl rfl rfl rfl (r_move rfl) ?_
       iterate 3 refine F.sk rfl rfl rfl (wf rfl rfl rfl g64) ?_
       refine F.qn rfl rfl rfl rfl (r_pick rfl rfl g64) ?_
       refine F.nil ?_
       cases hE_1
       refine Nrm.only [4, 7, 17, 68] rfl ?_
       refine Nrm.pick [0, 1] rfl rfl ?_
       exact hj_1 _ _ ⟨rfl, rfl⟩
      ·replace hE_1 := if_ff g64 hE_1
       obtain ⟨t66, h66, hE_1⟩ := bind_some hE_1
       refine Tri.reg (l := List.range 23) rfl ?_
       refine F.qn rfl rfl rfl rfl (r_move rfl) ?_
       refine F.qn rfl rfl rfl rfl (r_not rfl) ?_
       refine F.qn rfl rfl rfl rfl (r_move rfl) ?_
       refine F.qg rfl rfl rfl rfl rfl rfl g48 (r_move rfl) ?_
       refine F.qg rfl rfl rfl rfl rfl rfl g48 (r_not rfl) ?_
       refine F.qn rfl rfl rfl rfl (r_pickf rfl rfl g48) ?_
       refine F.qn rfl rfl rfl rfl (r_move rfl) ?_
       refine F.qg rfl rfl rfl rfl rfl rfl g52 (r_move rfl) ?_
       refine F.qg rfl rfl rfl rfl rfl rfl g52 (r_not rfl) ?_
       refine F.qn rfl rfl rfl rfl (r_pickf rfl rfl g52) ?_
       refine F.qn rfl rfl rfl rfl (r_move rfl) ?_
       refine F.qg rfl rfl rfl rfl rfl rfl g56 (r_move rfl) ?_
       refine F.qg rfl rfl rfl rfl rfl rfl g56 (r_not rfl) ?_
       refine F.qn rfl rfl rfl rfl (r_pickf rfl rfl g56) ?_
       refine F.qn rfl rfl rfl rfl (r_move rfl) ?_
       refine F.qg rfl rfl rfl rfl rfl rfl g60 (r_move rfl) ?_
       refine F.qg rfl rfl rfl rfl rfl rfl g60 (r_geq rfl rfl) ?_
       refine F.qn rfl rfl rfl rfl (r_pickf rfl rfl g60) ?_
       refine F.qn rfl rfl rfl rfl (r_move rfl) ?_
       refine F.qg rfl rfl rfl rfl rfl rfl g64 (r_loadA ta25 ti25 rfl rfl (fun w hw => (box_cells (i := 0) rfl w hw))) ?_
       refine F.qc rfl rfl rfl (wg rfl rfl rfl g64) (q_callF (xs := _) rfl ok15 rfl rfl (fun w hw => impl_IsValidRecord.ok h66 w )) ?_
       refine F.qg rfl rfl rfl rfl rfl rfl g64 (r_not rfl) ?_
       refine F.qn rfl rfl rfl rfl (r_pickf rfl rfl g64) ?_
       refine F.nil ?_
       cases hE_1
       refine Nrm.only [4, 7, 17, 68] rfl ?_
       refine Nrm.pick [0, 1] rfl rfl ?_
       exact hj_1 _ _ ⟨rfl, rfl⟩


def impl_read.l0 (k : Nat) (a0 : ByteArray) : Nat → (List (ByteArray × ByteArray)) → (List (Int)) → Int → Option ((Unit) ⊕ ((List (ByteArray × ByteArray)) × (List Int)))
 | 0, _, _, _ => none
 | n + 1, x4, x5, x6 => (scut a0 x6 (a0.size : Int)).bind fun t17 => (impl_decode.f k (x4.length : Int) t17).bind fun (t18_1, t18_2, t18_3, t18_4) => (if (!t18_4) = true then some (Sum.inr (x4, x5)) else if (x4 ++ ([(t18_1, t18_2)] : List (ByteArray × ByteArray))).length < 1099511627776 then if (x5 ++ ([w64 (x6 + t18_3)] : List (Int))).length < 1099511627776 then impl_read.l0 k a0 n (x4 ++ ([(t18_1, t18_2)] : List (ByteArray × ByteArray))) (x5 ++ ([w64 (x6 + t18_3)] : List (Int))) (w64 (x6 + t18_3)) else none else none)

def impl_read.f (k : Nat) (a0 : ByteArray) : Option ((List (ByteArray × ByteArray)) × (List Int)) := (impl_read.l0 k a0 k ([] : List (ByteArray × ByteArray)) ([0] : List (Int)) 0).bind fun s => Lr s some fun _ => none

theorem impl_read.ok {k : Nat}  {a0 : ByteArray} {r0 : List (ByteArray × ByteArray)} {r1 : List Int} (h : impl_read.f k a0 = some (r0, r1)) (w : World) (ht : Lib.TabIs Tryd.prog w "internal/strconv.uint64pow10" .u64 Lib.pow10Tab) :
  Calls Tryd.prog 44 ([.string a0] : List Value).toArray w (Post (fun u ns => ∃ (ur0 : Value) (Sr0 : Nat → Prop) (ur1 : Value) (Sr1 : Nat → Prop), u = .tuple #[ur0, ur1] ∧ SlLen ur0 r0.length ∧ SlLen ur1 r1.length ∧ ns = [R.sl Sr0 ur0 r0, R.sl Sr1 ur1 r1]) w) := by
 unfold impl_read.f at h
 refine Calls.of_tri (N := 37) Tryd.func44 rfl rfl rfl (Sep.nil (M := noM)) ?_
 refine Tri.seq (Tri.reg (l := [0, 1]) rfl ?_)
 refine F.qn rfl rfl rfl rfl (r_assign rfl) ?_
 refine F.qn rfl rfl rfl rfl (r_assign rfl) ?_
 refine F.nil (Nrm.seq (Tri.seq (Tri.reg (l := [0, 1, 2, 3, 4]) rfl ?_)))
 refine F.mn rfl rfl rfl rfl (m_build0 (α := ByteArray × ByteArray) Tryd.underlying43 ti25) ?_
 rintro v10_1 _ ⟨S10_1, hl_v10_1, rfl⟩
 refine F.mn rfl rfl rfl rfl (m_buildF (l := ([0] : List (Int))) Tryd.underlying58 ti3 rfl rfl rfl rfl rfl) ?_
 rintro v11_1 _ ⟨S11_1, hl_v11_1, rfl⟩
 iterate 3 refine F.qn rfl rfl rfl rfl (r_assign rfl) ?_
 refine F.nil (Nrm.seq ?_)
 obtain ⟨s0, hE_1, h⟩ := bind_some h
 refine Tri.block ?_
 refine Tri.only [0, 4, 5, 6] rfl ?_
 refine Tri.pick [0, 1] rfl rfl ?_
 refine Tri.rounds (fun n e' C' => ∃ (x4' : List (ByteArray × ByteArray)) (x5' : List (Int)) (x6' : Int) (w4 : Value) (T4 : Nat → Prop) (w5 : Value) (T5 : Nat → Prop), impl_read.l0 k a0 n x4' x5' x6' = some s0 ∧ SlLen w4 (x4').length ∧ SlLen w5 (x5').length ∧ e' = [(0, .string a0), (4, w4), (5, w5), (6, .int .i64 x6')] ∧ C' = Sep w noM [R.sl T5 w5 (x5' : List (Int)), R.sl T4 w4 (x4' : List (ByteArray × ByteArray))]) k ?_ ?_ ?_
 ·exact ⟨([] : List (ByteArray × ByteArray)), ([0] : List (Int)), 0, v10_1, S10_1, v11_1, S11_1, hE_1, hl_v10_1, hl_v11_1, rfl, rfl⟩
 ·rintro _ _ ⟨_, _, _, _, _, _, _, hE_1, _⟩
  rw [impl_read.l0.eq_1] at hE_1; cases hE_1
 ·rintro n_1 _ _ ⟨x4, x5, x6, w4, T4, w5, T5, hE_1, hl_w4, hl_w5, rfl, rfl⟩ ih_1
  rw [impl_read.l0.eq_2] at hE_1
  refine Tri.block ?_
  refine Tri.seq ?_
  obtain ⟨t17, h17, hE_1⟩ := bind_some hE_1
  obtain ⟨⟨t18_1, t18_2, t18_3, t18_4⟩, h18, hE_1⟩ := bind_some hE_1
  refine Tri.reg (l := List.range 14) rfl ?_
  refine F.qn rfl rfl rfl rfl (r_move rfl) ?_
  refine F.qn rfl rfl rfl rfl (r_len Tryd.underlying43 rfl hl_w4) ?_
  refine F.qn rfl rfl rfl rfl (r_move rfl) ?_
  refine F.qn rfl rfl rfl rfl (r_move rfl) ?_
  refine F.qn rfl rfl rfl rfl (r_scutL Tryd.underlying9 rfl rfl h17) ?_
  refine F.qcn rfl rfl rfl rfl (q_callF (xs := _) rfl ok59 rfl rfl (fun w hw => impl_decode.ok h18 w (Tab.sep ht hw))) ?_
  refine F.qn rfl rfl rfl rfl (r_move rfl) ?_
  iterate 3 refine F.qn rfl rfl rfl rfl (r_extract rfl rfl) ?_
  refine F.mn rfl rfl rfl rfl (m_alloc ti25) ?_
  rintro _ _ ⟨b7_1, rfl, rfl⟩
  refine F.ef0 rfl rfl (wanted_none rfl) (d_storeG0 (i := 0) (cs2 := [.string t18_1, .string t18_2]) ti25 rfl rfl rfl rfl rfl (Nat.le_of_ble_eq_true rfl) (lf_cons rfl (lf_cons rfl lf_nil))) ?_
  rintro _ _ ⟨rfl, rfl⟩
  refine F.qn rfl rfl rfl rfl (r_assign rfl) ?_
  refine F.qn rfl rfl rfl rfl (r_assign rfl) ?_
  refine F.nil (Nrm.seq (Tri.seq (Tri.seq (Tri.reg (l := [0, 1]) rfl ?_))))
  refine F.qn rfl rfl rfl rfl (r_move rfl) ?_
  refine F.qn rfl rfl rfl rfl (r_not rfl) ?_
  refine F.nil (Nrm.seq (Tri.cond (b := !t18_4) rfl (fun g_1 => ?_) (fun g_1 => ?_)))
  ·replace hE_1 := if_tt g_1 hE_1
   refine Tri.seq (Tri.reg (l := [0, 1, 2, 3]) rfl ?_)
   refine F.qn rfl rfl rfl rfl (r_move rfl) ?_
   refine F.qn rfl rfl rfl rfl (r_move rfl) ?_
   refine F.qn rfl rfl rfl rfl (r_assign rfl) ?_
   refine F.qn rfl rfl rfl rfl (r_assign rfl) ?_
   refine F.nil (Nrm.seq (Tri.ret ?_))
   refine Rtn.then ?_
   refine Rtn.block ?_
   refine Rtn.then ?_
   refine Rtn.block ?_
   cases hE_1
   replace h := Lr_inr h
   cases h
   exact Rtn.body (.tmp rfl (.tmp rfl .nil)) (fun w hw => ⟨_, _, rfl, ⟨w4, T4, w5, T5, rfl, hl_w4, hl_w5, rfl⟩, Sep.pick (is := [2, 1]) rfl rfl hw⟩)
  ·replace hE_1 := if_ff g_1 hE_1
   refine Tri.skip (Nrm.seq (Tri.seq (Tri.reg (l := [0, 1, 2, 3]) rfl ?_)))
   refine F.qn rfl rfl rfl rfl (r_move rfl) ?_
   refine F.qn rfl rfl rfl rfl (r_move rfl) ?_
   refine F.qn rfl rfl rfl rfl (r_add rfl rfl) ?_
   refine F.qn rfl rfl rfl rfl (r_assign rfl) ?_
   refine F.nil (Nrm.seq (Tri.seq ?_))
   obtain ⟨hs32, hE_1⟩ := ck hE_1
   refine Tri.reg (l := [0, 1, 2, 3, 4]) rfl ?_
   refine F.qn rfl rfl rfl rfl (r_move rfl) ?_
   refine F.qn rfl rfl rfl rfl (r_loadA ta25 ti25 rfl rfl (fun w hw => (box_cells (i := 0) rfl w hw))) ?_
   refine F.mn rfl rfl rfl rfl (m_buildF (l := ([(t18_1, t18_2)] : List (ByteArray × ByteArray))) Tryd.underlying43 ti25 rfl rfl rfl rfl rfl) ?_
   rintro v31_1 _ ⟨S31_1, hl_v31_1, rfl⟩
   refine F.efn rfl rfl rfl rfl (d_append (i := 3) Tryd.underlying43 Tryd.underlying43 ti25 rfl (by decide) rfl rfl rfl (rd_sl (i := 0) rfl) hs32) ?_
   rintro v32_1 _ ⟨S32_1, rfl, hl_v32_1⟩
   refine F.qn rfl rfl rfl rfl (r_assign rfl) ?_
   refine F.nil (Nrm.seq ?_)
   obtain ⟨hs36, hE_1⟩ := ck hE_1
   refine Tri.reg (l := [0, 1, 2, 3, 4]) rfl ?_
   refine F.qn rfl rfl rfl rfl (r_move rfl) ?_
   refine F.qn rfl rfl rfl rfl (r_move rfl) ?_
   refine F.mn rfl rfl rfl rfl (m_buildF (l := ([w64 (x6 + t18_3)] : List (Int))) Tryd.underlying58 ti3 rfl rfl rfl rfl rfl) ?_
   rintro v35_1 _ ⟨S35_1, hl_v35_1, rfl⟩
   refine F.efn rfl rfl rfl rfl (d_append (i := 3) Tryd.underlying58 Tryd.underlying58 ti3 rfl (by decide) rfl rfl rfl (rd_sl (i := 0) rfl) hs36) ?_
   rintro v36_1 _ ⟨S36_1, rfl, hl_v36_1⟩
   refine F.qn rfl rfl rfl rfl (r_assign rfl) ?_
   refine F.nil (Nrm.block ?_)
   refine Nrm.round ?_
   refine Rnd.only [0, 4, 5, 6] rfl ?_
   refine Rnd.pick [3, 4] rfl rfl ?_
   exact ih_1 _ _ ⟨x4 ++ ([(t18_1, t18_2)] : List (ByteArray × ByteArray)), x5 ++ ([w64 (x6 + t18_3)] : List (Int)), w64 (x6 + t18_3), v32_1, S32_1, v36_1, S36_1, hE_1, hl_v32_1, hl_v36_1, rfl, rfl⟩


def slices_Index_int_int.l0 (k : Nat) (a0 : List Int) (a1 : Int) : Nat → Int → Option ((Unit) ⊕ (Int))
 | 0, _ => none
 | n + 1, x8 => (if (decide (x8 < (a0.length : Int))) = true then (rdl a0 x8).bind fun t14 => (if (a1 == t14) = true then some (Sum.inr x8) else slices_Index_int_int.l0 k a0 a1 n (w64 (x8 + 1))) else some (Sum.inl ()))

def slices_Index_int_int.f (k : Nat) (a0 : List Int) (a1 : Int) : Option (Int) := (slices_Index_int_int.l0 k a0 a1 k 0).bind fun s => Lr s some fun _ => some (-1)

theorem slices_Index_int_int.ok {k : Nat}  {a0 : List Int} {a1 : Int} {r0 : Int} (h : slices_Index_int_int.f k a0 a1 = some r0) (w : World) {va0 : Value} (hr_a0 : Rd w va0 a0) :
  Calls Tryd.prog 60 ([va0, .int .i64 a1] : List Value).toArray w (fun e w' => e = .returned (.int .i64 r0) ∧ Ext w w') := by
 unfold slices_Index_int_int.f at h
 have hl_va0 := hr_a0.len
 refine Calls.of_tri (N := 19) Tryd.func60 rfl rfl rfl (Sep.nil (M := noM)) ?_
 refine Tri.seq (Tri.reg (l := [0]) rfl ?_)
 refine F.qn rfl rfl rfl rfl (r_assign rfl) ?_
 refine F.nil (Nrm.seq (Tri.seq (Tri.seq (Tri.reg (l := [0, 1, 2]) rfl ?_))))
 refine F.qn rfl rfl rfl rfl (r_move rfl) ?_
 refine F.qn rfl rfl rfl rfl (r_len Tryd.underlying58 rfl hl_va0) ?_
 refine F.qn rfl rfl rfl rfl (r_move rfl) ?_
 refine F.nil (Nrm.seq ?_)
 obtain ⟨s0, hE_1, h⟩ := bind_some h
 refine Tri.block ?_
 refine Tri.only [0, 1, 7, 8] rfl ?_
 refine Tri.pick [] rfl rfl ?_
 refine Tri.rounds (fun n e' C' => ∃ (x8' : Int), slices_Index_int_int.l0 k a0 a1 n x8' = some s0 ∧ e' = [(0, va0), (1, .int .i64 a1), (7, .int .i64 (a0.length : Int)), (8, .int .i64 x8')] ∧ C' = Sep w noM []) k ?_ ?_ ?_
 ·exact ⟨0, hE_1, rfl, rfl⟩
 ·rintro _ _ ⟨_, hE_1, _⟩
  rw [slices_Index_int_int.l0.eq_1] at hE_1; cases hE_1
 ·rintro n_1 _ _ ⟨x8, hE_1, rfl, rfl⟩ ih_1
  rw [slices_Index_int_int.l0.eq_2] at hE_1
  refine Tri.seq (Tri.reg (l := [0]) rfl ?_)
  refine F.qn rfl rfl rfl rfl (r_lss rfl rfl) ?_
  refine F.nil (Nrm.seq (Tri.seq (Tri.cond (b := decide (x8 < (a0.length : Int))) rfl (fun g_1 => ?_) (fun g_1 => ?_))))
  ·replace hE_1 := if_tt g_1 hE_1
   refine Tri.skip (Nrm.seq (Tri.seq (Tri.block ?_)))
   refine Tri.seq (Tri.reg (l := [0, 1]) rfl ?_)
   refine F.qn rfl rfl rfl rfl (r_move rfl) ?_
   refine F.qn rfl rfl rfl rfl (r_assign rfl) ?_
   refine F.nil (Nrm.seq (Tri.seq ?_))
   obtain ⟨t14, h14, hE_1⟩ := bind_some hE_1
   refine Tri.reg (l := [0, 1, 2, 3, 4, 5]) rfl ?_
   iterate 3 refine F.qn rfl rfl rfl rfl (r_move rfl) ?_
   refine F.qn rfl rfl rfl rfl (r_indexAddrS Tryd.underlying58 ti3 rfl hl_va0 rfl (rdl_some h14).1 (rdl_some h14).2.1) ?_
   refine F.qn rfl rfl rfl rfl (r_load ta3 rfl (fun w hw => cell_0 (Rd.flat ((fun _ hw => hr_a0.sep hw) w hw) (rdl_some h14).2.2) rfl)) ?_
   refine F.qn rfl rfl rfl rfl (r_eql rfl rfl) ?_
   refine F.nil (Nrm.seq (Tri.cond (b := a1 == t14) rfl (fun g_2 => ?_) (fun g_2 => ?_)))
   ·replace hE_1 := if_tt g_2 hE_1
    refine Tri.seq (Tri.reg (l := [0, 1]) rfl ?_)
    refine F.qn rfl rfl rfl rfl (r_move rfl) ?_
    refine F.qn rfl rfl rfl rfl (r_assign rfl) ?_
    refine F.nil (Nrm.seq (Tri.ret ?_))
    refine Rtn.block ?_
    refine Rtn.then ?_
    refine Rtn.then ?_
    refine Rtn.block ?_
    refine Rtn.then ?_
    cases hE_1
    replace h := Lr_inr h
    cases h
    exact Rtn.body (.tmp rfl .nil) (fun w hw => ⟨rfl, hw.ext⟩)
   ·replace hE_1 := if_ff g_2 hE_1
    refine Tri.skip (Nrm.block ?_)
    refine Nrm.seq (Tri.reg (l := [0, 1]) rfl ?_)
    refine F.qn rfl rfl rfl rfl (r_add rfl rfl) ?_
    refine F.qn rfl rfl rfl rfl (r_move rfl) ?_
    refine F.nil (Nrm.round ?_)
    refine Rnd.only [0, 1, 7, 8] rfl ?_
    refine Rnd.pick [] rfl rfl ?_
    exact ih_1 _ _ ⟨w64 (x8 + 1), hE_1, rfl, rfl⟩
  ·replace hE_1 := if_ff g_1 hE_1
   refine Tri.exit ?_
   refine Exi.then ?_
   refine Exi.then ?_
   refine Exi.same ?_
   cases hE_1
   replace h := Lr_inl h
   refine Nrm.seq (Tri.seq (Tri.reg (l := [0]) rfl ?_))
   refine F.qn rfl rfl rfl rfl (r_assign rfl) ?_
   refine F.nil (Nrm.seq (Tri.ret ?_))
   cases h
   exact Rtn.body (.tmp rfl .nil) (fun w hw => ⟨rfl, hw.ext⟩)


def slices_Contains_int_int.f (k : Nat) (a0 : List Int) (a1 : Int) : Option (Bool) := (slices_Index_int_int.f k a0 a1).bind fun t7 => some (decide (t7 ≥ 0))

theorem slices_Contains_int_int.ok {k : Nat}  {a0 : List Int} {a1 : Int} {r0 : Bool} (h : slices_Contains_int_int.f k a0 a1 = some r0) (w : World) {va0 : Value} (hr_a0 : Rd w va0 a0) :
  Calls Tryd.prog 45 ([va0, .int .i64 a1] : List Value).toArray w (fun e w' => e = .returned (.bool r0) ∧ Ext w w') := by
 unfold slices_Contains_int_int.f at h
 have hl_va0 := hr_a0.len
 refine Calls.of_tri (N := 9) Tryd.func45 rfl rfl rfl (Sep.nil (M := noM)) ?_
 refine Tri.seq (Tri.reg (l := [0]) rfl ?_)
 refine F.qn rfl rfl rfl rfl (r_assign rfl) ?_
 refine F.nil (Nrm.seq (Tri.seq ?_))
 obtain ⟨t7, h7, h⟩ := bind_some h
 refine Tri.reg (l := [0, 1, 2, 3, 4]) rfl ?_
 refine F.qn rfl rfl rfl rfl (r_move rfl) ?_
 refine F.qn rfl rfl rfl rfl (r_move rfl) ?_
 refine F.qcn rfl rfl rfl rfl (q_callF (xs := _) rfl ok60 rfl rfl (fun w hw => slices_Index_int_int.ok h7 w ((fun _ hw => hr_a0.sep hw) w hw))) ?_
 refine F.qn rfl rfl rfl rfl (r_geq rfl rfl) ?_
 refine F.qn rfl rfl rfl rfl (r_assign rfl) ?_
 refine F.nil (Nrm.seq (Tri.ret ?_))
 cases h
 exact Rtn.body (.tmp rfl .nil) (fun w hw => ⟨rfl, hw.ext⟩)


def impl_IsValidLog.f (k : Nat) (a0_0 : ByteArray) (a0_1 : ByteArray) (a0_2 : Int) : Option (Bool) := if (a0_0 ++ a0_1).size < 4611686018427387904 then (if (decide (((a0_0 ++ a0_1).size : Int) > 30000)) = true then some false else (impl_read.f k (a0_0 ++ a0_1)).bind fun (t16_1, t16_2) => ((rdl t16_2 (w64 ((t16_2.length : Int) - 1))).bind fun t23 => (if (t23 == ((a0_0 ++ a0_1).size : Int)) = true then (slices_Contains_int_int.f k t16_2 (a0_0.size : Int)).bind fun t33 => (if t33 = true then some (a0_2 == (t16_1.length : Int)) else some false) else some false)).bind fun y2 => some y2) else none

theorem impl_IsValidLog.ok {k : Nat}  {a0_0 : ByteArray} {a0_1 : ByteArray} {a0_2 : Int} {r0 : Bool} (h : impl_IsValidLog.f k a0_0 a0_1 a0_2 = some r0) (w : World) (ht : Lib.TabIs Tryd.prog w "internal/strconv.uint64pow10" .u64 Lib.pow10Tab) :
  Calls Tryd.prog 17 ([.agg ([.string a0_0, .string a0_1, .int .i64 a0_2].toArray)] : List Value).toArray w (fun e w' => e = .returned (.bool r0) ∧ Ext w w') := by
 unfold impl_IsValidLog.f at h
 refine Calls.of_tri (N := 42) Tryd.func17 rfl rfl rfl (Sep.nil (M := noM)) ?_
 refine Tri.seq (Tri.reg (l := [0, 1]) rfl ?_)
 refine F.mn rfl rfl rfl rfl (m_boxG rfl rfl) ?_
 rintro _ _ ⟨b1_1, rfl, rfl⟩
 refine F.qn rfl rfl rfl rfl (r_assign rfl) ?_
 refine F.nil (Nrm.seq (Tri.seq ?_))
 obtain ⟨hs10, h⟩ := ck h
 refine Tri.reg (l := [0, 1, 2, 3, 4, 5]) rfl ?_
 refine F.qn rfl rfl rfl rfl (r_fieldAddr tf33_0 rfl) ?_
 refine F.qn rfl rfl rfl rfl (r_load ta9 rfl (fun w hw => cell_1 (box_cells (i := 0) rfl w hw) rfl)) ?_
 refine F.qn rfl rfl rfl rfl (r_fieldAddr tf33_1 rfl) ?_
 refine F.qn rfl rfl rfl rfl (r_load ta9 rfl (fun w hw => cell_1 (box_cells (i := 0) rfl w hw) rfl)) ?_
 refine F.qn rfl rfl rfl rfl (r_addS rfl rfl hs10) ?_
 refine F.qn rfl rfl rfl rfl (r_assign rfl) ?_
 refine F.nil (Nrm.seq (Tri.seq (Tri.seq (Tri.reg (l := [0, 1, 2]) rfl ?_))))
 refine F.qn rfl rfl rfl rfl (r_move rfl) ?_
 refine F.qn rfl rfl rfl rfl (r_lenS Tryd.underlying9 rfl) ?_
 refine F.qn rfl rfl rfl rfl (r_gtr rfl rfl) ?_
 refine F.nil (Nrm.seq (Tri.cond (b := decide (((a0_0 ++ a0_1).size : Int) > 30000)) rfl (fun g_1 => ?_) (fun g_1 => ?_)))
 ·replace h := if_tt g_1 h
  refine Tri.seq (Tri.reg (l := [0]) rfl ?_)
  refine F.qn rfl rfl rfl rfl (r_assign rfl) ?_
  refine F.nil (Nrm.seq (Tri.ret ?_))
  refine Rtn.then ?_
  cases h
  exact Rtn.body (.tmp rfl .nil) (fun w hw => ⟨rfl, hw.ext⟩)
 ·replace h := if_ff g_1 h
  refine Tri.skip (Nrm.seq (Tri.seq ?_))
  obtain ⟨⟨t16_1, t16_2⟩, h16, h⟩ := bind_some h
  refine Tri.reg (l := [0, 1, 2, 3, 4, 5, 6]) rfl ?_
  refine F.qn rfl rfl rfl rfl (r_move rfl) ?_
  refine F.mn rfl rfl rfl rfl (m_callF (xs := _) rfl ok44 rfl rfl (fun w hw => impl_read.ok h16 w (Tab.sep ht hw))) ?_
  rintro _ _ ⟨_, ⟨v16_1, S16_1, v16_2, S16_2, rfl, hl_v16_1, hl_v16_2, rfl⟩, rfl⟩
  refine F.qn rfl rfl rfl rfl (r_move rfl) ?_
  refine F.qn rfl rfl rfl rfl (r_extract rfl rfl) ?_
  refine F.qn rfl rfl rfl rfl (r_extract rfl rfl) ?_
  refine F.qn rfl rfl rfl rfl (r_assign rfl) ?_
  refine F.qn rfl rfl rfl rfl (r_assign rfl) ?_
  refine F.nil (Nrm.seq (Tri.seq ?_))
  obtain ⟨y2, hE_1, h⟩ := bind_some h
  refine Tri.cut (fun e' C' => e' = [(2, .bool y2)] ∧ C' = Sep w noM []) ?_ (fun hj_1 => ?_)
  ·rintro _ _ ⟨rfl, rfl⟩
   refine Nrm.seq (Tri.ret ?_)
   cases h
   exact Rtn.body (.tmp rfl .nil) (fun w hw => ⟨rfl, hw.ext⟩)
  ·obtain ⟨t23, h23, hE_1⟩ := bind_some hE_1
   rcases Bool.eq_false_or_eq_true (t23 == ((a0_0 ++ a0_1).size : Int)) with g28 | g28
   ·replace hE_1 := if_tt g28 hE_1
    obtain ⟨t33, h33, hE_1⟩ := bind_some hE_1
    rcases Bool.eq_false_or_eq_true (t33) with g35 | g35
    ·replace hE_1 := if_tt g35 hE_1
     refine Tri.reg (l := List.range 24) rfl ?_
     refine F.qn rfl rfl rfl rfl (r_move rfl) ?_
     refine F.qn rfl rfl rfl rfl (r_move rfl) ?_
     refine F.qn rfl rfl rfl rfl (r_len Tryd.underlying58 rfl hl_v16_2) ?_
     refine F.qn rfl rfl rfl rfl (r_sub rfl rfl) ?_
     refine F.qn rfl rfl rfl rfl (r_indexAddrS Tryd.underlying58 ti3 rfl hl_v16_2 rfl (rdl_some h23).1 (rdl_some h23).2.1) ?_
     refine F.qn rfl rfl rfl rfl (r_load ta3 rfl (fun w hw => cell_0 (Rd.flat ((rd_sl (i := 1) rfl) w hw) (rdl_some h23).2.2) rfl)) ?_
     refine F.qn rfl rfl rfl rfl (r_move rfl) ?_
     refine F.qn rfl rfl rfl rfl (r_lenS Tryd.underlying9 rfl) ?_
     refine F.qn rfl rfl rfl rfl (r_eql rfl rfl) ?_
     refine F.qn rfl rfl rfl rfl (r_move rfl) ?_
     refine F.qg rfl rfl rfl rfl rfl rfl g28 (r_move rfl) ?_
     refine F.qg rfl rfl rfl rfl rfl rfl g28 (r_fieldAddr tf33_0 rfl) ?_
     refine F.qg rfl rfl rfl rfl rfl rfl g28 (r_load ta9 rfl (fun w hw => cell_1 (box_cells (i := 2) rfl w hw) rfl)) ?_
     refine F.qg rfl rfl rfl rfl rfl rfl g28 (r_lenS Tryd.underlying9 rfl) ?_
     refine F.qc rfl rfl rfl (wg rfl rfl rfl g28) (q_callF (xs := _) rfl ok45 rfl rfl (fun w hw => slices_Contains_int_int.ok h33 w ((rd_sl (i := 1) rfl) w hw))) ?_
     refine F.qn rfl rfl rfl rfl (r_pick rfl rfl g28) ?_
     refine F.qn rfl rfl rfl rfl (r_move rfl) ?_
     refine F.qg rfl rfl rfl rfl rfl rfl g35 (r_fieldAddr tf33_2 rfl) ?_
     refine F.qg rfl rfl rfl rfl rfl rfl g35 (r_load ta3 rfl (fun w hw => cell_1 (box_cells (i := 2) rfl w hw) rfl)) ?_
     refine F.qg rfl rfl rfl rfl rfl rfl g35 (r_move rfl) ?_
     refine F.qg rfl rfl rfl rfl rfl rfl g35 (r_len Tryd.underlying43 rfl hl_v16_1) ?_
     refine F.qg rfl rfl rfl rfl rfl rfl g35 (r_eql rfl rfl) ?_
     refine F.qn rfl rfl rfl rfl (r_pick rfl rfl g35) ?_
     refine F.qn rfl rfl rfl rfl (r_assign rfl) ?_
     refine F.nil ?_
     cases hE_1
     refine Nrm.only [2] rfl ?_
     refine Nrm.pick [] rfl rfl ?_
     exact hj_1 _ _ ⟨rfl, rfl⟩
    ·replace hE_1 := if_ff g35 hE_1
     refine Tri.reg (l := List.range 24) rfl ?_
     refine F.qn rfl rfl rfl rfl (r_move rfl) ?_
     refine F.qn rfl rfl rfl rfl (r_move rfl) ?_
     refine F.qn rfl rfl rfl rfl (r_len Tryd.underlying58 rfl hl_v16_2) ?_
     refine F.qn rfl rfl rfl rfl (r_sub rfl rfl) ?_
     refine F.qn rfl rfl rfl rfl (r_indexAddrS Tryd.underlying58 ti3 rfl hl_v16_2 rfl (rdl_some h23).1 (rdl_some h23).2.1) ?_
     refine F.qn rfl rfl rfl rfl (r_load ta3 rfl (fun w hw => cell_0 (Rd.flat ((rd_sl (i := 1) rfl) w hw) (rdl_some h23).2.2) rfl)) ?_
     refine F.qn rfl rfl rfl rfl (r_move rfl) ?_
     refine F.qn rfl rfl rfl rfl (r_lenS Tryd.underlying9 rfl) ?_
     refine F.qn rfl rfl rfl rfl (r_eql rfl rfl) ?_
     refine F.qn rfl rfl rfl rfl (r_move rfl) ?_
     refine F.qg rfl rfl rfl rfl rfl rfl g28 (r_move rfl) ?_
     refine F.qg rfl rfl rfl rfl rfl rfl g28 (r_fieldAddr tf33_0 rfl) ?_
     refine F.qg rfl rfl rfl rfl rfl rfl g28 (r_load ta9 rfl (fun w hw => cell_1 (box_cells (i := 2) rfl w hw) rfl)) ?_
     refine F.qg rfl rfl rfl rfl rfl rfl g28 (r_lenS Tryd.underlying9 rfl) ?_
     refine F.qc rfl rfl rfl (wg rfl rfl rfl g28) (q_callF (xs := _) rfl ok45 rfl rfl (fun w hw => slices_Contains_int_int.ok h33 w ((rd_sl (i := 1) rfl) w hw))) ?_
     refine F.qn rfl rfl rfl rfl (r_pick rfl rfl g28) ?_
     refine F.qn rfl rfl rfl rfl (r_move rfl) ?_
     iterate 5 refine F.sk rfl rfl rfl (wf rfl rfl rfl g35) ?_
     refine F.qn rfl rfl rfl rfl (r_pickf rfl rfl g35) ?_
     refine F.qn rfl rfl rfl rfl (r_assign rfl) ?_
     refine F.nil ?_
     cases hE_1
     refine Nrm.only [2] rfl ?_
     refine Nrm.pick [] rfl rfl ?_
     exact hj_1 _ _ ⟨rfl, rfl⟩
   ·replace hE_1 := if_ff g28 hE_1
    refine Tri.reg (l := List.range 24) rfl ?_
    refine F.qn rfl rfl rfl rfl (r_move rfl) ?_
    refine F.qn rfl rfl rfl rfl (r_move rfl) ?_
    refine F.qn rfl rfl rfl rfl (r_len Tryd.underlying58 rfl hl_v16_2) ?_
    refine F.qn rfl rfl rfl rfl (r_sub rfl rfl) ?_
    refine F.qn rfl rfl rfl rfl (r_indexAddrS Tryd.underlying58 ti3 rfl hl_v16_2 rfl (rdl_some h23).1 (rdl_some h23).2.1) ?_
    refine F.qn rfl rfl rfl rfl (r_load ta3 rfl (fun w hw => cell_0 (Rd.flat ((rd_sl (i := 1) rfl) w hw) (rdl_some h23).2.2) rfl)) ?_
    refine F.qn rfl rfl rfl rfl (r_move rfl) ?_
    refine F.qn rfl rfl rfl rfl (r_lenS Tryd.underlying9 rfl) ?_
    refine F.qn rfl rfl rfl rfl (r_eql rfl rfl) ?_
    refine F.qn rfl rfl rfl rfl (r_move rfl) ?_
    iterate 5 refine F.sk rfl rfl rfl (wf rfl rfl rfl g28) ?_
    refine F.qn rfl rfl rfl rfl (r_pickf rfl rfl g28) ?_
    refine F.qn rfl rfl rfl rfl (r_move rfl) ?_
    iterate 5 refine F.sk rfl rfl rfl (wf rfl rfl rfl rfl) ?_
    refine F.qn rfl rfl rfl rfl (r_pickf rfl rfl rfl) ?_
    refine F.qn rfl rfl rfl rfl (r_assign rfl) ?_
    refine F.nil ?_
    cases hE_1
    refine Nrm.only [2] rfl ?_
    refine Nrm.pick [] rfl rfl ?_
    exact hj_1 _ _ ⟨rfl, rfl⟩


def impl_AppendRecord.f (k : Nat) (a0_0 : ByteArray) (a0_1 : ByteArray) (a0_2 : Int) (a1_0 : ByteArray) (a1_1 : ByteArray) : Option (ByteArray × ByteArray × Int × Int) := ((impl_IsValidLog.f k a0_0 a0_1 a0_2).bind fun t10 => (if (!t10) = true then some true else (impl_IsValidRecord.f k a1_0 a1_1).bind fun t14 => some (!t14))).bind fun y8 => (if y8 = true then some (a0_0, a0_1, a0_2, 1) else (if (a0_2 == 60) = true then some (a0_0, a0_1, a0_2, 2) else (impl_EncodeRecord.f k a0_2 a1_0 a1_1).bind fun (t27_1, t27_2) => if (a0_1 ++ t27_1).size < 4611686018427387904 then some (a0_0, a0_1 ++ t27_1, w64 (a0_2 + 1), 0) else none))

theorem impl_AppendRecord.ok {k : Nat}  {a0_0 : ByteArray} {a0_1 : ByteArray} {a0_2 : Int} {a1_0 : ByteArray} {a1_1 : ByteArray} {r0 : ByteArray} {r1 : ByteArray} {r2 : Int} {r3 : Int} (h : impl_AppendRecord.f k a0_0 a0_1 a0_2 a1_0 a1_1 = some (r0, r1, r2, r3)) (w : World) (ht : Lib.TabIs Tryd.prog w "internal/strconv.uint64pow10" .u64 Lib.pow10Tab) :
  Calls Tryd.prog 13 ([.agg ([.string a0_0, .string a0_1, .int .i64 a0_2].toArray), .agg ([.string a1_0, .string a1_1].toArray)] : List Value).toArray w (fun e w' => e = .returned (.tuple #[.agg [.string r0, .string r1, .int .i64 r2].toArray, .int .i64 r3]) ∧ Ext w w') := by
 unfold impl_AppendRecord.f at h
 refine Calls.of_tri (N := 40) Tryd.func13 rfl rfl rfl (Sep.nil (M := noM)) ?_
 refine Tri.seq (Tri.reg (l := [0, 1, 2, 3]) rfl ?_)
 refine F.mn rfl rfl rfl rfl (m_boxG rfl rfl) ?_
 rintro _ _ ⟨b2_1, rfl, rfl⟩
 refine F.mn rfl rfl rfl rfl (m_boxG rfl rfl) ?_
 rintro _ _ ⟨b3_1, rfl, rfl⟩
 refine F.mn rfl rfl rfl rfl (m_alloc ti33) ?_
 rintro _ _ ⟨b4_1, rfl, rfl⟩
 refine F.qn rfl rfl rfl rfl (r_assign rfl) ?_
 refine F.nil (Nrm.seq (Tri.seq (Tri.block ?_)))
 refine Tri.seq ?_
 obtain ⟨y8, hE_1, h⟩ := bind_some h
 refine Tri.cut (fun e' C' => e' = [(2, .pointer (some ⟨b2_1, 0, none⟩)), (3, .pointer (some ⟨b3_1, 0, none⟩)), (4, .pointer (some ⟨b4_1, 0, none⟩)), (8, .bool y8)] ∧ C' = Sep w noM [R.box b4_1 33 [.string ByteArray.empty, .string ByteArray.empty, .int .i64 0], R.box b3_1 25 [.string a1_0, .string a1_1], R.box b2_1 33 [.string a0_0, .string a0_1, .int .i64 a0_2]]) ?_ (fun hj_1 => ?_)
 ·rintro _ _ ⟨rfl, rfl⟩
  refine Nrm.seq (Tri.cond (b := y8) rfl (fun g_1 => ?_) (fun g_1 => ?_))
  ·replace h := if_tt g_1 h
   refine Tri.seq (Tri.reg (l := [0, 1, 2]) rfl ?_)
   refine F.qn rfl rfl rfl rfl (r_loadA ta33 ti33 rfl rfl (fun w hw => (box_cells (i := 2) rfl w hw))) ?_
   refine F.ef0 rfl rfl (wanted_none rfl) (d_storeG0 (i := 0) (cs2 := [.string a0_0, .string a0_1, .int .i64 a0_2]) ti33 rfl rfl rfl rfl rfl (Nat.le_of_ble_eq_true rfl) (lf_cons rfl (lf_cons rfl (lf_cons rfl lf_nil)))) ?_
   rintro _ _ ⟨rfl, rfl⟩
   refine F.qn rfl rfl rfl rfl (r_assign rfl) ?_
   refine F.nil (Nrm.seq (Tri.ret ?_))
   refine Rtn.block ?_
   refine Rtn.then ?_
   cases h
   exact Rtn.body (.cell rfl ta33 ti33 rfl (fun _ hw => box_cells (i := 0) rfl _ hw) (.tmp rfl .nil)) (fun w hw => ⟨rfl, hw.ext⟩)
  ·replace h := if_ff g_1 h
   refine Tri.seq (Tri.reg (l := [0, 1, 2, 3]) rfl ?_)
   refine F.qn rfl rfl rfl rfl (r_fieldAddr tf33_2 rfl) ?_
   refine F.qn rfl rfl rfl rfl (r_load ta3 rfl (fun w hw => cell_1 (box_cells (i := 2) rfl w hw) rfl)) ?_
   refine F.qn rfl rfl rfl rfl (r_eql rfl rfl) ?_
   refine F.qn rfl rfl rfl rfl (r_assign rfl) ?_
   refine F.nil (Nrm.seq (Tri.cond (b := a0_2 == 60) rfl (fun g_2 => ?_) (fun g_2 => ?_)))
   ·replace h := if_tt g_2 h
    refine Tri.seq (Tri.reg (l := [0, 1, 2]) rfl ?_)
    refine F.qn rfl rfl rfl rfl (r_loadA ta33 ti33 rfl rfl (fun w hw => (box_cells (i := 2) rfl w hw))) ?_
    refine F.ef0 rfl rfl (wanted_none rfl) (d_storeG0 (i := 0) (cs2 := [.string a0_0, .string a0_1, .int .i64 a0_2]) ti33 rfl rfl rfl rfl rfl (Nat.le_of_ble_eq_true rfl) (lf_cons rfl (lf_cons rfl (lf_cons rfl lf_nil)))) ?_
    rintro _ _ ⟨rfl, rfl⟩
    refine F.qn rfl rfl rfl rfl (r_assign rfl) ?_
    refine F.nil (Nrm.seq (Tri.ret ?_))
    refine Rtn.block ?_
    refine Rtn.then ?_
    cases h
    exact Rtn.body (.cell rfl ta33 ti33 rfl (fun _ hw => box_cells (i := 0) rfl _ hw) (.tmp rfl .nil)) (fun w hw => ⟨rfl, hw.ext⟩)
   ·replace h := if_ff g_2 h
    refine Tri.skip (Nrm.block ?_)
    refine Nrm.seq (Tri.seq ?_)
    obtain ⟨⟨t27_1, t27_2⟩, h27, h⟩ := bind_some h
    refine Tri.reg (l := [0, 1, 2, 3, 4, 5, 6, 7, 8]) rfl ?_
    refine F.qn rfl rfl rfl rfl (r_fieldAddr tf33_2 rfl) ?_
    refine F.qn rfl rfl rfl rfl (r_load ta3 rfl (fun w hw => cell_1 (box_cells (i := 2) rfl w hw) rfl)) ?_
    refine F.qn rfl rfl rfl rfl (r_loadA ta25 ti25 rfl rfl (fun w hw => (box_cells (i := 1) rfl w hw))) ?_
    refine F.qcn rfl rfl rfl rfl (q_callF (xs := _) rfl ok9 rfl rfl (fun w hw => impl_EncodeRecord.ok h27 w (Tab.sep ht hw))) ?_
    refine F.qn rfl rfl rfl rfl (r_move rfl) ?_
    refine F.qn rfl rfl rfl rfl (r_extract rfl rfl) ?_
    refine F.qn rfl rfl rfl rfl (r_extract rfl rfl) ?_
    refine F.qn rfl rfl rfl rfl (r_assign rfl) ?_
    refine F.qn rfl rfl rfl rfl (r_assign rfl) ?_
    refine F.nil (Nrm.seq (Tri.seq ?_))
    obtain ⟨hs35, h⟩ := ck h
    refine Tri.reg (l := List.range 12) rfl ?_
    refine F.qn rfl rfl rfl rfl (r_fieldAddr tf33_0 rfl) ?_
    refine F.qn rfl rfl rfl rfl (r_load ta9 rfl (fun w hw => cell_1 (box_cells (i := 2) rfl w hw) rfl)) ?_
    refine F.qn rfl rfl rfl rfl (r_fieldAddr tf33_1 rfl) ?_
    refine F.qn rfl rfl rfl rfl (r_load ta9 rfl (fun w hw => cell_1 (box_cells (i := 2) rfl w hw) rfl)) ?_
    refine F.qn rfl rfl rfl rfl (r_move rfl) ?_
    refine F.qn rfl rfl rfl rfl (r_addS rfl rfl hs35) ?_
    refine F.qn rfl rfl rfl rfl (r_fieldAddr tf33_2 rfl) ?_
    refine F.qn rfl rfl rfl rfl (r_load ta3 rfl (fun w hw => cell_1 (box_cells (i := 2) rfl w hw) rfl)) ?_
    refine F.qn rfl rfl rfl rfl (r_add rfl rfl) ?_
    refine F.qn rfl rfl rfl rfl (r_build (pl := [(0, 1), (1, 1), (2, 1)]) (qs := [(0, [.string a0_0]), (1, [.string (a0_1 ++ t27_1)]), (2, [.int .i64 (w64 (a0_2 + 1))])]) (cs := [.string a0_0, .string (a0_1 ++ t27_1), .int .i64 (w64 (a0_2 + 1))]) (by kernel_rfl) ti33 rfl (.cons rfl rfl (Nat.le_of_ble_eq_true rfl) (.cons rfl rfl (Nat.le_of_ble_eq_true rfl) (.cons rfl rfl (Nat.le_of_ble_eq_true rfl) .nil))) rfl rfl) ?_
    refine F.ef0 rfl rfl (wanted_none rfl) (d_storeG0 (i := 0) (cs2 := [.string a0_0, .string (a0_1 ++ t27_1), .int .i64 (w64 (a0_2 + 1))]) ti33 rfl rfl rfl rfl rfl (Nat.le_of_ble_eq_true rfl) (lf_cons rfl (lf_cons rfl (lf_cons rfl lf_nil)))) ?_
    rintro _ _ ⟨rfl, rfl⟩
    refine F.qn rfl rfl rfl rfl (r_assign rfl) ?_
    refine F.nil (Nrm.seq (Tri.ret ?_))
    cases h
    exact Rtn.body (.cell rfl ta33 ti33 rfl (fun _ hw => box_cells (i := 0) rfl _ hw) (.tmp rfl .nil)) (fun w hw => ⟨rfl, hw.ext⟩)
 ·obtain ⟨t10, h10, hE_1⟩ := bind_some hE_1
  rcases Bool.eq_false_or_eq_true (!t10) with g12 | g12
  ·replace hE_1 := if_tt g12 hE_1
   refine Tri.reg (l := [0, 1, 2, 3, 4, 5, 6, 7, 8]) rfl ?_
   refine F.qn rfl rfl rfl rfl (r_loadA ta33 ti33 rfl rfl (fun w hw => (box_cells (i := 2) rfl w hw))) ?_
   refine F.qcn rfl rfl rfl rfl (q_callF (xs := _) rfl ok17 rfl rfl (fun w hw => impl_IsValidLog.ok h10 w (Tab.sep ht hw))) ?_
   refine F.qn rfl rfl rfl rfl (r_not rfl) ?_
   refine F.qn rfl rfl rfl rfl (r_move rfl) ?_
   iterate 3 refine F.sk rfl rfl rfl (wf rfl rfl rfl g12) ?_
   refine F.qn rfl rfl rfl rfl (r_pick rfl rfl g12) ?_
   refine F.qn rfl rfl rfl rfl (r_assign rfl) ?_
   refine F.nil ?_
   cases hE_1
   refine Nrm.only [2, 3, 4, 8] rfl ?_
   refine Nrm.pick [0, 1, 2] rfl rfl ?_
   exact hj_1 _ _ ⟨rfl, rfl⟩
  ·replace hE_1 := if_ff g12 hE_1
   obtain ⟨t14, h14, hE_1⟩ := bind_some hE_1
   refine Tri.reg (l := [0, 1, 2, 3, 4, 5, 6, 7, 8]) rfl ?_
   refine F.qn rfl rfl rfl rfl (r_loadA ta33 ti33 rfl rfl (fun w hw => (box_cells (i := 2) rfl w hw))) ?_
   refine F.qcn rfl rfl rfl rfl (q_callF (xs := _) rfl ok17 rfl rfl (fun w hw => impl_IsValidLog.ok h10 w (Tab.sep ht hw))) ?_
   refine F.qn rfl rfl rfl rfl (r_not rfl) ?_
   refine F.qn rfl rfl rfl rfl (r_move rfl) ?_
   refine F.qg rfl rfl rfl rfl rfl rfl g12 (r_loadA ta25 ti25 rfl rfl (fun w hw => (box_cells (i := 1) rfl w hw))) ?_
   refine F.qc rfl rfl rfl (wg rfl rfl rfl g12) (q_callF (xs := _) rfl ok15 rfl rfl (fun w hw => impl_IsValidRecord.ok h14 w )) ?_
   refine F.qg rfl rfl rfl rfl rfl rfl g12 (r_not rfl) ?_
   refine F.qn rfl rfl rfl rfl (r_pickf rfl rfl g12) ?_
   refine F.qn rfl rfl rfl rfl (r_assign rfl) ?_
   refine F.nil ?_
   cases hE_1
   refine Nrm.only [2, 3, 4, 8] rfl ?_
   refine Nrm.pick [0, 1, 2] rfl rfl ?_
   exact hj_1 _ _ ⟨rfl, rfl⟩


def spec_IsValidRecord.f (k : Nat) (a0_0 : ByteArray) (a0_1 : ByteArray) : Option (Bool) := (spec_l12Record.f k a0_0 a0_1).bind fun t4 => some t4

theorem spec_IsValidRecord.ok {k : Nat}  {a0_0 : ByteArray} {a0_1 : ByteArray} {r0 : Bool} (h : spec_IsValidRecord.f k a0_0 a0_1 = some r0) (w : World) :
  Calls Tryd.prog 16 ([.agg ([.string a0_0, .string a0_1].toArray)] : List Value).toArray w (fun e w' => e = .returned (.bool r0) ∧ Ext w w') := by
 unfold spec_IsValidRecord.f at h
 refine Calls.of_tri (N := 5) Tryd.func16 rfl rfl rfl (Sep.nil (M := noM)) ?_
 refine Tri.seq (Tri.reg (l := [0, 1]) rfl ?_)
 refine F.mn rfl rfl rfl rfl (m_boxG rfl rfl) ?_
 rintro _ _ ⟨b1_1, rfl, rfl⟩
 refine F.qn rfl rfl rfl rfl (r_assign rfl) ?_
 refine F.nil (Nrm.seq (Tri.seq ?_))
 obtain ⟨t4, h4, h⟩ := bind_some h
 refine Tri.reg (l := [0, 1, 2]) rfl ?_
 refine F.qn rfl rfl rfl rfl (r_loadA ta25 ti25 rfl rfl (fun w hw => (box_cells (i := 0) rfl w hw))) ?_
 refine F.qcn rfl rfl rfl rfl (q_callF (xs := _) rfl ok36 rfl rfl (fun w hw => spec_l12Record.ok h4 w )) ?_
 refine F.qn rfl rfl rfl rfl (r_assign rfl) ?_
 refine F.nil (Nrm.seq (Tri.ret ?_))
 cases h
 exact Rtn.body (.tmp rfl .nil) (fun w hw => ⟨rfl, hw.ext⟩)


def spec_IsValidLog.f (k : Nat) (a0_0 : ByteArray) (a0_1 : ByteArray) (a0_2 : Int) : Option (Bool) := (spec_l12Valid.f k a0_0 a0_1 a0_2).bind fun t4 => some t4

theorem spec_IsValidLog.ok {k : Nat}  {a0_0 : ByteArray} {a0_1 : ByteArray} {a0_2 : Int} {r0 : Bool} (h : spec_IsValidLog.f k a0_0 a0_1 a0_2 = some r0) (w : World) :
  Calls Tryd.prog 18 ([.agg ([.string a0_0, .string a0_1, .int .i64 a0_2].toArray)] : List Value).toArray w (fun e w' => e = .returned (.bool r0) ∧ Ext w w') := by
 unfold spec_IsValidLog.f at h
 refine Calls.of_tri (N := 5) Tryd.func18 rfl rfl rfl (Sep.nil (M := noM)) ?_
 refine Tri.seq (Tri.reg (l := [0, 1]) rfl ?_)
 refine F.mn rfl rfl rfl rfl (m_boxG rfl rfl) ?_
 rintro _ _ ⟨b1_1, rfl, rfl⟩
 refine F.qn rfl rfl rfl rfl (r_assign rfl) ?_
 refine F.nil (Nrm.seq (Tri.seq ?_))
 obtain ⟨t4, h4, h⟩ := bind_some h
 refine Tri.reg (l := [0, 1, 2]) rfl ?_
 refine F.qn rfl rfl rfl rfl (r_loadA ta33 ti33 rfl rfl (fun w hw => (box_cells (i := 0) rfl w hw))) ?_
 refine F.qcn rfl rfl rfl rfl (q_callF (xs := _) rfl ok41 rfl rfl (fun w hw => spec_l12Valid.ok h4 w )) ?_
 refine F.qn rfl rfl rfl rfl (r_assign rfl) ?_
 refine F.nil (Nrm.seq (Tri.ret ?_))
 cases h
 exact Rtn.body (.tmp rfl .nil) (fun w hw => ⟨rfl, hw.ext⟩)


def impl_SyncLog.f (k : Nat) (a0_0 : ByteArray) (a0_1 : ByteArray) (a0_2 : Int) : Option (ByteArray × ByteArray × Int × Bool) := (impl_IsValidLog.f k a0_0 a0_1 a0_2).bind fun t5 => (if (!t5) = true then some (ByteArray.empty, ByteArray.empty, 0, false) else if (a0_0 ++ a0_1).size < 4611686018427387904 then some (a0_0 ++ a0_1, ByteArray.empty, a0_2, true) else none)

theorem impl_SyncLog.ok {k : Nat}  {a0_0 : ByteArray} {a0_1 : ByteArray} {a0_2 : Int} {r0 : ByteArray} {r1 : ByteArray} {r2 : Int} {r3 : Bool} (h : impl_SyncLog.f k a0_0 a0_1 a0_2 = some (r0, r1, r2, r3)) (w : World) (ht : Lib.TabIs Tryd.prog w "internal/strconv.uint64pow10" .u64 Lib.pow10Tab) :
  Calls Tryd.prog 19 ([.agg ([.string a0_0, .string a0_1, .int .i64 a0_2].toArray)] : List Value).toArray w (fun e w' => e = .returned (.tuple #[.agg [.string r0, .string r1, .int .i64 r2].toArray, .bool r3]) ∧ Ext w w') := by
 unfold impl_SyncLog.f at h
 refine Calls.of_tri (N := 16) Tryd.func19 rfl rfl rfl (Sep.nil (M := noM)) ?_
 refine Tri.seq (Tri.reg (l := [0, 1, 2]) rfl ?_)
 refine F.mn rfl rfl rfl rfl (m_boxG rfl rfl) ?_
 rintro _ _ ⟨b1_1, rfl, rfl⟩
 refine F.mn rfl rfl rfl rfl (m_alloc ti33) ?_
 rintro _ _ ⟨b2_1, rfl, rfl⟩
 refine F.qn rfl rfl rfl rfl (r_assign rfl) ?_
 refine F.nil (Nrm.seq (Tri.seq (Tri.seq ?_)))
 obtain ⟨t5, h5, h⟩ := bind_some h
 refine Tri.reg (l := [0, 1, 2]) rfl ?_
 refine F.qn rfl rfl rfl rfl (r_loadA ta33 ti33 rfl rfl (fun w hw => (box_cells (i := 1) rfl w hw))) ?_
 refine F.qcn rfl rfl rfl rfl (q_callF (xs := _) rfl ok17 rfl rfl (fun w hw => impl_IsValidLog.ok h5 w (Tab.sep ht hw))) ?_
 refine F.qn rfl rfl rfl rfl (r_not rfl) ?_
 refine F.nil (Nrm.seq (Tri.cond (b := !t5) rfl (fun g_1 => ?_) (fun g_1 => ?_)))
 ·replace h := if_tt g_1 h
  refine Tri.seq (Tri.reg (l := [0, 1, 2]) rfl ?_)
  refine F.qn rfl rfl rfl rfl (r_build (pl := [(0, 1), (1, 1), (2, 1)]) (qs := []) (cs := [.string ByteArray.empty, .string ByteArray.empty, .int .i64 0]) (by kernel_rfl) ti33 rfl .nil rfl rfl) ?_
  refine F.ef0 rfl rfl (wanted_none rfl) (d_storeG0 (i := 0) (cs2 := [.string ByteArray.empty, .string ByteArray.empty, .int .i64 0]) ti33 rfl rfl rfl rfl rfl (Nat.le_of_ble_eq_true rfl) (lf_cons rfl (lf_cons rfl (lf_cons rfl lf_nil)))) ?_
  rintro _ _ ⟨rfl, rfl⟩
  refine F.qn rfl rfl rfl rfl (r_assign rfl) ?_
  refine F.nil (Nrm.seq (Tri.ret ?_))
  refine Rtn.then ?_
  cases h
  exact Rtn.body (.cell rfl ta33 ti33 rfl (fun _ hw => box_cells (i := 0) rfl _ hw) (.tmp rfl .nil)) (fun w hw => ⟨rfl, hw.ext⟩)
 ·replace h := if_ff g_1 h
  refine Tri.skip (Nrm.seq (Tri.seq ?_))
  obtain ⟨hs12, h⟩ := ck h
  refine Tri.reg (l := [0, 1, 2, 3, 4, 5, 6, 7, 8, 9]) rfl ?_
  refine F.qn rfl rfl rfl rfl (r_fieldAddr tf33_0 rfl) ?_
  refine F.qn rfl rfl rfl rfl (r_load ta9 rfl (fun w hw => cell_1 (box_cells (i := 1) rfl w hw) rfl)) ?_
  refine F.qn rfl rfl rfl rfl (r_fieldAddr tf33_1 rfl) ?_
  refine F.qn rfl rfl rfl rfl (r_load ta9 rfl (fun w hw => cell_1 (box_cells (i := 1) rfl w hw) rfl)) ?_
  refine F.qn rfl rfl rfl rfl (r_addS rfl rfl hs12) ?_
  refine F.qn rfl rfl rfl rfl (r_fieldAddr tf33_2 rfl) ?_
  refine F.qn rfl rfl rfl rfl (r_load ta3 rfl (fun w hw => cell_1 (box_cells (i := 1) rfl w hw) rfl)) ?_
  refine F.qn rfl rfl rfl rfl (r_build (pl := [(0, 1), (1, 1), (2, 1)]) (qs := [(0, [.string (a0_0 ++ a0_1)]), (2, [.int .i64 a0_2])]) (cs := [.string (a0_0 ++ a0_1), .string ByteArray.empty, .int .i64 a0_2]) (by kernel_rfl) ti33 rfl (.cons rfl rfl (Nat.le_of_ble_eq_true rfl) (.cons rfl rfl (Nat.le_of_ble_eq_true rfl) .nil)) rfl rfl) ?_
  refine F.ef0 rfl rfl (wanted_none rfl) (d_storeG0 (i := 0) (cs2 := [.string (a0_0 ++ a0_1), .string ByteArray.empty, .int .i64 a0_2]) ti33 rfl rfl rfl rfl rfl (Nat.le_of_ble_eq_true rfl) (lf_cons rfl (lf_cons rfl (lf_cons rfl lf_nil)))) ?_
  rintro _ _ ⟨rfl, rfl⟩
  refine F.qn rfl rfl rfl rfl (r_assign rfl) ?_
  refine F.nil (Nrm.seq (Tri.ret ?_))
  cases h
  exact Rtn.body (.cell rfl ta33 ti33 rfl (fun _ hw => box_cells (i := 0) rfl _ hw) (.tmp rfl .nil)) (fun w hw => ⟨rfl, hw.ext⟩)


def impl_LogRecords.f (k : Nat) (a0_0 : ByteArray) (a0_1 : ByteArray) (a0_2 : Int) : Option ((List (ByteArray × ByteArray)) × Bool) := (impl_IsValidLog.f k a0_0 a0_1 a0_2).bind fun t7 => (if (!t7) = true then some ([], false) else if (a0_0 ++ a0_1).size < 4611686018427387904 then (impl_read.f k (a0_0 ++ a0_1)).bind fun (t15_1, t15_2) => some (t15_1, true) else none)

theorem impl_LogRecords.ok {k : Nat}  {a0_0 : ByteArray} {a0_1 : ByteArray} {a0_2 : Int} {r0 : List (ByteArray × ByteArray)} {r1 : Bool} (h : impl_LogRecords.f k a0_0 a0_1 a0_2 = some (r0, r1)) (w : World) (ht : Lib.TabIs Tryd.prog w "internal/strconv.uint64pow10" .u64 Lib.pow10Tab) :
  Calls Tryd.prog 21 ([.agg ([.string a0_0, .string a0_1, .int .i64 a0_2].toArray)] : List Value).toArray w (Post (fun u ns => ∃ (ur0 : Value) (Sr0 : Nat → Prop), u = .tuple #[ur0, .bool r1] ∧ SlLen ur0 r0.length ∧ ns = [R.sl Sr0 ur0 r0]) w) := by
 unfold impl_LogRecords.f at h
 refine Calls.of_tri (N := 19) Tryd.func21 rfl rfl rfl (Sep.nil (M := noM)) ?_
 refine Tri.seq (Tri.reg (l := [0, 1, 2]) rfl ?_)
 refine F.mn rfl rfl rfl rfl (m_boxG rfl rfl) ?_
 rintro _ _ ⟨b1_1, rfl, rfl⟩
 refine F.qn rfl rfl rfl rfl (r_assign rfl) ?_
 refine F.qn rfl rfl rfl rfl (r_assign rfl) ?_
 refine F.nil (Nrm.seq (Tri.seq (Tri.seq ?_)))
 obtain ⟨t7, h7, h⟩ := bind_some h
 refine Tri.reg (l := [0, 1, 2]) rfl ?_
 refine F.qn rfl rfl rfl rfl (r_loadA ta33 ti33 rfl rfl (fun w hw => (box_cells (i := 0) rfl w hw))) ?_
 refine F.qcn rfl rfl rfl rfl (q_callF (xs := _) rfl ok17 rfl rfl (fun w hw => impl_IsValidLog.ok h7 w (Tab.sep ht hw))) ?_
 refine F.qn rfl rfl rfl rfl (r_not rfl) ?_
 refine F.nil (Nrm.seq (Tri.cond (b := !t7) rfl (fun g_1 => ?_) (fun g_1 => ?_)))
 ·replace h := if_tt g_1 h
  refine Tri.seq (Tri.reg (l := [0, 1]) rfl ?_)
  refine F.qn rfl rfl rfl rfl (r_assign rfl) ?_
  refine F.qn rfl rfl rfl rfl (r_assign rfl) ?_
  refine F.nil (Nrm.seq (Tri.ret ?_))
  refine Rtn.then ?_
  cases h
  exact Rtn.body (.tmp rfl (.tmp rfl .nil)) (fun w hw => ⟨_, _, rfl, ⟨.slice none 0 0, fun _ => False, rfl, len_nil, rfl⟩, Sep.pick (is := [0]) rfl rfl hw.pushNil⟩)
 ·replace h := if_ff g_1 h
  refine Tri.skip (Nrm.seq (Tri.seq ?_))
  obtain ⟨hs14, h⟩ := ck h
  obtain ⟨⟨t15_1, t15_2⟩, h15, h⟩ := bind_some h
  refine Tri.reg (l := [0, 1, 2, 3, 4, 5, 6, 7, 8, 9, 10]) rfl ?_
  refine F.qn rfl rfl rfl rfl (r_fieldAddr tf33_0 rfl) ?_
  refine F.qn rfl rfl rfl rfl (r_load ta9 rfl (fun w hw => cell_1 (box_cells (i := 0) rfl w hw) rfl)) ?_
  refine F.qn rfl rfl rfl rfl (r_fieldAddr tf33_1 rfl) ?_
  refine F.qn rfl rfl rfl rfl (r_load ta9 rfl (fun w hw => cell_1 (box_cells (i := 0) rfl w hw) rfl)) ?_
  refine F.qn rfl rfl rfl rfl (r_addS rfl rfl hs14) ?_
  refine F.mn rfl rfl rfl rfl (m_callF (xs := _) rfl ok44 rfl rfl (fun w hw => impl_read.ok h15 w (Tab.sep ht hw))) ?_
  rintro _ _ ⟨_, ⟨v15_1, S15_1, v15_2, S15_2, rfl, hl_v15_1, hl_v15_2, rfl⟩, rfl⟩
  refine F.qn rfl rfl rfl rfl (r_move rfl) ?_
  refine F.qn rfl rfl rfl rfl (r_extract rfl rfl) ?_
  refine F.qn rfl rfl rfl rfl (r_extract rfl rfl) ?_
  refine F.qn rfl rfl rfl rfl (r_assign rfl) ?_
  refine F.qn rfl rfl rfl rfl (r_assign rfl) ?_
  refine F.nil (Nrm.seq (Tri.seq (Tri.reg (l := [0, 1, 2]) rfl ?_)))
  refine F.qn rfl rfl rfl rfl (r_move rfl) ?_
  refine F.qn rfl rfl rfl rfl (r_assign rfl) ?_
  refine F.qn rfl rfl rfl rfl (r_assign rfl) ?_
  refine F.nil (Nrm.seq (Tri.ret ?_))
  cases h
  exact Rtn.body (.tmp rfl (.tmp rfl .nil)) (fun w hw => ⟨_, _, rfl, ⟨v15_1, S15_1, rfl, hl_v15_1, rfl⟩, Sep.pick (is := [0]) rfl rfl hw⟩)


def spec_LogRecords.f (k : Nat) (a0_0 : ByteArray) (a0_1 : ByteArray) (a0_2 : Int) : Option ((List (ByteArray × ByteArray)) × Bool) := (spec_l12Valid.f k a0_0 a0_1 a0_2).bind fun t7 => (if (!t7) = true then some (([] : List (ByteArray × ByteArray)), false) else if (a0_0 ++ a0_1).size < 4611686018427387904 then (spec_l12Open.f k (a0_0 ++ a0_1)).bind fun (t16_1, t16_2) => some (t16_1, true) else none)

theorem spec_LogRecords.ok {k : Nat}  {a0_0 : ByteArray} {a0_1 : ByteArray} {a0_2 : Int} {r0 : List (ByteArray × ByteArray)} {r1 : Bool} (h : spec_LogRecords.f k a0_0 a0_1 a0_2 = some (r0, r1)) (w : World) :
  Calls Tryd.prog 22 ([.agg ([.string a0_0, .string a0_1, .int .i64 a0_2].toArray)] : List Value).toArray w (Post (fun u ns => ∃ (ur0 : Value) (Sr0 : Nat → Prop), u = .tuple #[ur0, .bool r1] ∧ SlLen ur0 r0.length ∧ ns = [R.sl Sr0 ur0 r0]) w) := by
 unfold spec_LogRecords.f at h
 refine Calls.of_tri (N := 20) Tryd.func22 rfl rfl rfl (Sep.nil (M := noM)) ?_
 refine Tri.seq (Tri.reg (l := [0, 1, 2]) rfl ?_)
 refine F.mn rfl rfl rfl rfl (m_boxG rfl rfl) ?_
 rintro _ _ ⟨b1_1, rfl, rfl⟩
 refine F.qn rfl rfl rfl rfl (r_assign rfl) ?_
 refine F.qn rfl rfl rfl rfl (r_assign rfl) ?_
 refine F.nil (Nrm.seq (Tri.seq (Tri.seq ?_)))
 obtain ⟨t7, h7, h⟩ := bind_some h
 refine Tri.reg (l := [0, 1, 2]) rfl ?_
 refine F.qn rfl rfl rfl rfl (r_loadA ta33 ti33 rfl rfl (fun w hw => (box_cells (i := 0) rfl w hw))) ?_
 refine F.qcn rfl rfl rfl rfl (q_callF (xs := _) rfl ok41 rfl rfl (fun w hw => spec_l12Valid.ok h7 w )) ?_
 refine F.qn rfl rfl rfl rfl (r_not rfl) ?_
 refine F.nil (Nrm.seq (Tri.cond (b := !t7) rfl (fun g_1 => ?_) (fun g_1 => ?_)))
 ·replace h := if_tt g_1 h
  refine Tri.seq (Tri.reg (l := [0, 1, 2]) rfl ?_)
  refine F.mn rfl rfl rfl rfl (m_build0 (α := ByteArray × ByteArray) Tryd.underlying43 ti25) ?_
  rintro v9_1 _ ⟨S9_1, hl_v9_1, rfl⟩
  refine F.qn rfl rfl rfl rfl (r_assign rfl) ?_
  refine F.qn rfl rfl rfl rfl (r_assign rfl) ?_
  refine F.nil (Nrm.seq (Tri.ret ?_))
  refine Rtn.then ?_
  cases h
  exact Rtn.body (.tmp rfl (.tmp rfl .nil)) (fun w hw => ⟨_, _, rfl, ⟨v9_1, S9_1, rfl, hl_v9_1, rfl⟩, Sep.pick (is := [0]) rfl rfl hw⟩)
 ·replace h := if_ff g_1 h
  refine Tri.skip (Nrm.seq (Tri.seq ?_))
  obtain ⟨hs15, h⟩ := ck h
  obtain ⟨⟨t16_1, t16_2⟩, h16, h⟩ := bind_some h
  refine Tri.reg (l := [0, 1, 2, 3, 4, 5, 6, 7, 8, 9, 10]) rfl ?_
  refine F.qn rfl rfl rfl rfl (r_fieldAddr tf33_0 rfl) ?_
  refine F.qn rfl rfl rfl rfl (r_load ta9 rfl (fun w hw => cell_1 (box_cells (i := 0) rfl w hw) rfl)) ?_
  refine F.qn rfl rfl rfl rfl (r_fieldAddr tf33_1 rfl) ?_
  refine F.qn rfl rfl rfl rfl (r_load ta9 rfl (fun w hw => cell_1 (box_cells (i := 0) rfl w hw) rfl)) ?_
  refine F.qn rfl rfl rfl rfl (r_addS rfl rfl hs15) ?_
  refine F.mn rfl rfl rfl rfl (m_callF (xs := _) rfl ok46 rfl rfl (fun w hw => spec_l12Open.ok h16 w )) ?_
  rintro _ _ ⟨_, ⟨v16_1, S16_1, rfl, hl_v16_1, rfl⟩, rfl⟩
  refine F.qn rfl rfl rfl rfl (r_move rfl) ?_
  refine F.qn rfl rfl rfl rfl (r_extract rfl rfl) ?_
  refine F.qn rfl rfl rfl rfl (r_extract rfl rfl) ?_
  refine F.qn rfl rfl rfl rfl (r_assign rfl) ?_
  refine F.qn rfl rfl rfl rfl (r_assign rfl) ?_
  refine F.nil (Nrm.seq (Tri.seq (Tri.reg (l := [0, 1, 2]) rfl ?_)))
  refine F.qn rfl rfl rfl rfl (r_move rfl) ?_
  refine F.qn rfl rfl rfl rfl (r_assign rfl) ?_
  refine F.qn rfl rfl rfl rfl (r_assign rfl) ?_
  refine F.nil (Nrm.seq (Tri.ret ?_))
  cases h
  exact Rtn.body (.tmp rfl (.tmp rfl .nil)) (fun w hw => ⟨_, _, rfl, ⟨v16_1, S16_1, rfl, hl_v16_1, rfl⟩, Sep.pick (is := [0]) rfl rfl hw⟩)


def laws_vRecords.l0 (k : Nat) (a0 : List (ByteArray × ByteArray)) (a1 : List (ByteArray × ByteArray)) : Nat → Int → Option ((Unit) ⊕ (Bool))
 | 0, _ => none
 | n + 1, x5 => (if (decide (x5 < (a0.length : Int))) = true then (rdl a0 x5).bind fun t19 => (rdl a1 x5).bind fun t23 => (if (!(t19.1.toList == t23.1.toList && (t19.2.toList == t23.2.toList && true))) = true then some (Sum.inr false) else laws_vRecords.l0 k a0 a1 n (w64 (x5 + 1))) else some (Sum.inl ()))

def laws_vRecords.f (k : Nat) (a0 : List (ByteArray × ByteArray)) (a1 : List (ByteArray × ByteArray)) : Option (Bool) := (if ((a0.length : Int) != (a1.length : Int)) = true then some false else (laws_vRecords.l0 k a0 a1 k 0).bind fun s => Lr s some fun _ => some true)

theorem laws_vRecords.ok {k : Nat}  {a0 : List (ByteArray × ByteArray)} {a1 : List (ByteArray × ByteArray)} {r0 : Bool} (h : laws_vRecords.f k a0 a1 = some r0) (w : World) {va0 : Value} {va1 : Value} (hr_a0 : Rd w va0 a0) (hr_a1 : Rd w va1 a1) :
  Calls Tryd.prog 23 ([va0, va1] : List Value).toArray w (fun e w' => e = .returned (.bool r0) ∧ Ext w w') := by
 unfold laws_vRecords.f at h
 have hl_va0 := hr_a0.len
 have hl_va1 := hr_a1.len
 refine Calls.of_tri (N := 26) Tryd.func23 rfl rfl rfl (Sep.nil (M := noM)) ?_
 refine Tri.seq (Tri.reg (l := [0]) rfl ?_)
 refine F.qn rfl rfl rfl rfl (r_assign rfl) ?_
 refine F.nil (Nrm.seq (Tri.seq (Tri.seq (Tri.reg (l := [0, 1, 2, 3, 4]) rfl ?_))))
 refine F.qn rfl rfl rfl rfl (r_move rfl) ?_
 refine F.qn rfl rfl rfl rfl (r_len Tryd.underlying43 rfl hl_va0) ?_
 refine F.qn rfl rfl rfl rfl (r_move rfl) ?_
 refine F.qn rfl rfl rfl rfl (r_len Tryd.underlying43 rfl hl_va1) ?_
 refine F.qn rfl rfl rfl rfl (r_neq rfl rfl) ?_
 refine F.nil (Nrm.seq (Tri.cond (b := (a0.length : Int) != (a1.length : Int)) rfl (fun g_1 => ?_) (fun g_1 => ?_)))
 ·replace h := if_tt g_1 h
  refine Tri.seq (Tri.reg (l := [0]) rfl ?_)
  refine F.qn rfl rfl rfl rfl (r_assign rfl) ?_
  refine F.nil (Nrm.seq (Tri.ret ?_))
  refine Rtn.then ?_
  cases h
  exact Rtn.body (.tmp rfl .nil) (fun w hw => ⟨rfl, hw.ext⟩)
 ·replace h := if_ff g_1 h
  refine Tri.skip (Nrm.seq (Tri.seq (Tri.seq (Tri.reg (l := [0]) rfl ?_))))
  refine F.qn rfl rfl rfl rfl (r_assign rfl) ?_
  refine F.nil (Nrm.seq ?_)
  obtain ⟨s0, hE_1, h⟩ := bind_some h
  refine Tri.block ?_
  refine Tri.only [0, 1, 5] rfl ?_
  refine Tri.pick [] rfl rfl ?_
  refine Tri.rounds (fun n e' C' => ∃ (x5' : Int), laws_vRecords.l0 k a0 a1 n x5' = some s0 ∧ e' = [(0, va0), (1, va1), (5, .int .i64 x5')] ∧ C' = Sep w noM []) k ?_ ?_ ?_
  ·exact ⟨0, hE_1, rfl, rfl⟩
  ·rintro _ _ ⟨_, hE_1, _⟩
   rw [laws_vRecords.l0.eq_1] at hE_1; cases hE_1
  ·rintro n_1 _ _ ⟨x5, hE_1, rfl, rfl⟩ ih_1
   rw [laws_vRecords.l0.eq_2] at hE_1
   refine Tri.seq (Tri.seq (Tri.reg (l := [0, 1, 2, 3]) rfl ?_))
   refine F.qn rfl rfl rfl rfl (r_move rfl) ?_
   refine F.qn rfl rfl rfl rfl (r_move rfl) ?_
   refine F.qn rfl rfl rfl rfl (r_len Tryd.underlying43 rfl hl_va0) ?_
   refine F.qn rfl rfl rfl rfl (r_lss rfl rfl) ?_
   refine F.nil (Nrm.seq (Tri.cond (b := decide (x5 < (a0.length : Int))) rfl (fun g_2 => ?_) (fun g_2 => ?_)))
   ·replace hE_1 := if_tt g_2 hE_1
    refine Tri.skip (Nrm.seq (Tri.seq (Tri.block ?_)))
    refine Tri.seq ?_
    obtain ⟨t19, h19, hE_1⟩ := bind_some hE_1
    obtain ⟨t23, h23, hE_1⟩ := bind_some hE_1
    refine Tri.drawA mixedT Sep.up [(0, true), (1, true), (2, true), (3, true), (4, true), (5, true), (6, true), (7, true), (8, true)] [] (by kernel_rfl) ?_
    refine S.qn rfl rfl rfl rfl (r_move rfl) ?_
    refine S.qn rfl rfl rfl rfl (r_move rfl) ?_
    refine S.qn rfl rfl rfl rfl (r_indexAddrS Tryd.underlying43 ti25 rfl hl_va0 rfl (rdl_some h19).1 (rdl_some h19).2.1) ?_
    refine S.qn rfl rfl rfl rfl (r_loadA ta25 ti25 rfl rfl (fun w hw => (Rd.flat ((fun _ hw => hr_a0.sep hw) w hw) (rdl_some h19).2.2))) ?_
    refine S.qn rfl rfl rfl rfl (r_move rfl) ?_
    refine S.qn rfl rfl rfl rfl (r_move rfl) ?_
    refine S.qn rfl rfl rfl rfl (r_indexAddrS Tryd.underlying43 ti25 rfl hl_va1 rfl (rdl_some h23).1 (rdl_some h23).2.1) ?_
    refine S.qn rfl rfl rfl rfl (r_loadA ta25 ti25 rfl rfl (fun w hw => (Rd.flat ((fun _ hw => hr_a1.sep hw) w hw) (rdl_some h23).2.2))) ?_
    refine S.qn rfl rfl rfl rfl (r_neqSt (by kernel_rfl) (by kernel_rfl) (by kernel_rfl) rfl rfl sq25) ?_
    refine S.nil (F.nil (Nrm.seq (Tri.cond (b := !(t19.1.toList == t23.1.toList && (t19.2.toList == t23.2.toList && true))) rfl (fun g_3 => ?_) (fun g_3 => ?_))))
    ·replace hE_1 := if_tt g_3 hE_1
     refine Tri.seq (Tri.reg (l := [0]) rfl ?_)
     refine F.qn rfl rfl rfl rfl (r_assign rfl) ?_
     refine F.nil (Nrm.seq (Tri.ret ?_))
     refine Rtn.block ?_
     refine Rtn.then ?_
     refine Rtn.then ?_
     refine Rtn.block ?_
     refine Rtn.then ?_
     cases hE_1
     replace h := Lr_inr h
     cases h
     exact Rtn.body (.tmp rfl .nil) (fun w hw => ⟨rfl, hw.ext⟩)
    ·replace hE_1 := if_ff g_3 hE_1
     refine Tri.skip (Nrm.block ?_)
     refine Nrm.seq (Tri.reg (l := [0, 1, 2]) rfl ?_)
     refine F.qn rfl rfl rfl rfl (r_move rfl) ?_
     refine F.qn rfl rfl rfl rfl (r_add rfl rfl) ?_
     refine F.qn rfl rfl rfl rfl (r_assign rfl) ?_
     refine F.nil (Nrm.round ?_)
     refine Rnd.only [0, 1, 5] rfl ?_
     refine Rnd.pick [] rfl rfl ?_
     exact ih_1 _ _ ⟨w64 (x5 + 1), hE_1, rfl, rfl⟩
   ·replace hE_1 := if_ff g_2 hE_1
    refine Tri.exit ?_
    refine Exi.then ?_
    refine Exi.then ?_
    refine Exi.same ?_
    cases hE_1
    replace h := Lr_inl h
    refine Nrm.seq (Tri.seq (Tri.reg (l := [0]) rfl ?_))
    refine F.qn rfl rfl rfl rfl (r_assign rfl) ?_
    refine F.nil (Nrm.seq (Tri.ret ?_))
    cases h
    exact Rtn.body (.tmp rfl .nil) (fun w hw => ⟨rfl, hw.ext⟩)


def laws_FnLogs.f (k : Nat) (a0 : List By) : Option (Bool) := (laws_vBig.f k a0).bind fun t30 => (if t30 = true then some true else (spec_DrawIsValidRecord.f k a0).bind fun (t32_1, t32_2) => (laws_vCut.f k a0 1).bind fun t35 => (spec_DrawEncodeRecord.f k t35).bind fun (t36_1, t36_2, t36_3) => (impl_EncodeRecord.f k t36_1 t36_2 t36_3).bind fun (t42_1, t42_2) => (spec_EncodeRecord.f k t36_1 t36_2 t36_3).bind fun (t48_1, t48_2) => (laws_vCut.f k a0 2).bind fun t52 => (spec_DrawIsValidLog.f k t52).bind fun (t53_1, t53_2, t53_3) => (laws_vCut.f k a0 3).bind fun t56 => (spec_DrawAppendRecord.f k t56).bind fun (t57_1, t57_2, t57_3, t57_4, t57_5) => (impl_AppendRecord.f k t57_1 t57_2 t57_3 t57_4 t57_5).bind fun (t63_1, t63_2, t63_3, t63_4) => (spec_AppendRecord.f k t57_1 t57_2 t57_3 t57_4 t57_5).bind fun (t69_1, t69_2, t69_3, t69_4) => ((impl_IsValidRecord.f k t32_1 t32_2).bind fun t73 => (spec_IsValidRecord.f k t32_1 t32_2).bind fun t75 => (if (t73 != t75) = true then some true else (if (!(t42_1.toList == t48_1.toList)) = true then some true else (if (t42_2 != t48_2) = true then some true else (impl_IsValidLog.f k t53_1 t53_2 t53_3).bind fun t89 => (spec_IsValidLog.f k t53_1 t53_2 t53_3).bind fun t91 => (if (t89 != t91) = true then some true else (if (!(t63_1.toList == t69_1.toList && (t63_2.toList == t69_2.toList && (t63_3 == t69_3 && true)))) = true then some true else some (t63_4 != t69_4))))))).bind fun y103 => (if y103 = true then some false else (impl_SyncLog.f k t57_1 t57_2 t57_3).bind fun (t106_1, t106_2, t106_3, t106_4) => (spec_SyncLog.f k t57_1 t57_2 t57_3).bind fun (t111_1, t111_2, t111_3, t111_4) => (impl_LogRecords.f k t57_1 t57_2 t57_3).bind fun (t116_1, t116_2) => (spec_LogRecords.f k t57_1 t57_2 t57_3).bind fun (t121_1, t121_2) => ((if (!(t106_1.toList == t111_1.toList && (t106_2.toList == t111_2.toList && (t106_3 == t111_3 && true)))) = true then some true else (if (t106_4 != t111_4) = true then some true else (if (t116_2 != t121_2) = true then some true else (laws_vRecords.f k t116_1 t121_1).bind fun t140 => some (!t140))))).bind fun y142 => (if y142 = true then some false else (impl_LogRecords.f k t106_1 t106_2 t106_3).bind fun (t145_1, t145_2) => ((if t106_4 = true then (laws_vRecords.f k t145_1 t116_1).bind fun t152 => some (!t152) else some false)).bind fun y154 => (if y154 = true then some false else (if (t63_4 != 0) = true then some (t63_1.toList == t57_1.toList && (t63_2.toList == t57_2.toList && (t63_3 == t57_3 && true))) else (impl_LogRecords.f k t63_1 t63_2 t63_3).bind fun (t162_1, t162_2) => ((impl_IsValidLog.f k t63_1 t63_2 t63_3).bind fun t166 => (if t166 = true then (if ((t162_1.length : Int) == (w64 ((t116_1.length : Int) + 1))) = true then (slc t162_1 0 (t116_1.length : Int)).bind fun t179 => (laws_vRecords.f k t179 t116_1).bind fun t181 => (if t181 = true then (rdl t162_1 (t116_1.length : Int)).bind fun t187 => some (t187.1.toList == t57_4.toList && (t187.2.toList == t57_5.toList && true)) else some false) else some false) else some false)).bind fun y2 => some y2)))))

theorem laws_FnLogs.ok {k : Nat}  {a0 : List By} {r0 : Bool} (h : laws_FnLogs.f k a0 = some r0) (w : World) {va0 : Value} (hr_a0 : Rd w va0 a0) (ht : Lib.TabIs Tryd.prog w "internal/strconv.uint64pow10" .u64 Lib.pow10Tab) :
  Calls Tryd.prog 3 ([va0] : List Value).toArray w (fun e w' => e = .returned (.bool r0) ∧ Ext w w') := by
 unfold laws_FnLogs.f at h
 have hl_va0 := hr_a0.len
 refine Calls.of_tri (N := 192) Tryd.func3 rfl rfl rfl (Sep.nil (M := noM)) ?_
 refine Tri.seq (Tri.reg (l := [0]) rfl ?_)
 refine F.qn rfl rfl rfl rfl (r_assign rfl) ?_
 refine F.nil (Nrm.seq (Tri.seq (Tri.seq ?_)))
 obtain ⟨t30, h30, h⟩ := bind_some h
 refine Tri.reg (l := [0, 1]) rfl ?_
 refine F.qn rfl rfl rfl rfl (r_move rfl) ?_
 refine F.qcn rfl rfl rfl rfl (q_callF (xs := _) rfl ok5 rfl rfl (fun w hw => laws_vBig.ok h30 w ((fun _ hw => hr_a0.sep hw) w hw))) ?_
 refine F.nil (Nrm.seq (Tri.cond (b := t30) rfl (fun g_1 => ?_) (fun g_1 => ?_)))
 ·replace h := if_tt g_1 h
  refine Tri.seq (Tri.reg (l := [0]) rfl ?_)
  refine F.qn rfl rfl rfl rfl (r_assign rfl) ?_
  refine F.nil (Nrm.seq (Tri.ret ?_))
  refine Rtn.then ?_
  cases h
  exact Rtn.body (.tmp rfl .nil) (fun w hw => ⟨rfl, hw.ext⟩)
 ·replace h := if_ff g_1 h
  refine Tri.skip (Nrm.seq (Tri.seq ?_))
  obtain ⟨⟨t32_1, t32_2⟩, h32, h⟩ := bind_some h
  refine Tri.reg (l := [0, 1, 2, 3]) rfl ?_
  refine F.qn rfl rfl rfl rfl (r_move rfl) ?_
  refine F.qcn rfl rfl rfl rfl (q_callF (xs := _) rfl ok6 rfl rfl (fun w hw => spec_DrawIsValidRecord.ok h32 w ((fun _ hw => hr_a0.sep hw) w hw))) ?_
  refine F.mn rfl rfl rfl rfl (m_alloc ti25) ?_
  rintro _ _ ⟨b3_1, rfl, rfl⟩
  refine F.ef0 rfl rfl (wanted_none rfl) (d_storeG0 (i := 0) (cs2 := [.string t32_1, .string t32_2]) ti25 rfl rfl rfl rfl rfl (Nat.le_of_ble_eq_true rfl) (lf_cons rfl (lf_cons rfl lf_nil))) ?_
  rintro _ _ ⟨rfl, rfl⟩
  refine F.nil (Nrm.seq (Tri.seq ?_))
  obtain ⟨t35, h35, h⟩ := bind_some h
  obtain ⟨⟨t36_1, t36_2, t36_3⟩, h36, h⟩ := bind_some h
  refine Tri.reg (l := [0, 1, 2, 3, 4, 5, 6, 7, 8]) rfl ?_
  refine F.qn rfl rfl rfl rfl (r_move rfl) ?_
  refine F.mn rfl rfl rfl rfl (m_callF (xs := _) rfl ok8 rfl rfl (fun w hw => laws_vCut.ok h35 w ((fun _ hw => hr_a0.sep hw) w hw))) ?_
  rintro v35_1 _ ⟨_, ⟨S35_1, hl_v35_1, rfl⟩, rfl⟩
  refine F.qcn rfl rfl rfl rfl (q_callF (xs := _) rfl ok7 rfl rfl (fun w hw => spec_DrawEncodeRecord.ok h36 w ((rd_sl (i := 0) rfl) w hw))) ?_
  refine F.qn rfl rfl rfl rfl (r_move rfl) ?_
  refine F.qn rfl rfl rfl rfl (r_extract rfl rfl) ?_
  refine F.qn rfl rfl rfl rfl (r_extract rfl rfl) ?_
  refine F.mn rfl rfl rfl rfl (m_alloc ti25) ?_
  rintro _ _ ⟨b5_1, rfl, rfl⟩
  refine F.qn rfl rfl rfl rfl (r_assign rfl) ?_
  refine F.ef0 rfl rfl (wanted_none rfl) (d_storeG0 (i := 0) (cs2 := [.string t36_2, .string t36_3]) ti25 rfl rfl rfl rfl rfl (Nat.le_of_ble_eq_true rfl) (lf_cons rfl (lf_cons rfl lf_nil))) ?_
  rintro _ _ ⟨rfl, rfl⟩
  refine F.nil (Nrm.seq (Tri.seq ?_))
  obtain ⟨⟨t42_1, t42_2⟩, h42, h⟩ := bind_some h
  refine Tri.reg (l := [0, 1, 2, 3, 4, 5, 6, 7]) rfl ?_
  refine F.qn rfl rfl rfl rfl (r_move rfl) ?_
  refine F.qn rfl rfl rfl rfl (r_loadA ta25 ti25 rfl rfl (fun w hw => (box_cells (i := 0) rfl w hw))) ?_
  refine F.qcn rfl rfl rfl rfl (q_callF (xs := _) rfl ok9 rfl rfl (fun w hw => impl_EncodeRecord.ok h42 w (Tab.sep ht hw))) ?_
  refine F.qn rfl rfl rfl rfl (r_move rfl) ?_
  refine F.qn rfl rfl rfl rfl (r_extract rfl rfl) ?_
  refine F.qn rfl rfl rfl rfl (r_extract rfl rfl) ?_
  refine F.qn rfl rfl rfl rfl (r_assign rfl) ?_
  refine F.qn rfl rfl rfl rfl (r_assign rfl) ?_
  refine F.nil (Nrm.seq (Tri.seq ?_))
  obtain ⟨⟨t48_1, t48_2⟩, h48, h⟩ := bind_some h
  refine Tri.reg (l := [0, 1, 2, 3, 4, 5, 6, 7]) rfl ?_
  refine F.qn rfl rfl rfl rfl (r_move rfl) ?_
  refine F.qn rfl rfl rfl rfl (r_loadA ta25 ti25 rfl rfl (fun w hw => (box_cells (i := 0) rfl w hw))) ?_
  refine F.qcn rfl rfl rfl rfl (q_callF (xs := _) rfl ok10 rfl rfl (fun w hw => spec_EncodeRecord.ok h48 w )) ?_
  refine F.qn rfl rfl rfl rfl (r_move rfl) ?_
  refine F.qn rfl rfl rfl rfl (r_extract rfl rfl) ?_
  refine F.qn rfl rfl rfl rfl (r_extract rfl rfl) ?_
  refine F.qn rfl rfl rfl rfl (r_assign rfl) ?_
  refine F.qn rfl rfl rfl rfl (r_assign rfl) ?_
  refine F.nil (Nrm.seq (Tri.seq ?_))
  obtain ⟨t52, h52, h⟩ := bind_some h
  obtain ⟨⟨t53_1, t53_2, t53_3⟩, h53, h⟩ := bind_some h
  refine Tri.reg (l := [0, 1, 2, 3, 4]) rfl ?_
  refine F.qn rfl rfl rfl rfl (r_move rfl) ?_
  refine F.mn rfl rfl rfl rfl (m_callF (xs := _) rfl ok8 rfl rfl (fun w hw => laws_vCut.ok h52 w ((fun _ hw => hr_a0.sep hw) w hw))) ?_
  rintro v52_1 _ ⟨_, ⟨S52_1, hl_v52_1, rfl⟩, rfl⟩
  refine F.qcn rfl rfl rfl rfl (q_callF (xs := _) rfl ok11 rfl rfl (fun w hw => spec_DrawIsValidLog.ok h53 w ((rd_sl (i := 0) rfl) w hw))) ?_
  refine F.mn rfl rfl rfl rfl (m_alloc ti33) ?_
  rintro _ _ ⟨b10_1, rfl, rfl⟩
  refine F.ef0 rfl rfl (wanted_none rfl) (d_storeG0 (i := 0) (cs2 := [.string t53_1, .string t53_2, .int .i64 t53_3]) ti33 rfl rfl rfl rfl rfl (Nat.le_of_ble_eq_true rfl) (lf_cons rfl (lf_cons rfl (lf_cons rfl lf_nil)))) ?_
  rintro _ _ ⟨rfl, rfl⟩
  refine F.nil (Nrm.seq (Tri.seq ?_))
  obtain ⟨t56, h56, h⟩ := bind_some h
  obtain ⟨⟨t57_1, t57_2, t57_3, t57_4, t57_5⟩, h57, h⟩ := bind_some h
  refine Tri.reg (l := [0, 1, 2, 3, 4, 5, 6, 7, 8, 9]) rfl ?_
  refine F.qn rfl rfl rfl rfl (r_move rfl) ?_
  refine F.mn rfl rfl rfl rfl (m_callF (xs := _) rfl ok8 rfl rfl (fun w hw => laws_vCut.ok h56 w ((fun _ hw => hr_a0.sep hw) w hw))) ?_
  rintro v56_1 _ ⟨_, ⟨S56_1, hl_v56_1, rfl⟩, rfl⟩
  refine F.qcn rfl rfl rfl rfl (q_callF (xs := _) rfl ok12 rfl rfl (fun w hw => spec_DrawAppendRecord.ok h57 w ((rd_sl (i := 0) rfl) w hw))) ?_
  refine F.qn rfl rfl rfl rfl (r_move rfl) ?_
  refine F.qn rfl rfl rfl rfl (r_extract rfl rfl) ?_
  refine F.qn rfl rfl rfl rfl (r_extract rfl rfl) ?_
  refine F.mn rfl rfl rfl rfl (m_alloc ti33) ?_
  rintro _ _ ⟨b11_1, rfl, rfl⟩
  refine F.mn rfl rfl rfl rfl (m_alloc ti25) ?_
  rintro _ _ ⟨b12_1, rfl, rfl⟩
  refine F.ef0 rfl rfl (wanted_none rfl) (d_storeG0 (i := 1) (cs2 := [.string t57_1, .string t57_2, .int .i64 t57_3]) ti33 rfl rfl rfl rfl rfl (Nat.le_of_ble_eq_true rfl) (lf_cons rfl (lf_cons rfl (lf_cons rfl lf_nil)))) ?_
  rintro _ _ ⟨rfl, rfl⟩
  refine F.ef0 rfl rfl (wanted_none rfl) (d_storeG0 (i := 0) (cs2 := [.string t57_4, .string t57_5]) ti25 rfl rfl rfl rfl rfl (Nat.le_of_ble_eq_true rfl) (lf_cons rfl (lf_cons rfl lf_nil))) ?_
  rintro _ _ ⟨rfl, rfl⟩
  refine F.nil (Nrm.seq (Tri.seq ?_))
  obtain ⟨⟨t63_1, t63_2, t63_3, t63_4⟩, h63, h⟩ := bind_some h
  refine Tri.reg (l := [0, 1, 2, 3, 4, 5, 6, 7, 8]) rfl ?_
  refine F.qn rfl rfl rfl rfl (r_loadA ta33 ti33 rfl rfl (fun w hw => (box_cells (i := 1) rfl w hw))) ?_
  refine F.qn rfl rfl rfl rfl (r_loadA ta25 ti25 rfl rfl (fun w hw => (box_cells (i := 0) rfl w hw))) ?_
  refine F.qcn rfl rfl rfl rfl (q_callF (xs := _) rfl ok13 rfl rfl (fun w hw => impl_AppendRecord.ok h63 w (Tab.sep ht hw))) ?_
  refine F.qn rfl rfl rfl rfl (r_move rfl) ?_
  refine F.qn rfl rfl rfl rfl (r_extract rfl rfl) ?_
  refine F.qn rfl rfl rfl rfl (r_extract rfl rfl) ?_
  refine F.mn rfl rfl rfl rfl (m_alloc ti33) ?_
  rintro _ _ ⟨b13_1, rfl, rfl⟩
  refine F.ef0 rfl rfl (wanted_none rfl) (d_storeG0 (i := 0) (cs2 := [.string t63_1, .string t63_2, .int .i64 t63_3]) ti33 rfl rfl rfl rfl rfl (Nat.le_of_ble_eq_true rfl) (lf_cons rfl (lf_cons rfl (lf_cons rfl lf_nil)))) ?_
  rintro _ _ ⟨rfl, rfl⟩
  refine F.qn rfl rfl rfl rfl (r_assign rfl) ?_
  refine F.nil (Nrm.seq (Tri.seq ?_))
  obtain ⟨⟨t69_1, t69_2, t69_3, t69_4⟩, h69, h⟩ := bind_some h
  refine Tri.reg (l := [0, 1, 2, 3, 4, 5, 6, 7, 8]) rfl ?_
  refine F.qn rfl rfl rfl rfl (r_loadA ta33 ti33 rfl rfl (fun w hw => (box_cells (i := 2) rfl w hw))) ?_
  refine F.qn rfl rfl rfl rfl (r_loadA ta25 ti25 rfl rfl (fun w hw => (box_cells (i := 1) rfl w hw))) ?_
  refine F.qcn rfl rfl rfl rfl (q_callF (xs := _) rfl ok14 rfl rfl (fun w hw => spec_AppendRecord.ok h69 w )) ?_
  refine F.qn rfl rfl rfl rfl (r_move rfl) ?_
  refine F.qn rfl rfl rfl rfl (r_extract rfl rfl) ?_
  refine F.qn rfl rfl rfl rfl (r_extract rfl rfl) ?_
  refine F.mn rfl rfl rfl rfl (m_alloc ti33) ?_
  rintro _ _ ⟨b15_1, rfl, rfl⟩
  refine F.ef0 rfl rfl (wanted_none rfl) (d_storeG0 (i := 0) (cs2 := [.string t69_1, .string t69_2, .int .i64 t69_3]) ti33 rfl rfl rfl rfl rfl (Nat.le_of_ble_eq_true rfl) (lf_cons rfl (lf_cons rfl (lf_cons rfl lf_nil)))) ?_
  rintro _ _ ⟨rfl, rfl⟩
  refine F.qn rfl rfl rfl rfl (r_assign rfl) ?_
  refine F.nil (Nrm.seq (Tri.seq (Tri.seq ?_)))
  obtain ⟨y103, hE_1, h⟩ := bind_some h
  refine Tri.cut (fun e' C' => e' = [(11, .pointer (some ⟨b11_1, 0, none⟩)), (12, .pointer (some ⟨b12_1, 0, none⟩)), (13, .pointer (some ⟨b13_1, 0, none⟩)), (14, .int .i64 t63_4), (103, .bool y103)] ∧ C' = Sep w noM [R.box b13_1 33 [.string t63_1, .string t63_2, .int .i64 t63_3], R.box b12_1 25 [.string t57_4, .string t57_5], R.box b11_1 33 [.string t57_1, .string t57_2, .int .i64 t57_3]]) ?_ (fun hj_1 => ?_)
  ·rintro _ _ ⟨rfl, rfl⟩
   refine Nrm.seq (Tri.cond (b := y103) rfl (fun g_2 => ?_) (fun g_2 => ?_))
   ·replace h := if_tt g_2 h
    refine Tri.seq (Tri.reg (l := [0]) rfl ?_)
    refine F.qn rfl rfl rfl rfl (r_assign rfl) ?_
    refine F.nil (Nrm.seq (Tri.ret ?_))
    refine Rtn.then ?_
    cases h
    exact Rtn.body (.tmp rfl .nil) (fun w hw => ⟨rfl, hw.ext⟩)
   ·replace h := if_ff g_2 h
    refine Tri.skip (Nrm.seq (Tri.seq ?_))
    obtain ⟨⟨t106_1, t106_2, t106_3, t106_4⟩, h106, h⟩ := bind_some h
    refine Tri.reg (l := [0, 1, 2, 3, 4, 5, 6, 7]) rfl ?_
    refine F.qn rfl rfl rfl rfl (r_loadA ta33 ti33 rfl rfl (fun w hw => (box_cells (i := 2) rfl w hw))) ?_
    refine F.qcn rfl rfl rfl rfl (q_callF (xs := _) rfl ok19 rfl rfl (fun w hw => impl_SyncLog.ok h106 w (Tab.sep ht hw))) ?_
    refine F.qn rfl rfl rfl rfl (r_move rfl) ?_
    refine F.qn rfl rfl rfl rfl (r_extract rfl rfl) ?_
    refine F.qn rfl rfl rfl rfl (r_extract rfl rfl) ?_
    refine F.mn rfl rfl rfl rfl (m_alloc ti33) ?_
    rintro _ _ ⟨b17_1, rfl, rfl⟩
    refine F.ef0 rfl rfl (wanted_none rfl) (d_storeG0 (i := 0) (cs2 := [.string t106_1, .string t106_2, .int .i64 t106_3]) ti33 rfl rfl rfl rfl rfl (Nat.le_of_ble_eq_true rfl) (lf_cons rfl (lf_cons rfl (lf_cons rfl lf_nil)))) ?_
    rintro _ _ ⟨rfl, rfl⟩
    refine F.qn rfl rfl rfl rfl (r_assign rfl) ?_
    refine F.nil (Nrm.seq (Tri.seq ?_))
    obtain ⟨⟨t111_1, t111_2, t111_3, t111_4⟩, h111, h⟩ := bind_some h
    refine Tri.reg (l := [0, 1, 2, 3, 4, 5, 6, 7]) rfl ?_
    refine F.qn rfl rfl rfl rfl (r_loadA ta33 ti33 rfl rfl (fun w hw => (box_cells (i := 3) rfl w hw))) ?_
    refine F.qcn rfl rfl rfl rfl (q_callF (xs := _) rfl ok20 rfl rfl (fun w hw => spec_SyncLog.ok h111 w )) ?_
    refine F.qn rfl rfl rfl rfl (r_move rfl) ?_
    refine F.qn rfl rfl rfl rfl (r_extract rfl rfl) ?_
    refine F.qn rfl rfl rfl rfl (r_extract rfl rfl) ?_
    refine F.mn rfl rfl rfl rfl (m_alloc ti33) ?_
    rintro _ _ ⟨b19_1, rfl, rfl⟩
    refine F.ef0 rfl rfl (wanted_none rfl) (d_storeG0 (i := 0) (cs2 := [.string t111_1, .string t111_2, .int .i64 t111_3]) ti33 rfl rfl rfl rfl rfl (Nat.le_of_ble_eq_true rfl) (lf_cons rfl (lf_cons rfl (lf_cons rfl lf_nil)))) ?_
    rintro _ _ ⟨rfl, rfl⟩
    refine F.qn rfl rfl rfl rfl (r_assign rfl) ?_
    refine F.nil (Nrm.seq (Tri.seq ?_))
    obtain ⟨⟨t116_1, t116_2⟩, h116, h⟩ := bind_some h
    refine Tri.reg (l := [0, 1, 2, 3, 4, 5, 6]) rfl ?_
    refine F.qn rfl rfl rfl rfl (r_loadA ta33 ti33 rfl rfl (fun w hw => (box_cells (i := 4) rfl w hw))) ?_
    refine F.mn rfl rfl rfl rfl (m_callF (xs := _) rfl ok21 rfl rfl (fun w hw => impl_LogRecords.ok h116 w (Tab.sep ht hw))) ?_
    rintro _ _ ⟨_, ⟨v116_1, S116_1, rfl, hl_v116_1, rfl⟩, rfl⟩
    refine F.qn rfl rfl rfl rfl (r_move rfl) ?_
    refine F.qn rfl rfl rfl rfl (r_extract rfl rfl) ?_
    refine F.qn rfl rfl rfl rfl (r_extract rfl rfl) ?_
    refine F.qn rfl rfl rfl rfl (r_assign rfl) ?_
    refine F.qn rfl rfl rfl rfl (r_assign rfl) ?_
    refine F.nil (Nrm.seq (Tri.seq ?_))
    obtain ⟨⟨t121_1, t121_2⟩, h121, h⟩ := bind_some h
    refine Tri.reg (l := [0, 1, 2, 3, 4, 5, 6]) rfl ?_
    refine F.qn rfl rfl rfl rfl (r_loadA ta33 ti33 rfl rfl (fun w hw => (box_cells (i := 5) rfl w hw))) ?_
    refine F.mn rfl rfl rfl rfl (m_callF (xs := _) rfl ok22 rfl rfl (fun w hw => spec_LogRecords.ok h121 w )) ?_
    rintro _ _ ⟨_, ⟨v121_1, S121_1, rfl, hl_v121_1, rfl⟩, rfl⟩
    refine F.qn rfl rfl rfl rfl (r_move rfl) ?_
    refine F.qn rfl rfl rfl rfl (r_extract rfl rfl) ?_
    refine F.qn rfl rfl rfl rfl (r_extract rfl rfl) ?_
    refine F.qn rfl rfl rfl rfl (r_assign rfl) ?_
    refine F.qn rfl rfl rfl rfl (r_assign rfl) ?_
    refine F.nil (Nrm.seq (Tri.seq (Tri.seq ?_)))
    obtain ⟨y142, hE_2, h⟩ := bind_some h
    refine Tri.cut (fun e' C' => e' = [(11, .pointer (some ⟨b11_1, 0, none⟩)), (12, .pointer (some ⟨b12_1, 0, none⟩)), (13, .pointer (some ⟨b13_1, 0, none⟩)), (14, .int .i64 t63_4), (17, .pointer (some ⟨b17_1, 0, none⟩)), (18, .bool t106_4), (21, v116_1), (142, .bool y142)] ∧ C' = Sep w noM [R.box b17_1 33 [.string t106_1, .string t106_2, .int .i64 t106_3], R.box b13_1 33 [.string t63_1, .string t63_2, .int .i64 t63_3], R.box b12_1 25 [.string t57_4, .string t57_5], R.box b11_1 33 [.string t57_1, .string t57_2, .int .i64 t57_3], R.sl S116_1 v116_1 (t116_1 : List (ByteArray × ByteArray))]) ?_ (fun hj_2 => ?_)
    ·rintro _ _ ⟨rfl, rfl⟩
     refine Nrm.seq (Tri.cond (b := y142) rfl (fun g_3 => ?_) (fun g_3 => ?_))
     ·replace h := if_tt g_3 h
      refine Tri.seq (Tri.reg (l := [0]) rfl ?_)
      refine F.qn rfl rfl rfl rfl (r_assign rfl) ?_
      refine F.nil (Nrm.seq (Tri.ret ?_))
      refine Rtn.then ?_
      cases h
      exact Rtn.body (.tmp rfl .nil) (fun w hw => ⟨rfl, hw.ext⟩)
     ·replace h := if_ff g_3 h
      refine Tri.skip (Nrm.seq (Tri.seq ?_))
      obtain ⟨⟨t145_1, t145_2⟩, h145, h⟩ := bind_some h
      refine Tri.reg (l := [0, 1, 2, 3, 4, 5, 6]) rfl ?_
      refine F.qn rfl rfl rfl rfl (r_loadA ta33 ti33 rfl rfl (fun w hw => (box_cells (i := 0) rfl w hw))) ?_
      refine F.mn rfl rfl rfl rfl (m_callF (xs := _) rfl ok21 rfl rfl (fun w hw => impl_LogRecords.ok h145 w (Tab.sep ht hw))) ?_
      rintro _ _ ⟨_, ⟨v145_1, S145_1, rfl, hl_v145_1, rfl⟩, rfl⟩
      refine F.qn rfl rfl rfl rfl (r_move rfl) ?_
      refine F.qn rfl rfl rfl rfl (r_extract rfl rfl) ?_
      refine F.qn rfl rfl rfl rfl (r_extract rfl rfl) ?_
      refine F.qn rfl rfl rfl rfl (r_assign rfl) ?_
      refine F.qn rfl rfl rfl rfl (r_assign rfl) ?_
      refine F.nil (Nrm.seq (Tri.seq (Tri.seq ?_)))
      obtain ⟨y154, hE_3, h⟩ := bind_some h
      refine Tri.cut (fun e' C' => e' = [(11, .pointer (some ⟨b11_1, 0, none⟩)), (12, .pointer (some ⟨b12_1, 0, none⟩)), (13, .pointer (some ⟨b13_1, 0, none⟩)), (14, .int .i64 t63_4), (21, v116_1), (154, .bool y154)] ∧ C' = Sep w noM [R.box b13_1 33 [.string t63_1, .string t63_2, .int .i64 t63_3], R.box b12_1 25 [.string t57_4, .string t57_5], R.box b11_1 33 [.string t57_1, .string t57_2, .int .i64 t57_3], R.sl S116_1 v116_1 (t116_1 : List (ByteArray × ByteArray))]) ?_ (fun hj_3 => ?_)
      ·rintro _ _ ⟨rfl, rfl⟩
       refine Nrm.seq (Tri.cond (b := y154) rfl (fun g_4 => ?_) (fun g_4 => ?_))
       ·replace h := if_tt g_4 h
        refine Tri.seq (Tri.reg (l := [0]) rfl ?_)
        refine F.qn rfl rfl rfl rfl (r_assign rfl) ?_
        refine F.nil (Nrm.seq (Tri.ret ?_))
        refine Rtn.then ?_
        cases h
        exact Rtn.body (.tmp rfl .nil) (fun w hw => ⟨rfl, hw.ext⟩)
       ·replace h := if_ff g_4 h
        refine Tri.skip (Nrm.seq (Tri.seq (Tri.seq (Tri.reg (l := [0, 1]) rfl ?_))))
        refine F.qn rfl rfl rfl rfl (r_move rfl) ?_
        refine F.qn rfl rfl rfl rfl (r_neq rfl rfl) ?_
        refine F.nil (Nrm.seq (Tri.cond (b := t63_4 != 0) rfl (fun g_5 => ?_) (fun g_5 => ?_)))
        ·replace h := if_tt g_5 h
         refine Tri.seq (Tri.reg (l := [0, 1, 2, 3]) rfl ?_)
         refine F.qn rfl rfl rfl rfl (r_loadA ta33 ti33 rfl rfl (fun w hw => (box_cells (i := 0) rfl w hw))) ?_
         refine F.qn rfl rfl rfl rfl (r_loadA ta33 ti33 rfl rfl (fun w hw => (box_cells (i := 2) rfl w hw))) ?_
         refine F.qn rfl rfl rfl rfl (r_eqlSt (by kernel_rfl) (by kernel_rfl) (by kernel_rfl) rfl rfl sq33) ?_
         refine F.qn rfl rfl rfl rfl (r_assign rfl) ?_
         refine F.nil (Nrm.seq (Tri.ret ?_))
         refine Rtn.then ?_
         cases h
         exact Rtn.body (.tmp rfl .nil) (fun w hw => ⟨rfl, hw.ext⟩)
        ·replace h := if_ff g_5 h
         refine Tri.skip (Nrm.seq (Tri.seq ?_))
         obtain ⟨⟨t162_1, t162_2⟩, h162, h⟩ := bind_some h
         refine Tri.reg (l := [0, 1, 2, 3, 4, 5, 6]) rfl ?_
         refine F.qn rfl rfl rfl rfl (r_loadA ta33 ti33 rfl rfl (fun w hw => (box_cells (i := 0) rfl w hw))) ?_
         refine F.mn rfl rfl rfl rfl (m_callF (xs := _) rfl ok21 rfl rfl (fun w hw => impl_LogRecords.ok h162 w (Tab.sep ht hw))) ?_
         rintro _ _ ⟨_, ⟨v162_1, S162_1, rfl, hl_v162_1, rfl⟩, rfl⟩
         refine F.qn rfl rfl rfl rfl (r_move rfl) ?_
         refine F.qn rfl rfl rfl rfl (r_extract rfl rfl) ?_
         refine F.qn rfl rfl rfl rfl (r_extract rfl rfl) ?_
         refine F.qn rfl rfl rfl rfl (r_assign rfl) ?_
         refine F.qn rfl rfl rfl rfl (r_assign rfl) ?_
         refine F.nil (Nrm.seq (Tri.seq ?_))
         obtain ⟨y2, hE_4, h⟩ := bind_some h
         refine Tri.cut (fun e' C' => e' = [(2, .bool y2)] ∧ C' = Sep w noM []) ?_ (fun hj_4 => ?_)
         ·rintro _ _ ⟨rfl, rfl⟩
          refine Nrm.seq (Tri.ret ?_)
          cases h
          exact Rtn.body (.tmp rfl .nil) (fun w hw => ⟨rfl, hw.ext⟩)
         ·obtain ⟨t166, h166, hE_4⟩ := bind_some hE_4
          rcases Bool.eq_false_or_eq_true (t166) with g167 | g167
          ·replace hE_4 := if_tt g167 hE_4
           rcases Bool.eq_false_or_eq_true ((t162_1.length : Int) == (w64 ((t116_1.length : Int) + 1))) with g175 | g175
           ·replace hE_4 := if_tt g175 hE_4
            obtain ⟨t179, h179, hE_4⟩ := bind_some hE_4
            obtain ⟨t181, h181, hE_4⟩ := bind_some hE_4
            rcases Bool.eq_false_or_eq_true (t181) with g183 | g183
            ·replace hE_4 := if_tt g183 hE_4
             obtain ⟨t187, h187, hE_4⟩ := bind_some hE_4
             refine Tri.drawA mixedT Sep.up [(0, true), (1, true), (2, true), (3, true), (4, true), (5, true), (6, true), (7, true), (8, true), (9, true), (10, true), (11, true), (12, true), (13, true), (14, true), (15, true), (16, true), (17, true), (18, true), (19, true), (20, true), (21, true), (22, true), (23, true), (24, true), (25, true), (26, true), (27, true)] [] (by kernel_rfl) ?_
             refine S.qn rfl rfl rfl rfl (r_loadA ta33 ti33 rfl rfl (fun w hw => (box_cells (i := 1) rfl w hw))) ?_
             refine S.qcn rfl rfl rfl rfl (q_callF (xs := _) rfl ok17 rfl rfl (fun w hw => impl_IsValidLog.ok h166 w (Tab.sep ht hw))) ?_
             refine S.qn rfl rfl rfl rfl (r_move rfl) ?_
             refine S.qg rfl rfl rfl rfl rfl rfl g167 (r_move rfl) ?_
             refine S.qg rfl rfl rfl rfl rfl rfl g167 (r_len Tryd.underlying43 rfl hl_v162_1) ?_
             refine S.qg rfl rfl rfl rfl rfl rfl g167 (r_move rfl) ?_
             refine S.qg rfl rfl rfl rfl rfl rfl g167 (r_len Tryd.underlying43 rfl hl_v116_1) ?_
             refine S.qg rfl rfl rfl rfl rfl rfl g167 (r_add rfl rfl) ?_
             refine S.qg rfl rfl rfl rfl rfl rfl g167 (r_eql rfl rfl) ?_
             refine S.qn rfl rfl rfl rfl (r_pick rfl rfl g167) ?_
             refine S.qn rfl rfl rfl rfl (r_move rfl) ?_
             refine S.qg rfl rfl rfl rfl rfl rfl g175 (r_move rfl) ?_
             refine S.qg rfl rfl rfl rfl rfl rfl g175 (r_move rfl) ?_
             refine S.qg rfl rfl rfl rfl rfl rfl g175 (r_len Tryd.underlying43 rfl hl_v116_1) ?_
             refine S.qg rfl rfl rfl rfl rfl rfl g175 (r_sliceH Tryd.underlying43 ti25 rfl (rd_sl (i := 0) rfl) rfl h179) ?_
             refine S.qg rfl rfl rfl rfl rfl rfl g175 (r_move rfl) ?_
             refine S.qc rfl rfl rfl (wg rfl rfl rfl g175) (q_callF (xs := _) rfl ok23 rfl rfl (fun w hw => laws_vRecords.ok h181 w ((fun w hw => rd_slc ((rd_sl (i := 0) rfl) w hw) h179) w hw) ((rd_sl (i := 4) rfl) w hw))) ?_
             refine S.qn rfl rfl rfl rfl (r_pick rfl rfl g175) ?_
             refine S.qn rfl rfl rfl rfl (r_move rfl) ?_
             refine S.qg rfl rfl rfl rfl rfl rfl g183 (r_move rfl) ?_
             refine S.qg rfl rfl rfl rfl rfl rfl g183 (r_move rfl) ?_
             refine S.qg rfl rfl rfl rfl rfl rfl g183 (r_len Tryd.underlying43 rfl hl_v116_1) ?_
             refine S.qg rfl rfl rfl rfl rfl rfl g183 (r_indexAddrS Tryd.underlying43 ti25 rfl hl_v162_1 rfl (rdl_some h187).1 (rdl_some h187).2.1) ?_
             refine S.qg rfl rfl rfl rfl rfl rfl g183 (r_loadA ta25 ti25 rfl rfl (fun w hw => (Rd.flat ((rd_sl (i := 0) rfl) w hw) (rdl_some h187).2.2))) ?_
             refine S.qg rfl rfl rfl rfl rfl rfl g183 (r_loadA ta25 ti25 rfl rfl (fun w hw => (box_cells (i := 2) rfl w hw))) ?_
             refine S.qg rfl rfl rfl rfl rfl rfl g183 (r_eqlSt (by kernel_rfl) (by kernel_rfl) (by kernel_rfl) rfl rfl sq25) ?_
             refine S.qn rfl rfl rfl rfl (r_pick rfl rfl g183) ?_
             refine S.qn rfl rfl rfl rfl (r_assign rfl) ?_
             refine S.nil (F.nil ?_)
             cases hE_4
             refine Nrm.only [2] rfl ?_
             refine Nrm.pick [] rfl rfl ?_
             exact hj_4 _ _ ⟨rfl, rfl⟩
            ·replace hE_4 := if_ff g183 hE_4
             refine Tri.drawA mixedT Sep.up [(0, true), (1, true), (2, true), (3, true), (4, true), (5, true), (6, true), (7, true), (8, true), (9, true), (10, true), (11, true), (12, true), (13, true), (14, true), (15, true), (16, true), (17, true), (18, true), (19, true), (20, true), (21, true), (22, true), (23, true), (24, true), (25, true), (26, true), (27, true)] [] (by kernel_rfl) ?_
             refine S.qn rfl rfl rfl rfl (r_loadA ta33 ti33 rfl rfl (fun w hw => (box_cells (i := 1) rfl w hw))) ?_
             refine S.qcn rfl rfl rfl rfl (q_callF (xs := _) rfl ok17 rfl rfl (fun w hw => impl_IsValidLog.ok h166 w (Tab.sep ht hw))) ?_
             refine S.qn rfl rfl rfl rfl (r_move rfl) ?_
             refine S.qg rfl rfl rfl rfl rfl rfl g167 (r_move rfl) ?_
             refine S.qg rfl rfl rfl rfl rfl rfl g167 (r_len Tryd.underlying43 rfl hl_v162_1) ?_
             refine S.qg rfl rfl rfl rfl rfl rfl g167 (r_move rfl) ?_
             refine S.qg rfl rfl rfl rfl rfl rfl g167 (r_len Tryd.underlying43 rfl hl_v116_1) ?_
             refine S.qg rfl rfl rfl rfl rfl rfl g167 (r_add rfl rfl) ?_
             refine S.qg rfl rfl rfl rfl rfl rfl g167 (r_eql rfl rfl) ?_
             refine S.qn rfl rfl rfl rfl (r_pick rfl rfl g167) ?_
             refine S.qn rfl rfl rfl rfl (r_move rfl) ?_
             refine S.qg rfl rfl rfl rfl rfl rfl g175 (r_move rfl) ?_
             refine S.qg rfl rfl rfl rfl rfl rfl g175 (r_move rfl) ?_
             refine S.qg rfl rfl rfl rfl rfl rfl g175 (r_len Tryd.underlying43 rfl hl_v116_1) ?_
             refine S.qg rfl rfl rfl rfl rfl rfl g175 (r_sliceH Tryd.underlying43 ti25 rfl (rd_sl (i := 0) rfl) rfl h179) ?_
             refine S.qg rfl rfl rfl rfl rfl rfl g175 (r_move rfl) ?_
             refine S.qc rfl rfl rfl (wg rfl rfl rfl g175) (q_callF (xs := _) rfl ok23 rfl rfl (fun w hw => laws_vRecords.ok h181 w ((fun w hw => rd_slc ((rd_sl (i := 0) rfl) w hw) h179) w hw) ((rd_sl (i := 4) rfl) w hw))) ?_
             refine S.qn rfl rfl rfl rfl (r_pick rfl rfl g175) ?_
             refine S.qn rfl rfl rfl rfl (r_move rfl) ?_
             iterate 7 refine S.sk rfl rfl rfl (wf rfl rfl rfl g183) ?_
             refine S.qn rfl rfl rfl rfl (r_pickf rfl rfl g183) ?_
             refine S.qn rfl rfl rfl rfl (r_assign rfl) ?_
             refine S.nil (F.nil ?_)
             cases hE_4
             refine Nrm.only [2] rfl ?_
             refine Nrm.pick [] rfl rfl ?_
             exact hj_4 _ _ ⟨rfl, rfl⟩
           ·replace hE_4 := if_ff g175 hE_4
            refine Tri.drawA mixedT Sep.up [(0, true), (1, true), (2, true), (3, true), (4, true), (5, true), (6, true), (7, true), (8, true), (9, true), (10, true), (11, true), (12, true), (13, true), (14, true), (15, true), (16, true), (17, true), (18, true), (19, true), (20, true), (21, true), (22, true), (23, true), (24, true), (25, true), (26, true), (27, true)] [] (by kernel_rfl) ?_
            refine S.qn rfl rfl rfl rfl (r_loadA ta33 ti33 rfl rfl (fun w hw => (box_cells (i := 1) rfl w hw))) ?_
            refine S.qcn rfl rfl rfl rfl (q_callF (xs := _) rfl ok17 rfl rfl (fun w hw => impl_IsValidLog.ok h166 w (Tab.sep ht hw))) ?_
            refine S.qn rfl rfl rfl rfl (r_move rfl) ?_
            refine S.qg rfl rfl rfl rfl rfl rfl g167 (r_move rfl) ?_
            refine S.qg rfl rfl rfl rfl rfl rfl g167 (r_len Tryd.underlying43 rfl hl_v162_1) ?_
            refine S.qg rfl rfl rfl rfl rfl rfl g167 (r_move rfl) ?_
            refine S.qg rfl rfl rfl rfl rfl rfl g167 (r_len Tryd.underlying43 rfl hl_v116_1) ?_
            refine S.qg rfl rfl rfl rfl rfl rfl g167 (r_add rfl rfl) ?_
            refine S.qg rfl rfl rfl rfl rfl rfl g167 (r_eql rfl rfl) ?_
            refine S.qn rfl rfl rfl rfl (r_pick rfl rfl g167) ?_
            refine S.qn rfl rfl rfl rfl (r_move rfl) ?_
            iterate 6 refine S.sk rfl rfl rfl (wf rfl rfl rfl g175) ?_
            refine S.qn rfl rfl rfl rfl (r_pickf rfl rfl g175) ?_
            refine S.qn rfl rfl rfl rfl (r_move rfl) ?_
            iterate 7 refine S.sk rfl rfl rfl (wf rfl rfl rfl rfl) ?_
            refine S.qn rfl rfl rfl rfl (r_pickf rfl rfl rfl) ?_
            refine S.qn rfl rfl rfl rfl (r_assign rfl) ?_
            refine S.nil (F.nil ?_)
            cases hE_4
            refine Nrm.only [2] rfl ?_
            refine Nrm.pick [] rfl rfl ?_
            exact hj_4 _ _ ⟨rfl, rfl⟩
          ·replace hE_4 := if_ff g167 hE_4
           refine Tri.drawA mixedT Sep.up [(0, true), (1, true), (2, true), (3, true), (4, true), (5, true), (6, true), (7, true), (8, true), (9, true), (10, true), (11, true), (12, true), (13, true), (14, true), (15, true), (16, true), (17, true), (18, true), (19, true), (20, true), (21, true), (22, true), (23, true), (24, true), (25, true), (26, true), (27, true)] [] (by kernel_rfl) ?_
           refine S.qn rfl rfl rfl rfl (r_loadA ta33 ti33 rfl rfl (fun w hw => (box_cells (i := 1) rfl w hw))) ?_
           refine S.qcn rfl rfl rfl rfl (q_callF (xs := _) rfl ok17 rfl rfl (fun w hw => impl_IsValidLog.ok h166 w (Tab.sep ht hw))) ?_
           refine S.qn rfl rfl rfl rfl (r_move rfl) ?_
           iterate 6 refine S.sk rfl rfl rfl (wf rfl rfl rfl g167) ?_
           refine S.qn rfl rfl rfl rfl (r_pickf rfl rfl g167) ?_
           refine S.qn rfl rfl rfl rfl (r_move rfl) ?_
           iterate 6 refine S.sk rfl rfl rfl (wf rfl rfl rfl rfl) ?_
           refine S.qn rfl rfl rfl rfl (r_pickf rfl rfl rfl) ?_
           refine S.qn rfl rfl rfl rfl (r_move rfl) ?_
           iterate 7 refine S.sk rfl rfl rfl (wf rfl rfl rfl rfl) ?_
           refine S.qn rfl rfl rfl rfl (r_pickf rfl rfl rfl) ?_
           refine S.qn rfl rfl rfl rfl (r_assign rfl) ?_
           refine S.nil (F.nil ?_)
           cases hE_4
           refine Nrm.only [2] rfl ?_
           refine Nrm.pick [] rfl rfl ?_
           exact hj_4 _ _ ⟨rfl, rfl⟩
      ·rcases Bool.eq_false_or_eq_true (t106_4) with g149 | g149
       ·replace hE_3 := if_tt g149 hE_3
        obtain ⟨t152, h152, hE_3⟩ := bind_some hE_3
        refine Tri.reg (l := [0, 1, 2, 3, 4, 5, 6]) rfl ?_
        refine F.qn rfl rfl rfl rfl (r_move rfl) ?_
        refine F.qn rfl rfl rfl rfl (r_move rfl) ?_
        refine F.qg rfl rfl rfl rfl rfl rfl g149 (r_move rfl) ?_
        refine F.qg rfl rfl rfl rfl rfl rfl g149 (r_move rfl) ?_
        refine F.qc rfl rfl rfl (wg rfl rfl rfl g149) (q_callF (xs := _) rfl ok23 rfl rfl (fun w hw => laws_vRecords.ok h152 w ((rd_sl (i := 0) rfl) w hw) ((rd_sl (i := 5) rfl) w hw))) ?_
        refine F.qg rfl rfl rfl rfl rfl rfl g149 (r_not rfl) ?_
        refine F.qn rfl rfl rfl rfl (r_pick rfl rfl g149) ?_
        refine F.nil ?_
        cases hE_3
        refine Nrm.only [11, 12, 13, 14, 21, 154] rfl ?_
        refine Nrm.pick [2, 3, 4, 5] rfl rfl ?_
        exact hj_3 _ _ ⟨rfl, rfl⟩
       ·replace hE_3 := if_ff g149 hE_3
        refine Tri.reg (l := [0, 1, 2, 3, 4, 5, 6]) rfl ?_
        refine F.qn rfl rfl rfl rfl (r_move rfl) ?_
        refine F.qn rfl rfl rfl rfl (r_move rfl) ?_
        iterate 4 refine F.sk rfl rfl rfl (wf rfl rfl rfl g149) ?_
        refine F.qn rfl rfl rfl rfl (r_pickf rfl rfl g149) ?_
        refine F.nil ?_
        cases hE_3
        refine Nrm.only [11, 12, 13, 14, 21, 154] rfl ?_
        refine Nrm.pick [2, 3, 4, 5] rfl rfl ?_
        exact hj_3 _ _ ⟨rfl, rfl⟩
    ·rcases Bool.eq_false_or_eq_true (!(t106_1.toList == t111_1.toList && (t106_2.toList == t111_2.toList && (t106_3 == t111_3 && true)))) with g127 | g127
     ·replace hE_2 := if_tt g127 hE_2
      refine Tri.reg (l := List.range 19) rfl ?_
      refine F.qn rfl rfl rfl rfl (r_loadA ta33 ti33 rfl rfl (fun w hw => (box_cells (i := 3) rfl w hw))) ?_
      refine F.qn rfl rfl rfl rfl (r_loadA ta33 ti33 rfl rfl (fun w hw => (box_cells (i := 2) rfl w hw))) ?_
      refine F.qn rfl rfl rfl rfl (r_neqSt (by kernel_rfl) (by kernel_rfl) (by kernel_rfl) rfl rfl sq33) ?_
      refine F.qn rfl rfl rfl rfl (r_move rfl) ?_
      iterate 3 refine F.sk rfl rfl rfl (wf rfl rfl rfl g127) ?_
      refine F.qn rfl rfl rfl rfl (r_pick rfl rfl g127) ?_
      refine F.qn rfl rfl rfl rfl (r_move rfl) ?_
      iterate 3 refine F.sk rfl rfl rfl (wf rfl rfl rfl rfl) ?_
      refine F.qn rfl rfl rfl rfl (r_pick rfl rfl rfl) ?_
      refine F.qn rfl rfl rfl rfl (r_move rfl) ?_
      iterate 4 refine F.sk rfl rfl rfl (wf rfl rfl rfl rfl) ?_
      refine F.qn rfl rfl rfl rfl (r_pick rfl rfl rfl) ?_
      refine F.nil ?_
      cases hE_2
      refine Nrm.only [11, 12, 13, 14, 17, 18, 21, 142] rfl ?_
      refine Nrm.pick [3, 4, 5, 6, 1] rfl rfl ?_
      exact hj_2 _ _ ⟨rfl, rfl⟩
     ·replace hE_2 := if_ff g127 hE_2
      rcases Bool.eq_false_or_eq_true (t106_4 != t111_4) with g132 | g132
      ·replace hE_2 := if_tt g132 hE_2
       refine Tri.reg (l := List.range 19) rfl ?_
       refine F.qn rfl rfl rfl rfl (r_loadA ta33 ti33 rfl rfl (fun w hw => (box_cells (i := 3) rfl w hw))) ?_
       refine F.qn rfl rfl rfl rfl (r_loadA ta33 ti33 rfl rfl (fun w hw => (box_cells (i := 2) rfl w hw))) ?_
       refine F.qn rfl rfl rfl rfl (r_neqSt (by kernel_rfl) (by kernel_rfl) (by kernel_rfl) rfl rfl sq33) ?_
       refine F.qn rfl rfl rfl rfl (r_move rfl) ?_
       refine F.qg rfl rfl rfl rfl rfl rfl g127 (r_move rfl) ?_
       refine F.qg rfl rfl rfl rfl rfl rfl g127 (r_move rfl) ?_
       refine F.qg rfl rfl rfl rfl rfl rfl g127 (r_neqB Tryd.underlying4 rfl rfl) ?_
       refine F.qn rfl rfl rfl rfl (r_pickf rfl rfl g127) ?_
       refine F.qn rfl rfl rfl rfl (r_move rfl) ?_
       iterate 3 refine F.sk rfl rfl rfl (wf rfl rfl rfl g132) ?_
       refine F.qn rfl rfl rfl rfl (r_pick rfl rfl g132) ?_
       refine F.qn rfl rfl rfl rfl (r_move rfl) ?_
       iterate 4 refine F.sk rfl rfl rfl (wf rfl rfl rfl rfl) ?_
       refine F.qn rfl rfl rfl rfl (r_pick rfl rfl rfl) ?_
       refine F.nil ?_
       cases hE_2
       refine Nrm.only [11, 12, 13, 14, 17, 18, 21, 142] rfl ?_
       refine Nrm.pick [3, 4, 5, 6, 1] rfl rfl ?_
       exact hj_2 _ _ ⟨rfl, rfl⟩
      ·replace hE_2 := if_ff g132 hE_2
       rcases Bool.eq_false_or_eq_true (t116_2 != t121_2) with g137 | g137
       ·replace hE_2 := if_tt g137 hE_2
        refine Tri.reg (l := List.range 19) rfl ?_
        refine F.qn rfl rfl rfl rfl (r_loadA ta33 ti33 rfl rfl (fun w hw => (box_cells (i := 3) rfl w hw))) ?_
        refine F.qn rfl rfl rfl rfl (r_loadA ta33 ti33 rfl rfl (fun w hw => (box_cells (i := 2) rfl w hw))) ?_
        refine F.qn rfl rfl rfl rfl (r_neqSt (by kernel_rfl) (by kernel_rfl) (by kernel_rfl) rfl rfl sq33) ?_
        refine F.qn rfl rfl rfl rfl (r_move rfl) ?_
        refine F.qg rfl rfl rfl rfl rfl rfl g127 (r_move rfl) ?_
        refine F.qg rfl rfl rfl rfl rfl rfl g127 (r_move rfl) ?_
        refine F.qg rfl rfl rfl rfl rfl rfl g127 (r_neqB Tryd.underlying4 rfl rfl) ?_
        refine F.qn rfl rfl rfl rfl (r_pickf rfl rfl g127) ?_
        refine F.qn rfl rfl rfl rfl (r_move rfl) ?_
        refine F.qg rfl rfl rfl rfl rfl rfl g132 (r_move rfl) ?_
        refine F.qg rfl rfl rfl rfl rfl rfl g132 (r_move rfl) ?_
        refine F.qg rfl rfl rfl rfl rfl rfl g132 (r_neqB Tryd.underlying4 rfl rfl) ?_
        refine F.qn rfl rfl rfl rfl (r_pickf rfl rfl g132) ?_
        refine F.qn rfl rfl rfl rfl (r_move rfl) ?_
        iterate 4 refine F.sk rfl rfl rfl (wf rfl rfl rfl g137) ?_
        refine F.qn rfl rfl rfl rfl (r_pick rfl rfl g137) ?_
        refine F.nil ?_
        cases hE_2
        refine Nrm.only [11, 12, 13, 14, 17, 18, 21, 142] rfl ?_
        refine Nrm.pick [3, 4, 5, 6, 1] rfl rfl ?_
        exact hj_2 _ _ ⟨rfl, rfl⟩
       ·replace hE_2 := if_ff g137 hE_2
        obtain ⟨t140, h140, hE_2⟩ := bind_some hE_2
        refine Tri.reg (l := List.range 19) rfl ?_
        refine F.qn rfl rfl rfl rfl (r_loadA ta33 ti33 rfl rfl (fun w hw => (box_cells (i := 3) rfl w hw))) ?_
        refine F.qn rfl rfl rfl rfl (r_loadA ta33 ti33 rfl rfl (fun w hw => (box_cells (i := 2) rfl w hw))) ?_
        refine F.qn rfl rfl rfl rfl (r_neqSt (by kernel_rfl) (by kernel_rfl) (by kernel_rfl) rfl rfl sq33) ?_
        refine F.qn rfl rfl rfl rfl (r_move rfl) ?_
        refine F.qg rfl rfl rfl rfl rfl rfl g127 (r_move rfl) ?_
        refine F.qg rfl rfl rfl rfl rfl rfl g127 (r_move rfl) ?_
        refine F.qg rfl rfl rfl rfl rfl rfl g127 (r_neqB Tryd.underlying4 rfl rfl) ?_
        refine F.qn rfl rfl rfl rfl (r_pickf rfl rfl g127) ?_
        refine F.qn rfl rfl rfl rfl (r_move rfl) ?_
        refine F.qg rfl rfl rfl rfl rfl rfl g132 (r_move rfl) ?_
        refine F.qg rfl rfl rfl rfl rfl rfl g132 (r_move rfl) ?_
        refine F.qg rfl rfl rfl rfl rfl rfl g132 (r_neqB Tryd.underlying4 rfl rfl) ?_
        refine F.qn rfl rfl rfl rfl (r_pickf rfl rfl g132) ?_
        refine F.qn rfl rfl rfl rfl (r_move rfl) ?_
        refine F.qg rfl rfl rfl rfl rfl rfl g137 (r_move rfl) ?_
        refine F.qg rfl rfl rfl rfl rfl rfl g137 (r_move rfl) ?_
        refine F.qc rfl rfl rfl (wg rfl rfl rfl g137) (q_callF (xs := _) rfl ok23 rfl rfl (fun w hw => laws_vRecords.ok h140 w ((rd_sl (i := 1) rfl) w hw) ((rd_sl (i := 0) rfl) w hw))) ?_
        refine F.qg rfl rfl rfl rfl rfl rfl g137 (r_not rfl) ?_
        refine F.qn rfl rfl rfl rfl (r_pickf rfl rfl g137) ?_
        refine F.nil ?_
        cases hE_2
        refine Nrm.only [11, 12, 13, 14, 17, 18, 21, 142] rfl ?_
        refine Nrm.pick [3, 4, 5, 6, 1] rfl rfl ?_
        exact hj_2 _ _ ⟨rfl, rfl⟩
  ·obtain ⟨t73, h73, hE_1⟩ := bind_some hE_1
   obtain ⟨t75, h75, hE_1⟩ := bind_some hE_1
   rcases Bool.eq_false_or_eq_true (t73 != t75) with g77 | g77
   ·replace hE_1 := if_tt g77 hE_1
    refine Tri.drawA mixedT Sep.up [(0, true), (1, true), (2, true), (3, true), (4, true), (5, true), (6, true), (7, true), (8, true), (9, true), (10, true), (11, true), (12, true), (13, true), (14, true), (15, true), (16, true), (17, true), (18, true), (19, true), (20, true), (21, true), (22, true), (23, true), (24, true), (25, true), (26, true), (27, true), (28, true), (29, true), (30, true), (31, true)] [] (by kernel_rfl) ?_
    refine S.qn rfl rfl rfl rfl (r_loadA ta25 ti25 rfl rfl (fun w hw => (box_cells (i := 9) rfl w hw))) ?_
    refine S.qcn rfl rfl rfl rfl (q_callF (xs := _) rfl ok15 rfl rfl (fun w hw => impl_IsValidRecord.ok h73 w )) ?_
    refine S.qn rfl rfl rfl rfl (r_loadA ta25 ti25 rfl rfl (fun w hw => (box_cells (i := 9) rfl w hw))) ?_
    refine S.qcn rfl rfl rfl rfl (q_callF (xs := _) rfl ok16 rfl rfl (fun w hw => spec_IsValidRecord.ok h75 w )) ?_
    refine S.qn rfl rfl rfl rfl (r_neqB Tryd.underlying4 rfl rfl) ?_
    refine S.qn rfl rfl rfl rfl (r_move rfl) ?_
    iterate 3 refine S.sk rfl rfl rfl (wf rfl rfl rfl g77) ?_
    refine S.qn rfl rfl rfl rfl (r_pick rfl rfl g77) ?_
    refine S.qn rfl rfl rfl rfl (r_move rfl) ?_
    iterate 3 refine S.sk rfl rfl rfl (wf rfl rfl rfl rfl) ?_
    refine S.qn rfl rfl rfl rfl (r_pick rfl rfl rfl) ?_
    refine S.qn rfl rfl rfl rfl (r_move rfl) ?_
    iterate 5 refine S.sk rfl rfl rfl (wf rfl rfl rfl rfl) ?_
    refine S.qn rfl rfl rfl rfl (r_pick rfl rfl rfl) ?_
    refine S.qn rfl rfl rfl rfl (r_move rfl) ?_
    iterate 3 refine S.sk rfl rfl rfl (wf rfl rfl rfl rfl) ?_
    refine S.qn rfl rfl rfl rfl (r_pick rfl rfl rfl) ?_
    refine S.qn rfl rfl rfl rfl (r_move rfl) ?_
    iterate 3 refine S.sk rfl rfl rfl (wf rfl rfl rfl rfl) ?_
    refine S.qn rfl rfl rfl rfl (r_pick rfl rfl rfl) ?_
    refine S.nil (F.nil ?_)
    cases hE_1
    refine Nrm.only [11, 12, 13, 14, 103] rfl ?_
    refine Nrm.pick [1, 2, 3] rfl rfl ?_
    exact hj_1 _ _ ⟨rfl, rfl⟩
   ·replace hE_1 := if_ff g77 hE_1
    rcases Bool.eq_false_or_eq_true (!(t42_1.toList == t48_1.toList)) with g82 | g82
    ·replace hE_1 := if_tt g82 hE_1
     refine Tri.drawA mixedT Sep.up [(0, true), (1, true), (2, true), (3, true), (4, true), (5, true), (6, true), (7, true), (8, true), (9, true), (10, true), (11, true), (12, true), (13, true), (14, true), (15, true), (16, true), (17, true), (18, true), (19, true), (20, true), (21, true), (22, true), (23, true), (24, true), (25, true), (26, true), (27, true), (28, true), (29, true), (30, true), (31, true)] [] (by kernel_rfl) ?_
     refine S.qn rfl rfl rfl rfl (r_loadA ta25 ti25 rfl rfl (fun w hw => (box_cells (i := 9) rfl w hw))) ?_
     refine S.qcn rfl rfl rfl rfl (q_callF (xs := _) rfl ok15 rfl rfl (fun w hw => impl_IsValidRecord.ok h73 w )) ?_
     refine S.qn rfl rfl rfl rfl (r_loadA ta25 ti25 rfl rfl (fun w hw => (box_cells (i := 9) rfl w hw))) ?_
     refine S.qcn rfl rfl rfl rfl (q_callF (xs := _) rfl ok16 rfl rfl (fun w hw => spec_IsValidRecord.ok h75 w )) ?_
     refine S.qn rfl rfl rfl rfl (r_neqB Tryd.underlying4 rfl rfl) ?_
     refine S.qn rfl rfl rfl rfl (r_move rfl) ?_
     refine S.qg rfl rfl rfl rfl rfl rfl g77 (r_move rfl) ?_
     refine S.qg rfl rfl rfl rfl rfl rfl g77 (r_move rfl) ?_
     refine S.qg rfl rfl rfl rfl rfl rfl g77 (r_neqS rfl rfl) ?_
     refine S.qn rfl rfl rfl rfl (r_pickf rfl rfl g77) ?_
     refine S.qn rfl rfl rfl rfl (r_move rfl) ?_
     iterate 3 refine S.sk rfl rfl rfl (wf rfl rfl rfl g82) ?_
     refine S.qn rfl rfl rfl rfl (r_pick rfl rfl g82) ?_
     refine S.qn rfl rfl rfl rfl (r_move rfl) ?_
     iterate 5 refine S.sk rfl rfl rfl (wf rfl rfl rfl rfl) ?_
     refine S.qn rfl rfl rfl rfl (r_pick rfl rfl rfl) ?_
     refine S.qn rfl rfl rfl rfl (r_move rfl) ?_
     iterate 3 refine S.sk rfl rfl rfl (wf rfl rfl rfl rfl) ?_
     refine S.qn rfl rfl rfl rfl (r_pick rfl rfl rfl) ?_
     refine S.qn rfl rfl rfl rfl (r_move rfl) ?_
     iterate 3 refine S.sk rfl rfl rfl (wf rfl rfl rfl rfl) ?_
     refine S.qn rfl rfl rfl rfl (r_pick rfl rfl rfl) ?_
     refine S.nil (F.nil ?_)
     cases hE_1
     refine Nrm.only [11, 12, 13, 14, 103] rfl ?_
     refine Nrm.pick [1, 2, 3] rfl rfl ?_
     exact hj_1 _ _ ⟨rfl, rfl⟩
    ·replace hE_1 := if_ff g82 hE_1
     rcases Bool.eq_false_or_eq_true (t42_2 != t48_2) with g87 | g87
     ·replace hE_1 := if_tt g87 hE_1
      refine Tri.drawA mixedT Sep.up [(0, true), (1, true), (2, true), (3, true), (4, true), (5, true), (6, true), (7, true), (8, true), (9, true), (10, true), (11, true), (12, true), (13, true), (14, true), (15, true), (16, true), (17, true), (18, true), (19, true), (20, true), (21, true), (22, true), (23, true), (24, true), (25, true), (26, true), (27, true), (28, true), (29, true), (30, true), (31, true)] [] (by kernel_rfl) ?_
      refine S.qn rfl rfl rfl rfl (r_loadA ta25 ti25 rfl rfl (fun w hw => (box_cells (i := 9) rfl w hw))) ?_
      refine S.qcn rfl rfl rfl rfl (q_callF (xs := _) rfl ok15 rfl rfl (fun w hw => impl_IsValidRecord.ok h73 w )) ?_
      refine S.qn rfl rfl rfl rfl (r_loadA ta25 ti25 rfl rfl (fun w hw => (box_cells (i := 9) rfl w hw))) ?_
      refine S.qcn rfl rfl rfl rfl (q_callF (xs := _) rfl ok16 rfl rfl (fun w hw => spec_IsValidRecord.ok h75 w )) ?_
      refine S.qn rfl rfl rfl rfl (r_neqB Tryd.underlying4 rfl rfl) ?_
      refine S.qn rfl rfl rfl rfl (r_move rfl) ?_
      refine S.qg rfl rfl rfl rfl rfl rfl g77 (r_move rfl) ?_
      refine S.qg rfl rfl rfl rfl rfl rfl g77 (r_move rfl) ?_
      refine S.qg rfl rfl rfl rfl rfl rfl g77 (r_neqS rfl rfl) ?_
      refine S.qn rfl rfl rfl rfl (r_pickf rfl rfl g77) ?_
      refine S.qn rfl rfl rfl rfl (r_move rfl) ?_
      refine S.qg rfl rfl rfl rfl rfl rfl g82 (r_move rfl) ?_
      refine S.qg rfl rfl rfl rfl rfl rfl g82 (r_move rfl) ?_
      refine S.qg rfl rfl rfl rfl rfl rfl g82 (r_neqB Tryd.underlying4 rfl rfl) ?_
      refine S.qn rfl rfl rfl rfl (r_pickf rfl rfl g82) ?_
      refine S.qn rfl rfl rfl rfl (r_move rfl) ?_
      iterate 5 refine S.sk rfl rfl rfl (wf rfl rfl rfl g87) ?_
      refine S.qn rfl rfl rfl rfl (r_pick rfl rfl g87) ?_
      refine S.qn rfl rfl rfl rfl (r_move rfl) ?_
      iterate 3 refine S.sk rfl rfl rfl (wf rfl rfl rfl rfl) ?_
      refine S.qn rfl rfl rfl rfl (r_pick rfl rfl rfl) ?_
      refine S.qn rfl rfl rfl rfl (r_move rfl) ?_
      iterate 3 refine S.sk rfl rfl rfl (wf rfl rfl rfl rfl) ?_
      refine S.qn rfl rfl rfl rfl (r_pick rfl rfl rfl) ?_
      refine S.nil (F.nil ?_)
      cases hE_1
      refine Nrm.only [11, 12, 13, 14, 103] rfl ?_
      refine Nrm.pick [1, 2, 3] rfl rfl ?_
      exact hj_1 _ _ ⟨rfl, rfl⟩
     ·replace hE_1 := if_ff g87 hE_1
      obtain ⟨t89, h89, hE_1⟩ := bind_some hE_1
      obtain ⟨t91, h91, hE_1⟩ := bind_some hE_1
      rcases Bool.eq_false_or_eq_true (t89 != t91) with g94 | g94
      ·replace hE_1 := if_tt g94 hE_1
       refine Tri.drawA mixedT Sep.up [(0, true), (1, true), (2, true), (3, true), (4, true), (5, true), (6, true), (7, true), (8, true), (9, true), (10, true), (11, true), (12, true), (13, true), (14, true), (15, true), (16, true), (17, true), (18, true), (19, true), (20, true), (21, true), (22, true), (23, true), (24, true), (25, true), (26, true), (27, true), (28, true), (29, true), (30, true), (31, true)] [] (by kernel_rfl) ?_
       refine S.qn rfl rfl rfl rfl (r_loadA ta25 ti25 rfl rfl (fun w hw => (box_cells (i := 9) rfl w hw))) ?_
       refine S.qcn rfl rfl rfl rfl (q_callF (xs := _) rfl ok15 rfl rfl (fun w hw => impl_IsValidRecord.ok h73 w )) ?_
       refine S.qn rfl rfl rfl rfl (r_loadA ta25 ti25 rfl rfl (fun w hw => (box_cells (i := 9) rfl w hw))) ?_
       refine S.qcn rfl rfl rfl rfl (q_callF (xs := _) rfl ok16 rfl rfl (fun w hw => spec_IsValidRecord.ok h75 w )) ?_
       refine S.qn rfl rfl rfl rfl (r_neqB Tryd.underlying4 rfl rfl) ?_
       refine S.qn rfl rfl rfl rfl (r_move rfl) ?_
       refine S.qg rfl rfl rfl rfl rfl rfl g77 (r_move rfl) ?_
       refine S.qg rfl rfl rfl rfl rfl rfl g77 (r_move rfl) ?_
       refine S.qg rfl rfl rfl rfl rfl rfl g77 (r_neqS rfl rfl) ?_
       refine S.qn rfl rfl rfl rfl (r_pickf rfl rfl g77) ?_
       refine S.qn rfl rfl rfl rfl (r_move rfl) ?_
       refine S.qg rfl rfl rfl rfl rfl rfl g82 (r_move rfl) ?_
       refine S.qg rfl rfl rfl rfl rfl rfl g82 (r_move rfl) ?_
       refine S.qg rfl rfl rfl rfl rfl rfl g82 (r_neqB Tryd.underlying4 rfl rfl) ?_
       refine S.qn rfl rfl rfl rfl (r_pickf rfl rfl g82) ?_
       refine S.qn rfl rfl rfl rfl (r_move rfl) ?_
       refine S.qg rfl rfl rfl rfl rfl rfl g87 (r_loadA ta33 ti33 rfl rfl (fun w hw => (box_cells (i := 5) rfl w hw))) ?_
       refine S.qc rfl rfl rfl (wg rfl rfl rfl g87) (q_callF (xs := _) rfl ok17 rfl rfl (fun w hw => impl_IsValidLog.ok h89 w (Tab.sep ht hw))) ?_
       refine S.qg rfl rfl rfl rfl rfl rfl g87 (r_loadA ta33 ti33 rfl rfl (fun w hw => (box_cells (i := 5) rfl w hw))) ?_
       refine S.qc rfl rfl rfl (wg rfl rfl rfl g87) (q_callF (xs := _) rfl ok18 rfl rfl (fun w hw => spec_IsValidLog.ok h91 w )) ?_
       refine S.qg rfl rfl rfl rfl rfl rfl g87 (r_neqB Tryd.underlying4 rfl rfl) ?_
       refine S.qn rfl rfl rfl rfl (r_pickf rfl rfl g87) ?_
       refine S.qn rfl rfl rfl rfl (r_move rfl) ?_
       iterate 3 refine S.sk rfl rfl rfl (wf rfl rfl rfl g94) ?_
       refine S.qn rfl rfl rfl rfl (r_pick rfl rfl g94) ?_
       refine S.qn rfl rfl rfl rfl (r_move rfl) ?_
       iterate 3 refine S.sk rfl rfl rfl (wf rfl rfl rfl rfl) ?_
       refine S.qn rfl rfl rfl rfl (r_pick rfl rfl rfl) ?_
       refine S.nil (F.nil ?_)
       cases hE_1
       refine Nrm.only [11, 12, 13, 14, 103] rfl ?_
       refine Nrm.pick [1, 2, 3] rfl rfl ?_
       exact hj_1 _ _ ⟨rfl, rfl⟩
      ·replace hE_1 := if_ff g94 hE_1
       rcases Bool.eq_false_or_eq_true (!(t63_1.toList == t69_1.toList && (t63_2.toList == t69_2.toList && (t63_3 == t69_3 && true)))) with g99 | g99
       ·replace hE_1 := if_tt g99 hE_1
        refine Tri.drawA mixedT Sep.up [(0, true), (1, true), (2, true), (3, true), (4, true), (5, true), (6, true), (7, true), (8, true), (9, true), (10, true), (11, true), (12, true), (13, true), (14, true), (15, true), (16, true), (17, true), (18, true), (19, true), (20, true), (21, true), (22, true), (23, true), (24, true), (25, true), (26, true), (27, true), (28, true), (29, true), (30, true), (31, true)] [] (by kernel_rfl) ?_
        refine S.qn rfl rfl rfl rfl (r_loadA ta25 ti25 rfl rfl (fun w hw => (box_cells (i := 9) rfl w hw))) ?_
        refine S.qcn rfl rfl rfl rfl (q_callF (xs := _) rfl ok15 rfl rfl (fun w hw => impl_IsValidRecord.ok h73 w )) ?_
        refine S.qn rfl rfl rfl rfl (r_loadA ta25 ti25 rfl rfl (fun w hw => (box_cells (i := 9) rfl w hw))) ?_
        refine S.qcn rfl rfl rfl rfl (q_callF (xs := _) rfl ok16 rfl rfl (fun w hw => spec_IsValidRecord.ok h75 w )) ?_
        refine S.qn rfl rfl rfl rfl (r_neqB Tryd.underlying4 rfl rfl) ?_
        refine S.qn rfl rfl rfl rfl (r_move rfl) ?_
        refine S.qg rfl rfl rfl rfl rfl rfl g77 (r_move rfl) ?_
        refine S.qg rfl rfl rfl rfl rfl rfl g77 (r_move rfl) ?_
        refine S.qg rfl rfl rfl rfl rfl rfl g77 (r_neqS rfl rfl) ?_
        refine S.qn rfl rfl rfl rfl (r_pickf rfl rfl g77) ?_
        refine S.qn rfl rfl rfl rfl (r_move rfl) ?_
        refine S.qg rfl rfl rfl rfl rfl rfl g82 (r_move rfl) ?_
        refine S.qg rfl rfl rfl rfl rfl rfl g82 (r_move rfl) ?_
        refine S.qg rfl rfl rfl rfl rfl rfl g82 (r_neqB Tryd.underlying4 rfl rfl) ?_
        refine S.qn rfl rfl rfl rfl (r_pickf rfl rfl g82) ?_
        refine S.qn rfl rfl rfl rfl (r_move rfl) ?_
        refine S.qg rfl rfl rfl rfl rfl rfl g87 (r_loadA ta33 ti33 rfl rfl (fun w hw => (box_cells (i := 5) rfl w hw))) ?_
        refine S.qc rfl rfl rfl (wg rfl rfl rfl g87) (q_callF (xs := _) rfl ok17 rfl rfl (fun w hw => impl_IsValidLog.ok h89 w (Tab.sep ht hw))) ?_
        refine S.qg rfl rfl rfl rfl rfl rfl g87 (r_loadA ta33 ti33 rfl rfl (fun w hw => (box_cells (i := 5) rfl w hw))) ?_
        refine S.qc rfl rfl rfl (wg rfl rfl rfl g87) (q_callF (xs := _) rfl ok18 rfl rfl (fun w hw => spec_IsValidLog.ok h91 w )) ?_
        refine S.qg rfl rfl rfl rfl rfl rfl g87 (r_neqB Tryd.underlying4 rfl rfl) ?_
        refine S.qn rfl rfl rfl rfl (r_pickf rfl rfl g87) ?_
        refine S.qn rfl rfl rfl rfl (r_move rfl) ?_
        refine S.qg rfl rfl rfl rfl rfl rfl g94 (r_loadA ta33 ti33 rfl rfl (fun w hw => (box_cells (i := 1) rfl w hw))) ?_
        refine S.qg rfl rfl rfl rfl rfl rfl g94 (r_loadA ta33 ti33 rfl rfl (fun w hw => (box_cells (i := 0) rfl w hw))) ?_
        refine S.qg rfl rfl rfl rfl rfl rfl g94 (r_neqSt (by kernel_rfl) (by kernel_rfl) (by kernel_rfl) rfl rfl sq33) ?_
        refine S.qn rfl rfl rfl rfl (r_pickf rfl rfl g94) ?_
        refine S.qn rfl rfl rfl rfl (r_move rfl) ?_
        iterate 3 refine S.sk rfl rfl rfl (wf rfl rfl rfl g99) ?_
        refine S.qn rfl rfl rfl rfl (r_pick rfl rfl g99) ?_
        refine S.nil (F.nil ?_)
        cases hE_1
        refine Nrm.only [11, 12, 13, 14, 103] rfl ?_
        refine Nrm.pick [1, 2, 3] rfl rfl ?_
        exact hj_1 _ _ ⟨rfl, rfl⟩
       ·replace hE_1 := if_ff g99 hE_1
        refine Tri.drawA mixedT Sep.up [(0, true), (1, true), (2, true), (3, true), (4, true), (5, true), (6, true), (7, true), (8, true), (9, true), (10, true), (11, true), (12, true), (13, true), (14, true), (15, true), (16, true), (17, true), (18, true), (19, true), (20, true), (21, true), (22, true), (23, true), (24, true), (25, true), (26, true), (27, true), (28, true), (29, true), (30, true), (31, true)] [] (by kernel_rfl) ?_
        refine S.qn rfl rfl rfl rfl (r_loadA ta25 ti25 rfl rfl (fun w hw => (box_cells (i := 9) rfl w hw))) ?_
        refine S.qcn rfl rfl rfl rfl (q_callF (xs := _) rfl ok15 rfl rfl (fun w hw => impl_IsValidRecord.ok h73 w )) ?_
        refine S.qn rfl rfl rfl rfl (r_loadA ta25 ti25 rfl rfl (fun w hw => (box_cells (i := 9) rfl w hw))) ?_
        refine S.qcn rfl rfl rfl rfl (q_callF (xs := _) rfl ok16 rfl rfl (fun w hw => spec_IsValidRecord.ok h75 w )) ?_
        refine S.qn rfl rfl rfl rfl (r_neqB Tryd.underlying4 rfl rfl) ?_
        refine S.qn rfl rfl rfl rfl (r_move rfl) ?_
        refine S.qg rfl rfl rfl rfl rfl rfl g77 (r_move rfl) ?_
        refine S.qg rfl rfl rfl rfl rfl rfl g77 (r_move rfl) ?_
        refine S.qg rfl rfl rfl rfl rfl rfl g77 (r_neqS rfl rfl) ?_
        refine S.qn rfl rfl rfl rfl (r_pickf rfl rfl g77) ?_
        refine S.qn rfl rfl rfl rfl (r_move rfl) ?_
        refine S.qg rfl rfl rfl rfl rfl rfl g82 (r_move rfl) ?_
        refine S.qg rfl rfl rfl rfl rfl rfl g82 (r_move rfl) ?_
        refine S.qg rfl rfl rfl rfl rfl rfl g82 (r_neqB Tryd.underlying4 rfl rfl) ?_
        refine S.qn rfl rfl rfl rfl (r_pickf rfl rfl g82) ?_
        refine S.qn rfl rfl rfl rfl (r_move rfl) ?_
        refine S.qg rfl rfl rfl rfl rfl rfl g87 (r_loadA ta33 ti33 rfl rfl (fun w hw => (box_cells (i := 5) rfl w hw))) ?_
        refine S.qc rfl rfl rfl (wg rfl rfl rfl g87) (q_callF (xs := _) rfl ok17 rfl rfl (fun w hw => impl_IsValidLog.ok h89 w (Tab.sep ht hw))) ?_
        refine S.qg rfl rfl rfl rfl rfl rfl g87 (r_loadA ta33 ti33 rfl rfl (fun w hw => (box_cells (i := 5) rfl w hw))) ?_
        refine S.qc rfl rfl rfl (wg rfl rfl rfl g87) (q_callF (xs := _) rfl ok18 rfl rfl (fun w hw => spec_IsValidLog.ok h91 w )) ?_
        refine S.qg rfl rfl rfl rfl rfl rfl g87 (r_neqB Tryd.underlying4 rfl rfl) ?_
        refine S.qn rfl rfl rfl rfl (r_pickf rfl rfl g87) ?_
        refine S.qn rfl rfl rfl rfl (r_move rfl) ?_
        refine S.qg rfl rfl rfl rfl rfl rfl g94 (r_loadA ta33 ti33 rfl rfl (fun w hw => (box_cells (i := 1) rfl w hw))) ?_
        refine S.qg rfl rfl rfl rfl rfl rfl g94 (r_loadA ta33 ti33 rfl rfl (fun w hw => (box_cells (i := 0) rfl w hw))) ?_
        refine S.qg rfl rfl rfl rfl rfl rfl g94 (r_neqSt (by kernel_rfl) (by kernel_rfl) (by kernel_rfl) rfl rfl sq33) ?_
        refine S.qn rfl rfl rfl rfl (r_pickf rfl rfl g94) ?_
        refine S.qn rfl rfl rfl rfl (r_move rfl) ?_
        refine S.qg rfl rfl rfl rfl rfl rfl g99 (r_move rfl) ?_
        refine S.qg rfl rfl rfl rfl rfl rfl g99 (r_move rfl) ?_
        refine S.qg rfl rfl rfl rfl rfl rfl g99 (r_neq rfl rfl) ?_
        refine S.qn rfl rfl rfl rfl (r_pickf rfl rfl g99) ?_
        refine S.nil (F.nil ?_)
        cases hE_1
        refine Nrm.only [11, 12, 13, 14, 103] rfl ?_
        refine Nrm.pick [1, 2, 3] rfl rfl ?_
        exact hj_1 _ _ ⟨rfl, rfl⟩

end Go.Proofs
