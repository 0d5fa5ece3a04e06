/- A part of the proof of FnLaid: what the functions of the program compute, walked on the model. No condition. -/
import Derived.Test.YtebbaacgalipaaaFnLaidC
import Derived.Test.YtebbaacgalipaaaFnLaidD
set_option linter.unusedSimpArgs false
/- loop.example/g01158/spec.l2Put -/
namespace Go.Proofs
open Go Go.Ga
set_option linter.unusedVariables false
set_option maxRecDepth 100000
set_option maxHeartbeats 4000000
def spec_l2Put.l0 (k : Nat) (a0 : List (Int × Int × Int)) (a3 : Int) (t13 : Int) (t16 : Int) : Nat → Int → Option (Int)
 | 0, _ => none
 | n + 1, x10 => ((if (decide (x10 < (a0.length : Int))) = true then (rdl a0 x10).bind fun t26 => (spec_l2Before.f k t26.1 t26.2.1 t26.2.2 t13 t16 a3).bind fun t29 => some t29 else some false)).bind fun y30 => (if y30 = true then spec_l2Put.l0 k a0 a3 t13 t16 n (w64 (x10 + 1)) else some x10)

def spec_l2Put.f (k : Nat) (a0 : List (Int × Int × Int)) (a1 : Int) (a2 : Int) (a3 : Int) : Option ((List (Int × Int × Int))) := (spec_l1Least.f k a1 a2).bind fun t13 => (spec_l1Most.f k a1 a2).bind fun t16 => (spec_l2Put.l0 k a0 a3 t13 t16 k 0).bind fun x10 => ((if (decide (x10 < (a0.length : Int))) = true then (rdl a0 x10).bind fun t40 => some (decide ((t40.1, t40.2.1, t40.2.2) = (t13, t16, a3))) else some false)).bind fun y44 => (if y44 = true then some a0 else ((slc a0 0 x10).bind fun t49 => (slc a0 x10 (a0.length : Int)).bind fun t56 => if (([] : List (Int × Int × Int)) ++ t49).length < 1099511627776 then if ((([] : List (Int × Int × Int)) ++ t49) ++ ([(t13, t16, a3)] : List (Int × Int × Int))).length < 1099511627776 then if (((([] : List (Int × Int × Int)) ++ t49) ++ ([(t13, t16, a3)] : List (Int × Int × Int))) ++ t56).length < 1099511627776 then some (((([] : List (Int × Int × Int)) ++ t49) ++ ([(t13, t16, a3)] : List (Int × Int × Int))) ++ t56) else none else none else none).bind fun y8 => some y8)

theorem spec_l2Put.ok {k : Nat}  {a0 : List (Int × Int × Int)} {a1 : Int} {a2 : Int} {a3 : Int} {r0 : List (Int × Int × Int)} (h : spec_l2Put.f k a0 a1 a2 a3 = some r0) (w : World) {va0 : Value} {Sa0 : Nat → Prop} (hl_va0 : SlLen va0 a0.length) (hw0 : Sep w (footM [R.sl Sa0 va0 a0]) [R.sl Sa0 va0 a0] w) :
  Calls Try.prog 206 ([va0, .int .i64 a1, .int .i64 a2, .int .i64 a3] : List Value).toArray w (PostM (footM [R.sl Sa0 va0 a0]) (fun u ns => ∃ (Sr0 : Nat → Prop), SlLen u r0.length ∧ ns = [R.sl Sr0 u r0]) w) := by
 unfold spec_l2Put.f at h
 refine Calls.of_tri (N := 58) Try.func206 rfl rfl rfl hw0 ?_
 refine Tri.seq (Tri.reg (l := [0]) rfl ?_)
 refine F.qn rfl rfl rfl rfl (r_assign rfl) ?_
 refine F.nil (Nrm.seq (Tri.seq ?_))
 obtain ⟨t13, h13, h⟩ := bind_some h
 obtain ⟨t16, h16, h⟩ := bind_some h
 refine Tri.reg (l := [0, 1, 2, 3, 4, 5, 6, 7, 8, 9]) rfl ?_
 refine F.qn rfl rfl rfl rfl (r_move rfl) ?_
 refine F.qn rfl rfl rfl rfl (r_move rfl) ?_
 refine F.qcn rfl rfl rfl rfl (q_callF (xs := _) rfl ok181 rfl rfl (fun w hw => spec_l1Least.ok h13 w )) ?_
 refine F.qn rfl rfl rfl rfl (r_move rfl) ?_
 refine F.qn rfl rfl rfl rfl (r_move rfl) ?_
 refine F.qcn rfl rfl rfl rfl (q_callF (xs := _) rfl ok180 rfl rfl (fun w hw => spec_l1Most.ok h16 w )) ?_
 refine F.qn rfl rfl rfl rfl (r_move rfl) ?_
 refine F.qn rfl rfl rfl rfl (r_buildA (qs := [(0, [.int .i64 t13]), (1, [.int .i64 t16]), (2, [.int .i64 a3])]) (cs := [.int .i64 t13, .int .i64 t16, .int .i64 a3]) Try.underlying121 ti3 ti121 rfl (.cons rfl rfl (Nat.le_of_ble_eq_true rfl) (.cons rfl rfl (Nat.le_of_ble_eq_true rfl) (.cons rfl rfl (Nat.le_of_ble_eq_true rfl) .nil))) rfl rfl) ?_
 refine F.mn rfl rfl rfl rfl (m_alloc ti121) ?_
 rintro _ _ ⟨b9_1, rfl, rfl⟩
 refine F.ef0 rfl rfl (wanted_none rfl) (d_storeG0 (i := 0) (cs2 := [.int .i64 t13, .int .i64 t16, .int .i64 a3]) ti121 rfl rfl rfl rfl rfl (Nat.le_of_ble_eq_true rfl) (lf_cons rfl (lf_cons rfl (lf_cons rfl lf_nil)))) ?_
 rintro _ _ ⟨rfl, rfl⟩
 refine F.nil (Nrm.seq (Tri.seq (Tri.reg (l := [0]) rfl ?_)))
 refine F.qn rfl rfl rfl rfl (r_assign rfl) ?_
 refine F.nil (Nrm.seq (Tri.seq ?_))
 obtain ⟨x10, hE_1, h⟩ := bind_some h
 refine Tri.block ?_
 refine Tri.only [0, 9, 10] rfl ?_
 refine Tri.pick [0, 1] rfl rfl ?_
 refine Tri.rounds (fun n e' C' => ∃ (x10' : Int), spec_l2Put.l0 k a0 a3 t13 t16 n x10' = some x10 ∧ e' = [(0, va0), (9, .pointer (some ⟨b9_1, 0, none⟩)), (10, .int .i64 x10')] ∧ C' = Sep w (footM [R.sl Sa0 va0 a0]) [R.box b9_1 121 [.int .i64 t13, .int .i64 t16, .int .i64 a3], R.sl Sa0 va0 (a0 : List (Int × Int × Int))]) k ?_ ?_ ?_
 ·exact ⟨0, hE_1, rfl, rfl⟩
 ·rintro _ _ ⟨_, hE_1, _⟩
  rw [spec_l2Put.l0.eq_1] at hE_1; cases hE_1
 ·rintro n_1 _ _ ⟨x10, hE_1, rfl, rfl⟩ ih_1
  rw [spec_l2Put.l0.eq_2] at hE_1
  refine Tri.seq (Tri.seq ?_)
  obtain ⟨y30, hE_2, hE_1⟩ := bind_some hE_1
  refine Tri.cut (fun e' C' => e' = [(0, va0), (9, .pointer (some ⟨b9_1, 0, none⟩)), (10, .int .i64 x10), (30, .bool y30)] ∧ C' = Sep w (footM [R.sl Sa0 va0 a0]) [R.box b9_1 121 [.int .i64 t13, .int .i64 t16, .int .i64 a3], R.sl Sa0 va0 (a0 : List (Int × Int × Int))]) ?_ (fun hj_1 => ?_)
  ·rintro _ _ ⟨rfl, rfl⟩
   refine Nrm.seq (Tri.cond (b := y30) rfl (fun g_1 => ?_) (fun g_1 => ?_))
   ·replace hE_1 := if_tt g_1 hE_1
    refine Tri.skip (Nrm.seq (Tri.block ?_))
    refine Tri.reg (l := [0, 1, 2]) rfl ?_
    refine F.qn rfl rfl rfl rfl (r_move rfl) ?_
    refine F.qn rfl rfl rfl rfl (r_add rfl rfl) ?_
    refine F.qn rfl rfl rfl rfl (r_assign rfl) ?_
    refine F.nil (Nrm.block ?_)
    refine Nrm.round ?_
    refine Rnd.only [0, 9, 10] rfl ?_
    refine Rnd.pick [0, 1] rfl rfl ?_
    exact ih_1 _ _ ⟨w64 (x10 + 1), hE_1, rfl, rfl⟩
   ·replace hE_1 := if_ff g_1 hE_1
    refine Tri.exit ?_
    refine Exi.then ?_
    refine Exi.then ?_
    refine Exi.same ?_
    cases hE_1
    refine Nrm.seq (Tri.seq (Tri.seq ?_))
    obtain ⟨y44, hE_3, h⟩ := bind_some h
    refine Tri.cut (fun e' C' => e' = [(0, va0), (9, .pointer (some ⟨b9_1, 0, none⟩)), (10, .int .i64 x10), (44, .bool y44)] ∧ C' = Sep w (footM [R.sl Sa0 va0 a0]) [R.box b9_1 121 [.int .i64 t13, .int .i64 t16, .int .i64 a3], R.sl Sa0 va0 (a0 : List (Int × Int × Int))]) ?_ (fun hj_2 => ?_)
    ·rintro _ _ ⟨rfl, rfl⟩
     refine Nrm.seq (Tri.cond (b := y44) rfl (fun g_2 => ?_) (fun g_2 => ?_))
     ·replace h := if_tt g_2 h
      refine Tri.seq (Tri.reg (l := [0, 1]) rfl ?_)
      refine F.qn rfl rfl rfl rfl (r_move rfl) ?_
      refine F.qn rfl rfl rfl rfl (r_assign rfl) ?_
      refine F.nil (Nrm.seq (Tri.ret ?_))
      refine Rtn.then ?_
      cases h
      exact Rtn.body (.tmp rfl .nil) (fun w hw => ⟨_, _, rfl, ⟨Sa0, hl_va0, rfl⟩, Sep.pick (is := [1]) rfl rfl hw⟩)
     ·replace h := if_ff g_2 h
      refine Tri.skip (Nrm.seq (Tri.seq ?_))
      obtain ⟨y8, hE_4, h⟩ := bind_some h
      refine Tri.cut (fun e' C' => ∃ (v8_1 : Value) (S8_1 : Nat → Prop), SlLen v8_1 (y8).length ∧ e' = [(8, v8_1)] ∧ C' = Sep w (footM [R.sl Sa0 va0 a0]) [R.sl S8_1 v8_1 (y8 : List (Int × Int × Int))]) ?_ (fun hj_3 => ?_)
      ·rintro _ _ ⟨v8_1, S8_1, hl_v8_1, rfl, rfl⟩
       refine Nrm.seq (Tri.ret ?_)
       cases h
       exact Rtn.body (.tmp rfl .nil) (fun w hw => ⟨_, _, rfl, ⟨S8_1, hl_v8_1, rfl⟩, Sep.pick (is := [0]) rfl rfl hw⟩)
      ·obtain ⟨t49, h49, hE_4⟩ := bind_some hE_4
       obtain ⟨t56, h56, hE_4⟩ := bind_some hE_4
       obtain ⟨hs50, hE_4⟩ := ck hE_4
       obtain ⟨hs53, hE_4⟩ := ck hE_4
       obtain ⟨hs57, hE_4⟩ := ck hE_4
       refine Tri.drawT mixedT Sep.up [1, 2, 3, 5, 8, 9, 10, 0, 4, 6, 7] [11, 12] (.q 1 (.q 2 (.q 3 (.q 5 (.q 8 (.q 9 (.q 10 (.alt 0 (.alt 4 (.alt 6 (.alt 7 .nil .stop) .stop) (.alt 6 (.alt 4 (.alt 7 .nil .stop) .stop) .stop)) (.alt 6 (.alt 0 (.alt 4 (.alt 7 .nil .stop) .stop) .stop) .stop))))))))) (by kernel_rfl) ?_
       refine T.q rfl rfl rfl (wanted_none rfl) (r_move rfl) ?_
       refine T.q rfl rfl rfl (wanted_none rfl) (r_move rfl) ?_
       refine T.q rfl rfl rfl (wanted_none rfl) (r_sliceH Try.underlying24 ti121 rfl (rd_sl (i := 1) rfl) rfl h49) ?_
       refine T.q rfl rfl rfl (wanted_none rfl) (r_loadA ta121 ti121 rfl rfl (fun w hw => (box_cells (i := 0) rfl w hw))) ?_
       refine T.q rfl rfl rfl (wanted_none rfl) (r_move rfl) ?_
       refine T.q rfl rfl rfl (wanted_none rfl) (r_move rfl) ?_
       refine T.q rfl rfl rfl (wanted_none rfl) (r_sliceL Try.underlying24 ti121 rfl (rd_sl (i := 1) rfl) rfl h56) ?_
       refine T.ef rfl rfl rfl (wanted_none rfl) (Makes.does (m_build0 (α := Int × Int × Int) Try.underlying24 ti121)) (by rintro v46_2 _ ⟨S46_2, hl_v46_2, rfl⟩; exact upd rfl [1, 2] rfl rfl) ?_ ?_
       ·rintro v46_2 _ ⟨S46_2, hl_v46_2, rfl⟩
        refine T.ef rfl rfl rfl (wanted_none rfl) (d_append (i := 0) Try.underlying24 Try.underlying24 ti121 rfl (by decide) rfl rfl rfl (fun w hw => rd_slc ((rd_sl (i := 2) rfl) w hw) h49) hs50) (by rintro v50_2 _ ⟨S50_2, rfl, hl_v50_2⟩; exact upd rfl [1, 2] rfl rfl) ?_ ?_
        ·rintro v50_2 _ ⟨S50_2, rfl, hl_v50_2⟩
         refine T.ef rfl rfl rfl (wanted_none rfl) (Makes.does (m_buildF (l := ([(t13, t16, a3)] : List (Int × Int × Int))) Try.underlying24 ti121 rfl rfl rfl rfl rfl)) (by rintro v52_2 _ ⟨S52_2, hl_v52_2, rfl⟩; exact upd rfl [2, 3] rfl rfl) ?_ ?_
         ·rintro v52_2 _ ⟨S52_2, hl_v52_2, rfl⟩
          refine T.ef rfl rfl rfl (wanted_none rfl) (d_append (i := 1) Try.underlying24 Try.underlying24 ti121 rfl (by decide) rfl rfl rfl (rd_sl (i := 0) rfl) hs53) (by rintro v53_2 _ ⟨S53_2, rfl, hl_v53_2⟩; exact upd rfl [2, 3] rfl rfl) ?_ ?_
          ·rintro v53_2 _ ⟨S53_2, rfl, hl_v53_2⟩
           refine T.nil ?_
           refine F.efn rfl rfl rfl rfl (d_append (i := 1) Try.underlying24 Try.underlying24 ti121 rfl (by decide) rfl rfl rfl (fun w hw => rd_slc ((rd_sl (i := 3) rfl) w hw) h56) hs57) ?_
           rintro v57_2 _ ⟨S57_2, rfl, hl_v57_2⟩
           refine F.qn rfl rfl rfl rfl (r_assign rfl) ?_
           refine F.nil ?_
           cases hE_4
           refine Nrm.only [8] rfl ?_
           refine Nrm.pick [1] rfl rfl ?_
           exact hj_3 _ _ ⟨v57_2, S57_2, hl_v57_2, rfl, rfl⟩
          exact T.stop
         exact T.stop
        ·refine T.ef rfl rfl rfl (wanted_none rfl) (Makes.does (m_buildF (l := ([(t13, t16, a3)] : List (Int × Int × Int))) Try.underlying24 ti121 rfl rfl rfl rfl rfl)) (by rintro v52_3 _ ⟨S52_3, hl_v52_3, rfl⟩; exact upd rfl [2, 3] rfl rfl) ?_ ?_
         ·rintro v52_3 _ ⟨S52_3, hl_v52_3, rfl⟩
          refine T.ef rfl rfl rfl (wanted_none rfl) (d_append (i := 1) Try.underlying24 Try.underlying24 ti121 rfl (by decide) rfl rfl rfl (fun w hw => rd_slc ((rd_sl (i := 3) rfl) w hw) h49) hs50) (by rintro v50_3 _ ⟨S50_3, rfl, hl_v50_3⟩; exact upd rfl [2, 3] rfl rfl) ?_ ?_
          ·rintro v50_3 _ ⟨S50_3, rfl, hl_v50_3⟩
           refine T.ef rfl rfl rfl (wanted_none rfl) (d_append (i := 1) Try.underlying24 Try.underlying24 ti121 rfl (by decide) rfl rfl rfl (rd_sl (i := 0) rfl) hs53) (by rintro v53_3 _ ⟨S53_3, rfl, hl_v53_3⟩; exact upd rfl [2, 3] rfl rfl) ?_ ?_
           ·rintro v53_3 _ ⟨S53_3, rfl, hl_v53_3⟩
            refine T.nil ?_
            refine F.efn rfl rfl rfl rfl (d_append (i := 1) Try.underlying24 Try.underlying24 ti121 rfl (by decide) rfl rfl rfl (fun w hw => rd_slc ((rd_sl (i := 3) rfl) w hw) h56) hs57) ?_
            rintro v57_3 _ ⟨S57_3, rfl, hl_v57_3⟩
            refine F.qn rfl rfl rfl rfl (r_assign rfl) ?_
            refine F.nil ?_
            cases hE_4
            refine Nrm.only [8] rfl ?_
            refine Nrm.pick [1] rfl rfl ?_
            exact hj_3 _ _ ⟨v57_3, S57_3, hl_v57_3, rfl, rfl⟩
           exact T.stop
          exact T.stop
         exact T.stop
       ·refine T.ef rfl rfl rfl (wanted_none rfl) (Makes.does (m_buildF (l := ([(t13, t16, a3)] : List (Int × Int × Int))) Try.underlying24 ti121 rfl rfl rfl rfl rfl)) (by rintro v52_4 _ ⟨S52_4, hl_v52_4, rfl⟩; exact upd rfl [1, 2] rfl rfl) ?_ ?_
        ·rintro v52_4 _ ⟨S52_4, hl_v52_4, rfl⟩
         refine T.ef rfl rfl rfl (wanted_none rfl) (Makes.does (m_build0 (α := Int × Int × Int) Try.underlying24 ti121)) (by rintro v46_3 _ ⟨S46_3, hl_v46_3, rfl⟩; exact upd rfl [2, 3] rfl rfl) ?_ ?_
         ·rintro v46_3 _ ⟨S46_3, hl_v46_3, rfl⟩
          refine T.ef rfl rfl rfl (wanted_none rfl) (d_append (i := 0) Try.underlying24 Try.underlying24 ti121 rfl (by decide) rfl rfl rfl (fun w hw => rd_slc ((rd_sl (i := 3) rfl) w hw) h49) hs50) (by rintro v50_4 _ ⟨S50_4, rfl, hl_v50_4⟩; exact upd rfl [2, 3] rfl rfl) ?_ ?_
          ·rintro v50_4 _ ⟨S50_4, rfl, hl_v50_4⟩
           refine T.ef rfl rfl rfl (wanted_none rfl) (d_append (i := 0) Try.underlying24 Try.underlying24 ti121 rfl (by decide) rfl rfl rfl (rd_sl (i := 1) rfl) hs53) (by rintro v53_4 _ ⟨S53_4, rfl, hl_v53_4⟩; exact upd rfl [2, 3] rfl rfl) ?_ ?_
           ·rintro v53_4 _ ⟨S53_4, rfl, hl_v53_4⟩
            refine T.nil ?_
            refine F.efn rfl rfl rfl rfl (d_append (i := 0) Try.underlying24 Try.underlying24 ti121 rfl (by decide) rfl rfl rfl (fun w hw => rd_slc ((rd_sl (i := 3) rfl) w hw) h56) hs57) ?_
            rintro v57_4 _ ⟨S57_4, rfl, hl_v57_4⟩
            refine F.qn rfl rfl rfl rfl (r_assign rfl) ?_
            refine F.nil ?_
            cases hE_4
            refine Nrm.only [8] rfl ?_
            refine Nrm.pick [0] rfl rfl ?_
            exact hj_3 _ _ ⟨v57_4, S57_4, hl_v57_4, rfl, rfl⟩
           exact T.stop
          exact T.stop
         exact T.stop
        exact T.stop
    ·rcases Bool.eq_false_or_eq_true (decide (x10 < (a0.length : Int))) with g37 | g37
     ·replace hE_3 := if_tt g37 hE_3
      obtain ⟨t40, h40, hE_3⟩ := bind_some hE_3
      refine Tri.drawA mixedT Sep.up [(0, true), (1, true), (2, true), (3, true), (4, true), (5, true), (6, true), (7, true), (8, true), (9, true), (10, true), (11, true)] [] (by kernel_rfl) ?_
      refine S.qn rfl rfl rfl rfl (r_move rfl) ?_
      refine S.qn rfl rfl rfl rfl (r_move rfl) ?_
      refine S.qn rfl rfl rfl rfl (r_len Try.underlying24 rfl hl_va0) ?_
      refine S.qn rfl rfl rfl rfl (r_lss rfl rfl) ?_
      refine S.qn rfl rfl rfl rfl (r_move rfl) ?_
      refine S.qg rfl rfl rfl rfl rfl rfl g37 (r_move rfl) ?_
      refine S.qg rfl rfl rfl rfl rfl rfl g37 (r_move rfl) ?_
      refine S.qg rfl rfl rfl rfl rfl rfl g37 (r_indexAddrS Try.underlying24 ti121 rfl hl_va0 rfl (rdl_some h40).1 (rdl_some h40).2.1) ?_
      refine S.qg rfl rfl rfl rfl rfl rfl g37 (r_loadA ta121 ti121 rfl rfl (fun w hw => (Rd.flat ((rd_sl (i := 1) rfl) w hw) (rdl_some h40).2.2))) ?_
      refine S.qg rfl rfl rfl rfl rfl rfl g37 (r_loadA ta121 ti121 rfl rfl (fun w hw => (box_cells (i := 0) rfl w hw))) ?_
      refine S.qg rfl rfl rfl rfl rfl rfl g37 (r_eqlA3 Try.underlying121 Try.underlying3 ti3 ta3 rfl rfl eg121) ?_
      refine S.qn rfl rfl rfl rfl (r_pick rfl rfl g37) ?_
      refine S.nil (F.nil ?_)
      cases hE_3
      refine Nrm.only [0, 9, 10, 44] rfl ?_
      refine Nrm.pick [0, 1] rfl rfl ?_
      exact hj_2 _ _ ⟨rfl, rfl⟩
     ·replace hE_3 := if_ff g37 hE_3
      refine Tri.drawA mixedT Sep.up [(0, true), (1, true), (2, true), (3, true), (4, true), (5, true), (6, true), (7, true), (8, true), (9, true), (10, true), (11, true)] [] (by kernel_rfl) ?_
      refine S.qn rfl rfl rfl rfl (r_move rfl) ?_
      refine S.qn rfl rfl rfl rfl (r_move rfl) ?_
      refine S.qn rfl rfl rfl rfl (r_len Try.underlying24 rfl hl_va0) ?_
      refine S.qn rfl rfl rfl rfl (r_lss rfl rfl) ?_
      refine S.qn rfl rfl rfl rfl (r_move rfl) ?_
      iterate 6 refine S.sk rfl rfl rfl (wf rfl rfl rfl g37) ?_
      refine S.qn rfl rfl rfl rfl (r_pickf rfl rfl g37) ?_
      refine S.nil (F.nil ?_)
      cases hE_3
      refine Nrm.only [0, 9, 10, 44] rfl ?_
      refine Nrm.pick [0, 1] rfl rfl ?_
      exact hj_2 _ _ ⟨rfl, rfl⟩
  ·rcases Bool.eq_false_or_eq_true (decide (x10 < (a0.length : Int))) with g23 | g23
   ·replace hE_2 := if_tt g23 hE_2
    obtain ⟨t26, h26, hE_2⟩ := bind_some hE_2
    obtain ⟨t29, h29, hE_2⟩ := bind_some hE_2
    refine Tri.drawA mixedT Sep.up [(0, true), (1, true), (2, true), (3, true), (4, true), (5, true), (6, true), (7, true), (8, true), (9, true), (10, true), (11, true)] [] (by kernel_rfl) ?_
    refine S.qn rfl rfl rfl rfl (r_move rfl) ?_
    refine S.qn rfl rfl rfl rfl (r_move rfl) ?_
    refine S.qn rfl rfl rfl rfl (r_len Try.underlying24 rfl hl_va0) ?_
    refine S.qn rfl rfl rfl rfl (r_lss rfl rfl) ?_
    refine S.qn rfl rfl rfl rfl (r_move rfl) ?_
    refine S.qg rfl rfl rfl rfl rfl rfl g23 (r_move rfl) ?_
    refine S.qg rfl rfl rfl rfl rfl rfl g23 (r_move rfl) ?_
    refine S.qg rfl rfl rfl rfl rfl rfl g23 (r_indexAddrS Try.underlying24 ti121 rfl hl_va0 rfl (rdl_some h26).1 (rdl_some h26).2.1) ?_
    refine S.qg rfl rfl rfl rfl rfl rfl g23 (r_loadA ta121 ti121 rfl rfl (fun w hw => (Rd.flat ((rd_sl (i := 1) rfl) w hw) (rdl_some h26).2.2))) ?_
    refine S.qg rfl rfl rfl rfl rfl rfl g23 (r_loadA ta121 ti121 rfl rfl (fun w hw => (box_cells (i := 0) rfl w hw))) ?_
    refine S.qc rfl rfl rfl (wg rfl rfl rfl g23) (q_callF (xs := _) rfl ok213 rfl rfl (fun w hw => spec_l2Before.ok h29 w )) ?_
    refine S.qn rfl rfl rfl rfl (r_pick rfl rfl g23) ?_
    refine S.nil (F.nil ?_)
    cases hE_2
    refine Nrm.only [0, 9, 10, 30] rfl ?_
    refine Nrm.pick [0, 1] rfl rfl ?_
    exact hj_1 _ _ ⟨rfl, rfl⟩
   ·replace hE_2 := if_ff g23 hE_2
    refine Tri.drawA mixedT Sep.up [(0, true), (1, true), (2, true), (3, true), (4, true), (5, true), (6, true), (7, true), (8, true), (9, true), (10, true), (11, true)] [] (by kernel_rfl) ?_
    refine S.qn rfl rfl rfl rfl (r_move rfl) ?_
    refine S.qn rfl rfl rfl rfl (r_move rfl) ?_
    refine S.qn rfl rfl rfl rfl (r_len Try.underlying24 rfl hl_va0) ?_
    refine S.qn rfl rfl rfl rfl (r_lss rfl rfl) ?_
    refine S.qn rfl rfl rfl rfl (r_move rfl) ?_
    iterate 6 refine S.sk rfl rfl rfl (wf rfl rfl rfl g23) ?_
    refine S.qn rfl rfl rfl rfl (r_pickf rfl rfl g23) ?_
    refine S.nil (F.nil ?_)
    cases hE_2
    refine Nrm.only [0, 9, 10, 30] rfl ?_
    refine Nrm.pick [0, 1] rfl rfl ?_
    exact hj_1 _ _ ⟨rfl, rfl⟩


def spec_l1Cur_someMaze.l1 (k : Nat) (a0_0 : List By) (a1 : Int) (t20_1 : Int) : Nat → Int → Int → Int → (List (Int × Int × Int)) → Option (Int × Int × (List (Int × Int × Int)))
 | 0, _, _, _, _ => none
 | n + 1, x11, xpa0_1r, xpa0_2r, xq5_1_1r => ((if (decide (x11 > 0)) = true then (if (decide (a1 > 1)) = true then some (decide (a1 < 13)) else some false) else some false)).bind fun y77 => (if y77 = true then (spec_l1Cur_pick.f k a0_0 xpa0_1r xpa0_2r a1).bind fun (t82_1, t82_2, t82_3) => (spec_l1Cur_pick.f k a0_0 t82_2 t82_3 a1).bind fun (t85_1, t85_2, t85_3) => ((if (t82_1 != t85_1) = true then (spec_l1Cur_few.f k a0_0 t85_2 t85_3 (w64 (1 + t20_1))).bind fun (t95_1, t95_2, t95_3) => (spec_l2Put.f k xq5_1_1r t82_1 t85_1 t95_1).bind fun t96 => some (t95_2, t95_3, t96) else some (t85_2, t85_3, xq5_1_1r))).bind fun (ypa0_1rr, ypa0_2rr, yb5_1_1r) => spec_l1Cur_someMaze.l1 k a0_0 a1 t20_1 n (w64 (x11 - 1)) ypa0_1rr ypa0_2rr yb5_1_1r else some (xpa0_1r, xpa0_2r, xq5_1_1r))

def spec_l1Cur_someMaze.l0 (k : Nat) (a0_0 : List By) (a1 : Int) (t20_1 : Int) : Nat → Int → Int → (List (Int × Int × Int)) → (List (Int)) → Int → Int → Option (Int × Int × (List (Int × Int × Int)) × (List (Int)))
 | 0, _, _, _, _, _, _ => none
 | n + 1, x7, x8, xq5_1_1, xq5_1_2, xpa0_1, xpa0_2 => ((if (decide (x8 < a1)) = true then some (decide (x8 < 13)) else some false)).bind fun y28 => (if y28 = true then (spec_l1Cur_one.f k a0_0 xpa0_1 xpa0_2 2).bind fun (t32_1, t32_2, t32_3) => ((if t32_1 = true then (spec_l1Cur_pick.f k a0_0 t32_2 t32_3 (w64 (1 + t20_1))).bind fun (t35_1, t35_2, t35_3) => if ¬ t35_1 < 0 then some (shl 1 t35_1, t35_2, t35_3) else none else some (0, t32_2, t32_3))).bind fun (y9, ypa0_1, ypa0_2) => if (xq5_1_2 ++ ([y9] : List (Int))).length < 1099511627776 then ((if (decide (x8 > 0)) = true then (spec_l1Cur_few.f k a0_0 ypa0_1 ypa0_2 (w64 (1 + t20_1))).bind fun (t47_1, t47_2, t47_3) => (spec_l1Cur_one.f k a0_0 t47_2 t47_3 3).bind fun (t49_1, t49_2, t49_3) => ((if (!t49_1) = true then some (band t47_1 x7) else some t47_1)).bind fun y10 => (spec_l1Cur_pick.f k a0_0 t49_2 t49_3 x8).bind fun (t58_1, t58_2, t58_3) => (spec_l2Put.f k xq5_1_1 t58_1 x8 y10).bind fun t61 => some (t58_2, t58_3, t61) else some (ypa0_1, ypa0_2, xq5_1_1))).bind fun (ypa0_1r, ypa0_2r, yb5_1_1) => spec_l1Cur_someMaze.l0 k a0_0 a1 t20_1 n (bor x7 y9) (w64 (x8 + 1)) yb5_1_1 (xq5_1_2 ++ ([y9] : List (Int))) ypa0_1r ypa0_2r else none else some (xpa0_1, xpa0_2, xq5_1_1, xq5_1_2))

def spec_l1Cur_someMaze.f (k : Nat) (a0_0 : List By) (a0_1 : Int) (a0_2 : Int) (a1 : Int) : Option (Int × (List (Int × Int × Int)) × (List Int) × Int × Int) := (spec_l1Cur_pick.f k a0_0 a0_1 a0_2 6).bind fun (t20_1, t20_2, t20_3) => (spec_l1Cur_someMaze.l0 k a0_0 a1 t20_1 k 0 0 ([] : List (Int × Int × Int)) ([] : List (Int)) t20_2 t20_3).bind fun (xpa0_1, xpa0_2, xq5_1_1, xq5_1_2) => (spec_l1Cur_pick.f k a0_0 xpa0_1 xpa0_2 6).bind fun (t67_1, t67_2, t67_3) => (spec_l1Cur_someMaze.l1 k a0_0 a1 t20_1 k t67_1 t67_2 t67_3 xq5_1_1).bind fun (xpa0_1r, xpa0_2r, xq5_1_1r) => (spec_l1Cur_pick.f k a0_0 xpa0_1r xpa0_2r 60).bind fun (t99_1, t99_2, t99_3) => (if (t99_1 == 0) = true then (spec_l1Cur_among.f k a0_0 t99_2 t99_3 ([0, 13, w64 (a1 + 1)] : List (Int))).bind fun (t107_1, t107_2, t107_3) => some (t107_1, xq5_1_1r, xq5_1_2, t107_2, t107_3) else (if (t99_1 == 1) = true then ((if (decide ((xq5_1_1r.length : Int) > 0)) = true then (spec_l1Cur_pick.f k a0_0 t99_2 t99_3 (xq5_1_1r.length : Int)).bind fun (t119_1, t119_2, t119_3) => (rdl xq5_1_1r t119_1).bind fun t126 => (rdl xq5_1_1r t119_1).bind fun t132 => (rdl xq5_1_1r t119_1).bind fun t136 => some (t119_2, t119_3, xq5_1_1r.set t119_1.toNat (t126.2.1, t132.1, 0)) else some (t99_2, t99_3, xq5_1_1r))).bind fun (ypa0_1rrr, ypa0_2rrr, yb5_1_1rr) => some (a1, yb5_1_1rr, xq5_1_2, ypa0_1rrr, ypa0_2rrr) else (if (t99_1 == 2) = true then ((if (decide ((xq5_1_2.length : Int) > 0)) = true then ((spec_l1Cur_pick.f k a0_0 t99_2 t99_3 (xq5_1_2.length : Int)).bind fun (t149_1, t149_2, t149_3) => (spec_l1Cur_among.f k a0_0 t149_2 t149_3 ([64, (-1), 63] : List (Int))).bind fun (t152_1, t152_2, t152_3) => (rdl xq5_1_2 t149_1).bind fun t153 => some (t152_2, t152_3, xq5_1_2.set t149_1.toNat t152_1)).bind fun (ypa0_1rrrr, ypa0_2rrrr, yb5_1_2) => some (ypa0_1rrrr, ypa0_2rrrr, yb5_1_2) else some (t99_2, t99_3, xq5_1_2))).bind fun (ypa0_1rrrr, ypa0_2rrrr, yb5_1_2) => some (a1, xq5_1_1r, yb5_1_2, ypa0_1rrrr, ypa0_2rrrr) else (if (t99_1 == 3) = true then ((if (decide ((xq5_1_1r.length : Int) > 0)) = true then (rdl xq5_1_1r 0).bind fun t164 => if (xq5_1_1r ++ ([t164] : List (Int × Int × Int))).length < 1099511627776 then some (xq5_1_1r ++ ([t164] : List (Int × Int × Int))) else none else some xq5_1_1r)).bind fun yb5_1_1rrr => some (a1, yb5_1_1rrr, xq5_1_2, t99_2, t99_3) else (if (t99_1 == 4) = true then some (0, [], [], t99_2, t99_3) else some (a1, xq5_1_1r, xq5_1_2, t99_2, t99_3))))))

theorem spec_l1Cur_someMaze.ok {k : Nat}  {a0_0 : List By} {a0_1 : Int} {a0_2 : Int} {a1 : Int} {r0 : Int} {r1 : List (Int × Int × Int)} {r2 : List Int} {r3 : Int} {r4 : Int} (h : spec_l1Cur_someMaze.f k a0_0 a0_1 a0_2 a1 = some (r0, r1, r2, r3, r4)) (w : World) {pa0 : Nat} {va0_0 : Value} (hr_a0_0 : RdM w (footM [R.box pa0 100 [va0_0, .int .i64 a0_1, .int .u64 a0_2]]) va0_0 a0_0) (hw0 : Sep w (footM [R.box pa0 100 [va0_0, .int .i64 a0_1, .int .u64 a0_2]]) [R.box pa0 100 [va0_0, .int .i64 a0_1, .int .u64 a0_2]] w) :
  Calls Try.prog 162 ([.pointer (some ⟨pa0, 0, none⟩), .int .i64 a1] : List Value).toArray w (PostM (footM [R.box pa0 100 [va0_0, .int .i64 a0_1, .int .u64 a0_2]]) (fun u ns => ∃ (ur1 : Value) (Sr1 : Nat → Prop) (ur2 : Value) (Sr2 : Nat → Prop), u = .agg [.int .i64 r0, ur1, ur2].toArray ∧ SlLen ur1 r1.length ∧ SlLen ur2 r2.length ∧ ns = [R.sl Sr1 ur1 r1, R.sl Sr2 ur2 r2, R.box pa0 100 [va0_0, .int .i64 r3, .int .u64 r4]]) w) := by
 unfold spec_l1Cur_someMaze.f at h
 have hl_va0_0 := hr_a0_0.len
 refine Calls.of_tri (N := 173) Try.func162 rfl rfl rfl hw0 ?_
 refine Tri.seq (Tri.reg (l := [0]) rfl ?_)
 refine F.mn rfl rfl rfl rfl (m_alloc ti27) ?_
 rintro _ _ ⟨b4_1, rfl, rfl⟩
 refine F.nil (Nrm.seq (Tri.seq ?_))
 obtain ⟨⟨t20_1, t20_2, t20_3⟩, h20, h⟩ := bind_some h
 refine Tri.reg (l := [0, 1, 2, 3, 4, 5, 6, 7, 8, 9]) rfl ?_
 refine F.qn rfl rfl rfl rfl (r_move rfl) ?_
 refine F.mn rfl rfl rfl rfl (m_build0 (α := Int × Int × Int) Try.underlying24 ti121) ?_
 rintro v16_1 _ ⟨S16_1, hl_v16_1, rfl⟩
 refine F.mn rfl rfl rfl rfl (m_build0 (α := Int) Try.underlying25 ti3) ?_
 rintro v17_1 _ ⟨S17_1, hl_v17_1, rfl⟩
 refine F.qn rfl rfl rfl rfl (r_build (pl := [(0, 1), (1, 1), (2, 1)]) (qs := [(0, [.int .i64 a1]), (1, [v16_1]), (2, [v17_1])]) (cs := [.int .i64 a1, v16_1, v17_1]) (by kernel_rfl) ti27 rfl (.cons rfl rfl (Nat.le_of_ble_eq_true rfl) (.cons (sl_cells hl_v16_1) rfl (Nat.le_of_ble_eq_true rfl) (.cons (sl_cells hl_v17_1) rfl (Nat.le_of_ble_eq_true rfl) .nil))) rfl rfl) ?_
 refine F.qn rfl rfl rfl rfl (r_move rfl) ?_
 refine F.efn rfl rfl rfl rfl (d_callM (xs := _) (cs := [R.box pa0 100 [va0_0, .int .i64 a0_1, .int .u64 a0_2]]) (rest := [R.sl S17_1 v17_1 (([] : List (Int)) : List (Int)), R.sl S16_1 v16_1 (([] : List (Int × Int × Int)) : List (Int × Int × Int)), R.box b4_1 27 [.int .i64 0, .slice none 0 0, .slice none 0 0]]) [3] [0, 1, 2] rfl ok95 rfl rfl rfl rfl (fun w hw => spec_l1Cur_pick.ok h20 w (hr_a0_0.down hw) (Sep.sub hw))) ?_
 rintro _ _ ⟨_, ⟨rfl, rfl⟩, rfl⟩
 refine F.qn rfl rfl rfl rfl (r_add rfl rfl) ?_
 refine F.mn rfl rfl rfl rfl (m_alloc ti27) ?_
 rintro _ _ ⟨b5_1, rfl, rfl⟩
 refine F.ef0 rfl rfl (wanted_none rfl) (d_storeG0 (i := 0) (cs2 := [.int .i64 a1, v16_1, v17_1]) ti27 rfl rfl rfl rfl rfl (Nat.le_of_ble_eq_true rfl) (lf_cons rfl (lf_cons (sl_leaf hl_v16_1) (lf_cons (sl_leaf hl_v17_1) lf_nil)))) ?_
 rintro _ _ ⟨rfl, rfl⟩
 refine F.qn rfl rfl rfl rfl (r_assign rfl) ?_
 refine F.nil (Nrm.seq (Tri.seq (Tri.reg (l := [0]) rfl ?_)))
 refine F.qn rfl rfl rfl rfl (r_assign rfl) ?_
 refine F.nil (Nrm.seq (Tri.seq (Tri.seq (Tri.reg (l := [0]) rfl ?_))))
 refine F.qn rfl rfl rfl rfl (r_assign rfl) ?_
 refine F.nil (Nrm.seq ?_)
 obtain ⟨⟨xpa0_1, xpa0_2, xq5_1_1, xq5_1_2⟩, hE_1, h⟩ := bind_some h
 refine Tri.block ?_
 refine Tri.only [0, 1, 4, 5, 6, 7, 8] rfl ?_
 refine Tri.pick [0, 1, 4, 2, 3] rfl rfl ?_
 refine Tri.rounds (fun n e' C' => ∃ (x7' : Int) (x8' : Int) (xq5_1_1' : List (Int × Int × Int)) (xq5_1_2' : List (Int)) (xpa0_1' : Int) (xpa0_2' : Int) (wq5_1_1 : Value) (Tq5_1_1 : Nat → Prop) (wq5_1_2 : Value) (Tq5_1_2 : Nat → Prop), spec_l1Cur_someMaze.l0 k a0_0 a1 t20_1 n x7' x8' xq5_1_1' xq5_1_2' xpa0_1' xpa0_2' = some (xpa0_1, xpa0_2, xq5_1_1, xq5_1_2) ∧ SlLen wq5_1_1 (xq5_1_1').length ∧ SlLen wq5_1_2 (xq5_1_2').length ∧ e' = [(0, .pointer (some ⟨pa0, 0, none⟩)), (1, .int .i64 a1), (4, .pointer (some ⟨b4_1, 0, none⟩)), (5, .pointer (some ⟨b5_1, 0, none⟩)), (6, .int .i64 (w64 (1 + t20_1))), (7, .int .i64 x7'), (8, .int .i64 x8')] ∧ C' = Sep w (footM [R.box pa0 100 [va0_0, .int .i64 a0_1, .int .u64 a0_2]]) [R.box b5_1 27 [.int .i64 a1, wq5_1_1, wq5_1_2], R.box pa0 100 [va0_0, .int .i64 xpa0_1', .int .u64 xpa0_2'], R.box b4_1 27 [.int .i64 0, .slice none 0 0, .slice none 0 0], R.sl Tq5_1_2 wq5_1_2 (xq5_1_2' : List (Int)), R.sl Tq5_1_1 wq5_1_1 (xq5_1_1' : List (Int × Int × Int))]) k ?_ ?_ ?_
 ·exact ⟨0, 0, ([] : List (Int × Int × Int)), ([] : List (Int)), t20_2, t20_3, v16_1, S16_1, v17_1, S17_1, hE_1, hl_v16_1, hl_v17_1, rfl, rfl⟩
 ·rintro _ _ ⟨_, _, _, _, _, _, _, _, _, _, hE_1, _⟩
  rw [spec_l1Cur_someMaze.l0.eq_1] at hE_1; cases hE_1
 ·rintro n_1 _ _ ⟨x7, x8, xq5_1_1, xq5_1_2, xpa0_1, xpa0_2, wq5_1_1, Tq5_1_1, wq5_1_2, Tq5_1_2, hE_1, hl_wq5_1_1, hl_wq5_1_2, rfl, rfl⟩ ih_1
  rw [spec_l1Cur_someMaze.l0.eq_2] at hE_1
  refine Tri.seq (Tri.seq ?_)
  obtain ⟨y28, hE_2, hE_1⟩ := bind_some hE_1
  refine Tri.cut (fun e' C' => e' = [(0, .pointer (some ⟨pa0, 0, none⟩)), (1, .int .i64 a1), (4, .pointer (some ⟨b4_1, 0, none⟩)), (5, .pointer (some ⟨b5_1, 0, none⟩)), (6, .int .i64 (w64 (1 + t20_1))), (7, .int .i64 x7), (8, .int .i64 x8), (28, .bool y28)] ∧ C' = Sep w (footM [R.box pa0 100 [va0_0, .int .i64 a0_1, .int .u64 a0_2]]) [R.box b5_1 27 [.int .i64 a1, wq5_1_1, wq5_1_2], R.box pa0 100 [va0_0, .int .i64 xpa0_1, .int .u64 xpa0_2], R.box b4_1 27 [.int .i64 0, .slice none 0 0, .slice none 0 0], R.sl Tq5_1_1 wq5_1_1 (xq5_1_1 : List (Int × Int × Int)), R.sl Tq5_1_2 wq5_1_2 (xq5_1_2 : List (Int))]) ?_ (fun hj_1 => ?_)
  ·rintro _ _ ⟨rfl, rfl⟩
   refine Nrm.seq (Tri.cond (b := y28) rfl (fun g_1 => ?_) (fun g_1 => ?_))
   ·replace hE_1 := if_tt g_1 hE_1
    refine Tri.skip (Nrm.seq (Tri.seq (Tri.block ?_)))
    refine Tri.seq (Tri.reg (l := [0]) rfl ?_)
    refine F.qn rfl rfl rfl rfl (r_assign rfl) ?_
    refine F.nil (Nrm.seq (Tri.seq (Tri.seq ?_)))
    obtain ⟨⟨t32_1, t32_2, t32_3⟩, h32, hE_1⟩ := bind_some hE_1
    refine Tri.reg (l := [0, 1]) rfl ?_
    refine F.qn rfl rfl rfl rfl (r_move rfl) ?_
    refine F.efn rfl rfl rfl rfl (d_callM (xs := _) (cs := [R.box pa0 100 [va0_0, .int .i64 xpa0_1, .int .u64 xpa0_2]]) (rest := [R.box b5_1 27 [.int .i64 a1, wq5_1_1, wq5_1_2], R.box b4_1 27 [.int .i64 0, .slice none 0 0, .slice none 0 0], R.sl Tq5_1_1 wq5_1_1 (xq5_1_1 : List (Int × Int × Int)), R.sl Tq5_1_2 wq5_1_2 (xq5_1_2 : List (Int))]) [1] [0, 2, 3, 4] rfl ok93 rfl rfl rfl rfl (fun w hw => spec_l1Cur_one.ok h32 w (hr_a0_0.down hw) (Sep.sub hw))) ?_
    rintro _ _ ⟨_, ⟨rfl, rfl⟩, rfl⟩
    refine F.nil (Nrm.seq ?_)
    obtain ⟨⟨y9, ypa0_1, ypa0_2⟩, hE_3, hE_1⟩ := bind_some hE_1
    refine Tri.cut (fun e' C' => e' = [(0, .pointer (some ⟨pa0, 0, none⟩)), (1, .int .i64 a1), (4, .pointer (some ⟨b4_1, 0, none⟩)), (5, .pointer (some ⟨b5_1, 0, none⟩)), (6, .int .i64 (w64 (1 + t20_1))), (7, .int .i64 x7), (8, .int .i64 x8), (9, .int .i64 y9)] ∧ C' = Sep w (footM [R.box pa0 100 [va0_0, .int .i64 a0_1, .int .u64 a0_2]]) [R.box pa0 100 [va0_0, .int .i64 ypa0_1, .int .u64 ypa0_2], R.box b5_1 27 [.int .i64 a1, wq5_1_1, wq5_1_2], R.box b4_1 27 [.int .i64 0, .slice none 0 0, .slice none 0 0], R.sl Tq5_1_1 wq5_1_1 (xq5_1_1 : List (Int × Int × Int)), R.sl Tq5_1_2 wq5_1_2 (xq5_1_2 : List (Int))]) ?_ (fun hj_2 => ?_)
    ·rintro _ _ ⟨rfl, rfl⟩
     refine Nrm.seq (Tri.seq ?_)
     obtain ⟨hs41, hE_1⟩ := ck hE_1
     refine Tri.reg (l := [0, 1, 2, 3, 4, 5, 6]) rfl ?_
     refine F.qn rfl rfl rfl rfl (r_fieldAddr tf27_2 rfl) ?_
     refine F.qn rfl rfl rfl rfl (r_load ta25 rfl (fun w hw => cell_1 (box_cells (i := 1) rfl w hw) rfl)) ?_
     refine F.qn rfl rfl rfl rfl (r_move rfl) ?_
     refine F.mn rfl rfl rfl rfl (m_buildF (l := ([y9] : List (Int))) Try.underlying25 ti3 rfl rfl rfl rfl rfl) ?_
     rintro v40_1 _ ⟨S40_1, hl_v40_1, rfl⟩
     refine F.efn rfl rfl rfl rfl (d_append (i := 5) Try.underlying25 Try.underlying25 ti3 rfl (by decide) rfl rfl rfl (rd_sl (i := 0) rfl) hs41) ?_
     rintro v41_1 _ ⟨S41_1, rfl, hl_v41_1⟩
     refine F.qn rfl rfl rfl rfl (r_fieldAddr tf27_2 rfl) ?_
     refine F.ef0 rfl rfl (wanted_none rfl) (d_storeG1 (i := 2) (cs2 := [v41_1]) ti25 rfl rfl rfl (sl_cells hl_v41_1) rfl (Nat.le_of_ble_eq_true rfl) (lf_cons (sl_leaf hl_v41_1) lf_nil)) ?_
     rintro _ _ ⟨rfl, rfl⟩
     refine F.nil (Nrm.seq (Tri.seq (Tri.seq (Tri.reg (l := [0, 1]) rfl ?_))))
     refine F.qn rfl rfl rfl rfl (r_move rfl) ?_
     refine F.qn rfl rfl rfl rfl (r_gtr rfl rfl) ?_
     refine F.nil (Nrm.seq ?_)
     obtain ⟨⟨ypa0_1r, ypa0_2r, yb5_1_1⟩, hE_4, hE_1⟩ := bind_some hE_1
     refine Tri.cut (fun e' C' => ∃ (vb5_1_1_1 : Value) (Sb5_1_1_1 : Nat → Prop), SlLen vb5_1_1_1 (yb5_1_1).length ∧ e' = [(0, .pointer (some ⟨pa0, 0, none⟩)), (1, .int .i64 a1), (4, .pointer (some ⟨b4_1, 0, none⟩)), (5, .pointer (some ⟨b5_1, 0, none⟩)), (6, .int .i64 (w64 (1 + t20_1))), (7, .int .i64 x7), (8, .int .i64 x8), (9, .int .i64 y9)] ∧ C' = Sep w (footM [R.box pa0 100 [va0_0, .int .i64 a0_1, .int .u64 a0_2]]) [R.box pa0 100 [va0_0, .int .i64 ypa0_1r, .int .u64 ypa0_2r], R.box b5_1 27 [.int .i64 a1, vb5_1_1_1, v41_1], R.box b4_1 27 [.int .i64 0, .slice none 0 0, .slice none 0 0], R.sl Sb5_1_1_1 vb5_1_1_1 (yb5_1_1 : List (Int × Int × Int)), R.sl S41_1 v41_1 (xq5_1_2 ++ ([y9] : List (Int)) : List (Int))]) ?_ (fun hj_3 => ?_)
     ·rintro _ _ ⟨vb5_1_1_1, Sb5_1_1_1, hl_vb5_1_1_1, rfl, rfl⟩
      refine Nrm.seq (Tri.reg (l := [0, 1, 2, 3]) rfl ?_)
      refine F.qn rfl rfl rfl rfl (r_move rfl) ?_
      refine F.qn rfl rfl rfl rfl (r_move rfl) ?_
      refine F.qn rfl rfl rfl rfl (r_or rfl rfl) ?_
      refine F.qn rfl rfl rfl rfl (r_assign rfl) ?_
      refine F.nil (Nrm.block ?_)
      refine Nrm.seq (Tri.reg (l := [0, 1, 2]) rfl ?_)
      refine F.qn rfl rfl rfl rfl (r_move rfl) ?_
      refine F.qn rfl rfl rfl rfl (r_add rfl rfl) ?_
      refine F.qn rfl rfl rfl rfl (r_assign rfl) ?_
      refine F.nil (Nrm.round ?_)
      refine Rnd.only [0, 1, 4, 5, 6, 7, 8] rfl ?_
      refine Rnd.pick [1, 0, 2, 4, 3] rfl rfl ?_
      exact ih_1 _ _ ⟨bor x7 y9, w64 (x8 + 1), yb5_1_1, xq5_1_2 ++ ([y9] : List (Int)), ypa0_1r, ypa0_2r, vb5_1_1_1, Sb5_1_1_1, v41_1, S41_1, hE_1, hl_vb5_1_1_1, hl_v41_1, rfl, rfl⟩
     ·refine Tri.cond (b := decide (x8 > 0)) rfl (fun g_3 => ?_) (fun g_3 => ?_)
      ·replace hE_4 := if_tt g_3 hE_4
       refine Tri.seq ?_
       obtain ⟨⟨t47_1, t47_2, t47_3⟩, h47, hE_4⟩ := bind_some hE_4
       refine Tri.reg (l := [0, 1, 2, 3]) rfl ?_
       refine F.qn rfl rfl rfl rfl (r_move rfl) ?_
       refine F.qn rfl rfl rfl rfl (r_move rfl) ?_
       refine F.efn rfl rfl rfl rfl (d_callM (xs := _) (cs := [R.box pa0 100 [va0_0, .int .i64 ypa0_1, .int .u64 ypa0_2]]) (rest := [R.sl S40_1 v40_1 (([y9] : List (Int)) : List (Int)), R.box b5_1 27 [.int .i64 a1, wq5_1_1, v41_1], R.box b4_1 27 [.int .i64 0, .slice none 0 0, .slice none 0 0], R.sl Tq5_1_1 wq5_1_1 (xq5_1_1 : List (Int × Int × Int)), R.sl S41_1 v41_1 (xq5_1_2 ++ ([y9] : List (Int)) : List (Int))]) [1] [0, 2, 3, 4, 5] rfl ok205 rfl rfl rfl rfl (fun w hw => spec_l1Cur_few.ok h47 w (hr_a0_0.down hw) (Sep.sub hw))) ?_
       rintro _ _ ⟨_, ⟨rfl, rfl⟩, rfl⟩
       refine F.qn rfl rfl rfl rfl (r_assign rfl) ?_
       refine F.nil (Nrm.seq (Tri.seq (Tri.seq ?_)))
       obtain ⟨⟨t49_1, t49_2, t49_3⟩, h49, hE_4⟩ := bind_some hE_4
       refine Tri.reg (l := [0, 1, 2]) rfl ?_
       refine F.qn rfl rfl rfl rfl (r_move rfl) ?_
       refine F.efn rfl rfl rfl rfl (d_callM (xs := _) (cs := [R.box pa0 100 [va0_0, .int .i64 t47_2, .int .u64 t47_3]]) (rest := [R.sl S40_1 v40_1 (([y9] : List (Int)) : List (Int)), R.box b5_1 27 [.int .i64 a1, wq5_1_1, v41_1], R.box b4_1 27 [.int .i64 0, .slice none 0 0, .slice none 0 0], R.sl Tq5_1_1 wq5_1_1 (xq5_1_1 : List (Int × Int × Int)), R.sl S41_1 v41_1 (xq5_1_2 ++ ([y9] : List (Int)) : List (Int))]) [0] [1, 2, 3, 4, 5] rfl ok93 rfl rfl rfl rfl (fun w hw => spec_l1Cur_one.ok h49 w (hr_a0_0.down hw) (Sep.sub hw))) ?_
       rintro _ _ ⟨_, ⟨rfl, rfl⟩, rfl⟩
       refine F.qn rfl rfl rfl rfl (r_not rfl) ?_
       refine F.nil (Nrm.seq ?_)
       obtain ⟨y10, hE_5, hE_4⟩ := bind_some hE_4
       refine Tri.cut (fun e' C' => e' = [(0, .pointer (some ⟨pa0, 0, none⟩)), (1, .int .i64 a1), (4, .pointer (some ⟨b4_1, 0, none⟩)), (5, .pointer (some ⟨b5_1, 0, none⟩)), (6, .int .i64 (w64 (1 + t20_1))), (7, .int .i64 x7), (8, .int .i64 x8), (9, .int .i64 y9), (10, .int .i64 y10)] ∧ C' = Sep w (footM [R.box pa0 100 [va0_0, .int .i64 a0_1, .int .u64 a0_2]]) [R.box pa0 100 [va0_0, .int .i64 t49_2, .int .u64 t49_3], R.box b5_1 27 [.int .i64 a1, wq5_1_1, v41_1], R.box b4_1 27 [.int .i64 0, .slice none 0 0, .slice none 0 0], R.sl S41_1 v41_1 (xq5_1_2 ++ ([y9] : List (Int)) : List (Int)), R.sl Tq5_1_1 wq5_1_1 (xq5_1_1 : List (Int × Int × Int))]) ?_ (fun hj_4 => ?_)
       ·rintro _ _ ⟨rfl, rfl⟩
        refine Nrm.seq ?_
        obtain ⟨⟨t58_1, t58_2, t58_3⟩, h58, hE_4⟩ := bind_some hE_4
        obtain ⟨t61, h61, hE_4⟩ := bind_some hE_4
        refine Tri.drawK (B := Sep w (footM [R.box pa0 100 [va0_0, .int .i64 a0_1, .int .u64 a0_2]]) [R.box b5_1 27 [.int .i64 a1, wq5_1_1, v41_1], R.box b4_1 27 [.int .i64 0, .slice none 0 0, .slice none 0 0], R.sl S41_1 v41_1 (xq5_1_2 ++ ([y9] : List (Int)) : List (Int)), R.sl Tq5_1_1 wq5_1_1 (xq5_1_1 : List (Int × Int × Int))]) mixedT Sep.up [(0, true), (1, true), (2, true), (3, true), (5, true), (6, true), (4, false)] [7, 8, 9] (by kernel_rfl) ?_
        refine K.q [1, 2, 3, 4] rfl rfl rfl rfl rfl (wanted_none rfl) (r_fieldAddr tf27_1 rfl) ?_
        refine K.q [1, 2, 3, 4] rfl rfl rfl rfl rfl (wanted_none rfl) (r_load ta24 rfl (fun w hw => cell_1 (box_cells (i := 0) rfl w hw) rfl)) ?_
        iterate 4 refine K.q [1, 2, 3, 4] rfl rfl rfl rfl rfl (wanted_none rfl) (r_move rfl) ?_
        refine B.ef rfl rfl rfl (wanted_none rfl) (d_callM (xs := _) (cs := [R.box pa0 100 [va0_0, .int .i64 t49_2, .int .u64 t49_3]]) (rest := [R.box b5_1 27 [.int .i64 a1, wq5_1_1, v41_1], R.box b4_1 27 [.int .i64 0, .slice none 0 0, .slice none 0 0], R.sl S41_1 v41_1 (xq5_1_2 ++ ([y9] : List (Int)) : List (Int)), R.sl Tq5_1_1 wq5_1_1 (xq5_1_1 : List (Int × Int × Int))]) [0] [1, 2, 3, 4] rfl ok95 rfl rfl rfl rfl (fun w hw => spec_l1Cur_pick.ok h58 w (hr_a0_0.down hw) (Sep.sub hw))) (by rintro _ _ ⟨_, ⟨rfl, rfl⟩, rfl⟩; exact upd rfl [1, 2, 3, 4] rfl rfl) ?_
        rintro _ _ ⟨_, ⟨rfl, rfl⟩, rfl⟩
        refine B.nil ?_
        refine F.efn rfl rfl rfl rfl (d_callM (xs := _) (cs := [R.sl Tq5_1_1 wq5_1_1 (xq5_1_1 : List (Int × Int × Int))]) (rest := [R.box pa0 100 [va0_0, .int .i64 t58_2, .int .u64 t58_3], R.box b5_1 27 [.int .i64 a1, wq5_1_1, v41_1], R.box b4_1 27 [.int .i64 0, .slice none 0 0, .slice none 0 0], R.sl S41_1 v41_1 (xq5_1_2 ++ ([y9] : List (Int)) : List (Int))]) [4] [0, 1, 2, 3] rfl ok206 rfl rfl rfl rfl (fun w hw => spec_l2Put.ok h61 w hl_wq5_1_1 (Sep.sub hw))) ?_
        rintro v61_2 _ ⟨_, ⟨S61_2, hl_v61_2, rfl⟩, rfl⟩
        refine F.qn rfl rfl rfl rfl (r_fieldAddr tf27_1 rfl) ?_
        refine F.ef0 rfl rfl (wanted_none rfl) (d_storeG1 (i := 2) (cs2 := [v61_2]) ti24 rfl rfl rfl (sl_cells hl_v61_2) rfl (Nat.le_of_ble_eq_true rfl) (lf_cons (sl_leaf hl_v61_2) lf_nil)) ?_
        rintro _ _ ⟨rfl, rfl⟩
        refine F.nil ?_
        cases hE_4
        refine Nrm.only [0, 1, 4, 5, 6, 7, 8, 9] rfl ?_
        refine Nrm.pick [1, 2, 3, 0, 4] rfl rfl ?_
        exact hj_3 _ _ ⟨v61_2, S61_2, hl_v61_2, rfl, rfl⟩
       ·refine Tri.cond (b := !t49_1) rfl (fun g_4 => ?_) (fun g_4 => ?_)
        ·replace hE_5 := if_tt g_4 hE_5
         refine Tri.reg (l := [0, 1, 2, 3]) rfl ?_
         refine F.qn rfl rfl rfl rfl (r_move rfl) ?_
         refine F.qn rfl rfl rfl rfl (r_move rfl) ?_
         refine F.qn rfl rfl rfl rfl (r_and rfl rfl) ?_
         refine F.qn rfl rfl rfl rfl (r_assign rfl) ?_
         refine F.nil ?_
         cases hE_5
         refine Nrm.only [0, 1, 4, 5, 6, 7, 8, 9, 10] rfl ?_
         refine Nrm.pick [0, 2, 3, 5, 4] rfl rfl ?_
         exact hj_4 _ _ ⟨rfl, rfl⟩
        ·replace hE_5 := if_ff g_4 hE_5
         refine Tri.skip ?_
         cases hE_5
         refine Nrm.only [0, 1, 4, 5, 6, 7, 8, 9, 10] rfl ?_
         refine Nrm.pick [0, 2, 3, 5, 4] rfl rfl ?_
         exact hj_4 _ _ ⟨rfl, rfl⟩
      ·replace hE_4 := if_ff g_3 hE_4
       refine Tri.skip ?_
       cases hE_4
       refine Nrm.only [0, 1, 4, 5, 6, 7, 8, 9] rfl ?_
       refine Nrm.pick [1, 2, 3, 4, 5] rfl rfl ?_
       exact hj_3 _ _ ⟨wq5_1_1, Tq5_1_1, hl_wq5_1_1, rfl, rfl⟩
    ·refine Tri.cond (b := t32_1) rfl (fun g_2 => ?_) (fun g_2 => ?_)
     ·replace hE_3 := if_tt g_2 hE_3
      obtain ⟨⟨t35_1, t35_2, t35_3⟩, h35, hE_3⟩ := bind_some hE_3
      obtain ⟨hs36, hE_3⟩ := ck hE_3
      refine Tri.reg (l := [0, 1, 2, 3, 4]) rfl ?_
      refine F.qn rfl rfl rfl rfl (r_move rfl) ?_
      refine F.qn rfl rfl rfl rfl (r_move rfl) ?_
      refine F.efn rfl rfl rfl rfl (d_callM (xs := _) (cs := [R.box pa0 100 [va0_0, .int .i64 t32_2, .int .u64 t32_3]]) (rest := [R.box b5_1 27 [.int .i64 a1, wq5_1_1, wq5_1_2], R.box b4_1 27 [.int .i64 0, .slice none 0 0, .slice none 0 0], R.sl Tq5_1_1 wq5_1_1 (xq5_1_1 : List (Int × Int × Int)), R.sl Tq5_1_2 wq5_1_2 (xq5_1_2 : List (Int))]) [0] [1, 2, 3, 4] rfl ok95 rfl rfl rfl rfl (fun w hw => spec_l1Cur_pick.ok h35 w (hr_a0_0.down hw) (Sep.sub hw))) ?_
      rintro _ _ ⟨_, ⟨rfl, rfl⟩, rfl⟩
      refine F.qn rfl rfl rfl rfl (r_shl rfl rfl hs36) ?_
      refine F.qn rfl rfl rfl rfl (r_assign rfl) ?_
      refine F.nil ?_
      cases hE_3
      refine Nrm.only [0, 1, 4, 5, 6, 7, 8, 9] rfl ?_
      refine Nrm.pick [0, 1, 2, 3, 4] rfl rfl ?_
      exact hj_2 _ _ ⟨rfl, rfl⟩
     ·replace hE_3 := if_ff g_2 hE_3
      refine Tri.skip ?_
      cases hE_3
      refine Nrm.only [0, 1, 4, 5, 6, 7, 8, 9] rfl ?_
      refine Nrm.pick [0, 1, 2, 3, 4] rfl rfl ?_
      exact hj_2 _ _ ⟨rfl, rfl⟩
   ·replace hE_1 := if_ff g_1 hE_1
    refine Tri.exit ?_
    refine Exi.then ?_
    refine Exi.then ?_
    refine Exi.same ?_
    cases hE_1
    refine Nrm.seq (Tri.seq (Tri.seq ?_))
    obtain ⟨⟨t67_1, t67_2, t67_3⟩, h67, h⟩ := bind_some h
    refine Tri.reg (l := [0, 1, 2]) rfl ?_
    refine F.qn rfl rfl rfl rfl (r_move rfl) ?_
    refine F.efn rfl rfl rfl rfl (d_callM (xs := _) (cs := [R.box pa0 100 [va0_0, .int .i64 xpa0_1, .int .u64 xpa0_2]]) (rest := [R.box b5_1 27 [.int .i64 a1, wq5_1_1, wq5_1_2], R.box b4_1 27 [.int .i64 0, .slice none 0 0, .slice none 0 0], R.sl Tq5_1_1 wq5_1_1 (xq5_1_1 : List (Int × Int × Int)), R.sl Tq5_1_2 wq5_1_2 (xq5_1_2 : List (Int))]) [1] [0, 2, 3, 4] rfl ok95 rfl rfl rfl rfl (fun w hw => spec_l1Cur_pick.ok h67 w (hr_a0_0.down hw) (Sep.sub hw))) ?_
    rintro _ _ ⟨_, ⟨rfl, rfl⟩, rfl⟩
    refine F.qn rfl rfl rfl rfl (r_assign rfl) ?_
    refine F.nil (Nrm.seq ?_)
    obtain ⟨⟨xpa0_1r, xpa0_2r, xq5_1_1r⟩, hE_6, h⟩ := bind_some h
    refine Tri.block ?_
    refine Tri.only [0, 1, 4, 5, 6, 11] rfl ?_
    refine Tri.pick [0, 1, 2, 3, 4] rfl rfl ?_
    refine Tri.rounds (fun n e' C' => ∃ (x11' : Int) (xpa0_1r' : Int) (xpa0_2r' : Int) (xq5_1_1r' : List (Int × Int × Int)) (wq5_1_1r : Value) (Tq5_1_1r : Nat → Prop), spec_l1Cur_someMaze.l1 k a0_0 a1 t20_1 n x11' xpa0_1r' xpa0_2r' xq5_1_1r' = some (xpa0_1r, xpa0_2r, xq5_1_1r) ∧ SlLen wq5_1_1r (xq5_1_1r').length ∧ e' = [(0, .pointer (some ⟨pa0, 0, none⟩)), (1, .int .i64 a1), (4, .pointer (some ⟨b4_1, 0, none⟩)), (5, .pointer (some ⟨b5_1, 0, none⟩)), (6, .int .i64 (w64 (1 + t20_1))), (11, .int .i64 x11')] ∧ C' = Sep w (footM [R.box pa0 100 [va0_0, .int .i64 a0_1, .int .u64 a0_2]]) [R.box pa0 100 [va0_0, .int .i64 xpa0_1r', .int .u64 xpa0_2r'], R.box b5_1 27 [.int .i64 a1, wq5_1_1r, wq5_1_2], R.box b4_1 27 [.int .i64 0, .slice none 0 0, .slice none 0 0], R.sl Tq5_1_1r wq5_1_1r (xq5_1_1r' : List (Int × Int × Int)), R.sl Tq5_1_2 wq5_1_2 (xq5_1_2 : List (Int))]) k ?_ ?_ ?_
    ·exact ⟨t67_1, t67_2, t67_3, xq5_1_1, wq5_1_1, Tq5_1_1, hE_6, hl_wq5_1_1, rfl, rfl⟩
    ·rintro _ _ ⟨_, _, _, _, _, _, hE_6, _⟩
     rw [spec_l1Cur_someMaze.l1.eq_1] at hE_6; cases hE_6
    ·rintro n_2 _ _ ⟨x11, xpa0_1r, xpa0_2r, xq5_1_1r, wq5_1_1r, Tq5_1_1r, hE_6, hl_wq5_1_1r, rfl, rfl⟩ ih_2
     rw [spec_l1Cur_someMaze.l1.eq_2] at hE_6
     refine Tri.seq (Tri.seq ?_)
     obtain ⟨y77, hE_7, hE_6⟩ := bind_some hE_6
     refine Tri.cut (fun e' C' => e' = [(0, .pointer (some ⟨pa0, 0, none⟩)), (1, .int .i64 a1), (4, .pointer (some ⟨b4_1, 0, none⟩)), (5, .pointer (some ⟨b5_1, 0, none⟩)), (6, .int .i64 (w64 (1 + t20_1))), (11, .int .i64 x11), (77, .bool y77)] ∧ C' = Sep w (footM [R.box pa0 100 [va0_0, .int .i64 a0_1, .int .u64 a0_2]]) [R.box pa0 100 [va0_0, .int .i64 xpa0_1r, .int .u64 xpa0_2r], R.box b5_1 27 [.int .i64 a1, wq5_1_1r, wq5_1_2], R.box b4_1 27 [.int .i64 0, .slice none 0 0, .slice none 0 0], R.sl Tq5_1_1r wq5_1_1r (xq5_1_1r : List (Int × Int × Int)), R.sl Tq5_1_2 wq5_1_2 (xq5_1_2 : List (Int))]) ?_ (fun hj_5 => ?_)
     ·rintro _ _ ⟨rfl, rfl⟩
      refine Nrm.seq (Tri.cond (b := y77) rfl (fun g_5 => ?_) (fun g_5 => ?_))
      ·replace hE_6 := if_tt g_5 hE_6
       refine Tri.skip (Nrm.seq (Tri.seq (Tri.block ?_)))
       refine Tri.seq ?_
       obtain ⟨⟨t82_1, t82_2, t82_3⟩, h82, hE_6⟩ := bind_some hE_6
       obtain ⟨⟨t85_1, t85_2, t85_3⟩, h85, hE_6⟩ := bind_some hE_6
       refine Tri.reg (l := [0, 1, 2, 3, 4, 5, 6, 7]) rfl ?_
       refine F.qn rfl rfl rfl rfl (r_move rfl) ?_
       refine F.qn rfl rfl rfl rfl (r_move rfl) ?_
       refine F.efn rfl rfl rfl rfl (d_callM (xs := _) (cs := [R.box pa0 100 [va0_0, .int .i64 xpa0_1r, .int .u64 xpa0_2r]]) (rest := [R.box b5_1 27 [.int .i64 a1, wq5_1_1r, wq5_1_2], R.box b4_1 27 [.int .i64 0, .slice none 0 0, .slice none 0 0], R.sl Tq5_1_1r wq5_1_1r (xq5_1_1r : List (Int × Int × Int)), R.sl Tq5_1_2 wq5_1_2 (xq5_1_2 : List (Int))]) [0] [1, 2, 3, 4] rfl ok95 rfl rfl rfl rfl (fun w hw => spec_l1Cur_pick.ok h82 w (hr_a0_0.down hw) (Sep.sub hw))) ?_
       rintro _ _ ⟨_, ⟨rfl, rfl⟩, rfl⟩
       refine F.qn rfl rfl rfl rfl (r_move rfl) ?_
       refine F.qn rfl rfl rfl rfl (r_move rfl) ?_
       refine F.efn rfl rfl rfl rfl (d_callM (xs := _) (cs := [R.box pa0 100 [va0_0, .int .i64 t82_2, .int .u64 t82_3]]) (rest := [R.box b5_1 27 [.int .i64 a1, wq5_1_1r, wq5_1_2], R.box b4_1 27 [.int .i64 0, .slice none 0 0, .slice none 0 0], R.sl Tq5_1_1r wq5_1_1r (xq5_1_1r : List (Int × Int × Int)), R.sl Tq5_1_2 wq5_1_2 (xq5_1_2 : List (Int))]) [0] [1, 2, 3, 4] rfl ok95 rfl rfl rfl rfl (fun w hw => spec_l1Cur_pick.ok h85 w (hr_a0_0.down hw) (Sep.sub hw))) ?_
       rintro _ _ ⟨_, ⟨rfl, rfl⟩, rfl⟩
       refine F.qn rfl rfl rfl rfl (r_assign rfl) ?_
       refine F.qn rfl rfl rfl rfl (r_assign rfl) ?_
       refine F.nil (Nrm.seq (Tri.seq (Tri.reg (l := [0, 1, 2]) rfl ?_)))
       refine F.qn rfl rfl rfl rfl (r_move rfl) ?_
       refine F.qn rfl rfl rfl rfl (r_move rfl) ?_
       refine F.qn rfl rfl rfl rfl (r_neq rfl rfl) ?_
       refine F.nil (Nrm.seq ?_)
       obtain ⟨⟨ypa0_1rr, ypa0_2rr, yb5_1_1r⟩, hE_8, hE_6⟩ := bind_some hE_6
       refine Tri.cut (fun e' C' => ∃ (vb5_1_1_2 : Value) (Sb5_1_1_2 : Nat → Prop), SlLen vb5_1_1_2 (yb5_1_1r).length ∧ e' = [(0, .pointer (some ⟨pa0, 0, none⟩)), (1, .int .i64 a1), (4, .pointer (some ⟨b4_1, 0, none⟩)), (5, .pointer (some ⟨b5_1, 0, none⟩)), (6, .int .i64 (w64 (1 + t20_1))), (11, .int .i64 x11)] ∧ C' = Sep w (footM [R.box pa0 100 [va0_0, .int .i64 a0_1, .int .u64 a0_2]]) [R.box pa0 100 [va0_0, .int .i64 ypa0_1rr, .int .u64 ypa0_2rr], R.box b5_1 27 [.int .i64 a1, vb5_1_1_2, wq5_1_2], R.box b4_1 27 [.int .i64 0, .slice none 0 0, .slice none 0 0], R.sl Sb5_1_1_2 vb5_1_1_2 (yb5_1_1r : List (Int × Int × Int)), R.sl Tq5_1_2 wq5_1_2 (xq5_1_2 : List (Int))]) ?_ (fun hj_6 => ?_)
       ·rintro _ _ ⟨vb5_1_1_2, Sb5_1_1_2, hl_vb5_1_1_2, rfl, rfl⟩
        refine Nrm.block ?_
        refine Nrm.seq (Tri.reg (l := [0, 1, 2]) rfl ?_)
        refine F.qn rfl rfl rfl rfl (r_move rfl) ?_
        refine F.qn rfl rfl rfl rfl (r_sub rfl rfl) ?_
        refine F.qn rfl rfl rfl rfl (r_assign rfl) ?_
        refine F.nil (Nrm.round ?_)
        refine Rnd.only [0, 1, 4, 5, 6, 11] rfl ?_
        refine Rnd.pick [0, 1, 2, 3, 4] rfl rfl ?_
        exact ih_2 _ _ ⟨w64 (x11 - 1), ypa0_1rr, ypa0_2rr, yb5_1_1r, vb5_1_1_2, Sb5_1_1_2, hE_6, hl_vb5_1_1_2, rfl, rfl⟩
       ·refine Tri.cond (b := t82_1 != t85_1) rfl (fun g_6 => ?_) (fun g_6 => ?_)
        ·replace hE_8 := if_tt g_6 hE_8
         obtain ⟨⟨t95_1, t95_2, t95_3⟩, h95, hE_8⟩ := bind_some hE_8
         obtain ⟨t96, h96, hE_8⟩ := bind_some hE_8
         refine Tri.drawK (B := Sep w (footM [R.box pa0 100 [va0_0, .int .i64 a0_1, .int .u64 a0_2]]) [R.box b5_1 27 [.int .i64 a1, wq5_1_1r, wq5_1_2], R.box b4_1 27 [.int .i64 0, .slice none 0 0, .slice none 0 0], R.sl Tq5_1_1r wq5_1_1r (xq5_1_1r : List (Int × Int × Int)), R.sl Tq5_1_2 wq5_1_2 (xq5_1_2 : List (Int))]) mixedT Sep.up [(0, true), (1, true), (2, true), (3, true), (4, true), (5, true), (6, false)] [7, 8, 9] (by kernel_rfl) ?_
         refine K.q [1, 2, 3, 4] rfl rfl rfl rfl rfl (wanted_none rfl) (r_fieldAddr tf27_1 rfl) ?_
         refine K.q [1, 2, 3, 4] rfl rfl rfl rfl rfl (wanted_none rfl) (r_load ta24 rfl (fun w hw => cell_1 (box_cells (i := 0) rfl w hw) rfl)) ?_
         iterate 4 refine K.q [1, 2, 3, 4] rfl rfl rfl rfl rfl (wanted_none rfl) (r_move rfl) ?_
         refine B.ef rfl rfl rfl (wanted_none rfl) (d_callM (xs := _) (cs := [R.box pa0 100 [va0_0, .int .i64 t85_2, .int .u64 t85_3]]) (rest := [R.box b5_1 27 [.int .i64 a1, wq5_1_1r, wq5_1_2], R.box b4_1 27 [.int .i64 0, .slice none 0 0, .slice none 0 0], R.sl Tq5_1_1r wq5_1_1r (xq5_1_1r : List (Int × Int × Int)), R.sl Tq5_1_2 wq5_1_2 (xq5_1_2 : List (Int))]) [0] [1, 2, 3, 4] rfl ok205 rfl rfl rfl rfl (fun w hw => spec_l1Cur_few.ok h95 w (hr_a0_0.down hw) (Sep.sub hw))) (by rintro _ _ ⟨_, ⟨rfl, rfl⟩, rfl⟩; exact upd rfl [1, 2, 3, 4] rfl rfl) ?_
         rintro _ _ ⟨_, ⟨rfl, rfl⟩, rfl⟩
         refine B.nil ?_
         refine F.efn rfl rfl rfl rfl (d_callM (xs := _) (cs := [R.sl Tq5_1_1r wq5_1_1r (xq5_1_1r : List (Int × Int × Int))]) (rest := [R.box pa0 100 [va0_0, .int .i64 t95_2, .int .u64 t95_3], R.box b5_1 27 [.int .i64 a1, wq5_1_1r, wq5_1_2], R.box b4_1 27 [.int .i64 0, .slice none 0 0, .slice none 0 0], R.sl Tq5_1_2 wq5_1_2 (xq5_1_2 : List (Int))]) [3] [0, 1, 2, 4] rfl ok206 rfl rfl rfl rfl (fun w hw => spec_l2Put.ok h96 w hl_wq5_1_1r (Sep.sub hw))) ?_
         rintro v96_2 _ ⟨_, ⟨S96_2, hl_v96_2, rfl⟩, rfl⟩
         refine F.qn rfl rfl rfl rfl (r_fieldAddr tf27_1 rfl) ?_
         refine F.ef0 rfl rfl (wanted_none rfl) (d_storeG1 (i := 2) (cs2 := [v96_2]) ti24 rfl rfl rfl (sl_cells hl_v96_2) rfl (Nat.le_of_ble_eq_true rfl) (lf_cons (sl_leaf hl_v96_2) lf_nil)) ?_
         rintro _ _ ⟨rfl, rfl⟩
         refine F.nil ?_
         cases hE_8
         refine Nrm.only [0, 1, 4, 5, 6, 11] rfl ?_
         refine Nrm.pick [1, 2, 3, 0, 4] rfl rfl ?_
         exact hj_6 _ _ ⟨v96_2, S96_2, hl_v96_2, rfl, rfl⟩
        ·replace hE_8 := if_ff g_6 hE_8
         refine Tri.skip ?_
         cases hE_8
         refine Nrm.only [0, 1, 4, 5, 6, 11] rfl ?_
         refine Nrm.pick [0, 1, 2, 3, 4] rfl rfl ?_
         exact hj_6 _ _ ⟨wq5_1_1r, Tq5_1_1r, hl_wq5_1_1r, rfl, rfl⟩
      ·replace hE_6 := if_ff g_5 hE_6
       refine Tri.exit ?_
       refine Exi.then ?_
       refine Exi.then ?_
       refine Exi.same ?_
       cases hE_6
       refine Nrm.seq (Tri.seq (Tri.seq ?_))
       obtain ⟨⟨t99_1, t99_2, t99_3⟩, h99, h⟩ := bind_some h
       refine Tri.reg (l := [0, 1]) rfl ?_
       refine F.qn rfl rfl rfl rfl (r_move rfl) ?_
       refine F.efn rfl rfl rfl rfl (d_callM (xs := _) (cs := [R.box pa0 100 [va0_0, .int .i64 xpa0_1r, .int .u64 xpa0_2r]]) (rest := [R.box b5_1 27 [.int .i64 a1, wq5_1_1r, wq5_1_2], R.box b4_1 27 [.int .i64 0, .slice none 0 0, .slice none 0 0], R.sl Tq5_1_1r wq5_1_1r (xq5_1_1r : List (Int × Int × Int)), R.sl Tq5_1_2 wq5_1_2 (xq5_1_2 : List (Int))]) [0] [1, 2, 3, 4] rfl ok95 rfl rfl rfl rfl (fun w hw => spec_l1Cur_pick.ok h99 w (hr_a0_0.down hw) (Sep.sub hw))) ?_
       rintro _ _ ⟨_, ⟨rfl, rfl⟩, rfl⟩
       refine F.nil (Nrm.seq (Tri.block ?_))
       refine Tri.seq (Tri.reg (l := [0, 1]) rfl ?_)
       refine F.qn rfl rfl rfl rfl (r_eql rfl rfl) ?_
       refine F.qn rfl rfl rfl rfl (r_assign rfl) ?_
       refine F.nil (Nrm.seq (Tri.cond (b := t99_1 == 0) rfl (fun g_7 => ?_) (fun g_7 => ?_)))
       ·replace h := if_tt g_7 h
        obtain ⟨⟨t107_1, t107_2, t107_3⟩, h107, h⟩ := bind_some h
        refine Tri.reg (l := [0, 1, 2, 3, 4, 5, 6, 7]) rfl ?_
        refine F.qn rfl rfl rfl rfl (r_move rfl) ?_
        refine F.qn rfl rfl rfl rfl (r_fieldAddr tf27_0 rfl) ?_
        refine F.qn rfl rfl rfl rfl (r_load ta3 rfl (fun w hw => cell_1 (box_cells (i := 1) rfl w hw) rfl)) ?_
        refine F.qn rfl rfl rfl rfl (r_add rfl rfl) ?_
        refine F.mn rfl rfl rfl rfl (m_buildF (l := ([0, 13, w64 (a1 + 1)] : List (Int))) Try.underlying25 ti3 rfl rfl rfl rfl rfl) ?_
        rintro v106_1 _ ⟨S106_1, hl_v106_1, rfl⟩
        refine F.efn rfl rfl rfl rfl (d_callM (xs := _) (cs := [R.box pa0 100 [va0_0, .int .i64 t99_2, .int .u64 t99_3]]) (rest := [R.sl S106_1 v106_1 (([0, 13, w64 (a1 + 1)] : List (Int)) : List (Int)), R.box b5_1 27 [.int .i64 a1, wq5_1_1r, wq5_1_2], R.box b4_1 27 [.int .i64 0, .slice none 0 0, .slice none 0 0], R.sl Tq5_1_1r wq5_1_1r (xq5_1_1r : List (Int × Int × Int)), R.sl Tq5_1_2 wq5_1_2 (xq5_1_2 : List (Int))]) [1] [0, 2, 3, 4, 5] rfl ok96 rfl rfl rfl rfl (fun w hw => spec_l1Cur_among.ok h107 w (hr_a0_0.down hw) (rdm_sl (i := 0) rfl hw) (Sep.sub hw))) ?_
        rintro _ _ ⟨_, ⟨rfl, rfl⟩, rfl⟩
        refine F.qn rfl rfl rfl rfl (r_fieldAddr tf27_0 rfl) ?_
        refine F.ef0 rfl rfl (wanted_none rfl) (d_storeG1 (i := 2) (cs2 := [.int .i64 t107_1]) ti3 rfl rfl rfl rfl rfl (Nat.le_of_ble_eq_true rfl) (lf_cons rfl lf_nil)) ?_
        rintro _ _ ⟨rfl, rfl⟩
        refine F.nil (Nrm.block ?_)
        refine Nrm.seq (Tri.seq (Tri.reg (l := [0, 1]) rfl ?_))
        refine F.qn rfl rfl rfl rfl (r_loadA ta27 ti27 rfl rfl (fun w hw => (box_cells (i := 2) rfl w hw))) ?_
        refine F.ef0 rfl rfl (wanted_none rfl) (d_storeG0 (i := 3) (cs2 := [.int .i64 t107_1, wq5_1_1r, wq5_1_2]) ti27 rfl rfl rfl rfl rfl (Nat.le_of_ble_eq_true rfl) (lf_cons rfl (lf_cons (sl_leaf hl_wq5_1_1r) (lf_cons (sl_leaf hl_wq5_1_2) lf_nil)))) ?_
        rintro _ _ ⟨rfl, rfl⟩
        refine F.nil (Nrm.seq (Tri.ret ?_))
        cases h
        exact Rtn.body (.cell rfl ta27 ti27 rfl (fun _ hw => box_cells (i := 3) rfl _ hw) .nil) (fun w hw => ⟨_, _, rfl, ⟨wq5_1_1r, Tq5_1_1r, wq5_1_2, Tq5_1_2, rfl, hl_wq5_1_1r, hl_wq5_1_2, rfl⟩, Sep.pick (is := [4, 5, 0]) rfl rfl hw⟩)
       ·replace h := if_ff g_7 h
        refine Tri.seq (Tri.reg (l := [0, 1]) rfl ?_)
        refine F.qn rfl rfl rfl rfl (r_eql rfl rfl) ?_
        refine F.qn rfl rfl rfl rfl (r_assign rfl) ?_
        refine F.nil (Nrm.seq (Tri.cond (b := t99_1 == 1) rfl (fun g_8 => ?_) (fun g_8 => ?_)))
        ·replace h := if_tt g_8 h
         refine Tri.seq (Tri.reg (l := [0, 1, 2, 3]) rfl ?_)
         refine F.qn rfl rfl rfl rfl (r_fieldAddr tf27_1 rfl) ?_
         refine F.qn rfl rfl rfl rfl (r_load ta24 rfl (fun w hw => cell_1 (box_cells (i := 1) rfl w hw) rfl)) ?_
         refine F.qn rfl rfl rfl rfl (r_len Try.underlying24 rfl hl_wq5_1_1r) ?_
         refine F.qn rfl rfl rfl rfl (r_gtr rfl rfl) ?_
         refine F.nil (Nrm.seq ?_)
         obtain ⟨⟨ypa0_1rrr, ypa0_2rrr, yb5_1_1rr⟩, hE_9, h⟩ := bind_some h
         refine Tri.cut (fun e' C' => ∃ (vb5_1_1_3 : Value) (Sb5_1_1_3 : Nat → Prop), SlLen vb5_1_1_3 (yb5_1_1rr).length ∧ e' = [(4, .pointer (some ⟨b4_1, 0, none⟩)), (5, .pointer (some ⟨b5_1, 0, none⟩))] ∧ C' = Sep w (footM [R.box pa0 100 [va0_0, .int .i64 a0_1, .int .u64 a0_2]]) [R.box pa0 100 [va0_0, .int .i64 ypa0_1rrr, .int .u64 ypa0_2rrr], R.box b5_1 27 [.int .i64 a1, vb5_1_1_3, wq5_1_2], R.box b4_1 27 [.int .i64 0, .slice none 0 0, .slice none 0 0], R.sl Sb5_1_1_3 vb5_1_1_3 (yb5_1_1rr : List (Int × Int × Int)), R.sl Tq5_1_2 wq5_1_2 (xq5_1_2 : List (Int))]) ?_ (fun hj_7 => ?_)
         ·rintro _ _ ⟨vb5_1_1_3, Sb5_1_1_3, hl_vb5_1_1_3, rfl, rfl⟩
          refine Nrm.block ?_
          refine Nrm.seq (Tri.seq (Tri.reg (l := [0, 1]) rfl ?_))
          refine F.qn rfl rfl rfl rfl (r_loadA ta27 ti27 rfl rfl (fun w hw => (box_cells (i := 1) rfl w hw))) ?_
          refine F.ef0 rfl rfl (wanted_none rfl) (d_storeG0 (i := 2) (cs2 := [.int .i64 a1, vb5_1_1_3, wq5_1_2]) ti27 rfl rfl rfl rfl rfl (Nat.le_of_ble_eq_true rfl) (lf_cons rfl (lf_cons (sl_leaf hl_vb5_1_1_3) (lf_cons (sl_leaf hl_wq5_1_2) lf_nil)))) ?_
          rintro _ _ ⟨rfl, rfl⟩
          refine F.nil (Nrm.seq (Tri.ret ?_))
          cases h
          exact Rtn.body (.cell rfl ta27 ti27 rfl (fun _ hw => box_cells (i := 2) rfl _ hw) .nil) (fun w hw => ⟨_, _, rfl, ⟨vb5_1_1_3, Sb5_1_1_3, wq5_1_2, Tq5_1_2, rfl, hl_vb5_1_1_3, hl_wq5_1_2, rfl⟩, Sep.pick (is := [3, 4, 0]) rfl rfl hw⟩)
         ·refine Tri.cond (b := decide ((xq5_1_1r.length : Int) > 0)) rfl (fun g_9 => ?_) (fun g_9 => ?_)
          ·replace hE_9 := if_tt g_9 hE_9
           refine Tri.seq ?_
           obtain ⟨⟨t119_1, t119_2, t119_3⟩, h119, hE_9⟩ := bind_some hE_9
           refine Tri.reg (l := [0, 1, 2, 3, 4, 5]) rfl ?_
           refine F.qn rfl rfl rfl rfl (r_move rfl) ?_
           refine F.qn rfl rfl rfl rfl (r_fieldAddr tf27_1 rfl) ?_
           refine F.qn rfl rfl rfl rfl (r_load ta24 rfl (fun w hw => cell_1 (box_cells (i := 1) rfl w hw) rfl)) ?_
           refine F.qn rfl rfl rfl rfl (r_len Try.underlying24 rfl hl_wq5_1_1r) ?_
           refine F.efn rfl rfl rfl rfl (d_callM (xs := _) (cs := [R.box pa0 100 [va0_0, .int .i64 t99_2, .int .u64 t99_3]]) (rest := [R.box b5_1 27 [.int .i64 a1, wq5_1_1r, wq5_1_2], R.box b4_1 27 [.int .i64 0, .slice none 0 0, .slice none 0 0], R.sl Tq5_1_1r wq5_1_1r (xq5_1_1r : List (Int × Int × Int)), R.sl Tq5_1_2 wq5_1_2 (xq5_1_2 : List (Int))]) [0] [1, 2, 3, 4] rfl ok95 rfl rfl rfl rfl (fun w hw => spec_l1Cur_pick.ok h119 w (hr_a0_0.down hw) (Sep.sub hw))) ?_
           rintro _ _ ⟨_, ⟨rfl, rfl⟩, rfl⟩
           refine F.qn rfl rfl rfl rfl (r_assign rfl) ?_
           refine F.nil (Nrm.seq ?_)
           obtain ⟨t126, h126, hE_9⟩ := bind_some hE_9
           obtain ⟨t132, h132, hE_9⟩ := bind_some hE_9
           obtain ⟨t136, h136, hE_9⟩ := bind_some hE_9
           refine Tri.drawA mixedT Sep.up [(0, true), (1, true), (2, true), (3, true), (4, true), (5, true), (6, true), (7, true), (8, true), (9, true), (10, true), (11, true), (12, true), (13, true), (14, true), (15, true), (16, true)] [17] (by kernel_rfl) ?_
           refine S.qn rfl rfl rfl rfl (r_fieldAddr tf27_1 rfl) ?_
           refine S.qn rfl rfl rfl rfl (r_load ta24 rfl (fun w hw => cell_1 (box_cells (i := 1) rfl w hw) rfl)) ?_
           refine S.qn rfl rfl rfl rfl (r_move rfl) ?_
           refine S.qn rfl rfl rfl rfl (r_fieldAddr tf27_1 rfl) ?_
           refine S.qn rfl rfl rfl rfl (r_load ta24 rfl (fun w hw => cell_1 (box_cells (i := 1) rfl w hw) rfl)) ?_
           refine S.qn rfl rfl rfl rfl (r_move rfl) ?_
           refine S.qn rfl rfl rfl rfl (r_indexAddrS Try.underlying24 ti121 rfl hl_wq5_1_1r rfl (rdl_some h126).1 (rdl_some h126).2.1) ?_
           refine S.qn rfl rfl rfl rfl (r_indexAddrA Try.underlying121 ti3 rfl rfl (by decide) (by decide)) ?_
           refine S.qn rfl rfl rfl rfl (r_load ta3 rfl (fun w hw => cell_1 (Rd.flat ((rd_sl (i := 3) rfl) w hw) (rdl_some h126).2.2) rfl)) ?_
           refine S.qn rfl rfl rfl rfl (r_fieldAddr tf27_1 rfl) ?_
           refine S.qn rfl rfl rfl rfl (r_load ta24 rfl (fun w hw => cell_1 (box_cells (i := 1) rfl w hw) rfl)) ?_
           refine S.qn rfl rfl rfl rfl (r_move rfl) ?_
           refine S.qn rfl rfl rfl rfl (r_indexAddrS Try.underlying24 ti121 rfl hl_wq5_1_1r rfl (rdl_some h132).1 (rdl_some h132).2.1) ?_
           refine S.qn rfl rfl rfl rfl (r_indexAddrA Try.underlying121 ti3 rfl rfl (by decide) (by decide)) ?_
           refine S.qn rfl rfl rfl rfl (r_load ta3 rfl (fun w hw => cell_1 (Rd.flat ((rd_sl (i := 3) rfl) w hw) (rdl_some h132).2.2) rfl)) ?_
           refine S.qn rfl rfl rfl rfl (r_buildA (qs := [(0, [.int .i64 t126.2.1]), (1, [.int .i64 t132.1]), (2, [.int .i64 0])]) (cs := [.int .i64 t126.2.1, .int .i64 t132.1, .int .i64 0]) Try.underlying121 ti3 ti121 rfl (.cons rfl rfl (Nat.le_of_ble_eq_true rfl) (.cons rfl rfl (Nat.le_of_ble_eq_true rfl) (.cons rfl rfl (Nat.le_of_ble_eq_true rfl) .nil))) rfl rfl) ?_
           refine S.qn rfl rfl rfl rfl (r_indexAddrS Try.underlying24 ti121 rfl hl_wq5_1_1r rfl (rdl_some h136).1 (rdl_some h136).2.1) ?_
           refine S.nil (F.ef0 rfl rfl (wanted_none rfl) (d_storeE (i := 3) (x1 := (t126.2.1, t132.1, 0)) ti121 rfl rfl rfl (rdl_some h136) rfl) ?_)
           rintro _ _ ⟨rfl, rfl⟩
           refine F.nil ?_
           cases hE_9
           refine Nrm.only [4, 5] rfl ?_
           refine Nrm.pick [0, 1, 2, 3, 4] rfl rfl ?_
           exact hj_7 _ _ ⟨wq5_1_1r, Tq5_1_1r, (len_set hl_wq5_1_1r), rfl, rfl⟩
          ·replace hE_9 := if_ff g_9 hE_9
           refine Tri.skip ?_
           cases hE_9
           refine Nrm.only [4, 5] rfl ?_
           refine Nrm.pick [0, 1, 2, 3, 4] rfl rfl ?_
           exact hj_7 _ _ ⟨wq5_1_1r, Tq5_1_1r, hl_wq5_1_1r, rfl, rfl⟩
        ·replace h := if_ff g_8 h
         refine Tri.seq (Tri.reg (l := [0, 1]) rfl ?_)
         refine F.qn rfl rfl rfl rfl (r_eql rfl rfl) ?_
         refine F.qn rfl rfl rfl rfl (r_assign rfl) ?_
         refine F.nil (Nrm.seq (Tri.cond (b := t99_1 == 2) rfl (fun g_10 => ?_) (fun g_10 => ?_)))
         ·replace h := if_tt g_10 h
          refine Tri.seq (Tri.reg (l := [0, 1, 2, 3]) rfl ?_)
          refine F.qn rfl rfl rfl rfl (r_fieldAddr tf27_2 rfl) ?_
          refine F.qn rfl rfl rfl rfl (r_load ta25 rfl (fun w hw => cell_1 (box_cells (i := 1) rfl w hw) rfl)) ?_
          refine F.qn rfl rfl rfl rfl (r_len Try.underlying25 rfl hl_wq5_1_2) ?_
          refine F.qn rfl rfl rfl rfl (r_gtr rfl rfl) ?_
          refine F.nil (Nrm.seq ?_)
          obtain ⟨⟨ypa0_1rrrr, ypa0_2rrrr, yb5_1_2⟩, hE_10, h⟩ := bind_some h
          refine Tri.cut (fun e' C' => ∃ (vb5_1_2_1 : Value) (Sb5_1_2_1 : Nat → Prop), SlLen vb5_1_2_1 (yb5_1_2).length ∧ e' = [(4, .pointer (some ⟨b4_1, 0, none⟩)), (5, .pointer (some ⟨b5_1, 0, none⟩))] ∧ C' = Sep w (footM [R.box pa0 100 [va0_0, .int .i64 a0_1, .int .u64 a0_2]]) [R.box pa0 100 [va0_0, .int .i64 ypa0_1rrrr, .int .u64 ypa0_2rrrr], R.box b5_1 27 [.int .i64 a1, wq5_1_1r, vb5_1_2_1], R.box b4_1 27 [.int .i64 0, .slice none 0 0, .slice none 0 0], R.sl Sb5_1_2_1 vb5_1_2_1 (yb5_1_2 : List (Int)), R.sl Tq5_1_1r wq5_1_1r (xq5_1_1r : List (Int × Int × Int))]) ?_ (fun hj_8 => ?_)
          ·rintro _ _ ⟨vb5_1_2_1, Sb5_1_2_1, hl_vb5_1_2_1, rfl, rfl⟩
           refine Nrm.block ?_
           refine Nrm.seq (Tri.seq (Tri.reg (l := [0, 1]) rfl ?_))
           refine F.qn rfl rfl rfl rfl (r_loadA ta27 ti27 rfl rfl (fun w hw => (box_cells (i := 1) rfl w hw))) ?_
           refine F.ef0 rfl rfl (wanted_none rfl) (d_storeG0 (i := 2) (cs2 := [.int .i64 a1, wq5_1_1r, vb5_1_2_1]) ti27 rfl rfl rfl rfl rfl (Nat.le_of_ble_eq_true rfl) (lf_cons rfl (lf_cons (sl_leaf hl_wq5_1_1r) (lf_cons (sl_leaf hl_vb5_1_2_1) lf_nil)))) ?_
           rintro _ _ ⟨rfl, rfl⟩
           refine F.nil (Nrm.seq (Tri.ret ?_))
           cases h
           exact Rtn.body (.cell rfl ta27 ti27 rfl (fun _ hw => box_cells (i := 2) rfl _ hw) .nil) (fun w hw => ⟨_, _, rfl, ⟨wq5_1_1r, Tq5_1_1r, vb5_1_2_1, Sb5_1_2_1, rfl, hl_wq5_1_1r, hl_vb5_1_2_1, rfl⟩, Sep.pick (is := [4, 3, 0]) rfl rfl hw⟩)
          ·refine Tri.cond (b := decide ((xq5_1_2.length : Int) > 0)) rfl (fun g_11 => ?_) (fun g_11 => ?_)
           ·replace hE_10 := if_tt g_11 hE_10
            obtain ⟨⟨ypa0_1rrrr, ypa0_2rrrr, yb5_1_2⟩, hE_11, hE_10⟩ := bind_some hE_10
            refine Tri.cut (fun e' C' => ∃ (vb5_1_2_2 : Value) (Sb5_1_2_2 : Nat → Prop), SlLen vb5_1_2_2 (yb5_1_2).length ∧ e' = [(4, .pointer (some ⟨b4_1, 0, none⟩)), (5, .pointer (some ⟨b5_1, 0, none⟩))] ∧ C' = Sep w (footM [R.box pa0 100 [va0_0, .int .i64 a0_1, .int .u64 a0_2]]) [R.box pa0 100 [va0_0, .int .i64 ypa0_1rrrr, .int .u64 ypa0_2rrrr], R.box b5_1 27 [.int .i64 a1, wq5_1_1r, vb5_1_2_2], R.box b4_1 27 [.int .i64 0, .slice none 0 0, .slice none 0 0], R.sl Sb5_1_2_2 vb5_1_2_2 (yb5_1_2 : List (Int)), R.sl Tq5_1_1r wq5_1_1r (xq5_1_1r : List (Int × Int × Int))]) ?_ (fun hj_9 => ?_)
            ·rintro _ _ ⟨vb5_1_2_2, Sb5_1_2_2, hl_vb5_1_2_2, rfl, rfl⟩
             cases hE_10
             refine Nrm.only [4, 5] rfl ?_
             refine Nrm.pick [0, 1, 2, 3, 4] rfl rfl ?_
             exact hj_8 _ _ ⟨vb5_1_2_2, Sb5_1_2_2, hl_vb5_1_2_2, rfl, rfl⟩
            ·obtain ⟨⟨t149_1, t149_2, t149_3⟩, h149, hE_11⟩ := bind_some hE_11
             obtain ⟨⟨t152_1, t152_2, t152_3⟩, h152, hE_11⟩ := bind_some hE_11
             obtain ⟨t153, h153, hE_11⟩ := bind_some hE_11
             refine Tri.drawTK (B := Sep w (footM [R.box pa0 100 [va0_0, .int .i64 a0_1, .int .u64 a0_2]]) [R.box b5_1 27 [.int .i64 a1, wq5_1_1r, wq5_1_2], R.box b4_1 27 [.int .i64 0, .slice none 0 0, .slice none 0 0], R.sl Tq5_1_1r wq5_1_1r (xq5_1_1r : List (Int × Int × Int)), R.sl Tq5_1_2 wq5_1_2 (xq5_1_2 : List (Int))]) mixedT Sep.up [0, 1, 2, 3, 4, 5, 7, 6, 8, 9] [10, 11] (.q 0 (.q 1 (.q 2 (.q 3 (.q 4 (.q 5 (.q 7 (.alt 6 (.alt 8 (.alt 9 .nil .stop) .stop) (.alt 8 (.alt 6 (.alt 9 .nil .stop) .stop) .stop))))))))) (by kernel_rfl) ?_
             refine TK.q [1, 2, 3, 4] rfl rfl rfl rfl rfl (wanted_none rfl) (r_fieldAddr tf27_2 rfl) ?_
             refine TK.q [1, 2, 3, 4] rfl rfl rfl rfl rfl (wanted_none rfl) (r_load ta25 rfl (fun w hw => cell_1 (box_cells (i := 0) rfl w hw) rfl)) ?_
             refine TK.q [1, 2, 3, 4] rfl rfl rfl rfl rfl (wanted_none rfl) (r_move rfl) ?_
             refine TK.q [1, 2, 3, 4] rfl rfl rfl rfl rfl (wanted_none rfl) (r_fieldAddr tf27_2 rfl) ?_
             refine TK.q [1, 2, 3, 4] rfl rfl rfl rfl rfl (wanted_none rfl) (r_load ta25 rfl (fun w hw => cell_1 (box_cells (i := 0) rfl w hw) rfl)) ?_
             refine TK.q [1, 2, 3, 4] rfl rfl rfl rfl rfl (wanted_none rfl) (r_len Try.underlying25 rfl hl_wq5_1_2) ?_
             refine TK.q [1, 2, 3, 4] rfl rfl rfl rfl rfl (wanted_none rfl) (r_move rfl) ?_
             refine T.ef rfl rfl rfl (wanted_none rfl) (d_callM (xs := _) (cs := [R.box pa0 100 [va0_0, .int .i64 t99_2, .int .u64 t99_3]]) (rest := [R.box b5_1 27 [.int .i64 a1, wq5_1_1r, wq5_1_2], R.box b4_1 27 [.int .i64 0, .slice none 0 0, .slice none 0 0], R.sl Tq5_1_1r wq5_1_1r (xq5_1_1r : List (Int × Int × Int)), R.sl Tq5_1_2 wq5_1_2 (xq5_1_2 : List (Int))]) [0] [1, 2, 3, 4] rfl ok95 rfl rfl rfl rfl (fun w hw => spec_l1Cur_pick.ok h149 w (hr_a0_0.down hw) (Sep.sub hw))) (by rintro _ _ ⟨_, ⟨rfl, rfl⟩, rfl⟩; exact upd rfl [1, 2, 3, 4] rfl rfl) ?_ ?_
             ·rintro _ _ ⟨_, ⟨rfl, rfl⟩, rfl⟩
              refine T.ef rfl rfl rfl (wanted_none rfl) (Makes.does (m_buildF (l := ([64, (-1), 63] : List (Int))) Try.underlying25 ti3 rfl rfl rfl rfl rfl)) (by rintro v151_2 _ ⟨S151_2, hl_v151_2, rfl⟩; exact upd rfl [2, 3, 4, 5] rfl rfl) ?_ ?_
              ·rintro v151_2 _ ⟨S151_2, hl_v151_2, rfl⟩
               refine T.ef rfl rfl rfl (wanted_none rfl) (d_callM (xs := _) (cs := [R.box pa0 100 [va0_0, .int .i64 t149_2, .int .u64 t149_3]]) (rest := [R.sl S151_2 v151_2 (([64, (-1), 63] : List (Int)) : List (Int)), R.box b5_1 27 [.int .i64 a1, wq5_1_1r, wq5_1_2], R.box b4_1 27 [.int .i64 0, .slice none 0 0, .slice none 0 0], R.sl Tq5_1_1r wq5_1_1r (xq5_1_1r : List (Int × Int × Int)), R.sl Tq5_1_2 wq5_1_2 (xq5_1_2 : List (Int))]) [1] [0, 2, 3, 4, 5] rfl ok96 rfl rfl rfl rfl (fun w hw => spec_l1Cur_among.ok h152 w (hr_a0_0.down hw) (rdm_sl (i := 0) rfl hw) (Sep.sub hw))) (by rintro _ _ ⟨_, ⟨rfl, rfl⟩, rfl⟩; exact upd rfl [2, 3, 4, 5] rfl rfl) ?_ ?_
               ·rintro _ _ ⟨_, ⟨rfl, rfl⟩, rfl⟩
                refine T.nil ?_
                refine F.qn rfl rfl rfl rfl (r_indexAddrS Try.underlying25 ti3 rfl hl_wq5_1_2 rfl (rdl_some h153).1 (rdl_some h153).2.1) ?_
                refine F.ef0 rfl rfl (wanted_none rfl) (d_storeE (i := 5) (x1 := t152_1) ti3 rfl rfl rfl (rdl_some h153) rfl) ?_
                rintro _ _ ⟨rfl, rfl⟩
                refine F.nil ?_
                cases hE_11
                refine Nrm.only [4, 5] rfl ?_
                refine Nrm.pick [0, 2, 3, 5, 4] rfl rfl ?_
                exact hj_9 _ _ ⟨wq5_1_2, Tq5_1_2, (len_set hl_wq5_1_2), rfl, rfl⟩
               exact T.stop
              exact T.stop
             ·refine T.ef rfl rfl rfl (wanted_none rfl) (Makes.does (m_buildF (l := ([64, (-1), 63] : List (Int))) Try.underlying25 ti3 rfl rfl rfl rfl rfl)) (by rintro v151_3 _ ⟨S151_3, hl_v151_3, rfl⟩; exact upd rfl [2, 3, 4, 5] rfl rfl) ?_ ?_
              ·rintro v151_3 _ ⟨S151_3, hl_v151_3, rfl⟩
               refine T.ef rfl rfl rfl (wanted_none rfl) (d_callM (xs := _) (cs := [R.box pa0 100 [va0_0, .int .i64 t99_2, .int .u64 t99_3]]) (rest := [R.sl S151_3 v151_3 (([64, (-1), 63] : List (Int)) : List (Int)), R.box b5_1 27 [.int .i64 a1, wq5_1_1r, wq5_1_2], R.box b4_1 27 [.int .i64 0, .slice none 0 0, .slice none 0 0], R.sl Tq5_1_1r wq5_1_1r (xq5_1_1r : List (Int × Int × Int)), R.sl Tq5_1_2 wq5_1_2 (xq5_1_2 : List (Int))]) [1] [0, 2, 3, 4, 5] rfl ok95 rfl rfl rfl rfl (fun w hw => spec_l1Cur_pick.ok h149 w (hr_a0_0.down hw) (Sep.sub hw))) (by rintro _ _ ⟨_, ⟨rfl, rfl⟩, rfl⟩; exact upd rfl [2, 3, 4, 5] rfl rfl) ?_ ?_
               ·rintro _ _ ⟨_, ⟨rfl, rfl⟩, rfl⟩
                refine T.ef rfl rfl rfl (wanted_none rfl) (d_callM (xs := _) (cs := [R.box pa0 100 [va0_0, .int .i64 t149_2, .int .u64 t149_3]]) (rest := [R.sl S151_3 v151_3 (([64, (-1), 63] : List (Int)) : List (Int)), R.box b5_1 27 [.int .i64 a1, wq5_1_1r, wq5_1_2], R.box b4_1 27 [.int .i64 0, .slice none 0 0, .slice none 0 0], R.sl Tq5_1_1r wq5_1_1r (xq5_1_1r : List (Int × Int × Int)), R.sl Tq5_1_2 wq5_1_2 (xq5_1_2 : List (Int))]) [0] [1, 2, 3, 4, 5] rfl ok96 rfl rfl rfl rfl (fun w hw => spec_l1Cur_among.ok h152 w (hr_a0_0.down hw) (rdm_sl (i := 0) rfl hw) (Sep.sub hw))) (by rintro _ _ ⟨_, ⟨rfl, rfl⟩, rfl⟩; exact upd rfl [2, 3, 4, 5] rfl rfl) ?_ ?_
                ·rintro _ _ ⟨_, ⟨rfl, rfl⟩, rfl⟩
                 refine T.nil ?_
                 refine F.qn rfl rfl rfl rfl (r_indexAddrS Try.underlying25 ti3 rfl hl_wq5_1_2 rfl (rdl_some h153).1 (rdl_some h153).2.1) ?_
                 refine F.ef0 rfl rfl (wanted_none rfl) (d_storeE (i := 5) (x1 := t152_1) ti3 rfl rfl rfl (rdl_some h153) rfl) ?_
                 rintro _ _ ⟨rfl, rfl⟩
                 refine F.nil ?_
                 cases hE_11
                 refine Nrm.only [4, 5] rfl ?_
                 refine Nrm.pick [0, 2, 3, 5, 4] rfl rfl ?_
                 exact hj_9 _ _ ⟨wq5_1_2, Tq5_1_2, (len_set hl_wq5_1_2), rfl, rfl⟩
                exact T.stop
               exact T.stop
              exact T.stop
           ·replace hE_10 := if_ff g_11 hE_10
            refine Tri.skip ?_
            cases hE_10
            refine Nrm.only [4, 5] rfl ?_
            refine Nrm.pick [0, 1, 2, 4, 3] rfl rfl ?_
            exact hj_8 _ _ ⟨wq5_1_2, Tq5_1_2, hl_wq5_1_2, rfl, rfl⟩
         ·replace h := if_ff g_10 h
          refine Tri.seq (Tri.reg (l := [0, 1]) rfl ?_)
          refine F.qn rfl rfl rfl rfl (r_eql rfl rfl) ?_
          refine F.qn rfl rfl rfl rfl (r_assign rfl) ?_
          refine F.nil (Nrm.seq (Tri.cond (b := t99_1 == 3) rfl (fun g_12 => ?_) (fun g_12 => ?_)))
          ·replace h := if_tt g_12 h
           refine Tri.seq (Tri.reg (l := [0, 1, 2, 3]) rfl ?_)
           refine F.qn rfl rfl rfl rfl (r_fieldAddr tf27_1 rfl) ?_
           refine F.qn rfl rfl rfl rfl (r_load ta24 rfl (fun w hw => cell_1 (box_cells (i := 1) rfl w hw) rfl)) ?_
           refine F.qn rfl rfl rfl rfl (r_len Try.underlying24 rfl hl_wq5_1_1r) ?_
           refine F.qn rfl rfl rfl rfl (r_gtr rfl rfl) ?_
           refine F.nil (Nrm.seq ?_)
           obtain ⟨yb5_1_1rrr, hE_12, h⟩ := bind_some h
           refine Tri.cut (fun e' C' => ∃ (vb5_1_1_4 : Value) (Sb5_1_1_4 : Nat → Prop), SlLen vb5_1_1_4 (yb5_1_1rrr).length ∧ e' = [(4, .pointer (some ⟨b4_1, 0, none⟩)), (5, .pointer (some ⟨b5_1, 0, none⟩))] ∧ C' = Sep w (footM [R.box pa0 100 [va0_0, .int .i64 a0_1, .int .u64 a0_2]]) [R.box pa0 100 [va0_0, .int .i64 t99_2, .int .u64 t99_3], R.box b5_1 27 [.int .i64 a1, vb5_1_1_4, wq5_1_2], R.box b4_1 27 [.int .i64 0, .slice none 0 0, .slice none 0 0], R.sl Sb5_1_1_4 vb5_1_1_4 (yb5_1_1rrr : List (Int × Int × Int)), R.sl Tq5_1_2 wq5_1_2 (xq5_1_2 : List (Int))]) ?_ (fun hj_10 => ?_)
           ·rintro _ _ ⟨vb5_1_1_4, Sb5_1_1_4, hl_vb5_1_1_4, rfl, rfl⟩
            refine Nrm.block ?_
            refine Nrm.seq (Tri.seq (Tri.reg (l := [0, 1]) rfl ?_))
            refine F.qn rfl rfl rfl rfl (r_loadA ta27 ti27 rfl rfl (fun w hw => (box_cells (i := 1) rfl w hw))) ?_
            refine F.ef0 rfl rfl (wanted_none rfl) (d_storeG0 (i := 2) (cs2 := [.int .i64 a1, vb5_1_1_4, wq5_1_2]) ti27 rfl rfl rfl rfl rfl (Nat.le_of_ble_eq_true rfl) (lf_cons rfl (lf_cons (sl_leaf hl_vb5_1_1_4) (lf_cons (sl_leaf hl_wq5_1_2) lf_nil)))) ?_
            rintro _ _ ⟨rfl, rfl⟩
            refine F.nil (Nrm.seq (Tri.ret ?_))
            cases h
            exact Rtn.body (.cell rfl ta27 ti27 rfl (fun _ hw => box_cells (i := 2) rfl _ hw) .nil) (fun w hw => ⟨_, _, rfl, ⟨vb5_1_1_4, Sb5_1_1_4, wq5_1_2, Tq5_1_2, rfl, hl_vb5_1_1_4, hl_wq5_1_2, rfl⟩, Sep.pick (is := [3, 4, 0]) rfl rfl hw⟩)
           ·refine Tri.cond (b := decide ((xq5_1_1r.length : Int) > 0)) rfl (fun g_13 => ?_) (fun g_13 => ?_)
            ·replace hE_12 := if_tt g_13 hE_12
             obtain ⟨t164, h164, hE_12⟩ := bind_some hE_12
             obtain ⟨hs167, hE_12⟩ := ck hE_12
             refine Tri.drawA mixedT Sep.up [(0, true), (1, true), (2, true), (3, true), (4, true), (5, true), (6, false)] [7, 8, 9] (by kernel_rfl) ?_
             refine S.qn rfl rfl rfl rfl (r_fieldAddr tf27_1 rfl) ?_
             refine S.qn rfl rfl rfl rfl (r_load ta24 rfl (fun w hw => cell_1 (box_cells (i := 1) rfl w hw) rfl)) ?_
             refine S.qn rfl rfl rfl rfl (r_fieldAddr tf27_1 rfl) ?_
             refine S.qn rfl rfl rfl rfl (r_load ta24 rfl (fun w hw => cell_1 (box_cells (i := 1) rfl w hw) rfl)) ?_
             refine S.qn rfl rfl rfl rfl (r_indexAddrS Try.underlying24 ti121 rfl hl_wq5_1_1r rfl (rdl_some h164).1 (rdl_some h164).2.1) ?_
             refine S.qn rfl rfl rfl rfl (r_loadA ta121 ti121 rfl rfl (fun w hw => (Rd.flat ((rd_sl (i := 3) rfl) w hw) (rdl_some h164).2.2))) ?_
             refine S.m rfl rfl rfl (wanted_none rfl) (m_buildF (l := ([t164] : List (Int × Int × Int))) Try.underlying24 ti121 rfl rfl rfl rfl rfl) ?_
             rintro v166_2 _ ⟨S166_2, hl_v166_2, rfl⟩
             refine S.nil (F.efn rfl rfl rfl rfl (d_append (i := 4) Try.underlying24 Try.underlying24 ti121 rfl (by decide) rfl rfl rfl (rd_sl (i := 0) rfl) hs167) ?_)
             rintro v167_2 _ ⟨S167_2, rfl, hl_v167_2⟩
             refine F.qn rfl rfl rfl rfl (r_fieldAddr tf27_1 rfl) ?_
             refine F.ef0 rfl rfl (wanted_none rfl) (d_storeG1 (i := 2) (cs2 := [v167_2]) ti24 rfl rfl rfl (sl_cells hl_v167_2) rfl (Nat.le_of_ble_eq_true rfl) (lf_cons (sl_leaf hl_v167_2) lf_nil)) ?_
             rintro _ _ ⟨rfl, rfl⟩
             refine F.nil ?_
             cases hE_12
             refine Nrm.only [4, 5] rfl ?_
             refine Nrm.pick [1, 2, 3, 4, 5] rfl rfl ?_
             exact hj_10 _ _ ⟨v167_2, S167_2, hl_v167_2, rfl, rfl⟩
            ·replace hE_12 := if_ff g_13 hE_12
             refine Tri.skip ?_
             cases hE_12
             refine Nrm.only [4, 5] rfl ?_
             refine Nrm.pick [0, 1, 2, 3, 4] rfl rfl ?_
             exact hj_10 _ _ ⟨wq5_1_1r, Tq5_1_1r, hl_wq5_1_1r, rfl, rfl⟩
          ·replace h := if_ff g_12 h
           refine Tri.seq (Tri.reg (l := [0, 1]) rfl ?_)
           refine F.qn rfl rfl rfl rfl (r_eql rfl rfl) ?_
           refine F.qn rfl rfl rfl rfl (r_assign rfl) ?_
           refine F.nil (Nrm.seq (Tri.cond (b := t99_1 == 4) rfl (fun g_14 => ?_) (fun g_14 => ?_)))
           ·replace h := if_tt g_14 h
            refine Tri.seq (Tri.reg (l := [0, 1]) rfl ?_)
            refine F.qn rfl rfl rfl rfl (r_build (pl := [(0, 1), (1, 1), (2, 1)]) (qs := []) (cs := [.int .i64 0, .slice none 0 0, .slice none 0 0]) (by kernel_rfl) ti27 rfl .nil rfl rfl) ?_
            refine F.ef0 rfl rfl (wanted_none rfl) (d_storeG0 (i := 2) (cs2 := [.int .i64 0, .slice none 0 0, .slice none 0 0]) ti27 rfl rfl rfl rfl rfl (Nat.le_of_ble_eq_true rfl) (lf_cons rfl (lf_cons rfl (lf_cons rfl lf_nil)))) ?_
            rintro _ _ ⟨rfl, rfl⟩
            refine F.nil (Nrm.seq (Tri.ret ?_))
            refine Rtn.block ?_
            refine Rtn.then ?_
            cases h
            exact Rtn.body (.cell rfl ta27 ti27 rfl (fun _ hw => box_cells (i := 2) rfl _ hw) .nil) (fun w hw => ⟨_, _, rfl, ⟨.slice none 0 0, fun _ => False, .slice none 0 0, fun _ => False, rfl, len_nil, len_nil, rfl⟩, Sep.pick (is := [0, 1, 2]) rfl rfl hw.pushNil.pushNil⟩)
           ·replace h := if_ff g_14 h
            refine Tri.skip (Nrm.block ?_)
            refine Nrm.seq (Tri.seq (Tri.reg (l := [0, 1]) rfl ?_))
            refine F.qn rfl rfl rfl rfl (r_loadA ta27 ti27 rfl rfl (fun w hw => (box_cells (i := 1) rfl w hw))) ?_
            refine F.ef0 rfl rfl (wanted_none rfl) (d_storeG0 (i := 2) (cs2 := [.int .i64 a1, wq5_1_1r, wq5_1_2]) ti27 rfl rfl rfl rfl rfl (Nat.le_of_ble_eq_true rfl) (lf_cons rfl (lf_cons (sl_leaf hl_wq5_1_1r) (lf_cons (sl_leaf hl_wq5_1_2) lf_nil)))) ?_
            rintro _ _ ⟨rfl, rfl⟩
            refine F.nil (Nrm.seq (Tri.ret ?_))
            cases h
            exact Rtn.body (.cell rfl ta27 ti27 rfl (fun _ hw => box_cells (i := 2) rfl _ hw) .nil) (fun w hw => ⟨_, _, rfl, ⟨wq5_1_1r, Tq5_1_1r, wq5_1_2, Tq5_1_2, rfl, hl_wq5_1_1r, hl_wq5_1_2, rfl⟩, Sep.pick (is := [3, 4, 0]) rfl rfl hw⟩)
     ·rcases Bool.eq_false_or_eq_true (decide (x11 > 0)) with g70 | g70
      ·replace hE_7 := if_tt g70 hE_7
       rcases Bool.eq_false_or_eq_true (decide (a1 > 1)) with g74 | g74
       ·replace hE_7 := if_tt g74 hE_7
        refine Tri.reg (l := [0, 1, 2, 3, 4, 5, 6, 7, 8, 9]) rfl ?_
        refine F.qn rfl rfl rfl rfl (r_move rfl) ?_
        refine F.qn rfl rfl rfl rfl (r_gtr rfl rfl) ?_
        refine F.qn rfl rfl rfl rfl (r_move rfl) ?_
        refine F.qg rfl rfl rfl rfl rfl rfl g70 (r_move rfl) ?_
        refine F.qg rfl rfl rfl rfl rfl rfl g70 (r_gtr rfl rfl) ?_
        refine F.qn rfl rfl rfl rfl (r_pick rfl rfl g70) ?_
        refine F.qn rfl rfl rfl rfl (r_move rfl) ?_
        refine F.qg rfl rfl rfl rfl rfl rfl g74 (r_move rfl) ?_
        refine F.qg rfl rfl rfl rfl rfl rfl g74 (r_lss rfl rfl) ?_
        refine F.qn rfl rfl rfl rfl (r_pick rfl rfl g74) ?_
        refine F.nil ?_
        cases hE_7
        refine Nrm.only [0, 1, 4, 5, 6, 11, 77] rfl ?_
        refine Nrm.pick [0, 1, 2, 3, 4] rfl rfl ?_
        exact hj_5 _ _ ⟨rfl, rfl⟩
       ·replace hE_7 := if_ff g74 hE_7
        refine Tri.reg (l := [0, 1, 2, 3, 4, 5, 6, 7, 8, 9]) rfl ?_
        refine F.qn rfl rfl rfl rfl (r_move rfl) ?_
        refine F.qn rfl rfl rfl rfl (r_gtr rfl rfl) ?_
        refine F.qn rfl rfl rfl rfl (r_move rfl) ?_
        refine F.qg rfl rfl rfl rfl rfl rfl g70 (r_move rfl) ?_
        refine F.qg rfl rfl rfl rfl rfl rfl g70 (r_gtr rfl rfl) ?_
        refine F.qn rfl rfl rfl rfl (r_pick rfl rfl g70) ?_
        refine F.qn rfl rfl rfl rfl (r_move rfl) ?_
        refine F.sk rfl rfl rfl (wf rfl rfl rfl g74) ?_
        refine F.sk rfl rfl rfl (wf rfl rfl rfl g74) ?_
        refine F.qn rfl rfl rfl rfl (r_pickf rfl rfl g74) ?_
        refine F.nil ?_
        cases hE_7
        refine Nrm.only [0, 1, 4, 5, 6, 11, 77] rfl ?_
        refine Nrm.pick [0, 1, 2, 3, 4] rfl rfl ?_
        exact hj_5 _ _ ⟨rfl, rfl⟩
      ·replace hE_7 := if_ff g70 hE_7
       refine Tri.reg (l := [0, 1, 2, 3, 4, 5, 6, 7, 8, 9]) rfl ?_
       refine F.qn rfl rfl rfl rfl (r_move rfl) ?_
       refine F.qn rfl rfl rfl rfl (r_gtr rfl rfl) ?_
       refine F.qn rfl rfl rfl rfl (r_move rfl) ?_
       refine F.sk rfl rfl rfl (wf rfl rfl rfl g70) ?_
       refine F.sk rfl rfl rfl (wf rfl rfl rfl g70) ?_
       refine F.qn rfl rfl rfl rfl (r_pickf rfl rfl g70) ?_
       refine F.qn rfl rfl rfl rfl (r_move rfl) ?_
       refine F.sk rfl rfl rfl (wf rfl rfl rfl rfl) ?_
       refine F.sk rfl rfl rfl (wf rfl rfl rfl rfl) ?_
       refine F.qn rfl rfl rfl rfl (r_pickf rfl rfl rfl) ?_
       refine F.nil ?_
       cases hE_7
       refine Nrm.only [0, 1, 4, 5, 6, 11, 77] rfl ?_
       refine Nrm.pick [0, 1, 2, 3, 4] rfl rfl ?_
       exact hj_5 _ _ ⟨rfl, rfl⟩
  ·rcases Bool.eq_false_or_eq_true (decide (x8 < a1)) with g25 | g25
   ·replace hE_2 := if_tt g25 hE_2
    refine Tri.reg (l := [0, 1, 2, 3, 4, 5, 6]) rfl ?_
    refine F.qn rfl rfl rfl rfl (r_move rfl) ?_
    refine F.qn rfl rfl rfl rfl (r_move rfl) ?_
    refine F.qn rfl rfl rfl rfl (r_lss rfl rfl) ?_
    refine F.qn rfl rfl rfl rfl (r_move rfl) ?_
    refine F.qg rfl rfl rfl rfl rfl rfl g25 (r_move rfl) ?_
    refine F.qg rfl rfl rfl rfl rfl rfl g25 (r_lss rfl rfl) ?_
    refine F.qn rfl rfl rfl rfl (r_pick rfl rfl g25) ?_
    refine F.nil ?_
    cases hE_2
    refine Nrm.only [0, 1, 4, 5, 6, 7, 8, 28] rfl ?_
    refine Nrm.pick [0, 1, 2, 4, 3] rfl rfl ?_
    exact hj_1 _ _ ⟨rfl, rfl⟩
   ·replace hE_2 := if_ff g25 hE_2
    refine Tri.reg (l := [0, 1, 2, 3, 4, 5, 6]) rfl ?_
    refine F.qn rfl rfl rfl rfl (r_move rfl) ?_
    refine F.qn rfl rfl rfl rfl (r_move rfl) ?_
    refine F.qn rfl rfl rfl rfl (r_lss rfl rfl) ?_
    refine F.qn rfl rfl rfl rfl (r_move rfl) ?_
    refine F.sk rfl rfl rfl (wf rfl rfl rfl g25) ?_
    refine F.sk rfl rfl rfl (wf rfl rfl rfl g25) ?_
    refine F.qn rfl rfl rfl rfl (r_pickf rfl rfl g25) ?_
    refine F.nil ?_
    cases hE_2
    refine Nrm.only [0, 1, 4, 5, 6, 7, 8, 28] rfl ?_
    refine Nrm.pick [0, 1, 2, 4, 3] rfl rfl ?_
    exact hj_1 _ _ ⟨rfl, rfl⟩


def spec_l1Cur_fill9.l0 (k : Nat) (t11_2 : List (Int × Int × Int)) : Nat → Int → Int → Option (Int)
 | 0, _, _ => none
 | n + 1, x5, x6 => (if (decide (x6 < (t11_2.length : Int))) = true then (rdl t11_2 x6).bind fun t23 => spec_l1Cur_fill9.l0 k t11_2 n (bor x5 t23.2.2) (w64 (x6 + 1)) else some x5)

def spec_l1Cur_fill9.f (k : Nat) (a0_0 : List By) (a0_1 : Int) (a0_2 : Int) : Option (Int × (List (Int × Int × Int)) × (List Int) × Int × Int × Int) := (spec_l1Cur_among.f k a0_0 a0_1 a0_2 ([4, 5, 3, 6, 4, 2, 7, 1] : List (Int))).bind fun (t10_1, t10_2, t10_3) => (spec_l1Cur_someMaze.f k a0_0 t10_2 t10_3 t10_1).bind fun (t11_1, t11_2, t11_3, t11_4, t11_5) => (spec_l1Cur_fill9.l0 k t11_2 k 0 0).bind fun x5 => ((spec_l2Set.f k x5).bind fun t28 => (if t28 = true then (spec_l2Many.f k x5).bind fun t31 => (if (decide (t31 ≤ 3)) = true then (spec_l1Cur_one.f k a0_0 t11_4 t11_5 3).bind fun (t36_1, t36_2, t36_3) => some (!t36_1, t36_2, t36_3) else some (false, t11_4, t11_5)) else some (false, t11_4, t11_5))).bind fun (y38, ypa0_1, ypa0_2) => (if y38 = true then some (t11_1, t11_2, t11_3, x5, ypa0_1, ypa0_2) else (spec_l1Cur_one.f k a0_0 ypa0_1 ypa0_2 12).bind fun (t42_1, t42_2, t42_3) => (if t42_1 = true then (spec_l1Cur_colours.f k a0_0 t42_2 t42_3).bind fun (t45_1, t45_2, t45_3) => some (t11_1, t11_2, t11_3, t45_1, t45_2, t45_3) else (spec_l1Cur_among.f k a0_0 t42_2 t42_3 ([1, 3, 2, 5, 6, 7, 0] : List (Int))).bind fun (t49_1, t49_2, t49_3) => some (t11_1, t11_2, t11_3, t49_1, t49_2, t49_3)))

theorem spec_l1Cur_fill9.ok {k : Nat}  {a0_0 : List By} {a0_1 : Int} {a0_2 : Int} {r0 : Int} {r1 : List (Int × Int × Int)} {r2 : List Int} {r3 : Int} {r4 : Int} {r5 : Int} (h : spec_l1Cur_fill9.f k a0_0 a0_1 a0_2 = some (r0, r1, r2, r3, r4, r5)) (w : World) {pa0 : Nat} {va0_0 : Value} (hr_a0_0 : RdM w (footM [R.box pa0 100 [va0_0, .int .i64 a0_1, .int .u64 a0_2]]) va0_0 a0_0) (hw0 : Sep w (footM [R.box pa0 100 [va0_0, .int .i64 a0_1, .int .u64 a0_2]]) [R.box pa0 100 [va0_0, .int .i64 a0_1, .int .u64 a0_2]] w) :
  Calls Try.prog 86 ([.pointer (some ⟨pa0, 0, none⟩)] : List Value).toArray w (PostM (footM [R.box pa0 100 [va0_0, .int .i64 a0_1, .int .u64 a0_2]]) (fun u ns => ∃ (ur1 : Value) (Sr1 : Nat → Prop) (ur2 : Value) (Sr2 : Nat → Prop), u = .tuple #[.agg [.int .i64 r0, ur1, ur2].toArray, .int .i64 r3] ∧ SlLen ur1 r1.length ∧ SlLen ur2 r2.length ∧ ns = [R.sl Sr1 ur1 r1, R.sl Sr2 ur2 r2, R.box pa0 100 [va0_0, .int .i64 r4, .int .u64 r5]]) w) := by
 unfold spec_l1Cur_fill9.f at h
 have hl_va0_0 := hr_a0_0.len
 refine Calls.of_tri (N := 50) Try.func86 rfl rfl rfl hw0 ?_
 refine Tri.seq (Tri.reg (l := [0, 1]) rfl ?_)
 refine F.mn rfl rfl rfl rfl (m_alloc ti27) ?_
 rintro _ _ ⟨b2_1, rfl, rfl⟩
 refine F.qn rfl rfl rfl rfl (r_assign rfl) ?_
 refine F.nil (Nrm.seq (Tri.seq ?_))
 obtain ⟨⟨t10_1, t10_2, t10_3⟩, h10, h⟩ := bind_some h
 obtain ⟨⟨t11_1, t11_2, t11_3, t11_4, t11_5⟩, h11, h⟩ := bind_some h
 refine Tri.reg (l := [0, 1, 2, 3, 4, 5, 6]) rfl ?_
 refine F.qn rfl rfl rfl rfl (r_move rfl) ?_
 refine F.qn rfl rfl rfl rfl (r_move rfl) ?_
 refine F.mn rfl rfl rfl rfl (m_buildF (l := ([4, 5, 3, 6, 4, 2, 7, 1] : List (Int))) Try.underlying25 ti3 rfl rfl rfl rfl rfl) ?_
 rintro v9_1 _ ⟨S9_1, hl_v9_1, rfl⟩
 refine F.efn rfl rfl rfl rfl (d_callM (xs := _) (cs := [R.box pa0 100 [va0_0, .int .i64 a0_1, .int .u64 a0_2]]) (rest := [R.sl S9_1 v9_1 (([4, 5, 3, 6, 4, 2, 7, 1] : List (Int)) : List (Int)), R.box b2_1 27 [.int .i64 0, .slice none 0 0, .slice none 0 0]]) [2] [0, 1] rfl ok96 rfl rfl rfl rfl (fun w hw => spec_l1Cur_among.ok h10 w (hr_a0_0.down hw) (rdm_sl (i := 0) rfl hw) (Sep.sub hw))) ?_
 rintro _ _ ⟨_, ⟨rfl, rfl⟩, rfl⟩
 refine F.efn rfl rfl rfl rfl (d_callM (xs := _) (cs := [R.box pa0 100 [va0_0, .int .i64 t10_2, .int .u64 t10_3]]) (rest := [R.sl S9_1 v9_1 (([4, 5, 3, 6, 4, 2, 7, 1] : List (Int)) : List (Int)), R.box b2_1 27 [.int .i64 0, .slice none 0 0, .slice none 0 0]]) [0] [1, 2] rfl ok162 rfl rfl rfl rfl (fun w hw => spec_l1Cur_someMaze.ok h11 w (hr_a0_0.down hw) (Sep.sub hw))) ?_
 rintro _ _ ⟨_, ⟨v11_1, S11_1, v11_2, S11_2, rfl, hl_v11_1, hl_v11_2, rfl⟩, rfl⟩
 refine F.mn rfl rfl rfl rfl (m_alloc ti27) ?_
 rintro _ _ ⟨b4_1, rfl, rfl⟩
 refine F.ef0 rfl rfl (wanted_none rfl) (d_storeG0 (i := 0) (cs2 := [.int .i64 t11_1, v11_1, v11_2]) ti27 rfl rfl rfl rfl rfl (Nat.le_of_ble_eq_true rfl) (lf_cons rfl (lf_cons (sl_leaf hl_v11_1) (lf_cons (sl_leaf hl_v11_2) lf_nil)))) ?_
 rintro _ _ ⟨rfl, rfl⟩
 refine F.nil (Nrm.seq (Tri.seq (Tri.reg (l := [0]) rfl ?_)))
 refine F.qn rfl rfl rfl rfl (r_assign rfl) ?_
 refine F.nil (Nrm.seq (Tri.seq (Tri.seq (Tri.reg (l := [0]) rfl ?_))))
 refine F.qn rfl rfl rfl rfl (r_assign rfl) ?_
 refine F.nil (Nrm.seq ?_)
 obtain ⟨x5, hE_1, h⟩ := bind_some h
 refine Tri.block ?_
 refine Tri.only [0, 2, 4, 5, 6] rfl ?_
 refine Tri.pick [0, 3, 5, 1, 2] rfl rfl ?_
 refine Tri.rounds (fun n e' C' => ∃ (x5' : Int) (x6' : Int), spec_l1Cur_fill9.l0 k t11_2 n x5' x6' = some x5 ∧ e' = [(0, .pointer (some ⟨pa0, 0, none⟩)), (2, .pointer (some ⟨b2_1, 0, none⟩)), (4, .pointer (some ⟨b4_1, 0, none⟩)), (5, .int .i64 x5'), (6, .int .i64 x6')] ∧ C' = Sep w (footM [R.box pa0 100 [va0_0, .int .i64 a0_1, .int .u64 a0_2]]) [R.box b4_1 27 [.int .i64 t11_1, v11_1, v11_2], R.box pa0 100 [va0_0, .int .i64 t11_4, .int .u64 t11_5], R.box b2_1 27 [.int .i64 0, .slice none 0 0, .slice none 0 0], R.sl S11_1 v11_1 (t11_2 : List (Int × Int × Int)), R.sl S11_2 v11_2 (t11_3 : List (Int))]) k ?_ ?_ ?_
 ·exact ⟨0, 0, hE_1, rfl, rfl⟩
 ·rintro _ _ ⟨_, _, hE_1, _⟩
  rw [spec_l1Cur_fill9.l0.eq_1] at hE_1; cases hE_1
 ·rintro n_1 _ _ ⟨x5, x6, hE_1, rfl, rfl⟩ ih_1
  rw [spec_l1Cur_fill9.l0.eq_2] at hE_1
  refine Tri.seq (Tri.seq (Tri.reg (l := [0, 1, 2, 3, 4]) rfl ?_))
  refine F.qn rfl rfl rfl rfl (r_move rfl) ?_
  refine F.qn rfl rfl rfl rfl (r_fieldAddr tf27_1 rfl) ?_
  refine F.qn rfl rfl rfl rfl (r_load ta24 rfl (fun w hw => cell_1 (box_cells (i := 0) rfl w hw) rfl)) ?_
  refine F.qn rfl rfl rfl rfl (r_len Try.underlying24 rfl hl_v11_1) ?_
  refine F.qn rfl rfl rfl rfl (r_lss rfl rfl) ?_
  refine F.nil (Nrm.seq (Tri.cond (b := decide (x6 < (t11_2.length : Int))) rfl (fun g_1 => ?_) (fun g_1 => ?_)))
  ·replace hE_1 := if_tt g_1 hE_1
   refine Tri.skip (Nrm.seq (Tri.seq (Tri.block ?_)))
   obtain ⟨t23, h23, hE_1⟩ := bind_some hE_1
   refine Tri.reg (l := [0, 1, 2, 3, 4, 5, 6, 7, 8]) rfl ?_
   refine F.qn rfl rfl rfl rfl (r_move rfl) ?_
   refine F.qn rfl rfl rfl rfl (r_fieldAddr tf27_1 rfl) ?_
   refine F.qn rfl rfl rfl rfl (r_load ta24 rfl (fun w hw => cell_1 (box_cells (i := 0) rfl w hw) rfl)) ?_
   refine F.qn rfl rfl rfl rfl (r_move rfl) ?_
   refine F.qn rfl rfl rfl rfl (r_indexAddrS Try.underlying24 ti121 rfl hl_v11_1 rfl (rdl_some h23).1 (rdl_some h23).2.1) ?_
   refine F.qn rfl rfl rfl rfl (r_indexAddrA Try.underlying121 ti3 rfl rfl (by decide) (by decide)) ?_
   refine F.qn rfl rfl rfl rfl (r_load ta3 rfl (fun w hw => cell_1 (Rd.flat ((rd_sl (i := 3) rfl) w hw) (rdl_some h23).2.2) rfl)) ?_
   refine F.qn rfl rfl rfl rfl (r_or rfl rfl) ?_
   refine F.qn rfl rfl rfl rfl (r_assign rfl) ?_
   refine F.nil (Nrm.block ?_)
   refine Nrm.seq (Tri.reg (l := [0, 1, 2]) rfl ?_)
   refine F.qn rfl rfl rfl rfl (r_move rfl) ?_
   refine F.qn rfl rfl rfl rfl (r_add rfl rfl) ?_
   refine F.qn rfl rfl rfl rfl (r_assign rfl) ?_
   refine F.nil (Nrm.round ?_)
   refine Rnd.only [0, 2, 4, 5, 6] rfl ?_
   refine Rnd.pick [0, 1, 2, 3, 4] rfl rfl ?_
   exact ih_1 _ _ ⟨bor x5 t23.2.2, w64 (x6 + 1), hE_1, rfl, rfl⟩
  ·replace hE_1 := if_ff g_1 hE_1
   refine Tri.exit ?_
   refine Exi.then ?_
   refine Exi.then ?_
   refine Exi.same ?_
   cases hE_1
   refine Nrm.seq (Tri.seq (Tri.seq ?_))
   obtain ⟨⟨y38, ypa0_1, ypa0_2⟩, hE_2, h⟩ := bind_some h
   refine Tri.cut (fun e' C' => e' = [(0, .pointer (some ⟨pa0, 0, none⟩)), (2, .pointer (some ⟨b2_1, 0, none⟩)), (4, .pointer (some ⟨b4_1, 0, none⟩)), (5, .int .i64 x5), (38, .bool y38)] ∧ C' = Sep w (footM [R.box pa0 100 [va0_0, .int .i64 a0_1, .int .u64 a0_2]]) [R.box pa0 100 [va0_0, .int .i64 ypa0_1, .int .u64 ypa0_2], R.box b4_1 27 [.int .i64 t11_1, v11_1, v11_2], R.box b2_1 27 [.int .i64 0, .slice none 0 0, .slice none 0 0], R.sl S11_1 v11_1 (t11_2 : List (Int × Int × Int)), R.sl S11_2 v11_2 (t11_3 : List (Int))]) ?_ (fun hj_1 => ?_)
   ·rintro _ _ ⟨rfl, rfl⟩
    refine Nrm.seq (Tri.cond (b := y38) rfl (fun g_2 => ?_) (fun g_2 => ?_))
    ·replace h := if_tt g_2 h
     refine Tri.seq (Tri.reg (l := [0, 1, 2, 3]) rfl ?_)
     refine F.qn rfl rfl rfl rfl (r_loadA ta27 ti27 rfl rfl (fun w hw => (box_cells (i := 1) rfl w hw))) ?_
     refine F.qn rfl rfl rfl rfl (r_move rfl) ?_
     refine F.ef0 rfl rfl (wanted_none rfl) (d_storeG0 (i := 2) (cs2 := [.int .i64 t11_1, v11_1, v11_2]) ti27 rfl rfl rfl rfl rfl (Nat.le_of_ble_eq_true rfl) (lf_cons rfl (lf_cons (sl_leaf hl_v11_1) (lf_cons (sl_leaf hl_v11_2) lf_nil)))) ?_
     rintro _ _ ⟨rfl, rfl⟩
     refine F.qn rfl rfl rfl rfl (r_assign rfl) ?_
     refine F.nil (Nrm.seq (Tri.ret ?_))
     refine Rtn.then ?_
     cases h
     exact Rtn.body (.cell rfl ta27 ti27 rfl (fun _ hw => box_cells (i := 2) rfl _ hw) (.tmp rfl .nil)) (fun w hw => ⟨_, _, rfl, ⟨v11_1, S11_1, v11_2, S11_2, rfl, hl_v11_1, hl_v11_2, rfl⟩, Sep.pick (is := [3, 4, 0]) rfl rfl hw⟩)
    ·replace h := if_ff g_2 h
     refine Tri.skip (Nrm.seq (Tri.seq (Tri.seq ?_)))
     obtain ⟨⟨t42_1, t42_2, t42_3⟩, h42, h⟩ := bind_some h
     refine Tri.reg (l := [0, 1]) rfl ?_
     refine F.qn rfl rfl rfl rfl (r_move rfl) ?_
     refine F.efn rfl rfl rfl rfl (d_callM (xs := _) (cs := [R.box pa0 100 [va0_0, .int .i64 ypa0_1, .int .u64 ypa0_2]]) (rest := [R.box b4_1 27 [.int .i64 t11_1, v11_1, v11_2], R.box b2_1 27 [.int .i64 0, .slice none 0 0, .slice none 0 0], R.sl S11_1 v11_1 (t11_2 : List (Int × Int × Int)), R.sl S11_2 v11_2 (t11_3 : List (Int))]) [0] [1, 2, 3, 4] rfl ok93 rfl rfl rfl rfl (fun w hw => spec_l1Cur_one.ok h42 w (hr_a0_0.down hw) (Sep.sub hw))) ?_
     rintro _ _ ⟨_, ⟨rfl, rfl⟩, rfl⟩
     refine F.nil (Nrm.seq (Tri.cond (b := t42_1) rfl (fun g_3 => ?_) (fun g_3 => ?_)))
     ·replace h := if_tt g_3 h
      refine Tri.seq ?_
      obtain ⟨⟨t45_1, t45_2, t45_3⟩, h45, h⟩ := bind_some h
      refine Tri.drawK (B := Sep w (footM [R.box pa0 100 [va0_0, .int .i64 a0_1, .int .u64 a0_2]]) [R.box b4_1 27 [.int .i64 t11_1, v11_1, v11_2], R.box b2_1 27 [.int .i64 0, .slice none 0 0, .slice none 0 0], R.sl S11_1 v11_1 (t11_2 : List (Int × Int × Int)), R.sl S11_2 v11_2 (t11_3 : List (Int))]) mixedT Sep.up [(0, true), (1, true), (2, false)] [3, 4] (by kernel_rfl) ?_
      refine K.q [1, 2, 3, 4] rfl rfl rfl rfl rfl (wanted_none rfl) (r_loadA ta27 ti27 rfl rfl (fun w hw => (box_cells (i := 0) rfl w hw))) ?_
      refine K.q [1, 2, 3, 4] rfl rfl rfl rfl rfl (wanted_none rfl) (r_move rfl) ?_
      refine B.ef rfl rfl rfl (wanted_none rfl) (d_callM (xs := _) (cs := [R.box pa0 100 [va0_0, .int .i64 t42_2, .int .u64 t42_3]]) (rest := [R.box b4_1 27 [.int .i64 t11_1, v11_1, v11_2], R.box b2_1 27 [.int .i64 0, .slice none 0 0, .slice none 0 0], R.sl S11_1 v11_1 (t11_2 : List (Int × Int × Int)), R.sl S11_2 v11_2 (t11_3 : List (Int))]) [0] [1, 2, 3, 4] rfl ok134 rfl rfl rfl rfl (fun w hw => spec_l1Cur_colours.ok h45 w (hr_a0_0.down hw) (Sep.sub hw))) (by rintro _ _ ⟨_, ⟨rfl, rfl⟩, rfl⟩; exact upd rfl [1, 2, 3, 4] rfl rfl) ?_
      rintro _ _ ⟨_, ⟨rfl, rfl⟩, rfl⟩
      refine B.nil ?_
      refine F.ef0 rfl rfl (wanted_none rfl) (d_storeG0 (i := 2) (cs2 := [.int .i64 t11_1, v11_1, v11_2]) ti27 rfl rfl rfl rfl rfl (Nat.le_of_ble_eq_true rfl) (lf_cons rfl (lf_cons (sl_leaf hl_v11_1) (lf_cons (sl_leaf hl_v11_2) lf_nil)))) ?_
      rintro _ _ ⟨rfl, rfl⟩
      refine F.qn rfl rfl rfl rfl (r_assign rfl) ?_
      refine F.nil (Nrm.seq (Tri.ret ?_))
      refine Rtn.then ?_
      cases h
      exact Rtn.body (.cell rfl ta27 ti27 rfl (fun _ hw => box_cells (i := 2) rfl _ hw) (.tmp rfl .nil)) (fun w hw => ⟨_, _, rfl, ⟨v11_1, S11_1, v11_2, S11_2, rfl, hl_v11_1, hl_v11_2, rfl⟩, Sep.pick (is := [3, 4, 0]) rfl rfl hw⟩)
     ·replace h := if_ff g_3 h
      refine Tri.skip (Nrm.seq (Tri.seq ?_))
      obtain ⟨⟨t49_1, t49_2, t49_3⟩, h49, h⟩ := bind_some h
      refine Tri.drawK (B := Sep w (footM [R.box pa0 100 [va0_0, .int .i64 a0_1, .int .u64 a0_2]]) [R.box b4_1 27 [.int .i64 t11_1, v11_1, v11_2], R.box b2_1 27 [.int .i64 0, .slice none 0 0, .slice none 0 0], R.sl S11_1 v11_1 (t11_2 : List (Int × Int × Int)), R.sl S11_2 v11_2 (t11_3 : List (Int))]) mixedT Sep.up [(0, true), (1, true), (2, false), (3, false)] [4, 5] (by kernel_rfl) ?_
      refine K.q [1, 2, 3, 4] rfl rfl rfl rfl rfl (wanted_none rfl) (r_loadA ta27 ti27 rfl rfl (fun w hw => (box_cells (i := 0) rfl w hw))) ?_
      refine K.q [1, 2, 3, 4] rfl rfl rfl rfl rfl (wanted_none rfl) (r_move rfl) ?_
      refine B.ef rfl rfl rfl (wanted_none rfl) (Makes.does (m_buildF (l := ([1, 3, 2, 5, 6, 7, 0] : List (Int))) Try.underlying25 ti3 rfl rfl rfl rfl rfl)) (by rintro v48_2 _ ⟨S48_2, hl_v48_2, rfl⟩; exact upd rfl [2, 3, 4, 5] rfl rfl) ?_
      rintro v48_2 _ ⟨S48_2, hl_v48_2, rfl⟩
      refine B.ef rfl rfl rfl (wanted_none rfl) (d_callM (xs := _) (cs := [R.box pa0 100 [va0_0, .int .i64 t42_2, .int .u64 t42_3]]) (rest := [R.sl S48_2 v48_2 (([1, 3, 2, 5, 6, 7, 0] : List (Int)) : List (Int)), R.box b4_1 27 [.int .i64 t11_1, v11_1, v11_2], R.box b2_1 27 [.int .i64 0, .slice none 0 0, .slice none 0 0], R.sl S11_1 v11_1 (t11_2 : List (Int × Int × Int)), R.sl S11_2 v11_2 (t11_3 : List (Int))]) [1] [0, 2, 3, 4, 5] rfl ok96 rfl rfl rfl rfl (fun w hw => spec_l1Cur_among.ok h49 w (hr_a0_0.down hw) (rdm_sl (i := 0) rfl hw) (Sep.sub hw))) (by rintro _ _ ⟨_, ⟨rfl, rfl⟩, rfl⟩; exact upd rfl [2, 3, 4, 5] rfl rfl) ?_
      rintro _ _ ⟨_, ⟨rfl, rfl⟩, rfl⟩
      refine B.nil ?_
      refine F.ef0 rfl rfl (wanted_none rfl) (d_storeG0 (i := 3) (cs2 := [.int .i64 t11_1, v11_1, v11_2]) ti27 rfl rfl rfl rfl rfl (Nat.le_of_ble_eq_true rfl) (lf_cons rfl (lf_cons (sl_leaf hl_v11_1) (lf_cons (sl_leaf hl_v11_2) lf_nil)))) ?_
      rintro _ _ ⟨rfl, rfl⟩
      refine F.qn rfl rfl rfl rfl (r_assign rfl) ?_
      refine F.nil (Nrm.seq (Tri.ret ?_))
      cases h
      exact Rtn.body (.cell rfl ta27 ti27 rfl (fun _ hw => box_cells (i := 3) rfl _ hw) (.tmp rfl .nil)) (fun w hw => ⟨_, _, rfl, ⟨v11_1, S11_1, v11_2, S11_2, rfl, hl_v11_1, hl_v11_2, rfl⟩, Sep.pick (is := [4, 5, 0]) rfl rfl hw⟩)
   ·obtain ⟨t28, h28, hE_2⟩ := bind_some hE_2
    rcases Bool.eq_false_or_eq_true (t28) with g29 | g29
    ·replace hE_2 := if_tt g29 hE_2
     obtain ⟨t31, h31, hE_2⟩ := bind_some hE_2
     rcases Bool.eq_false_or_eq_true (decide (t31 ≤ 3)) with g34 | g34
     ·replace hE_2 := if_tt g34 hE_2
      obtain ⟨⟨t36_1, t36_2, t36_3⟩, h36, hE_2⟩ := bind_some hE_2
      refine Tri.reg (l := List.range 12) rfl ?_
      refine F.qn rfl rfl rfl rfl (r_move rfl) ?_
      refine F.qcn rfl rfl rfl rfl (q_callF (xs := _) rfl ok92 rfl rfl (fun w hw => spec_l2Set.ok h28 w )) ?_
      refine F.qn rfl rfl rfl rfl (r_move rfl) ?_
      refine F.qg rfl rfl rfl rfl rfl rfl g29 (r_move rfl) ?_
      refine F.qc rfl rfl rfl (wg rfl rfl rfl g29) (q_callF (xs := _) rfl ok119 rfl rfl (fun w hw => spec_l2Many.ok h31 w )) ?_
      refine F.qg rfl rfl rfl rfl rfl rfl g29 (r_leq rfl rfl) ?_
      refine F.qn rfl rfl rfl rfl (r_pick rfl rfl g29) ?_
      refine F.qn rfl rfl rfl rfl (r_move rfl) ?_
      refine F.qg rfl rfl rfl rfl rfl rfl g34 (r_move rfl) ?_
      refine F.ef rfl rfl rfl (wg rfl rfl rfl g34) (d_callM (xs := _) (cs := [R.box pa0 100 [va0_0, .int .i64 t11_4, .int .u64 t11_5]]) (rest := [R.box b4_1 27 [.int .i64 t11_1, v11_1, v11_2], R.box b2_1 27 [.int .i64 0, .slice none 0 0, .slice none 0 0], R.sl S11_1 v11_1 (t11_2 : List (Int × Int × Int)), R.sl S11_2 v11_2 (t11_3 : List (Int))]) [1] [0, 2, 3, 4] rfl ok93 rfl rfl rfl rfl (fun w hw => spec_l1Cur_one.ok h36 w (hr_a0_0.down hw) (Sep.sub hw))) ?_
      rintro _ _ ⟨_, ⟨rfl, rfl⟩, rfl⟩
      refine F.qg rfl rfl rfl rfl rfl rfl g34 (r_not rfl) ?_
      refine F.qn rfl rfl rfl rfl (r_pick rfl rfl g34) ?_
      refine F.nil ?_
      cases hE_2
      refine Nrm.only [0, 2, 4, 5, 38] rfl ?_
      refine Nrm.pick [0, 1, 2, 3, 4] rfl rfl ?_
      exact hj_1 _ _ ⟨rfl, rfl⟩
     ·replace hE_2 := if_ff g34 hE_2
      refine Tri.reg (l := List.range 12) rfl ?_
      refine F.qn rfl rfl rfl rfl (r_move rfl) ?_
      refine F.qcn rfl rfl rfl rfl (q_callF (xs := _) rfl ok92 rfl rfl (fun w hw => spec_l2Set.ok h28 w )) ?_
      refine F.qn rfl rfl rfl rfl (r_move rfl) ?_
      refine F.qg rfl rfl rfl rfl rfl rfl g29 (r_move rfl) ?_
      refine F.qc rfl rfl rfl (wg rfl rfl rfl g29) (q_callF (xs := _) rfl ok119 rfl rfl (fun w hw => spec_l2Many.ok h31 w )) ?_
      refine F.qg rfl rfl rfl rfl rfl rfl g29 (r_leq rfl rfl) ?_
      refine F.qn rfl rfl rfl rfl (r_pick rfl rfl g29) ?_
      refine F.qn rfl rfl rfl rfl (r_move rfl) ?_
      iterate 3 refine F.sk rfl rfl rfl (wf rfl rfl rfl g34) ?_
      refine F.qn rfl rfl rfl rfl (r_pickf rfl rfl g34) ?_
      refine F.nil ?_
      cases hE_2
      refine Nrm.only [0, 2, 4, 5, 38] rfl ?_
      refine Nrm.pick [1, 0, 2, 3, 4] rfl rfl ?_
      exact hj_1 _ _ ⟨rfl, rfl⟩
    ·replace hE_2 := if_ff g29 hE_2
     refine Tri.reg (l := List.range 12) rfl ?_
     refine F.qn rfl rfl rfl rfl (r_move rfl) ?_
     refine F.qcn rfl rfl rfl rfl (q_callF (xs := _) rfl ok92 rfl rfl (fun w hw => spec_l2Set.ok h28 w )) ?_
     refine F.qn rfl rfl rfl rfl (r_move rfl) ?_
     iterate 3 refine F.sk rfl rfl rfl (wf rfl rfl rfl g29) ?_
     refine F.qn rfl rfl rfl rfl (r_pickf rfl rfl g29) ?_
     refine F.qn rfl rfl rfl rfl (r_move rfl) ?_
     iterate 3 refine F.sk rfl rfl rfl (wf rfl rfl rfl rfl) ?_
     refine F.qn rfl rfl rfl rfl (r_pickf rfl rfl rfl) ?_
     refine F.nil ?_
     cases hE_2
     refine Nrm.only [0, 2, 4, 5, 38] rfl ?_
     refine Nrm.pick [1, 0, 2, 3, 4] rfl rfl ?_
     exact hj_1 _ _ ⟨rfl, rfl⟩


def spec_l1Cur_nodeOf.f (k : Nat) (a0_0 : List By) (a0_1 : Int) (a0_2 : Int) (a1_0 : Int) (a1_1 : List (Int × Int × Int)) (a1_2 : List Int) : Option (Int × Int × Int) := (spec_l1Cur_one.f k a0_0 a0_1 a0_2 30).bind fun (t6_1, t6_2, t6_3) => (if t6_1 = true then (spec_l1Cur_among.f k a0_0 t6_2 t6_3 ([(-1), 0, a1_0, 4611686018427387904] : List (Int))).bind fun (t11_1, t11_2, t11_3) => some (t11_1, t11_2, t11_3) else (spec_l1Least.f k a1_0 12).bind fun t15 => (spec_l1Most.f k t15 1).bind fun t16 => (spec_l1Cur_pick.f k a0_0 t6_2 t6_3 t16).bind fun (t17_1, t17_2, t17_3) => some (t17_1, t17_2, t17_3))

theorem spec_l1Cur_nodeOf.ok {k : Nat}  {a0_0 : List By} {a0_1 : Int} {a0_2 : Int} {a1_0 : Int} {a1_1 : List (Int × Int × Int)} {a1_2 : List Int} {r0 : Int} {r1 : Int} {r2 : Int} (h : spec_l1Cur_nodeOf.f k a0_0 a0_1 a0_2 a1_0 a1_1 a1_2 = some (r0, r1, r2)) (w : World) {pa0 : Nat} {va0_0 : Value} (hr_a0_0 : RdM w (footM [R.box pa0 100 [va0_0, .int .i64 a0_1, .int .u64 a0_2]]) va0_0 a0_0) {va1_1 : Value} (hr_a1_1 : RdM w (footM [R.box pa0 100 [va0_0, .int .i64 a0_1, .int .u64 a0_2]]) va1_1 a1_1) {va1_2 : Value} (hr_a1_2 : RdM w (footM [R.box pa0 100 [va0_0, .int .i64 a0_1, .int .u64 a0_2]]) va1_2 a1_2) (hw0 : Sep w (footM [R.box pa0 100 [va0_0, .int .i64 a0_1, .int .u64 a0_2]]) [R.box pa0 100 [va0_0, .int .i64 a0_1, .int .u64 a0_2]] w) :
  Calls Try.prog 133 ([.pointer (some ⟨pa0, 0, none⟩), .agg ([.int .i64 a1_0, va1_1, va1_2].toArray)] : List Value).toArray w (PostM (footM [R.box pa0 100 [va0_0, .int .i64 a0_1, .int .u64 a0_2]]) (fun u ns => u = .int .i64 r0 ∧ ns = [R.box pa0 100 [va0_0, .int .i64 r1, .int .u64 r2]]) w) := by
 unfold spec_l1Cur_nodeOf.f at h
 have hl_va0_0 := hr_a0_0.len
 have hl_va1_1 := hr_a1_1.len
 have hl_va1_2 := hr_a1_2.len
 refine Calls.of_tri (N := 18) Try.func133 rfl rfl rfl hw0 ?_
 refine Tri.seq (Tri.reg (l := [0, 1]) rfl ?_)
 refine F.mn rfl rfl rfl rfl (m_boxG rfl rfl) ?_
 rintro _ _ ⟨b3_1, rfl, rfl⟩
 refine F.qn rfl rfl rfl rfl (r_assign rfl) ?_
 refine F.nil (Nrm.seq (Tri.seq (Tri.seq ?_)))
 obtain ⟨⟨t6_1, t6_2, t6_3⟩, h6, h⟩ := bind_some h
 refine Tri.reg (l := [0, 1]) rfl ?_
 refine F.qn rfl rfl rfl rfl (r_move rfl) ?_
 refine F.efn rfl rfl rfl rfl (d_callM (xs := _) (cs := [R.box pa0 100 [va0_0, .int .i64 a0_1, .int .u64 a0_2]]) (rest := [R.box b3_1 27 [.int .i64 a1_0, va1_1, va1_2]]) [1] [0] rfl ok93 rfl rfl rfl rfl (fun w hw => spec_l1Cur_one.ok h6 w (hr_a0_0.down hw) (Sep.sub hw))) ?_
 rintro _ _ ⟨_, ⟨rfl, rfl⟩, rfl⟩
 refine F.nil (Nrm.seq (Tri.cond (b := t6_1) rfl (fun g_1 => ?_) (fun g_1 => ?_)))
 ·replace h := if_tt g_1 h
  refine Tri.seq ?_
  obtain ⟨⟨t11_1, t11_2, t11_3⟩, h11, h⟩ := bind_some h
  refine Tri.reg (l := [0, 1, 2, 3, 4, 5]) rfl ?_
  refine F.qn rfl rfl rfl rfl (r_move rfl) ?_
  refine F.qn rfl rfl rfl rfl (r_fieldAddr tf27_0 rfl) ?_
  refine F.qn rfl rfl rfl rfl (r_load ta3 rfl (fun w hw => cell_1 (box_cells (i := 1) rfl w hw) rfl)) ?_
  refine F.mn rfl rfl rfl rfl (m_buildF (l := ([(-1), 0, a1_0, 4611686018427387904] : List (Int))) Try.underlying25 ti3 rfl rfl rfl rfl rfl) ?_
  rintro v10_1 _ ⟨S10_1, hl_v10_1, rfl⟩
  refine F.efn rfl rfl rfl rfl (d_callM (xs := _) (cs := [R.box pa0 100 [va0_0, .int .i64 t6_2, .int .u64 t6_3]]) (rest := [R.sl S10_1 v10_1 (([(-1), 0, a1_0, 4611686018427387904] : List (Int)) : List (Int)), R.box b3_1 27 [.int .i64 a1_0, va1_1, va1_2]]) [1] [0, 2] rfl ok96 rfl rfl rfl rfl (fun w hw => spec_l1Cur_among.ok h11 w (hr_a0_0.down hw) (rdm_sl (i := 0) rfl hw) (Sep.sub hw))) ?_
  rintro _ _ ⟨_, ⟨rfl, rfl⟩, rfl⟩
  refine F.qn rfl rfl rfl rfl (r_assign rfl) ?_
  refine F.nil (Nrm.seq (Tri.ret ?_))
  refine Rtn.then ?_
  cases h
  exact Rtn.body (.tmp rfl .nil) (fun w hw => ⟨_, _, rfl, ⟨rfl, rfl⟩, Sep.pick (is := [0]) rfl rfl hw⟩)
 ·replace h := if_ff g_1 h
  refine Tri.skip (Nrm.seq (Tri.seq ?_))
  obtain ⟨t15, h15, h⟩ := bind_some h
  obtain ⟨t16, h16, h⟩ := bind_some h
  obtain ⟨⟨t17_1, t17_2, t17_3⟩, h17, h⟩ := bind_some h
  refine Tri.reg (l := [0, 1, 2, 3, 4, 5, 6]) rfl ?_
  refine F.qn rfl rfl rfl rfl (r_move rfl) ?_
  refine F.qn rfl rfl rfl rfl (r_fieldAddr tf27_0 rfl) ?_
  refine F.qn rfl rfl rfl rfl (r_load ta3 rfl (fun w hw => cell_1 (box_cells (i := 1) rfl w hw) rfl)) ?_
  refine F.qcn rfl rfl rfl rfl (q_callF (xs := _) rfl ok181 rfl rfl (fun w hw => spec_l1Least.ok h15 w )) ?_
  refine F.qcn rfl rfl rfl rfl (q_callF (xs := _) rfl ok180 rfl rfl (fun w hw => spec_l1Most.ok h16 w )) ?_
  refine F.efn rfl rfl rfl rfl (d_callM (xs := _) (cs := [R.box pa0 100 [va0_0, .int .i64 t6_2, .int .u64 t6_3]]) (rest := [R.box b3_1 27 [.int .i64 a1_0, va1_1, va1_2]]) [0] [1] rfl ok95 rfl rfl rfl rfl (fun w hw => spec_l1Cur_pick.ok h17 w (hr_a0_0.down hw) (Sep.sub hw))) ?_
  rintro _ _ ⟨_, ⟨rfl, rfl⟩, rfl⟩
  refine F.qn rfl rfl rfl rfl (r_assign rfl) ?_
  refine F.nil (Nrm.seq (Tri.ret ?_))
  cases h
  exact Rtn.body (.tmp rfl .nil) (fun w hw => ⟨_, _, rfl, ⟨rfl, rfl⟩, Sep.pick (is := [0]) rfl rfl hw⟩)


def spec_DrawLayKeys.l0 (k : Nat) (a0 : List By) (t15_1 : Int) : Nat → (List (Int)) → Int → Int → Int → Option (Int × Int × (List (Int)))
 | 0, _, _, _, _ => none
 | n + 1, x8, x9, xb12_1_1, xb12_1_2 => (if (decide (x9 > 0)) = true then (spec_l1Least.f k t15_1 12).bind fun t31 => (spec_l1Most.f k 1 t31).bind fun t32 => (spec_l1Cur_pick.f k a0 xb12_1_1 xb12_1_2 t32).bind fun (t33_1, t33_2, t33_3) => if (x8 ++ ([t33_1] : List (Int))).length < 1099511627776 then spec_DrawLayKeys.l0 k a0 t15_1 n (x8 ++ ([t33_1] : List (Int))) (w64 (x9 - 1)) t33_2 t33_3 else none else some (xb12_1_1, xb12_1_2, x8))

def spec_DrawLayKeys.f (k : Nat) (a0 : List By) : Option (Int × (List (Int × Int × Int)) × (List Int) × Int × (List Int)) := (spec_l1Cur_fill9.f k a0 0 0).bind fun (t15_1, t15_2, t15_3, t15_4, t15_5, t15_6) => (spec_l2Set.f k t15_4).bind fun t20 => ((if t20 = true then (spec_l2Many.f k t15_4).bind fun t22 => (spec_DrawLayKeys.l0 k a0 t15_1 k ([] : List (Int)) t22 t15_5 t15_6).bind fun (xb12_1_1, xb12_1_2, x8) => some (x8, xb12_1_1, xb12_1_2) else some (([] : List (Int)), t15_5, t15_6))).bind fun (y8, yb12_1_1, yb12_1_2) => (spec_l1Cur_pick.f k a0 yb12_1_1 yb12_1_2 20).bind fun (t37_1, t37_2, t37_3) => ((if (t37_1 == 0) = true then if (y8 ++ ([0] : List (Int))).length < 1099511627776 then some (y8 ++ ([0] : List (Int))) else none else ((if (t37_1 == 1) = true then ((if (decide ((y8.length : Int) > 0)) = true then (spec_l1Cur_nodeOf.f k a0 t37_2 t37_3 t15_1 t15_2 t15_3).bind fun (t51_1, t51_2, t51_3) => (rdl y8 0).bind fun t52 => some (y8.set (0 : Int).toNat t51_1) else some y8)).bind fun y8r => some y8r else some y8)).bind fun y8r => some y8r)).bind fun y8r => some (t15_1, t15_2, t15_3, t15_4, y8r)

theorem spec_DrawLayKeys.ok {k : Nat}  {a0 : List By} {r0 : Int} {r1 : List (Int × Int × Int)} {r2 : List Int} {r3 : Int} {r4 : List Int} (h : spec_DrawLayKeys.f k a0 = some (r0, r1, r2, r3, r4)) (w : World) {va0 : Value} (hr_a0 : Rd w va0 a0) :
  Calls Try.prog 112 ([va0] : List Value).toArray w (Post (fun u ns => ∃ (ur1 : Value) (Sr1 : Nat → Prop) (ur2 : Value) (Sr2 : Nat → Prop) (ur4 : Value) (Sr4 : Nat → Prop), u = .tuple #[.agg [.int .i64 r0, ur1, ur2].toArray, .int .i64 r3, ur4] ∧ SlLen ur1 r1.length ∧ SlLen ur2 r2.length ∧ SlLen ur4 r4.length ∧ ns = [R.sl Sr1 ur1 r1, R.sl Sr2 ur2 r2, R.sl Sr4 ur4 r4]) w) := by
 unfold spec_DrawLayKeys.f at h
 have hl_va0 := hr_a0.len
 refine Calls.of_tri (N := 56) Try.func112 rfl rfl rfl (Sep.nil (M := noM)) ?_
 refine Tri.seq (Tri.reg (l := [0, 1, 2]) rfl ?_)
 refine F.mn rfl rfl rfl rfl (m_alloc ti27) ?_
 rintro _ _ ⟨b2_1, rfl, rfl⟩
 refine F.qn rfl rfl rfl rfl (r_assign rfl) ?_
 refine F.qn rfl rfl rfl rfl (r_assign rfl) ?_
 refine F.nil (Nrm.seq (Tri.seq (Tri.reg (l := [0, 1, 2, 3]) rfl ?_)))
 refine F.qn rfl rfl rfl rfl (r_move rfl) ?_
 refine F.qn rfl rfl rfl rfl (r_build (pl := [(0, 1), (1, 1), (2, 1)]) (qs := [(0, [va0])]) (cs := [va0, .int .i64 0, .int .u64 0]) (by kernel_rfl) ti100 rfl (.cons (sl_cells hl_va0) rfl (Nat.le_of_ble_eq_true rfl) .nil) rfl rfl) ?_
 refine F.mn rfl rfl rfl rfl (m_boxG rfl rfl) ?_
 rintro _ _ ⟨b12_1, rfl, rfl⟩
 refine F.qn rfl rfl rfl rfl (r_assign rfl) ?_
 refine F.nil (Nrm.seq (Tri.seq ?_))
 obtain ⟨⟨t15_1, t15_2, t15_3, t15_4, t15_5, t15_6⟩, h15, h⟩ := bind_some h
 refine Tri.reg (l := [0, 1, 2, 3, 4, 5, 6, 7]) rfl ?_
 refine F.qn rfl rfl rfl rfl (r_move rfl) ?_
 refine F.efn rfl rfl rfl rfl (d_callM (xs := _) (cs := [R.box b12_1 100 [va0, .int .i64 0, .int .u64 0]]) (rest := [R.box b2_1 27 [.int .i64 0, .slice none 0 0, .slice none 0 0]]) [0] [1] rfl ok86 rfl rfl rfl rfl (fun w hw => spec_l1Cur_fill9.ok h15 w (hr_a0.down hw) (Sep.sub hw))) ?_
 rintro _ _ ⟨_, ⟨v15_1, S15_1, v15_2, S15_2, rfl, hl_v15_1, hl_v15_2, rfl⟩, rfl⟩
 refine F.qn rfl rfl rfl rfl (r_move rfl) ?_
 refine F.qn rfl rfl rfl rfl (r_extract rfl rfl) ?_
 refine F.qn rfl rfl rfl rfl (r_extract rfl rfl) ?_
 refine F.mn rfl rfl rfl rfl (m_alloc ti27) ?_
 rintro _ _ ⟨b6_1, rfl, rfl⟩
 refine F.ef0 rfl rfl (wanted_none rfl) (d_storeG0 (i := 0) (cs2 := [.int .i64 t15_1, v15_1, v15_2]) ti27 rfl rfl rfl rfl rfl (Nat.le_of_ble_eq_true rfl) (lf_cons rfl (lf_cons (sl_leaf hl_v15_1) (lf_cons (sl_leaf hl_v15_2) lf_nil)))) ?_
 rintro _ _ ⟨rfl, rfl⟩
 refine F.qn rfl rfl rfl rfl (r_assign rfl) ?_
 refine F.nil (Nrm.seq (Tri.seq (Tri.reg (l := [0, 1]) rfl ?_)))
 refine F.mn rfl rfl rfl rfl (m_build0 (α := Int) Try.underlying25 ti3) ?_
 rintro v18_1 _ ⟨S18_1, hl_v18_1, rfl⟩
 refine F.qn rfl rfl rfl rfl (r_assign rfl) ?_
 refine F.nil (Nrm.seq (Tri.seq (Tri.seq ?_)))
 obtain ⟨t20, h20, h⟩ := bind_some h
 refine Tri.reg (l := [0, 1]) rfl ?_
 refine F.qn rfl rfl rfl rfl (r_move rfl) ?_
 refine F.qcn rfl rfl rfl rfl (q_callF (xs := _) rfl ok92 rfl rfl (fun w hw => spec_l2Set.ok h20 w )) ?_
 refine F.nil (Nrm.seq ?_)
 obtain ⟨⟨y8, yb12_1_1, yb12_1_2⟩, hE_1, h⟩ := bind_some h
 refine Tri.cut (fun e' C' => ∃ (v8_1 : Value) (S8_1 : Nat → Prop), SlLen v8_1 (y8).length ∧ e' = [(2, .pointer (some ⟨b2_1, 0, none⟩)), (5, .pointer (some ⟨b12_1, 0, none⟩)), (6, .pointer (some ⟨b6_1, 0, none⟩)), (7, .int .i64 t15_4), (8, v8_1)] ∧ C' = Sep w noM [R.box b6_1 27 [.int .i64 t15_1, v15_1, v15_2], R.box b12_1 100 [va0, .int .i64 yb12_1_1, .int .u64 yb12_1_2], R.box b2_1 27 [.int .i64 0, .slice none 0 0, .slice none 0 0], R.sl S8_1 v8_1 (y8 : List (Int)), R.sl S15_1 v15_1 (t15_2 : List (Int × Int × Int)), R.sl S15_2 v15_2 (t15_3 : List (Int))]) ?_ (fun hj_1 => ?_)
 ·rintro _ _ ⟨v8_1, S8_1, hl_v8_1, rfl, rfl⟩
  refine Nrm.seq (Tri.seq (Tri.seq ?_))
  obtain ⟨⟨t37_1, t37_2, t37_3⟩, h37, h⟩ := bind_some h
  refine Tri.reg (l := [0, 1]) rfl ?_
  refine F.qn rfl rfl rfl rfl (r_move rfl) ?_
  refine F.efn rfl rfl rfl rfl (d_callM (xs := _) (cs := [R.box b12_1 100 [va0, .int .i64 yb12_1_1, .int .u64 yb12_1_2]]) (rest := [R.box b6_1 27 [.int .i64 t15_1, v15_1, v15_2], R.box b2_1 27 [.int .i64 0, .slice none 0 0, .slice none 0 0], R.sl S8_1 v8_1 (y8 : List (Int)), R.sl S15_1 v15_1 (t15_2 : List (Int × Int × Int)), R.sl S15_2 v15_2 (t15_3 : List (Int))]) [1] [0, 2, 3, 4, 5] rfl ok95 rfl rfl rfl rfl (fun w hw => spec_l1Cur_pick.ok h37 w (hr_a0.down hw) (Sep.sub hw))) ?_
  rintro _ _ ⟨_, ⟨rfl, rfl⟩, rfl⟩
  refine F.nil (Nrm.seq (Tri.block ?_))
  refine Tri.seq (Tri.reg (l := [0, 1]) rfl ?_)
  refine F.qn rfl rfl rfl rfl (r_eql rfl rfl) ?_
  refine F.qn rfl rfl rfl rfl (r_assign rfl) ?_
  refine F.nil (Nrm.seq ?_)
  obtain ⟨y8r, hE_3, h⟩ := bind_some h
  refine Tri.cut (fun e' C' => ∃ (v8_2 : Value) (S8_2 : Nat → Prop), SlLen v8_2 (y8r).length ∧ e' = [(2, .pointer (some ⟨b2_1, 0, none⟩)), (6, .pointer (some ⟨b6_1, 0, none⟩)), (7, .int .i64 t15_4), (8, v8_2)] ∧ C' = Sep w noM [R.box b6_1 27 [.int .i64 t15_1, v15_1, v15_2], R.box b2_1 27 [.int .i64 0, .slice none 0 0, .slice none 0 0], R.sl S8_2 v8_2 (y8r : List (Int)), R.sl S15_1 v15_1 (t15_2 : List (Int × Int × Int)), R.sl S15_2 v15_2 (t15_3 : List (Int))]) ?_ (fun hj_2 => ?_)
  ·rintro _ _ ⟨v8_2, S8_2, hl_v8_2, rfl, rfl⟩
   refine Nrm.block ?_
   refine Nrm.seq (Tri.seq (Tri.reg (l := [0, 1, 2, 3, 4, 5]) rfl ?_))
   refine F.qn rfl rfl rfl rfl (r_loadA ta27 ti27 rfl rfl (fun w hw => (box_cells (i := 0) rfl w hw))) ?_
   refine F.qn rfl rfl rfl rfl (r_move rfl) ?_
   refine F.qn rfl rfl rfl rfl (r_move rfl) ?_
   refine F.ef0 rfl rfl (wanted_none rfl) (d_storeG0 (i := 1) (cs2 := [.int .i64 t15_1, v15_1, v15_2]) ti27 rfl rfl rfl rfl rfl (Nat.le_of_ble_eq_true rfl) (lf_cons rfl (lf_cons (sl_leaf hl_v15_1) (lf_cons (sl_leaf hl_v15_2) lf_nil)))) ?_
   rintro _ _ ⟨rfl, rfl⟩
   refine F.qn rfl rfl rfl rfl (r_assign rfl) ?_
   refine F.qn rfl rfl rfl rfl (r_assign rfl) ?_
   refine F.nil (Nrm.seq (Tri.ret ?_))
   cases h
   exact Rtn.body (.cell rfl ta27 ti27 rfl (fun _ hw => box_cells (i := 1) rfl _ hw) (.tmp rfl (.tmp rfl .nil))) (fun w hw => ⟨_, _, rfl, ⟨v15_1, S15_1, v15_2, S15_2, v8_2, S8_2, rfl, hl_v15_1, hl_v15_2, hl_v8_2, rfl⟩, Sep.pick (is := [3, 4, 2]) rfl rfl hw⟩)
  ·refine Tri.cond (b := t37_1 == 0) rfl (fun g_3 => ?_) (fun g_3 => ?_)
   ·replace hE_3 := if_tt g_3 hE_3
    obtain ⟨hs42, hE_3⟩ := ck hE_3
    refine Tri.reg (l := [0, 1, 2, 3]) rfl ?_
    refine F.qn rfl rfl rfl rfl (r_move rfl) ?_
    refine F.mn rfl rfl rfl rfl (m_buildF (l := ([0] : List (Int))) Try.underlying25 ti3 rfl rfl rfl rfl rfl) ?_
    rintro v41_1 _ ⟨S41_1, hl_v41_1, rfl⟩
    refine F.efn rfl rfl rfl rfl (d_append (i := 4) Try.underlying25 Try.underlying25 ti3 rfl (by decide) rfl rfl rfl (rd_sl (i := 0) rfl) hs42) ?_
    rintro v42_1 _ ⟨S42_1, rfl, hl_v42_1⟩
    refine F.qn rfl rfl rfl rfl (r_assign rfl) ?_
    refine F.nil ?_
    cases hE_3
    refine Nrm.only [2, 6, 7, 8] rfl ?_
    refine Nrm.pick [2, 3, 4, 5, 6] rfl rfl ?_
    exact hj_2 _ _ ⟨v42_1, S42_1, hl_v42_1, rfl, rfl⟩
   ·replace hE_3 := if_ff g_3 hE_3
    refine Tri.seq (Tri.reg (l := [0, 1]) rfl ?_)
    refine F.qn rfl rfl rfl rfl (r_eql rfl rfl) ?_
    refine F.qn rfl rfl rfl rfl (r_assign rfl) ?_
    refine F.nil (Nrm.seq ?_)
    obtain ⟨y8r, hE_4, hE_3⟩ := bind_some hE_3
    refine Tri.cut (fun e' C' => ∃ (v8_3 : Value) (S8_3 : Nat → Prop), SlLen v8_3 (y8r).length ∧ e' = [(2, .pointer (some ⟨b2_1, 0, none⟩)), (6, .pointer (some ⟨b6_1, 0, none⟩)), (7, .int .i64 t15_4), (8, v8_3)] ∧ C' = Sep w noM [R.box b6_1 27 [.int .i64 t15_1, v15_1, v15_2], R.box b2_1 27 [.int .i64 0, .slice none 0 0, .slice none 0 0], R.sl S8_3 v8_3 (y8r : List (Int)), R.sl S15_1 v15_1 (t15_2 : List (Int × Int × Int)), R.sl S15_2 v15_2 (t15_3 : List (Int))]) ?_ (fun hj_3 => ?_)
    ·rintro _ _ ⟨v8_3, S8_3, hl_v8_3, rfl, rfl⟩
     cases hE_3
     refine Nrm.only [2, 6, 7, 8] rfl ?_
     refine Nrm.pick [0, 1, 2, 3, 4] rfl rfl ?_
     exact hj_2 _ _ ⟨v8_3, S8_3, hl_v8_3, rfl, rfl⟩
    ·refine Tri.cond (b := t37_1 == 1) rfl (fun g_4 => ?_) (fun g_4 => ?_)
     ·replace hE_4 := if_tt g_4 hE_4
      refine Tri.seq (Tri.reg (l := [0, 1, 2]) rfl ?_)
      refine F.qn rfl rfl rfl rfl (r_move rfl) ?_
      refine F.qn rfl rfl rfl rfl (r_len Try.underlying25 rfl hl_v8_1) ?_
      refine F.qn rfl rfl rfl rfl (r_gtr rfl rfl) ?_
      refine F.nil (Nrm.seq ?_)
      obtain ⟨y8r, hE_5, hE_4⟩ := bind_some hE_4
      refine Tri.cut (fun e' C' => ∃ (v8_4 : Value) (S8_4 : Nat → Prop), SlLen v8_4 (y8r).length ∧ e' = [(2, .pointer (some ⟨b2_1, 0, none⟩)), (6, .pointer (some ⟨b6_1, 0, none⟩)), (7, .int .i64 t15_4), (8, v8_4)] ∧ C' = Sep w noM [R.box b6_1 27 [.int .i64 t15_1, v15_1, v15_2], R.box b2_1 27 [.int .i64 0, .slice none 0 0, .slice none 0 0], R.sl S8_4 v8_4 (y8r : List (Int)), R.sl S15_1 v15_1 (t15_2 : List (Int × Int × Int)), R.sl S15_2 v15_2 (t15_3 : List (Int))]) ?_ (fun hj_4 => ?_)
      ·rintro _ _ ⟨v8_4, S8_4, hl_v8_4, rfl, rfl⟩
       cases hE_4
       refine Nrm.only [2, 6, 7, 8] rfl ?_
       refine Nrm.pick [0, 1, 2, 3, 4] rfl rfl ?_
       exact hj_3 _ _ ⟨v8_4, S8_4, hl_v8_4, rfl, rfl⟩
      ·refine Tri.cond (b := decide ((y8.length : Int) > 0)) rfl (fun g_5 => ?_) (fun g_5 => ?_)
       ·replace hE_5 := if_tt g_5 hE_5
        obtain ⟨⟨t51_1, t51_2, t51_3⟩, h51, hE_5⟩ := bind_some hE_5
        obtain ⟨t52, h52, hE_5⟩ := bind_some hE_5
        refine Tri.reg (l := [0, 1, 2, 3, 4, 5]) rfl ?_
        refine F.qn rfl rfl rfl rfl (r_move rfl) ?_
        refine F.qn rfl rfl rfl rfl (r_move rfl) ?_
        refine F.qn rfl rfl rfl rfl (r_loadA ta27 ti27 rfl rfl (fun w hw => (box_cells (i := 1) rfl w hw))) ?_
        refine F.efn rfl rfl rfl rfl (d_callM (xs := _) (cs := [R.box b12_1 100 [va0, .int .i64 t37_2, .int .u64 t37_3]]) (rest := [R.box b6_1 27 [.int .i64 t15_1, v15_1, v15_2], R.box b2_1 27 [.int .i64 0, .slice none 0 0, .slice none 0 0], R.sl S8_1 v8_1 (y8 : List (Int)), R.sl S15_1 v15_1 (t15_2 : List (Int × Int × Int)), R.sl S15_2 v15_2 (t15_3 : List (Int))]) [0] [1, 2, 3, 4, 5] rfl ok133 rfl rfl rfl rfl (fun w hw => spec_l1Cur_nodeOf.ok h51 w (hr_a0.down hw) (rdm_sl (i := 3) rfl hw) (rdm_sl (i := 4) rfl hw) (Sep.sub hw))) ?_
        rintro _ _ ⟨_, ⟨rfl, rfl⟩, rfl⟩
        refine F.qn rfl rfl rfl rfl (r_indexAddrS Try.underlying25 ti3 rfl hl_v8_1 rfl (rdl_some h52).1 (rdl_some h52).2.1) ?_
        refine F.ef0 rfl rfl (wanted_none rfl) (d_storeE (i := 3) (x1 := t51_1) ti3 rfl rfl rfl (rdl_some h52) rfl) ?_
        rintro _ _ ⟨rfl, rfl⟩
        refine F.nil ?_
        cases hE_5
        refine Nrm.only [2, 6, 7, 8] rfl ?_
        refine Nrm.pick [1, 2, 3, 4, 5] rfl rfl ?_
        exact hj_4 _ _ ⟨v8_1, S8_1, (len_set hl_v8_1), rfl, rfl⟩
       ·replace hE_5 := if_ff g_5 hE_5
        refine Tri.skip ?_
        cases hE_5
        refine Nrm.only [2, 6, 7, 8] rfl ?_
        refine Nrm.pick [1, 2, 3, 4, 5] rfl rfl ?_
        exact hj_4 _ _ ⟨v8_1, S8_1, hl_v8_1, rfl, rfl⟩
     ·replace hE_4 := if_ff g_4 hE_4
      refine Tri.skip ?_
      cases hE_4
      refine Nrm.only [2, 6, 7, 8] rfl ?_
      refine Nrm.pick [1, 2, 3, 4, 5] rfl rfl ?_
      exact hj_3 _ _ ⟨v8_1, S8_1, hl_v8_1, rfl, rfl⟩
 ·refine Tri.cond (b := t20) rfl (fun g_1 => ?_) (fun g_1 => ?_)
  ·replace hE_1 := if_tt g_1 hE_1
   refine Tri.seq ?_
   obtain ⟨t22, h22, hE_1⟩ := bind_some hE_1
   refine Tri.reg (l := [0, 1, 2]) rfl ?_
   refine F.qn rfl rfl rfl rfl (r_move rfl) ?_
   refine F.qcn rfl rfl rfl rfl (q_callF (xs := _) rfl ok119 rfl rfl (fun w hw => spec_l2Many.ok h22 w )) ?_
   refine F.qn rfl rfl rfl rfl (r_assign rfl) ?_
   refine F.nil (Nrm.seq ?_)
   obtain ⟨⟨xb12_1_1, xb12_1_2, x8⟩, hE_2, hE_1⟩ := bind_some hE_1
   refine Tri.block ?_
   refine Tri.only [2, 5, 6, 7, 8, 9] rfl ?_
   refine Tri.pick [1, 4, 5, 0, 2, 3] rfl rfl ?_
   refine Tri.rounds (fun n e' C' => ∃ (x8' : List (Int)) (x9' : Int) (xb12_1_1' : Int) (xb12_1_2' : Int) (w8 : Value) (T8 : Nat → Prop), spec_DrawLayKeys.l0 k a0 t15_1 n x8' x9' xb12_1_1' xb12_1_2' = some (xb12_1_1, xb12_1_2, x8) ∧ SlLen w8 (x8').length ∧ e' = [(2, .pointer (some ⟨b2_1, 0, none⟩)), (5, .pointer (some ⟨b12_1, 0, none⟩)), (6, .pointer (some ⟨b6_1, 0, none⟩)), (7, .int .i64 t15_4), (8, w8), (9, .int .i64 x9')] ∧ C' = Sep w noM [R.box b6_1 27 [.int .i64 t15_1, v15_1, v15_2], R.box b12_1 100 [va0, .int .i64 xb12_1_1', .int .u64 xb12_1_2'], R.box b2_1 27 [.int .i64 0, .slice none 0 0, .slice none 0 0], R.sl T8 w8 (x8' : List (Int)), R.sl S15_1 v15_1 (t15_2 : List (Int × Int × Int)), R.sl S15_2 v15_2 (t15_3 : List (Int))]) k ?_ ?_ ?_
   ·exact ⟨([] : List (Int)), t22, t15_5, t15_6, v18_1, S18_1, hE_2, hl_v18_1, rfl, rfl⟩
   ·rintro _ _ ⟨_, _, _, _, _, _, hE_2, _⟩
    rw [spec_DrawLayKeys.l0.eq_1] at hE_2; cases hE_2
   ·rintro n_1 _ _ ⟨x8, x9, xb12_1_1, xb12_1_2, w8, T8, hE_2, hl_w8, rfl, rfl⟩ ih_1
    rw [spec_DrawLayKeys.l0.eq_2] at hE_2
    refine Tri.seq (Tri.seq (Tri.reg (l := [0, 1]) rfl ?_))
    refine F.qn rfl rfl rfl rfl (r_move rfl) ?_
    refine F.qn rfl rfl rfl rfl (r_gtr rfl rfl) ?_
    refine F.nil (Nrm.seq (Tri.cond (b := decide (x9 > 0)) rfl (fun g_2 => ?_) (fun g_2 => ?_)))
    ·replace hE_2 := if_tt g_2 hE_2
     refine Tri.skip (Nrm.seq (Tri.seq (Tri.block ?_)))
     obtain ⟨t31, h31, hE_2⟩ := bind_some hE_2
     obtain ⟨t32, h32, hE_2⟩ := bind_some hE_2
     obtain ⟨⟨t33_1, t33_2, t33_3⟩, h33, hE_2⟩ := bind_some hE_2
     obtain ⟨hs35, hE_2⟩ := ck hE_2
     refine Tri.reg (l := [0, 1, 2, 3, 4, 5, 6, 7, 8, 9]) rfl ?_
     refine F.qn rfl rfl rfl rfl (r_move rfl) ?_
     refine F.qn rfl rfl rfl rfl (r_move rfl) ?_
     refine F.qn rfl rfl rfl rfl (r_fieldAddr tf27_0 rfl) ?_
     refine F.qn rfl rfl rfl rfl (r_load ta3 rfl (fun w hw => cell_1 (box_cells (i := 0) rfl w hw) rfl)) ?_
     refine F.qcn rfl rfl rfl rfl (q_callF (xs := _) rfl ok181 rfl rfl (fun w hw => spec_l1Least.ok h31 w )) ?_
     refine F.qcn rfl rfl rfl rfl (q_callF (xs := _) rfl ok180 rfl rfl (fun w hw => spec_l1Most.ok h32 w )) ?_
     refine F.efn rfl rfl rfl rfl (d_callM (xs := _) (cs := [R.box b12_1 100 [va0, .int .i64 xb12_1_1, .int .u64 xb12_1_2]]) (rest := [R.box b6_1 27 [.int .i64 t15_1, v15_1, v15_2], R.box b2_1 27 [.int .i64 0, .slice none 0 0, .slice none 0 0], R.sl T8 w8 (x8 : List (Int)), R.sl S15_1 v15_1 (t15_2 : List (Int × Int × Int)), R.sl S15_2 v15_2 (t15_3 : List (Int))]) [1] [0, 2, 3, 4, 5] rfl ok95 rfl rfl rfl rfl (fun w hw => spec_l1Cur_pick.ok h33 w (hr_a0.down hw) (Sep.sub hw))) ?_
     rintro _ _ ⟨_, ⟨rfl, rfl⟩, rfl⟩
     refine F.mn rfl rfl rfl rfl (m_buildF (l := ([t33_1] : List (Int))) Try.underlying25 ti3 rfl rfl rfl rfl rfl) ?_
     rintro v34_1 _ ⟨S34_1, hl_v34_1, rfl⟩
     refine F.efn rfl rfl rfl rfl (d_append (i := 4) Try.underlying25 Try.underlying25 ti3 rfl (by decide) rfl rfl rfl (rd_sl (i := 0) rfl) hs35) ?_
     rintro v35_1 _ ⟨S35_1, rfl, hl_v35_1⟩
     refine F.qn rfl rfl rfl rfl (r_assign rfl) ?_
     refine F.nil (Nrm.block ?_)
     refine Nrm.seq (Tri.reg (l := [0, 1, 2]) rfl ?_)
     refine F.qn rfl rfl rfl rfl (r_move rfl) ?_
     refine F.qn rfl rfl rfl rfl (r_sub rfl rfl) ?_
     refine F.qn rfl rfl rfl rfl (r_assign rfl) ?_
     refine F.nil (Nrm.round ?_)
     refine Rnd.only [2, 5, 6, 7, 8, 9] rfl ?_
     refine Rnd.pick [2, 1, 3, 4, 5, 6] rfl rfl ?_
     exact ih_1 _ _ ⟨x8 ++ ([t33_1] : List (Int)), w64 (x9 - 1), t33_2, t33_3, v35_1, S35_1, hE_2, hl_v35_1, rfl, rfl⟩
    ·replace hE_2 := if_ff g_2 hE_2
     refine Tri.exit ?_
     refine Exi.then ?_
     refine Exi.then ?_
     refine Exi.same ?_
     cases hE_2
     cases hE_1
     refine Nrm.only [2, 5, 6, 7, 8] rfl ?_
     refine Nrm.pick [0, 1, 2, 3, 4, 5] rfl rfl ?_
     exact hj_1 _ _ ⟨w8, T8, hl_w8, rfl, rfl⟩
  ·replace hE_1 := if_ff g_1 hE_1
   refine Tri.skip ?_
   cases hE_1
   refine Nrm.only [2, 5, 6, 7, 8] rfl ?_
   refine Nrm.pick [1, 4, 5, 0, 2, 3] rfl rfl ?_
   exact hj_1 _ _ ⟨v18_1, S18_1, hl_v18_1, rfl, rfl⟩


def spec_DrawFillingWins.f (k : Nat) (a0 : List By) : Option (Int × (List (Int × Int × Int)) × (List Int) × Int × (List Int)) := (spec_DrawLayKeys.f k a0).bind fun (t16_1, t16_2, t16_3, t16_4, t16_5) => (spec_FirstFilling.f k t16_1 t16_2 t16_3 t16_4).bind fun (t23_1, t23_2) => ((if t23_2 = true then (spec_l1Cur_one.f k a0 0 0 2).bind fun (t29_1, t29_2, t29_3) => some t29_1 else some false)).bind fun y30 => (if y30 = true then some (t16_1, t16_2, t16_3, t16_4, t23_1) else some (t16_1, t16_2, t16_3, t16_4, t16_5))

theorem spec_DrawFillingWins.ok {k : Nat}  {a0 : List By} {r0 : Int} {r1 : List (Int × Int × Int)} {r2 : List Int} {r3 : Int} {r4 : List Int} (h : spec_DrawFillingWins.f k a0 = some (r0, r1, r2, r3, r4)) (w : World) {va0 : Value} (hr_a0 : Rd w va0 a0) :
  Calls Try.prog 33 ([va0] : List Value).toArray w (Post (fun u ns => ∃ (ur1 : Value) (Sr1 : Nat → Prop) (ur2 : Value) (Sr2 : Nat → Prop) (ur4 : Value) (Sr4 : Nat → Prop), u = .tuple #[.agg [.int .i64 r0, ur1, ur2].toArray, .int .i64 r3, ur4] ∧ SlLen ur1 r1.length ∧ SlLen ur2 r2.length ∧ SlLen ur4 r4.length ∧ ns = [R.sl Sr1 ur1 r1, R.sl Sr2 ur2 r2, R.sl Sr4 ur4 r4]) w) := by
 unfold spec_DrawFillingWins.f at h
 have hl_va0 := hr_a0.len
 refine Calls.of_tri (N := 37) Try.func33 rfl rfl rfl (Sep.nil (M := noM)) ?_
 refine Tri.seq (Tri.reg (l := [0, 1, 2]) rfl ?_)
 refine F.mn rfl rfl rfl rfl (m_alloc ti27) ?_
 rintro _ _ ⟨b2_1, rfl, rfl⟩
 refine F.qn rfl rfl rfl rfl (r_assign rfl) ?_
 refine F.qn rfl rfl rfl rfl (r_assign rfl) ?_
 refine F.nil (Nrm.seq (Tri.seq (Tri.reg (l := [0, 1, 2, 3]) rfl ?_)))
 refine F.qn rfl rfl rfl rfl (r_move rfl) ?_
 refine F.qn rfl rfl rfl rfl (r_build (pl := [(0, 1), (1, 1), (2, 1)]) (qs := [(0, [va0])]) (cs := [va0, .int .i64 0, .int .u64 0]) (by kernel_rfl) ti100 rfl (.cons (sl_cells hl_va0) rfl (Nat.le_of_ble_eq_true rfl) .nil) rfl rfl) ?_
 refine F.mn rfl rfl rfl rfl (m_boxG rfl rfl) ?_
 rintro _ _ ⟨b13_1, rfl, rfl⟩
 refine F.qn rfl rfl rfl rfl (r_assign rfl) ?_
 refine F.nil (Nrm.seq (Tri.seq ?_))
 obtain ⟨⟨t16_1, t16_2, t16_3, t16_4, t16_5⟩, h16, h⟩ := bind_some h
 refine Tri.reg (l := [0, 1, 2, 3, 4, 5, 6, 7, 8, 9]) rfl ?_
 refine F.qn rfl rfl rfl rfl (r_move rfl) ?_
 refine F.mn rfl rfl rfl rfl (m_callF (xs := _) rfl ok112 rfl rfl (fun w hw => spec_DrawLayKeys.ok h16 w ((fun _ hw => hr_a0.sep hw) w hw))) ?_
 rintro _ _ ⟨_, ⟨v16_1, S16_1, v16_2, S16_2, v16_3, S16_3, rfl, hl_v16_1, hl_v16_2, hl_v16_3, rfl⟩, rfl⟩
 refine F.qn rfl rfl rfl rfl (r_move rfl) ?_
 iterate 3 refine F.qn rfl rfl rfl rfl (r_extract rfl rfl) ?_
 refine F.mn rfl rfl rfl rfl (m_alloc ti27) ?_
 rintro _ _ ⟨b6_1, rfl, rfl⟩
 refine F.ef0 rfl rfl (wanted_none rfl) (d_storeG0 (i := 0) (cs2 := [.int .i64 t16_1, v16_1, v16_2]) ti27 rfl rfl rfl rfl rfl (Nat.le_of_ble_eq_true rfl) (lf_cons rfl (lf_cons (sl_leaf hl_v16_1) (lf_cons (sl_leaf hl_v16_2) lf_nil)))) ?_
 rintro _ _ ⟨rfl, rfl⟩
 refine F.qn rfl rfl rfl rfl (r_assign rfl) ?_
 refine F.qn rfl rfl rfl rfl (r_assign rfl) ?_
 refine F.nil (Nrm.seq (Tri.seq (Tri.seq ?_)))
 obtain ⟨⟨t23_1, t23_2⟩, h23, h⟩ := bind_some h
 refine Tri.reg (l := [0, 1, 2, 3, 4, 5, 6, 7]) rfl ?_
 refine F.qn rfl rfl rfl rfl (r_loadA ta27 ti27 rfl rfl (fun w hw => (box_cells (i := 0) rfl w hw))) ?_
 refine F.qn rfl rfl rfl rfl (r_move rfl) ?_
 refine F.mn rfl rfl rfl rfl (m_callF (xs := _) rfl ok13 rfl rfl (fun w hw => spec_FirstFilling.ok h23 w ((rd_sl (i := 1) rfl) w hw) ((rd_sl (i := 2) rfl) w hw))) ?_
 rintro _ _ ⟨_, ⟨v23_1, S23_1, rfl, hl_v23_1, rfl⟩, rfl⟩
 refine F.qn rfl rfl rfl rfl (r_move rfl) ?_
 refine F.qn rfl rfl rfl rfl (r_extract rfl rfl) ?_
 refine F.qn rfl rfl rfl rfl (r_extract rfl rfl) ?_
 refine F.qn rfl rfl rfl rfl (r_assign rfl) ?_
 refine F.qn rfl rfl rfl rfl (r_assign rfl) ?_
 refine F.nil (Nrm.seq (Tri.seq ?_))
 obtain ⟨y30, hE_1, h⟩ := bind_some h
 refine Tri.cut (fun e' C' => e' = [(2, .pointer (some ⟨b2_1, 0, none⟩)), (6, .pointer (some ⟨b6_1, 0, none⟩)), (7, .int .i64 t16_4), (8, v16_3), (9, v23_1), (30, .bool y30)] ∧ C' = Sep w noM [R.box b6_1 27 [.int .i64 t16_1, v16_1, v16_2], R.box b2_1 27 [.int .i64 0, .slice none 0 0, .slice none 0 0], R.sl S16_1 v16_1 (t16_2 : List (Int × Int × Int)), R.sl S16_2 v16_2 (t16_3 : List (Int)), R.sl S16_3 v16_3 (t16_5 : List (Int)), R.sl S23_1 v23_1 (t23_1 : List (Int))]) ?_ (fun hj_1 => ?_)
 ·rintro _ _ ⟨rfl, rfl⟩
  refine Nrm.seq (Tri.cond (b := y30) rfl (fun g_1 => ?_) (fun g_1 => ?_))
  ·replace h := if_tt g_1 h
   refine Tri.seq (Tri.reg (l := [0, 1, 2, 3, 4, 5]) rfl ?_)
   refine F.qn rfl rfl rfl rfl (r_loadA ta27 ti27 rfl rfl (fun w hw => (box_cells (i := 0) rfl w hw))) ?_
   refine F.qn rfl rfl rfl rfl (r_move rfl) ?_
   refine F.qn rfl rfl rfl rfl (r_move rfl) ?_
   refine F.ef0 rfl rfl (wanted_none rfl) (d_storeG0 (i := 1) (cs2 := [.int .i64 t16_1, v16_1, v16_2]) ti27 rfl rfl rfl rfl rfl (Nat.le_of_ble_eq_true rfl) (lf_cons rfl (lf_cons (sl_leaf hl_v16_1) (lf_cons (sl_leaf hl_v16_2) lf_nil)))) ?_
   rintro _ _ ⟨rfl, rfl⟩
   refine F.qn rfl rfl rfl rfl (r_assign rfl) ?_
   refine F.qn rfl rfl rfl rfl (r_assign rfl) ?_
   refine F.nil (Nrm.seq (Tri.ret ?_))
   refine Rtn.then ?_
   cases h
   exact Rtn.body (.cell rfl ta27 ti27 rfl (fun _ hw => box_cells (i := 1) rfl _ hw) (.tmp rfl (.tmp rfl .nil))) (fun w hw => ⟨_, _, rfl, ⟨v16_1, S16_1, v16_2, S16_2, v23_1, S23_1, rfl, hl_v16_1, hl_v16_2, hl_v23_1, rfl⟩, Sep.pick (is := [2, 3, 5]) rfl rfl hw⟩)
  ·replace h := if_ff g_1 h
   refine Tri.skip (Nrm.seq (Tri.seq (Tri.reg (l := [0, 1, 2, 3, 4, 5]) rfl ?_)))
   refine F.qn rfl rfl rfl rfl (r_loadA ta27 ti27 rfl rfl (fun w hw => (box_cells (i := 0) rfl w hw))) ?_
   refine F.qn rfl rfl rfl rfl (r_move rfl) ?_
   refine F.qn rfl rfl rfl rfl (r_move rfl) ?_
   refine F.ef0 rfl rfl (wanted_none rfl) (d_storeG0 (i := 1) (cs2 := [.int .i64 t16_1, v16_1, v16_2]) ti27 rfl rfl rfl rfl rfl (Nat.le_of_ble_eq_true rfl) (lf_cons rfl (lf_cons (sl_leaf hl_v16_1) (lf_cons (sl_leaf hl_v16_2) lf_nil)))) ?_
   rintro _ _ ⟨rfl, rfl⟩
   refine F.qn rfl rfl rfl rfl (r_assign rfl) ?_
   refine F.qn rfl rfl rfl rfl (r_assign rfl) ?_
   refine F.nil (Nrm.seq (Tri.ret ?_))
   cases h
   exact Rtn.body (.cell rfl ta27 ti27 rfl (fun _ hw => box_cells (i := 1) rfl _ hw) (.tmp rfl (.tmp rfl .nil))) (fun w hw => ⟨_, _, rfl, ⟨v16_1, S16_1, v16_2, S16_2, v16_3, S16_3, rfl, hl_v16_1, hl_v16_2, hl_v16_3, rfl⟩, Sep.pick (is := [2, 3, 4]) rfl rfl hw⟩)
 ·rcases Bool.eq_false_or_eq_true (t23_2) with g27 | g27
  ·replace hE_1 := if_tt g27 hE_1
   obtain ⟨⟨t29_1, t29_2, t29_3⟩, h29, hE_1⟩ := bind_some hE_1
   refine Tri.reg (l := [0, 1, 2, 3, 4]) rfl ?_
   refine F.qn rfl rfl rfl rfl (r_move rfl) ?_
   refine F.qn rfl rfl rfl rfl (r_move rfl) ?_
   refine F.qg rfl rfl rfl rfl rfl rfl g27 (r_move rfl) ?_
   refine F.ef rfl rfl rfl (wg rfl rfl rfl g27) (d_callM (xs := _) (cs := [R.box b13_1 100 [va0, .int .i64 0, .int .u64 0]]) (rest := [R.sl S23_1 v23_1 (t23_1 : List (Int)), R.box b6_1 27 [.int .i64 t16_1, v16_1, v16_2], R.sl S16_1 v16_1 (t16_2 : List (Int × Int × Int)), R.sl S16_2 v16_2 (t16_3 : List (Int)), R.sl S16_3 v16_3 (t16_5 : List (Int)), R.box b2_1 27 [.int .i64 0, .slice none 0 0, .slice none 0 0]]) [5] [0, 1, 2, 3, 4, 6] rfl ok93 rfl rfl rfl rfl (fun w hw => spec_l1Cur_one.ok h29 w (hr_a0.down hw) (Sep.sub hw))) ?_
   rintro _ _ ⟨_, ⟨rfl, rfl⟩, rfl⟩
   refine F.qn rfl rfl rfl rfl (r_pick rfl rfl g27) ?_
   refine F.nil ?_
   cases hE_1
   refine Nrm.only [2, 6, 7, 8, 9, 30] rfl ?_
   refine Nrm.pick [2, 6, 3, 4, 5, 1] rfl rfl ?_
   exact hj_1 _ _ ⟨rfl, rfl⟩
  ·replace hE_1 := if_ff g27 hE_1
   refine Tri.reg (l := [0, 1, 2, 3, 4]) rfl ?_
   refine F.qn rfl rfl rfl rfl (r_move rfl) ?_
   refine F.qn rfl rfl rfl rfl (r_move rfl) ?_
   refine F.sk rfl rfl rfl (wf rfl rfl rfl g27) ?_
   refine F.sk rfl rfl rfl (wf rfl rfl rfl g27) ?_
   refine F.qn rfl rfl rfl rfl (r_pickf rfl rfl g27) ?_
   refine F.nil ?_
   cases hE_1
   refine Nrm.only [2, 6, 7, 8, 9, 30] rfl ?_
   refine Nrm.pick [1, 6, 2, 3, 4, 0] rfl rfl ?_
   exact hj_1 _ _ ⟨rfl, rfl⟩


def spec_l9Filling.l0 (k : Nat) (a0_0 : Int) (a2 : List Int) : Nat → Int → Option ((Unit) ⊕ (Bool))
 | 0, _ => none
 | n + 1, x7 => (if (decide (x7 < (a2.length : Int))) = true then (rdl a2 x7).bind fun t16 => (spec_l1In.f k t16 0 (w64 (a0_0 - 1))).bind fun t21 => (if (!t21) = true then some (Sum.inr false) else spec_l9Filling.l0 k a0_0 a2 n (w64 (x7 + 1))) else some (Sum.inl ()))

def spec_l9Filling.f (k : Nat) (a0_0 : Int) (a0_1 : List (Int × Int × Int)) (a0_2 : List Int) (a1 : Int) (a2 : List Int) : Option (Bool) := (spec_l9Filling.l0 k a0_0 a2 k 0).bind fun s => Lr s some fun _ => (spec_l2Many.f k a1).bind fun t26 => some ((a2.length : Int) == t26)

theorem spec_l9Filling.ok {k : Nat}  {a0_0 : Int} {a0_1 : List (Int × Int × Int)} {a0_2 : List Int} {a1 : Int} {a2 : List Int} {r0 : Bool} (h : spec_l9Filling.f k a0_0 a0_1 a0_2 a1 a2 = some r0) (w : World) {va0_1 : Value} {va0_2 : Value} {va2 : Value} (hr_a0_1 : Rd w va0_1 a0_1) (hr_a0_2 : Rd w va0_2 a0_2) (hr_a2 : Rd w va2 a2) :
  Calls Try.prog 118 ([.agg ([.int .i64 a0_0, va0_1, va0_2].toArray), .int .i64 a1, va2] : List Value).toArray w (fun e w' => e = .returned (.bool r0) ∧ Ext w w') := by
 unfold spec_l9Filling.f at h
 have hl_va0_1 := hr_a0_1.len
 have hl_va0_2 := hr_a0_2.len
 have hl_va2 := hr_a2.len
 refine Calls.of_tri (N := 28) Try.func118 rfl rfl rfl (Sep.nil (M := noM)) ?_
 refine Tri.seq (Tri.reg (l := [0, 1]) rfl ?_)
 refine F.mn rfl rfl rfl rfl (m_boxG rfl rfl) ?_
 rintro _ _ ⟨b3_1, rfl, rfl⟩
 refine F.qn rfl rfl rfl rfl (r_assign rfl) ?_
 refine F.nil (Nrm.seq (Tri.seq (Tri.seq (Tri.reg (l := [0]) rfl ?_))))
 refine F.qn rfl rfl rfl rfl (r_assign rfl) ?_
 refine F.nil (Nrm.seq ?_)
 obtain ⟨s0, hE_1, h⟩ := bind_some h
 refine Tri.block ?_
 refine Tri.only [1, 2, 3, 7] rfl ?_
 refine Tri.pick [0] rfl rfl ?_
 refine Tri.rounds (fun n e' C' => ∃ (x7' : Int), spec_l9Filling.l0 k a0_0 a2 n x7' = some s0 ∧ e' = [(1, .int .i64 a1), (2, va2), (3, .pointer (some ⟨b3_1, 0, none⟩)), (7, .int .i64 x7')] ∧ C' = Sep w noM [R.box b3_1 27 [.int .i64 a0_0, va0_1, va0_2]]) k ?_ ?_ ?_
 ·exact ⟨0, hE_1, rfl, rfl⟩
 ·rintro _ _ ⟨_, hE_1, _⟩
  rw [spec_l9Filling.l0.eq_1] at hE_1; cases hE_1
 ·rintro n_1 _ _ ⟨x7, hE_1, rfl, rfl⟩ ih_1
  rw [spec_l9Filling.l0.eq_2] at hE_1
  refine Tri.seq (Tri.seq (Tri.reg (l := [0, 1, 2, 3]) rfl ?_))
  refine F.qn rfl rfl rfl rfl (r_move rfl) ?_
  refine F.qn rfl rfl rfl rfl (r_move rfl) ?_
  refine F.qn rfl rfl rfl rfl (r_len Try.underlying25 rfl hl_va2) ?_
  refine F.qn rfl rfl rfl rfl (r_lss rfl rfl) ?_
  refine F.nil (Nrm.seq (Tri.cond (b := decide (x7 < (a2.length : Int))) rfl (fun g_1 => ?_) (fun g_1 => ?_)))
  ·replace hE_1 := if_tt g_1 hE_1
   refine Tri.skip (Nrm.seq (Tri.seq (Tri.block ?_)))
   refine Tri.seq ?_
   obtain ⟨t16, h16, hE_1⟩ := bind_some hE_1
   obtain ⟨t21, h21, hE_1⟩ := bind_some hE_1
   refine Tri.drawA mixedT Sep.up [(0, true), (1, true), (2, true), (3, true), (4, true), (5, true), (6, true), (7, true), (8, true)] [] (by kernel_rfl) ?_
   refine S.qn rfl rfl rfl rfl (r_move rfl) ?_
   refine S.qn rfl rfl rfl rfl (r_move rfl) ?_
   refine S.qn rfl rfl rfl rfl (r_indexAddrS Try.underlying25 ti3 rfl hl_va2 rfl (rdl_some h16).1 (rdl_some h16).2.1) ?_
   refine S.qn rfl rfl rfl rfl (r_load ta3 rfl (fun w hw => cell_0 (Rd.flat ((fun _ hw => hr_a2.sep hw) w hw) (rdl_some h16).2.2) rfl)) ?_
   refine S.qn rfl rfl rfl rfl (r_fieldAddr tf27_0 rfl) ?_
   refine S.qn rfl rfl rfl rfl (r_load ta3 rfl (fun w hw => cell_1 (box_cells (i := 0) rfl w hw) rfl)) ?_
   refine S.qn rfl rfl rfl rfl (r_sub rfl rfl) ?_
   refine S.qcn rfl rfl rfl rfl (q_callF (xs := _) rfl ok105 rfl rfl (fun w hw => spec_l1In.ok h21 w )) ?_
   refine S.qn rfl rfl rfl rfl (r_not rfl) ?_
   refine S.nil (F.nil (Nrm.seq (Tri.cond (b := !t21) rfl (fun g_2 => ?_) (fun g_2 => ?_))))
   ·replace hE_1 := if_tt g_2 hE_1
    refine Tri.seq (Tri.reg (l := [0]) rfl ?_)
    refine F.qn rfl rfl rfl rfl (r_assign rfl) ?_
    refine F.nil (Nrm.seq (Tri.ret ?_))
    refine Rtn.block ?_
    refine Rtn.then ?_
    refine Rtn.then ?_
    refine Rtn.block ?_
    refine Rtn.then ?_
    cases hE_1
    replace h := Lr_inr h
    cases h
    exact Rtn.body (.tmp rfl .nil) (fun w hw => ⟨rfl, hw.ext⟩)
   ·replace hE_1 := if_ff g_2 hE_1
    refine Tri.skip (Nrm.block ?_)
    refine Nrm.seq (Tri.reg (l := [0, 1, 2]) rfl ?_)
    refine F.qn rfl rfl rfl rfl (r_move rfl) ?_
    refine F.qn rfl rfl rfl rfl (r_add rfl rfl) ?_
    refine F.qn rfl rfl rfl rfl (r_assign rfl) ?_
    refine F.nil (Nrm.round ?_)
    refine Rnd.only [1, 2, 3, 7] rfl ?_
    refine Rnd.pick [0] rfl rfl ?_
    exact ih_1 _ _ ⟨w64 (x7 + 1), hE_1, rfl, rfl⟩
  ·replace hE_1 := if_ff g_1 hE_1
   refine Tri.exit ?_
   refine Exi.then ?_
   refine Exi.then ?_
   refine Exi.same ?_
   cases hE_1
   replace h := Lr_inl h
   refine Nrm.seq (Tri.seq ?_)
   obtain ⟨t26, h26, h⟩ := bind_some h
   refine Tri.reg (l := [0, 1, 2, 3, 4, 5]) rfl ?_
   refine F.qn rfl rfl rfl rfl (r_move rfl) ?_
   refine F.qn rfl rfl rfl rfl (r_len Try.underlying25 rfl hl_va2) ?_
   refine F.qn rfl rfl rfl rfl (r_move rfl) ?_
   refine F.qcn rfl rfl rfl rfl (q_callF (xs := _) rfl ok119 rfl rfl (fun w hw => spec_l2Many.ok h26 w )) ?_
   refine F.qn rfl rfl rfl rfl (r_eql rfl rfl) ?_
   refine F.qn rfl rfl rfl rfl (r_assign rfl) ?_
   refine F.nil (Nrm.seq (Tri.ret ?_))
   cases h
   exact Rtn.body (.tmp rfl .nil) (fun w hw => ⟨rfl, hw.ext⟩)


def spec_l9Good.f (k : Nat) (a0_0 : Int) (a0_1 : List (Int × Int × Int)) (a0_2 : List Int) (a1 : Int) (a2 : List Int) : Option (Bool) := ((spec_l9Ask.f k a0_0 a0_1 a0_2 a1).bind fun t9 => (if t9 = true then (spec_l9Filling.f k a0_0 a0_1 a0_2 a1 a2).bind fun t14 => some t14 else some false)).bind fun y6 => some y6

theorem spec_l9Good.ok {k : Nat}  {a0_0 : Int} {a0_1 : List (Int × Int × Int)} {a0_2 : List Int} {a1 : Int} {a2 : List Int} {r0 : Bool} (h : spec_l9Good.f k a0_0 a0_1 a0_2 a1 a2 = some r0) (w : World) {va0_1 : Value} {va0_2 : Value} {va2 : Value} (hr_a0_1 : Rd w va0_1 a0_1) (hr_a0_2 : Rd w va0_2 a0_2) (hr_a2 : Rd w va2 a2) :
  Calls Try.prog 113 ([.agg ([.int .i64 a0_0, va0_1, va0_2].toArray), .int .i64 a1, va2] : List Value).toArray w (fun e w' => e = .returned (.bool r0) ∧ Ext w w') := by
 unfold spec_l9Good.f at h
 have hl_va0_1 := hr_a0_1.len
 have hl_va0_2 := hr_a0_2.len
 have hl_va2 := hr_a2.len
 refine Calls.of_tri (N := 16) Try.func113 rfl rfl rfl (Sep.nil (M := noM)) ?_
 refine Tri.seq (Tri.reg (l := [0, 1]) rfl ?_)
 refine F.mn rfl rfl rfl rfl (m_boxG rfl rfl) ?_
 rintro _ _ ⟨b3_1, rfl, rfl⟩
 refine F.qn rfl rfl rfl rfl (r_assign rfl) ?_
 refine F.nil (Nrm.seq (Tri.seq ?_))
 obtain ⟨y6, hE_1, h⟩ := bind_some h
 refine Tri.cut (fun e' C' => e' = [(6, .bool y6)] ∧ C' = Sep w noM []) ?_ (fun hj_1 => ?_)
 ·rintro _ _ ⟨rfl, rfl⟩
  refine Nrm.seq (Tri.ret ?_)
  cases h
  exact Rtn.body (.tmp rfl .nil) (fun w hw => ⟨rfl, hw.ext⟩)
 ·obtain ⟨t9, h9, hE_1⟩ := bind_some hE_1
  rcases Bool.eq_false_or_eq_true (t9) with g10 | g10
  ·replace hE_1 := if_tt g10 hE_1
   obtain ⟨t14, h14, hE_1⟩ := bind_some hE_1
   refine Tri.reg (l := [0, 1, 2, 3, 4, 5, 6, 7, 8, 9]) rfl ?_
   refine F.qn rfl rfl rfl rfl (r_loadA ta27 ti27 rfl rfl (fun w hw => (box_cells (i := 0) rfl w hw))) ?_
   refine F.qn rfl rfl rfl rfl (r_move rfl) ?_
   refine F.qcn rfl rfl rfl rfl (q_callF (xs := _) rfl ok117 rfl rfl (fun w hw => spec_l9Ask.ok h9 w ((fun _ hw => hr_a0_1.sep hw) w hw) ((fun _ hw => hr_a0_2.sep hw) w hw))) ?_
   refine F.qn rfl rfl rfl rfl (r_move rfl) ?_
   refine F.qg rfl rfl rfl rfl rfl rfl g10 (r_loadA ta27 ti27 rfl rfl (fun w hw => (box_cells (i := 0) rfl w hw))) ?_
   refine F.qg rfl rfl rfl rfl rfl rfl g10 (r_move rfl) ?_
   refine F.qg rfl rfl rfl rfl rfl rfl g10 (r_move rfl) ?_
   refine F.qc rfl rfl rfl (wg rfl rfl rfl g10) (q_callF (xs := _) rfl ok118 rfl rfl (fun w hw => spec_l9Filling.ok h14 w ((fun _ hw => hr_a0_1.sep hw) w hw) ((fun _ hw => hr_a0_2.sep hw) w hw) ((fun _ hw => hr_a2.sep hw) w hw))) ?_
   refine F.qn rfl rfl rfl rfl (r_pick rfl rfl g10) ?_
   refine F.qn rfl rfl rfl rfl (r_assign rfl) ?_
   refine F.nil ?_
   cases hE_1
   refine Nrm.only [6] rfl ?_
   refine Nrm.pick [] rfl rfl ?_
   exact hj_1 _ _ ⟨rfl, rfl⟩
  ·replace hE_1 := if_ff g10 hE_1
   refine Tri.reg (l := [0, 1, 2, 3, 4, 5, 6, 7, 8, 9]) rfl ?_
   refine F.qn rfl rfl rfl rfl (r_loadA ta27 ti27 rfl rfl (fun w hw => (box_cells (i := 0) rfl w hw))) ?_
   refine F.qn rfl rfl rfl rfl (r_move rfl) ?_
   refine F.qcn rfl rfl rfl rfl (q_callF (xs := _) rfl ok117 rfl rfl (fun w hw => spec_l9Ask.ok h9 w ((fun _ hw => hr_a0_1.sep hw) w hw) ((fun _ hw => hr_a0_2.sep hw) w hw))) ?_
   refine F.qn rfl rfl rfl rfl (r_move rfl) ?_
   iterate 4 refine F.sk rfl rfl rfl (wf rfl rfl rfl g10) ?_
   refine F.qn rfl rfl rfl rfl (r_pickf rfl rfl g10) ?_
   refine F.qn rfl rfl rfl rfl (r_assign rfl) ?_
   refine F.nil ?_
   cases hE_1
   refine Nrm.only [6] rfl ?_
   refine Nrm.pick [] rfl rfl ?_
   exact hj_1 _ _ ⟨rfl, rfl⟩


def spec_LayKeys.f (k : Nat) (a0_0 : Int) (a0_1 : List (Int × Int × Int)) (a0_2 : List Int) (a1 : Int) (a2 : List Int) : Option (Int × (List (Int × Int × Int)) × (List Int) × Bool) := (spec_l9Good.f k a0_0 a0_1 a0_2 a1 a2).bind fun t11 => (if (!t11) = true then some (0, [], [], false) else (spec_l2Colours.f k a1).bind fun t16 => (spec_l9Lay.f k a0_0 a0_1 a0_2 t16 a2).bind fun (t18_1, t18_2, t18_3) => some (t18_1, t18_2, t18_3, true))

theorem spec_LayKeys.ok {k : Nat}  {a0_0 : Int} {a0_1 : List (Int × Int × Int)} {a0_2 : List Int} {a1 : Int} {a2 : List Int} {r0 : Int} {r1 : List (Int × Int × Int)} {r2 : List Int} {r3 : Bool} (h : spec_LayKeys.f k a0_0 a0_1 a0_2 a1 a2 = some (r0, r1, r2, r3)) (w : World) {va0_1 : Value} {va0_2 : Value} {va2 : Value} (hr_a0_1 : Rd w va0_1 a0_1) (hr_a0_2 : Rd w va0_2 a0_2) (hr_a2 : Rd w va2 a2) :
  Calls Try.prog 34 ([.agg ([.int .i64 a0_0, va0_1, va0_2].toArray), .int .i64 a1, va2] : List Value).toArray w (Post (fun u ns => ∃ (ur1 : Value) (Sr1 : Nat → Prop) (ur2 : Value) (Sr2 : Nat → Prop), u = .tuple #[.agg [.int .i64 r0, ur1, ur2].toArray, .bool r3] ∧ SlLen ur1 r1.length ∧ SlLen ur2 r2.length ∧ ns = [R.sl Sr1 ur1 r1, R.sl Sr2 ur2 r2]) w) := by
 unfold spec_LayKeys.f at h
 have hl_va0_1 := hr_a0_1.len
 have hl_va0_2 := hr_a0_2.len
 have hl_va2 := hr_a2.len
 refine Calls.of_tri (N := 19) Try.func34 rfl rfl rfl (Sep.nil (M := noM)) ?_
 refine Tri.seq (Tri.reg (l := [0, 1, 2]) rfl ?_)
 refine F.mn rfl rfl rfl rfl (m_boxG rfl rfl) ?_
 rintro _ _ ⟨b3_1, rfl, rfl⟩
 refine F.mn rfl rfl rfl rfl (m_alloc ti27) ?_
 rintro _ _ ⟨b6_1, rfl, rfl⟩
 refine F.qn rfl rfl rfl rfl (r_assign rfl) ?_
 refine F.nil (Nrm.seq (Tri.seq (Tri.seq ?_)))
 obtain ⟨t11, h11, h⟩ := bind_some h
 refine Tri.reg (l := [0, 1, 2, 3, 4]) rfl ?_
 refine F.qn rfl rfl rfl rfl (r_loadA ta27 ti27 rfl rfl (fun w hw => (box_cells (i := 1) rfl w hw))) ?_
 refine F.qn rfl rfl rfl rfl (r_move rfl) ?_
 refine F.qn rfl rfl rfl rfl (r_move rfl) ?_
 refine F.qcn rfl rfl rfl rfl (q_callF (xs := _) rfl ok113 rfl rfl (fun w hw => spec_l9Good.ok h11 w ((fun _ hw => hr_a0_1.sep hw) w hw) ((fun _ hw => hr_a0_2.sep hw) w hw) ((fun _ hw => hr_a2.sep hw) w hw))) ?_
 refine F.qn rfl rfl rfl rfl (r_not rfl) ?_
 refine F.nil (Nrm.seq (Tri.cond (b := !t11) rfl (fun g_1 => ?_) (fun g_1 => ?_)))
 ·replace h := if_tt g_1 h
  refine Tri.seq (Tri.reg (l := [0, 1, 2]) rfl ?_)
  refine F.qn rfl rfl rfl rfl (r_build (pl := [(0, 1), (1, 1), (2, 1)]) (qs := []) (cs := [.int .i64 0, .slice none 0 0, .slice none 0 0]) (by kernel_rfl) ti27 rfl .nil rfl rfl) ?_
  refine F.ef0 rfl rfl (wanted_none rfl) (d_storeG0 (i := 0) (cs2 := [.int .i64 0, .slice none 0 0, .slice none 0 0]) ti27 rfl rfl rfl rfl rfl (Nat.le_of_ble_eq_true rfl) (lf_cons rfl (lf_cons rfl (lf_cons rfl lf_nil)))) ?_
  rintro _ _ ⟨rfl, rfl⟩
  refine F.qn rfl rfl rfl rfl (r_assign rfl) ?_
  refine F.nil (Nrm.seq (Tri.ret ?_))
  refine Rtn.then ?_
  cases h
  exact Rtn.body (.cell rfl ta27 ti27 rfl (fun _ hw => box_cells (i := 0) rfl _ hw) (.tmp rfl .nil)) (fun w hw => ⟨_, _, rfl, ⟨.slice none 0 0, fun _ => False, .slice none 0 0, fun _ => False, rfl, len_nil, len_nil, rfl⟩, Sep.pick (is := [0, 1]) rfl rfl hw.pushNil.pushNil⟩)
 ·replace h := if_ff g_1 h
  refine Tri.skip (Nrm.seq (Tri.seq ?_))
  obtain ⟨t16, h16, h⟩ := bind_some h
  obtain ⟨⟨t18_1, t18_2, t18_3⟩, h18, h⟩ := bind_some h
  refine Tri.drawA mixedT Sep.up [(0, true), (1, true), (3, true), (2, false), (4, false)] [5, 6] (by kernel_rfl) ?_
  refine S.qn rfl rfl rfl rfl (r_loadA ta27 ti27 rfl rfl (fun w hw => (box_cells (i := 1) rfl w hw))) ?_
  refine S.qn rfl rfl rfl rfl (r_move rfl) ?_
  refine S.qn rfl rfl rfl rfl (r_move rfl) ?_
  refine S.m rfl rfl rfl (wanted_none rfl) (m_callF (xs := _) rfl ok94 rfl rfl (fun w hw => spec_l2Colours.ok h16 w )) ?_
  rintro v16_2 _ ⟨_, ⟨S16_2, hl_v16_2, rfl⟩, rfl⟩
  refine S.m rfl rfl rfl (wanted_none rfl) (m_callF (xs := _) rfl ok114 rfl rfl (fun w hw => spec_l9Lay.ok h18 w ((fun _ hw => hr_a0_1.sep hw) w hw) ((fun _ hw => hr_a0_2.sep hw) w hw) ((rd_sl (i := 0) rfl) w hw) ((fun _ hw => hr_a2.sep hw) w hw))) ?_
  rintro _ _ ⟨_, ⟨v18_3, S18_3, v18_4, S18_4, rfl, hl_v18_3, hl_v18_4, rfl⟩, rfl⟩
  refine S.nil (F.ef0 rfl rfl (wanted_none rfl) (d_storeG0 (i := 3) (cs2 := [.int .i64 t18_1, v18_3, v18_4]) ti27 rfl rfl rfl rfl rfl (Nat.le_of_ble_eq_true rfl) (lf_cons rfl (lf_cons (sl_leaf hl_v18_3) (lf_cons (sl_leaf hl_v18_4) lf_nil)))) ?_)
  rintro _ _ ⟨rfl, rfl⟩
  refine F.qn rfl rfl rfl rfl (r_assign rfl) ?_
  refine F.nil (Nrm.seq (Tri.ret ?_))
  cases h
  exact Rtn.body (.cell rfl ta27 ti27 rfl (fun _ hw => box_cells (i := 3) rfl _ hw) (.tmp rfl .nil)) (fun w hw => ⟨_, _, rfl, ⟨v18_3, S18_3, v18_4, S18_4, rfl, hl_v18_3, hl_v18_4, rfl⟩, Sep.pick (is := [0, 1]) rfl rfl hw⟩)


def spec_l3Rounds.l1 (k : Nat) (a0_2 : List Int) (t20 : List Int) : Nat → Int → Int → Option (Int)
 | 0, _, _ => none
 | n + 1, x8, x9 => (if (decide (x9 < (t20.length : Int))) = true then (rdl t20 x9).bind fun t33 => (rdl a0_2 t33).bind fun t35 => spec_l3Rounds.l1 k a0_2 t20 n (bor x8 t35) (w64 (x9 + 1)) else some x8)

def spec_l3Rounds.l0 (k : Nat) (a0_0 : Int) (a0_1 : List (Int × Int × Int)) (a0_2 : List Int) : Nat → (List (Int)) → Option ((Unit) ⊕ ((List Int)))
 | 0, _ => none
 | n + 1, x5 => (rdl x5 (w64 ((x5.length : Int) - 1))).bind fun t16 => (spec_l2Reach.f k a0_0 a0_1 a0_2 0 t16).bind fun t20 => (spec_l3Rounds.l1 k a0_2 t20 k t16 0).bind fun x8 => (if (x8 == t16) = true then some (Sum.inr x5) else if (x5 ++ ([x8] : List (Int))).length < 1099511627776 then spec_l3Rounds.l0 k a0_0 a0_1 a0_2 n (x5 ++ ([x8] : List (Int))) else none)

def spec_l3Rounds.f (k : Nat) (a0_0 : Int) (a0_1 : List (Int × Int × Int)) (a0_2 : List Int) (a1 : Int) : Option ((List Int)) := (spec_l3Rounds.l0 k a0_0 a0_1 a0_2 k ([a1] : List (Int))).bind fun s => Lr s some fun _ => none

theorem spec_l3Rounds.ok {k : Nat}  {a0_0 : Int} {a0_1 : List (Int × Int × Int)} {a0_2 : List Int} {a1 : Int} {r0 : List Int} (h : spec_l3Rounds.f k a0_0 a0_1 a0_2 a1 = some r0) (w : World) {va0_1 : Value} {va0_2 : Value} (hr_a0_1 : Rd w va0_1 a0_1) (hr_a0_2 : Rd w va0_2 a0_2) :
  Calls Try.prog 208 ([.agg ([.int .i64 a0_0, va0_1, va0_2].toArray), .int .i64 a1] : List Value).toArray w (Post (fun u ns => ∃ (Sr0 : Nat → Prop), SlLen u r0.length ∧ ns = [R.sl Sr0 u r0]) w) := by
 unfold spec_l3Rounds.f at h
 have hl_va0_1 := hr_a0_1.len
 have hl_va0_2 := hr_a0_2.len
 refine Calls.of_tri (N := 46) Try.func208 rfl rfl rfl (Sep.nil (M := noM)) ?_
 refine Tri.seq (Tri.reg (l := [0, 1]) rfl ?_)
 refine F.mn rfl rfl rfl rfl (m_boxG rfl rfl) ?_
 rintro _ _ ⟨b2_1, rfl, rfl⟩
 refine F.qn rfl rfl rfl rfl (r_assign rfl) ?_
 refine F.nil (Nrm.seq (Tri.seq (Tri.reg (l := [0, 1, 2]) rfl ?_)))
 refine F.qn rfl rfl rfl rfl (r_move rfl) ?_
 refine F.mn rfl rfl rfl rfl (m_buildF (l := ([a1] : List (Int))) Try.underlying25 ti3 rfl rfl rfl rfl rfl) ?_
 rintro v11_1 _ ⟨S11_1, hl_v11_1, rfl⟩
 refine F.qn rfl rfl rfl rfl (r_assign rfl) ?_
 refine F.nil (Nrm.seq ?_)
 obtain ⟨s0, hE_1, h⟩ := bind_some h
 refine Tri.block ?_
 refine Tri.only [2, 5] rfl ?_
 refine Tri.pick [1, 0] rfl rfl ?_
 refine Tri.rounds (fun n e' C' => ∃ (x5' : List (Int)) (w5 : Value) (T5 : Nat → Prop), spec_l3Rounds.l0 k a0_0 a0_1 a0_2 n x5' = some s0 ∧ SlLen w5 (x5').length ∧ e' = [(2, .pointer (some ⟨b2_1, 0, none⟩)), (5, w5)] ∧ C' = Sep w noM [R.box b2_1 27 [.int .i64 a0_0, va0_1, va0_2], R.sl T5 w5 (x5' : List (Int))]) k ?_ ?_ ?_
 ·exact ⟨([a1] : List (Int)), v11_1, S11_1, hE_1, hl_v11_1, rfl, rfl⟩
 ·rintro _ _ ⟨_, _, _, hE_1, _⟩
  rw [spec_l3Rounds.l0.eq_1] at hE_1; cases hE_1
 ·rintro n_1 _ _ ⟨x5, w5, T5, hE_1, hl_w5, rfl, rfl⟩ ih_1
  rw [spec_l3Rounds.l0.eq_2] at hE_1
  refine Tri.block ?_
  refine Tri.seq ?_
  obtain ⟨t16, h16, hE_1⟩ := bind_some hE_1
  refine Tri.reg (l := [0, 1, 2, 3, 4, 5, 6]) rfl ?_
  refine F.qn rfl rfl rfl rfl (r_move rfl) ?_
  refine F.qn rfl rfl rfl rfl (r_move rfl) ?_
  refine F.qn rfl rfl rfl rfl (r_len Try.underlying25 rfl hl_w5) ?_
  refine F.qn rfl rfl rfl rfl (r_sub rfl rfl) ?_
  refine F.qn rfl rfl rfl rfl (r_indexAddrS Try.underlying25 ti3 rfl hl_w5 rfl (rdl_some h16).1 (rdl_some h16).2.1) ?_
  refine F.qn rfl rfl rfl rfl (r_load ta3 rfl (fun w hw => cell_0 (Rd.flat ((rd_sl (i := 1) rfl) w hw) (rdl_some h16).2.2) rfl)) ?_
  refine F.qn rfl rfl rfl rfl (r_assign rfl) ?_
  refine F.nil (Nrm.seq (Tri.seq ?_))
  obtain ⟨t20, h20, hE_1⟩ := bind_some hE_1
  refine Tri.reg (l := [0, 1, 2, 3, 4, 5]) rfl ?_
  refine F.qn rfl rfl rfl rfl (r_loadA ta27 ti27 rfl rfl (fun w hw => (box_cells (i := 0) rfl w hw))) ?_
  refine F.qn rfl rfl rfl rfl (r_move rfl) ?_
  refine F.mn rfl rfl rfl rfl (m_callF (xs := _) rfl ok161 rfl rfl (fun w hw => spec_l2Reach.ok h20 w ((fun _ hw => hr_a0_1.sep hw) w hw) ((fun _ hw => hr_a0_2.sep hw) w hw))) ?_
  rintro v20_1 _ ⟨_, ⟨S20_1, hl_v20_1, rfl⟩, rfl⟩
  refine F.qn rfl rfl rfl rfl (r_move rfl) ?_
  refine F.qn rfl rfl rfl rfl (r_assign rfl) ?_
  refine F.qn rfl rfl rfl rfl (r_assign rfl) ?_
  refine F.nil (Nrm.seq (Tri.seq (Tri.seq (Tri.reg (l := [0]) rfl ?_))))
  refine F.qn rfl rfl rfl rfl (r_assign rfl) ?_
  refine F.nil (Nrm.seq ?_)
  obtain ⟨x8, hE_2, hE_1⟩ := bind_some hE_1
  refine Tri.block ?_
  refine Tri.only [2, 5, 6, 7, 8, 9] rfl ?_
  refine Tri.pick [1, 0, 2] rfl rfl ?_
  refine Tri.rounds (fun n e' C' => ∃ (x8' : Int) (x9' : Int), spec_l3Rounds.l1 k a0_2 t20 n x8' x9' = some x8 ∧ e' = [(2, .pointer (some ⟨b2_1, 0, none⟩)), (5, w5), (6, .int .i64 t16), (7, v20_1), (8, .int .i64 x8'), (9, .int .i64 x9')] ∧ C' = Sep w noM [R.box b2_1 27 [.int .i64 a0_0, va0_1, va0_2], R.sl S20_1 v20_1 (t20 : List (Int)), R.sl T5 w5 (x5 : List (Int))]) k ?_ ?_ ?_
  ·exact ⟨t16, 0, hE_2, rfl, rfl⟩
  ·rintro _ _ ⟨_, _, hE_2, _⟩
   rw [spec_l3Rounds.l1.eq_1] at hE_2; cases hE_2
  ·rintro n_2 _ _ ⟨x8, x9, hE_2, rfl, rfl⟩ ih_2
   rw [spec_l3Rounds.l1.eq_2] at hE_2
   refine Tri.seq (Tri.seq (Tri.reg (l := [0, 1, 2, 3]) rfl ?_))
   refine F.qn rfl rfl rfl rfl (r_move rfl) ?_
   refine F.qn rfl rfl rfl rfl (r_move rfl) ?_
   refine F.qn rfl rfl rfl rfl (r_len Try.underlying25 rfl hl_v20_1) ?_
   refine F.qn rfl rfl rfl rfl (r_lss rfl rfl) ?_
   refine F.nil (Nrm.seq (Tri.cond (b := decide (x9 < (t20.length : Int))) rfl (fun g_1 => ?_) (fun g_1 => ?_)))
   ·replace hE_2 := if_tt g_1 hE_2
    refine Tri.skip (Nrm.seq (Tri.seq (Tri.block ?_)))
    obtain ⟨t33, h33, hE_2⟩ := bind_some hE_2
    obtain ⟨t35, h35, hE_2⟩ := bind_some hE_2
    refine Tri.drawA mixedT Sep.up [(0, true), (1, true), (2, true), (3, true), (4, true), (5, true), (6, true), (7, true), (8, true), (9, true), (10, true)] [] (by kernel_rfl) ?_
    refine S.qn rfl rfl rfl rfl (r_move rfl) ?_
    refine S.qn rfl rfl rfl rfl (r_fieldAddr tf27_2 rfl) ?_
    refine S.qn rfl rfl rfl rfl (r_load ta25 rfl (fun w hw => cell_1 (box_cells (i := 0) rfl w hw) rfl)) ?_
    refine S.qn rfl rfl rfl rfl (r_move rfl) ?_
    refine S.qn rfl rfl rfl rfl (r_move rfl) ?_
    refine S.qn rfl rfl rfl rfl (r_indexAddrS Try.underlying25 ti3 rfl hl_v20_1 rfl (rdl_some h33).1 (rdl_some h33).2.1) ?_
    refine S.qn rfl rfl rfl rfl (r_load ta3 rfl (fun w hw => cell_0 (Rd.flat ((rd_sl (i := 1) rfl) w hw) (rdl_some h33).2.2) rfl)) ?_
    refine S.qn rfl rfl rfl rfl (r_indexAddrS Try.underlying25 ti3 rfl hl_va0_2 rfl (rdl_some h35).1 (rdl_some h35).2.1) ?_
    refine S.qn rfl rfl rfl rfl (r_load ta3 rfl (fun w hw => cell_0 (Rd.flat ((fun _ hw => hr_a0_2.sep hw) w hw) (rdl_some h35).2.2) rfl)) ?_
    refine S.qn rfl rfl rfl rfl (r_or rfl rfl) ?_
    refine S.qn rfl rfl rfl rfl (r_assign rfl) ?_
    refine S.nil (F.nil (Nrm.block ?_))
    refine Nrm.seq (Tri.reg (l := [0, 1, 2]) rfl ?_)
    refine F.qn rfl rfl rfl rfl (r_move rfl) ?_
    refine F.qn rfl rfl rfl rfl (r_add rfl rfl) ?_
    refine F.qn rfl rfl rfl rfl (r_assign rfl) ?_
    refine F.nil (Nrm.round ?_)
    refine Rnd.only [2, 5, 6, 7, 8, 9] rfl ?_
    refine Rnd.pick [0, 1, 2] rfl rfl ?_
    exact ih_2 _ _ ⟨bor x8 t35, w64 (x9 + 1), hE_2, rfl, rfl⟩
   ·replace hE_2 := if_ff g_1 hE_2
    refine Tri.exit ?_
    refine Exi.then ?_
    refine Exi.then ?_
    refine Exi.same ?_
    cases hE_2
    refine Nrm.seq (Tri.seq (Tri.seq (Tri.reg (l := [0, 1, 2]) rfl ?_)))
    refine F.qn rfl rfl rfl rfl (r_move rfl) ?_
    refine F.qn rfl rfl rfl rfl (r_move rfl) ?_
    refine F.qn rfl rfl rfl rfl (r_eql rfl rfl) ?_
    refine F.nil (Nrm.seq (Tri.cond (b := x8 == t16) rfl (fun g_2 => ?_) (fun g_2 => ?_)))
    ·replace hE_1 := if_tt g_2 hE_1
     refine Tri.seq (Tri.reg (l := [0, 1]) rfl ?_)
     refine F.qn rfl rfl rfl rfl (r_move rfl) ?_
     refine F.qn rfl rfl rfl rfl (r_assign rfl) ?_
     refine F.nil (Nrm.seq (Tri.ret ?_))
     refine Rtn.then ?_
     refine Rtn.block ?_
     refine Rtn.then ?_
     refine Rtn.block ?_
     cases hE_1
     replace h := Lr_inr h
     cases h
     exact Rtn.body (.tmp rfl .nil) (fun w hw => ⟨_, _, rfl, ⟨T5, hl_w5, rfl⟩, Sep.pick (is := [2]) rfl rfl hw⟩)
    ·replace hE_1 := if_ff g_2 hE_1
     refine Tri.skip (Nrm.seq ?_)
     obtain ⟨hs45, hE_1⟩ := ck hE_1
     refine Tri.reg (l := [0, 1, 2, 3, 4]) rfl ?_
     refine F.qn rfl rfl rfl rfl (r_move rfl) ?_
     refine F.qn rfl rfl rfl rfl (r_move rfl) ?_
     refine F.mn rfl rfl rfl rfl (m_buildF (l := ([x8] : List (Int))) Try.underlying25 ti3 rfl rfl rfl rfl rfl) ?_
     rintro v44_1 _ ⟨S44_1, hl_v44_1, rfl⟩
     refine F.efn rfl rfl rfl rfl (d_append (i := 3) Try.underlying25 Try.underlying25 ti3 rfl (by decide) rfl rfl rfl (rd_sl (i := 0) rfl) hs45) ?_
     rintro v45_1 _ ⟨S45_1, rfl, hl_v45_1⟩
     refine F.qn rfl rfl rfl rfl (r_assign rfl) ?_
     refine F.nil (Nrm.block ?_)
     refine Nrm.round ?_
     refine Rnd.only [2, 5] rfl ?_
     refine Rnd.pick [1, 3] rfl rfl ?_
     exact ih_1 _ _ ⟨x5 ++ ([x8] : List (Int)), v45_1, S45_1, hE_1, hl_v45_1, rfl, rfl⟩


def spec_l3Entered.l1 (k : Nat) (x7 : Int) (t27 : List Int) : Nat → (List (Int)) → Int → Option ((List (Int)))
 | 0, _, _ => none
 | n + 1, x5r, x9 => (if (decide (x9 < (t27.length : Int))) = true then (rdl t27 x9).bind fun t37 => (rdl x5r t37).bind fun t39 => ((if (t39 == 0) = true then (rdl t27 x9).bind fun t45 => (rdl x5r t45).bind fun t49 => some (x5r.set t45.toNat (w64 (x7 + 1))) else some x5r)).bind fun y5r => spec_l3Entered.l1 k x7 t27 n y5r (w64 (x9 + 1)) else some x5r)

def spec_l3Entered.l0 (k : Nat) (a0_0 : Int) (a0_1 : List (Int × Int × Int)) (a0_2 : List Int) (y6 : List (Int)) : Nat → (List (Int)) → Int → Option ((List (Int)))
 | 0, _, _ => none
 | n + 1, x5, x7 => (if (decide (x7 < (y6.length : Int))) = true then (rdl y6 x7).bind fun t25 => (spec_l2Reach.f k a0_0 a0_1 a0_2 0 t25).bind fun t27 => (spec_l3Entered.l1 k x7 t27 k x5 0).bind fun x5r => spec_l3Entered.l0 k a0_0 a0_1 a0_2 y6 n x5r (w64 (x7 + 1)) else some x5)

def spec_l3Entered.f (k : Nat) (a0_0 : Int) (a0_1 : List (Int × Int × Int)) (a0_2 : List Int) (a1 : Int) : Option ((List Int)) := (if 0 ≤ a0_0 ∧ a0_0 < 1099511627776 then (spec_l3Rounds.f k a0_0 a0_1 a0_2 a1).bind fun t15 => some (List.replicate (a0_0).toNat (0 : Int), t15) else none).bind fun (y5, y6) => (spec_l3Entered.l0 k a0_0 a0_1 a0_2 y6 k y5 0).bind fun x5 => some x5

theorem spec_l3Entered.ok {k : Nat}  {a0_0 : Int} {a0_1 : List (Int × Int × Int)} {a0_2 : List Int} {a1 : Int} {r0 : List Int} (h : spec_l3Entered.f k a0_0 a0_1 a0_2 a1 = some r0) (w : World) {va0_1 : Value} {va0_2 : Value} (hr_a0_1 : Rd w va0_1 a0_1) (hr_a0_2 : Rd w va0_2 a0_2) :
  Calls Try.prog 168 ([.agg ([.int .i64 a0_0, va0_1, va0_2].toArray), .int .i64 a1] : List Value).toArray w (Post (fun u ns => ∃ (Sr0 : Nat → Prop), SlLen u r0.length ∧ ns = [R.sl Sr0 u r0]) w) := by
 unfold spec_l3Entered.f at h
 have hl_va0_1 := hr_a0_1.len
 have hl_va0_2 := hr_a0_2.len
 refine Calls.of_tri (N := 51) Try.func168 rfl rfl rfl (Sep.nil (M := noM)) ?_
 refine Tri.seq (Tri.reg (l := [0, 1]) rfl ?_)
 refine F.mn rfl rfl rfl rfl (m_boxG rfl rfl) ?_
 rintro _ _ ⟨b2_1, rfl, rfl⟩
 refine F.qn rfl rfl rfl rfl (r_assign rfl) ?_
 refine F.nil (Nrm.seq (Tri.seq ?_))
 obtain ⟨⟨y5, y6⟩, hE_1, h⟩ := bind_some h
 refine Tri.cut (fun e' C' => ∃ (v5_1 : Value) (S5_1 : Nat → Prop) (v6_1 : Value) (S6_1 : Nat → Prop), SlLen v5_1 (y5).length ∧ SlLen v6_1 (y6).length ∧ e' = [(2, .pointer (some ⟨b2_1, 0, none⟩)), (5, v5_1), (6, v6_1)] ∧ C' = Sep w noM [R.box b2_1 27 [.int .i64 a0_0, va0_1, va0_2], R.sl S5_1 v5_1 (y5 : List (Int)), R.sl S6_1 v6_1 (y6 : List (Int))]) ?_ (fun hj_1 => ?_)
 ·rintro _ _ ⟨v5_1, S5_1, v6_1, S6_1, hl_v5_1, hl_v6_1, rfl, rfl⟩
  refine Nrm.seq (Tri.seq (Tri.seq (Tri.reg (l := [0]) rfl ?_)))
  refine F.qn rfl rfl rfl rfl (r_assign rfl) ?_
  refine F.nil (Nrm.seq ?_)
  obtain ⟨x5, hE_2, h⟩ := bind_some h
  refine Tri.block ?_
  refine Tri.only [2, 5, 6, 7] rfl ?_
  refine Tri.pick [0, 1, 2] rfl rfl ?_
  refine Tri.rounds (fun n e' C' => ∃ (x5' : List (Int)) (x7' : Int) (w5 : Value) (T5 : Nat → Prop), spec_l3Entered.l0 k a0_0 a0_1 a0_2 y6 n x5' x7' = some x5 ∧ SlLen w5 (x5').length ∧ e' = [(2, .pointer (some ⟨b2_1, 0, none⟩)), (5, w5), (6, v6_1), (7, .int .i64 x7')] ∧ C' = Sep w noM [R.box b2_1 27 [.int .i64 a0_0, va0_1, va0_2], R.sl T5 w5 (x5' : List (Int)), R.sl S6_1 v6_1 (y6 : List (Int))]) k ?_ ?_ ?_
  ·exact ⟨y5, 0, v5_1, S5_1, hE_2, hl_v5_1, rfl, rfl⟩
  ·rintro _ _ ⟨_, _, _, _, hE_2, _⟩
   rw [spec_l3Entered.l0.eq_1] at hE_2; cases hE_2
  ·rintro n_1 _ _ ⟨x5, x7, w5, T5, hE_2, hl_w5, rfl, rfl⟩ ih_1
   rw [spec_l3Entered.l0.eq_2] at hE_2
   refine Tri.seq (Tri.seq (Tri.reg (l := [0, 1, 2, 3]) rfl ?_))
   refine F.qn rfl rfl rfl rfl (r_move rfl) ?_
   refine F.qn rfl rfl rfl rfl (r_move rfl) ?_
   refine F.qn rfl rfl rfl rfl (r_len Try.underlying25 rfl hl_v6_1) ?_
   refine F.qn rfl rfl rfl rfl (r_lss rfl rfl) ?_
   refine F.nil (Nrm.seq (Tri.cond (b := decide (x7 < (y6.length : Int))) rfl (fun g_1 => ?_) (fun g_1 => ?_)))
   ·replace hE_2 := if_tt g_1 hE_2
    refine Tri.skip (Nrm.seq (Tri.seq (Tri.block ?_)))
    refine Tri.seq ?_
    obtain ⟨t25, h25, hE_2⟩ := bind_some hE_2
    obtain ⟨t27, h27, hE_2⟩ := bind_some hE_2
    refine Tri.drawA mixedT Sep.up [(0, true), (1, true), (2, true), (3, true), (4, true), (5, false), (6, true)] [] (by kernel_rfl) ?_
    refine S.qn rfl rfl rfl rfl (r_loadA ta27 ti27 rfl rfl (fun w hw => (box_cells (i := 0) rfl w hw))) ?_
    refine S.qn rfl rfl rfl rfl (r_move rfl) ?_
    refine S.qn rfl rfl rfl rfl (r_move rfl) ?_
    refine S.qn rfl rfl rfl rfl (r_indexAddrS Try.underlying25 ti3 rfl hl_v6_1 rfl (rdl_some h25).1 (rdl_some h25).2.1) ?_
    refine S.qn rfl rfl rfl rfl (r_load ta3 rfl (fun w hw => cell_0 (Rd.flat ((rd_sl (i := 2) rfl) w hw) (rdl_some h25).2.2) rfl)) ?_
    refine S.m rfl rfl rfl (wanted_none rfl) (m_callF (xs := _) rfl ok161 rfl rfl (fun w hw => spec_l2Reach.ok h27 w ((fun _ hw => hr_a0_1.sep hw) w hw) ((fun _ hw => hr_a0_2.sep hw) w hw))) ?_
    rintro v27_2 _ ⟨_, ⟨S27_2, hl_v27_2, rfl⟩, rfl⟩
    refine S.qn rfl rfl rfl rfl (r_assign rfl) ?_
    refine S.nil (F.nil (Nrm.seq (Tri.seq (Tri.reg (l := [0]) rfl ?_))))
    refine F.qn rfl rfl rfl rfl (r_assign rfl) ?_
    refine F.nil (Nrm.seq ?_)
    obtain ⟨x5r, hE_3, hE_2⟩ := bind_some hE_2
    refine Tri.block ?_
    refine Tri.only [2, 5, 6, 7, 8, 9] rfl ?_
    refine Tri.pick [1, 0, 2, 3] rfl rfl ?_
    refine Tri.rounds (fun n e' C' => ∃ (x5r' : List (Int)) (x9' : Int) (w5r : Value) (T5r : Nat → Prop), spec_l3Entered.l1 k x7 t27 n x5r' x9' = some x5r ∧ SlLen w5r (x5r').length ∧ e' = [(2, .pointer (some ⟨b2_1, 0, none⟩)), (5, w5r), (6, v6_1), (7, .int .i64 x7), (8, v27_2), (9, .int .i64 x9')] ∧ C' = Sep w noM [R.box b2_1 27 [.int .i64 a0_0, va0_1, va0_2], R.sl S27_2 v27_2 (t27 : List (Int)), R.sl T5r w5r (x5r' : List (Int)), R.sl S6_1 v6_1 (y6 : List (Int))]) k ?_ ?_ ?_
    ·exact ⟨x5, 0, w5, T5, hE_3, hl_w5, rfl, rfl⟩
    ·rintro _ _ ⟨_, _, _, _, hE_3, _⟩
     rw [spec_l3Entered.l1.eq_1] at hE_3; cases hE_3
    ·rintro n_2 _ _ ⟨x5r, x9, w5r, T5r, hE_3, hl_w5r, rfl, rfl⟩ ih_2
     rw [spec_l3Entered.l1.eq_2] at hE_3
     refine Tri.seq (Tri.seq (Tri.reg (l := [0, 1, 2, 3]) rfl ?_))
     refine F.qn rfl rfl rfl rfl (r_move rfl) ?_
     refine F.qn rfl rfl rfl rfl (r_move rfl) ?_
     refine F.qn rfl rfl rfl rfl (r_len Try.underlying25 rfl hl_v27_2) ?_
     refine F.qn rfl rfl rfl rfl (r_lss rfl rfl) ?_
     refine F.nil (Nrm.seq (Tri.cond (b := decide (x9 < (t27.length : Int))) rfl (fun g_2 => ?_) (fun g_2 => ?_)))
     ·replace hE_3 := if_tt g_2 hE_3
      refine Tri.skip (Nrm.seq (Tri.seq (Tri.block ?_)))
      refine Tri.seq ?_
      obtain ⟨t37, h37, hE_3⟩ := bind_some hE_3
      obtain ⟨t39, h39, hE_3⟩ := bind_some hE_3
      refine Tri.reg (l := [0, 1, 2, 3, 4, 5, 6, 7]) rfl ?_
      iterate 3 refine F.qn rfl rfl rfl rfl (r_move rfl) ?_
      refine F.qn rfl rfl rfl rfl (r_indexAddrS Try.underlying25 ti3 rfl hl_v27_2 rfl (rdl_some h37).1 (rdl_some h37).2.1) ?_
      refine F.qn rfl rfl rfl rfl (r_load ta3 rfl (fun w hw => cell_0 (Rd.flat ((rd_sl (i := 1) rfl) w hw) (rdl_some h37).2.2) rfl)) ?_
      refine F.qn rfl rfl rfl rfl (r_indexAddrS Try.underlying25 ti3 rfl hl_w5r rfl (rdl_some h39).1 (rdl_some h39).2.1) ?_
      refine F.qn rfl rfl rfl rfl (r_load ta3 rfl (fun w hw => cell_0 (Rd.flat ((rd_sl (i := 2) rfl) w hw) (rdl_some h39).2.2) rfl)) ?_
      refine F.qn rfl rfl rfl rfl (r_eql rfl rfl) ?_
      refine F.nil (Nrm.seq ?_)
      obtain ⟨y5r, hE_4, hE_3⟩ := bind_some hE_3
      refine Tri.cut (fun e' C' => ∃ (v5_2 : Value) (S5_2 : Nat → Prop), SlLen v5_2 (y5r).length ∧ e' = [(2, .pointer (some ⟨b2_1, 0, none⟩)), (5, v5_2), (6, v6_1), (7, .int .i64 x7), (8, v27_2), (9, .int .i64 x9)] ∧ C' = Sep w noM [R.box b2_1 27 [.int .i64 a0_0, va0_1, va0_2], R.sl S5_2 v5_2 (y5r : List (Int)), R.sl S27_2 v27_2 (t27 : List (Int)), R.sl S6_1 v6_1 (y6 : List (Int))]) ?_ (fun hj_2 => ?_)
      ·rintro _ _ ⟨v5_2, S5_2, hl_v5_2, rfl, rfl⟩
       refine Nrm.block ?_
       refine Nrm.seq (Tri.reg (l := [0, 1, 2]) rfl ?_)
       refine F.qn rfl rfl rfl rfl (r_move rfl) ?_
       refine F.qn rfl rfl rfl rfl (r_add rfl rfl) ?_
       refine F.qn rfl rfl rfl rfl (r_assign rfl) ?_
       refine F.nil (Nrm.round ?_)
       refine Rnd.only [2, 5, 6, 7, 8, 9] rfl ?_
       refine Rnd.pick [0, 2, 1, 3] rfl rfl ?_
       exact ih_2 _ _ ⟨y5r, w64 (x9 + 1), v5_2, S5_2, hE_3, hl_v5_2, rfl, rfl⟩
      ·refine Tri.cond (b := t39 == 0) rfl (fun g_3 => ?_) (fun g_3 => ?_)
       ·replace hE_4 := if_tt g_3 hE_4
        obtain ⟨t45, h45, hE_4⟩ := bind_some hE_4
        obtain ⟨t49, h49, hE_4⟩ := bind_some hE_4
        refine Tri.reg (l := [0, 1, 2, 3, 4, 5, 6, 7, 8]) rfl ?_
        iterate 3 refine F.qn rfl rfl rfl rfl (r_move rfl) ?_
        refine F.qn rfl rfl rfl rfl (r_indexAddrS Try.underlying25 ti3 rfl hl_v27_2 rfl (rdl_some h45).1 (rdl_some h45).2.1) ?_
        refine F.qn rfl rfl rfl rfl (r_load ta3 rfl (fun w hw => cell_0 (Rd.flat ((rd_sl (i := 1) rfl) w hw) (rdl_some h45).2.2) rfl)) ?_
        refine F.qn rfl rfl rfl rfl (r_move rfl) ?_
        refine F.qn rfl rfl rfl rfl (r_add rfl rfl) ?_
        refine F.qn rfl rfl rfl rfl (r_indexAddrS Try.underlying25 ti3 rfl hl_w5r rfl (rdl_some h49).1 (rdl_some h49).2.1) ?_
        refine F.ef0 rfl rfl (wanted_none rfl) (d_storeE (i := 2) (x1 := w64 (x7 + 1)) ti3 rfl rfl rfl (rdl_some h49) rfl) ?_
        rintro _ _ ⟨rfl, rfl⟩
        refine F.nil ?_
        cases hE_4
        refine Nrm.only [2, 5, 6, 7, 8, 9] rfl ?_
        refine Nrm.pick [0, 2, 1, 3] rfl rfl ?_
        exact hj_2 _ _ ⟨w5r, T5r, (len_set hl_w5r), rfl, rfl⟩
       ·replace hE_4 := if_ff g_3 hE_4
        refine Tri.skip ?_
        cases hE_4
        refine Nrm.only [2, 5, 6, 7, 8, 9] rfl ?_
        refine Nrm.pick [0, 2, 1, 3] rfl rfl ?_
        exact hj_2 _ _ ⟨w5r, T5r, hl_w5r, rfl, rfl⟩
     ·replace hE_3 := if_ff g_2 hE_3
      refine Tri.exit ?_
      refine Exi.then ?_
      refine Exi.then ?_
      refine Exi.same ?_
      cases hE_3
      refine Nrm.block ?_
      refine Nrm.seq (Tri.reg (l := [0, 1, 2]) rfl ?_)
      refine F.qn rfl rfl rfl rfl (r_move rfl) ?_
      refine F.qn rfl rfl rfl rfl (r_add rfl rfl) ?_
      refine F.qn rfl rfl rfl rfl (r_assign rfl) ?_
      refine F.nil (Nrm.round ?_)
      refine Rnd.only [2, 5, 6, 7] rfl ?_
      refine Rnd.pick [0, 2, 3] rfl rfl ?_
      exact ih_1 _ _ ⟨x5r, w64 (x7 + 1), w5r, T5r, hE_2, hl_w5r, rfl, rfl⟩
   ·replace hE_2 := if_ff g_1 hE_2
    refine Tri.exit ?_
    refine Exi.then ?_
    refine Exi.then ?_
    refine Exi.same ?_
    cases hE_2
    refine Nrm.seq (Tri.seq (Tri.reg (l := [0, 1]) rfl ?_))
    refine F.qn rfl rfl rfl rfl (r_move rfl) ?_
    refine F.qn rfl rfl rfl rfl (r_assign rfl) ?_
    refine F.nil (Nrm.seq (Tri.ret ?_))
    cases h
    exact Rtn.body (.tmp rfl .nil) (fun w hw => ⟨_, _, rfl, ⟨T5, hl_w5, rfl⟩, Sep.pick (is := [1]) rfl rfl hw⟩)
 ·obtain ⟨hm12, hE_1⟩ := ck hE_1
  obtain ⟨t15, h15, hE_1⟩ := bind_some hE_1
  refine Tri.drawT mixedT Sep.up [0, 1, 3, 4, 2, 5] [6, 7] (.q 0 (.q 1 (.q 3 (.q 4 (.alt 2 (.alt 5 .nil .stop) (.alt 5 (.alt 2 .nil .stop) .stop)))))) (by kernel_rfl) ?_
  refine T.q rfl rfl rfl (wanted_none rfl) (r_fieldAddr tf27_0 rfl) ?_
  refine T.q rfl rfl rfl (wanted_none rfl) (r_load ta3 rfl (fun w hw => cell_1 (box_cells (i := 0) rfl w hw) rfl)) ?_
  refine T.q rfl rfl rfl (wanted_none rfl) (r_loadA ta27 ti27 rfl rfl (fun w hw => (box_cells (i := 0) rfl w hw))) ?_
  refine T.q rfl rfl rfl (wanted_none rfl) (r_move rfl) ?_
  refine T.ef rfl rfl rfl (wanted_none rfl) (Makes.does (m_make (x0 := (0 : Int)) Try.underlying25 ti3 rfl rfl rfl hm12.1 hm12.2 (by decide))) (by rintro v12_2 _ ⟨S12_2, hl_v12_2, rfl⟩; exact upd rfl [1] rfl rfl) ?_ ?_
  ·rintro v12_2 _ ⟨S12_2, hl_v12_2, rfl⟩
   refine T.ef rfl rfl rfl (wanted_none rfl) (Makes.does (m_callF (xs := _) rfl ok208 rfl rfl (fun w hw => spec_l3Rounds.ok h15 w ((fun _ hw => hr_a0_1.sep hw) w hw) ((fun _ hw => hr_a0_2.sep hw) w hw)))) (by rintro v15_2 _ ⟨_, ⟨S15_2, hl_v15_2, rfl⟩, rfl⟩; exact upd rfl [2] rfl rfl) ?_ ?_
   ·rintro v15_2 _ ⟨_, ⟨S15_2, hl_v15_2, rfl⟩, rfl⟩
    refine T.nil ?_
    refine F.qn rfl rfl rfl rfl (r_assign rfl) ?_
    refine F.qn rfl rfl rfl rfl (r_assign rfl) ?_
    refine F.nil ?_
    cases hE_1
    refine Nrm.only [2, 5, 6] rfl ?_
    refine Nrm.pick [2, 1, 0] rfl rfl ?_
    exact hj_1 _ _ ⟨v12_2, S12_2, v15_2, S15_2, hl_v12_2, hl_v15_2, rfl, rfl⟩
   exact T.stop
  ·refine T.ef rfl rfl rfl (wanted_none rfl) (Makes.does (m_callF (xs := _) rfl ok208 rfl rfl (fun w hw => spec_l3Rounds.ok h15 w ((fun _ hw => hr_a0_1.sep hw) w hw) ((fun _ hw => hr_a0_2.sep hw) w hw)))) (by rintro v15_3 _ ⟨_, ⟨S15_3, hl_v15_3, rfl⟩, rfl⟩; exact upd rfl [1] rfl rfl) ?_ ?_
   ·rintro v15_3 _ ⟨_, ⟨S15_3, hl_v15_3, rfl⟩, rfl⟩
    refine T.ef rfl rfl rfl (wanted_none rfl) (Makes.does (m_make (x0 := (0 : Int)) Try.underlying25 ti3 rfl rfl rfl hm12.1 hm12.2 (by decide))) (by rintro v12_3 _ ⟨S12_3, hl_v12_3, rfl⟩; exact upd rfl [2] rfl rfl) ?_ ?_
    ·rintro v12_3 _ ⟨S12_3, hl_v12_3, rfl⟩
     refine T.nil ?_
     refine F.qn rfl rfl rfl rfl (r_assign rfl) ?_
     refine F.qn rfl rfl rfl rfl (r_assign rfl) ?_
     refine F.nil ?_
     cases hE_1
     refine Nrm.only [2, 5, 6] rfl ?_
     refine Nrm.pick [2, 0, 1] rfl rfl ?_
     exact hj_1 _ _ ⟨v12_3, S12_3, v15_3, S15_3, hl_v12_3, hl_v15_3, rfl, rfl⟩
    exact T.stop
   exact T.stop


def spec_l9Depth.f (k : Nat) (a0_0 : Int) (a0_1 : List (Int × Int × Int)) (a0_2 : List Int) (a1 : Int) (a2 : List Int) : Option (Int) := (spec_l2Colours.f k a1).bind fun t9 => (spec_l9Lay.f k a0_0 a0_1 a0_2 t9 a2).bind fun (t11_1, t11_2, t11_3) => (spec_l3Entered.f k t11_1 t11_2 t11_3 0).bind fun t12 => (rdl t12 (w64 (a0_0 - 1))).bind fun t16 => some t16

theorem spec_l9Depth.ok {k : Nat}  {a0_0 : Int} {a0_1 : List (Int × Int × Int)} {a0_2 : List Int} {a1 : Int} {a2 : List Int} {r0 : Int} (h : spec_l9Depth.f k a0_0 a0_1 a0_2 a1 a2 = some r0) (w : World) {va0_1 : Value} {va0_2 : Value} {va2 : Value} (hr_a0_1 : Rd w va0_1 a0_1) (hr_a0_2 : Rd w va0_2 a0_2) (hr_a2 : Rd w va2 a2) :
  Calls Try.prog 91 ([.agg ([.int .i64 a0_0, va0_1, va0_2].toArray), .int .i64 a1, va2] : List Value).toArray w (fun e w' => e = .returned (.int .i64 r0) ∧ Ext w w') := by
 unfold spec_l9Depth.f at h
 have hl_va0_1 := hr_a0_1.len
 have hl_va0_2 := hr_a0_2.len
 have hl_va2 := hr_a2.len
 refine Calls.of_tri (N := 18) Try.func91 rfl rfl rfl (Sep.nil (M := noM)) ?_
 refine Tri.seq (Tri.reg (l := [0, 1]) rfl ?_)
 refine F.mn rfl rfl rfl rfl (m_boxG rfl rfl) ?_
 rintro _ _ ⟨b3_1, rfl, rfl⟩
 refine F.qn rfl rfl rfl rfl (r_assign rfl) ?_
 refine F.nil (Nrm.seq (Tri.seq ?_))
 obtain ⟨t9, h9, h⟩ := bind_some h
 obtain ⟨⟨t11_1, t11_2, t11_3⟩, h11, h⟩ := bind_some h
 obtain ⟨t12, h12, h⟩ := bind_some h
 obtain ⟨t16, h16, h⟩ := bind_some h
 refine Tri.drawA mixedT Sep.up [(0, true), (1, true), (3, true), (6, true), (7, true), (8, true), (2, false), (4, false), (5, false), (9, true), (10, true), (11, true)] [] (by kernel_rfl) ?_
 refine S.qn rfl rfl rfl rfl (r_loadA ta27 ti27 rfl rfl (fun w hw => (box_cells (i := 0) rfl w hw))) ?_
 refine S.qn rfl rfl rfl rfl (r_move rfl) ?_
 refine S.qn rfl rfl rfl rfl (r_move rfl) ?_
 refine S.qn rfl rfl rfl rfl (r_fieldAddr tf27_0 rfl) ?_
 refine S.qn rfl rfl rfl rfl (r_load ta3 rfl (fun w hw => cell_1 (box_cells (i := 0) rfl w hw) rfl)) ?_
 refine S.qn rfl rfl rfl rfl (r_sub rfl rfl) ?_
 refine S.m rfl rfl rfl (wanted_none rfl) (m_callF (xs := _) rfl ok94 rfl rfl (fun w hw => spec_l2Colours.ok h9 w )) ?_
 rintro v9_2 _ ⟨_, ⟨S9_2, hl_v9_2, rfl⟩, rfl⟩
 refine S.m rfl rfl rfl (wanted_none rfl) (m_callF (xs := _) rfl ok114 rfl rfl (fun w hw => spec_l9Lay.ok h11 w ((fun _ hw => hr_a0_1.sep hw) w hw) ((fun _ hw => hr_a0_2.sep hw) w hw) ((rd_sl (i := 0) rfl) w hw) ((fun _ hw => hr_a2.sep hw) w hw))) ?_
 rintro _ _ ⟨_, ⟨v11_3, S11_3, v11_4, S11_4, rfl, hl_v11_3, hl_v11_4, rfl⟩, rfl⟩
 refine S.m rfl rfl rfl (wanted_none rfl) (m_callF (xs := _) rfl ok168 rfl rfl (fun w hw => spec_l3Entered.ok h12 w ((rd_sl (i := 0) rfl) w hw) ((rd_sl (i := 1) rfl) w hw))) ?_
 rintro v12_2 _ ⟨_, ⟨S12_2, hl_v12_2, rfl⟩, rfl⟩
 refine S.qn rfl rfl rfl rfl (r_indexAddrS Try.underlying25 ti3 rfl hl_v12_2 rfl (rdl_some h16).1 (rdl_some h16).2.1) ?_
 refine S.qn rfl rfl rfl rfl (r_load ta3 rfl (fun w hw => cell_0 (Rd.flat ((rd_sl (i := 0) rfl) w hw) (rdl_some h16).2.2) rfl)) ?_
 refine S.qn rfl rfl rfl rfl (r_assign rfl) ?_
 refine S.nil (F.nil (Nrm.seq (Tri.ret ?_)))
 cases h
 exact Rtn.body (.tmp rfl .nil) (fun w hw => ⟨rfl, hw.ext⟩)


def spec_FillingWins.f (k : Nat) (a0_0 : Int) (a0_1 : List (Int × Int × Int)) (a0_2 : List Int) (a1 : Int) (a2 : List Int) : Option (Bool × Bool) := (spec_l9Good.f k a0_0 a0_1 a0_2 a1 a2).bind fun t11 => (if (!t11) = true then some (false, false) else (spec_l9Depth.f k a0_0 a0_1 a0_2 a1 a2).bind fun t16 => some (decide (t16 > 0), true))

theorem spec_FillingWins.ok {k : Nat}  {a0_0 : Int} {a0_1 : List (Int × Int × Int)} {a0_2 : List Int} {a1 : Int} {a2 : List Int} {r0 : Bool} {r1 : Bool} (h : spec_FillingWins.f k a0_0 a0_1 a0_2 a1 a2 = some (r0, r1)) (w : World) {va0_1 : Value} {va0_2 : Value} {va2 : Value} (hr_a0_1 : Rd w va0_1 a0_1) (hr_a0_2 : Rd w va0_2 a0_2) (hr_a2 : Rd w va2 a2) :
  Calls Try.prog 35 ([.agg ([.int .i64 a0_0, va0_1, va0_2].toArray), .int .i64 a1, va2] : List Value).toArray w (fun e w' => e = .returned (.tuple #[.bool r0, .bool r1]) ∧ Ext w w') := by
 unfold spec_FillingWins.f at h
 have hl_va0_1 := hr_a0_1.len
 have hl_va0_2 := hr_a0_2.len
 have hl_va2 := hr_a2.len
 refine Calls.of_tri (N := 18) Try.func35 rfl rfl rfl (Sep.nil (M := noM)) ?_
 refine Tri.seq (Tri.reg (l := [0, 1, 2]) rfl ?_)
 refine F.mn rfl rfl rfl rfl (m_boxG rfl rfl) ?_
 rintro _ _ ⟨b3_1, rfl, rfl⟩
 refine F.qn rfl rfl rfl rfl (r_assign rfl) ?_
 refine F.qn rfl rfl rfl rfl (r_assign rfl) ?_
 refine F.nil (Nrm.seq (Tri.seq (Tri.seq ?_)))
 obtain ⟨t11, h11, h⟩ := bind_some h
 refine Tri.reg (l := [0, 1, 2, 3, 4]) rfl ?_
 refine F.qn rfl rfl rfl rfl (r_loadA ta27 ti27 rfl rfl (fun w hw => (box_cells (i := 0) rfl w hw))) ?_
 refine F.qn rfl rfl rfl rfl (r_move rfl) ?_
 refine F.qn rfl rfl rfl rfl (r_move rfl) ?_
 refine F.qcn rfl rfl rfl rfl (q_callF (xs := _) rfl ok113 rfl rfl (fun w hw => spec_l9Good.ok h11 w ((fun _ hw => hr_a0_1.sep hw) w hw) ((fun _ hw => hr_a0_2.sep hw) w hw) ((fun _ hw => hr_a2.sep hw) w hw))) ?_
 refine F.qn rfl rfl rfl rfl (r_not rfl) ?_
 refine F.nil (Nrm.seq (Tri.cond (b := !t11) rfl (fun g_1 => ?_) (fun g_1 => ?_)))
 ·replace h := if_tt g_1 h
  refine Tri.seq (Tri.reg (l := [0, 1]) rfl ?_)
  refine F.qn rfl rfl rfl rfl (r_assign rfl) ?_
  refine F.qn rfl rfl rfl rfl (r_assign rfl) ?_
  refine F.nil (Nrm.seq (Tri.ret ?_))
  refine Rtn.then ?_
  cases h
  exact Rtn.body (.tmp rfl (.tmp rfl .nil)) (fun w hw => ⟨rfl, hw.ext⟩)
 ·replace h := if_ff g_1 h
  refine Tri.skip (Nrm.seq (Tri.seq ?_))
  obtain ⟨t16, h16, h⟩ := bind_some h
  refine Tri.reg (l := [0, 1, 2, 3, 4, 5, 6]) rfl ?_
  refine F.qn rfl rfl rfl rfl (r_loadA ta27 ti27 rfl rfl (fun w hw => (box_cells (i := 0) rfl w hw))) ?_
  refine F.qn rfl rfl rfl rfl (r_move rfl) ?_
  refine F.qn rfl rfl rfl rfl (r_move rfl) ?_
  refine F.qcn rfl rfl rfl rfl (q_callF (xs := _) rfl ok91 rfl rfl (fun w hw => spec_l9Depth.ok h16 w ((fun _ hw => hr_a0_1.sep hw) w hw) ((fun _ hw => hr_a0_2.sep hw) w hw) ((fun _ hw => hr_a2.sep hw) w hw))) ?_
  refine F.qn rfl rfl rfl rfl (r_gtr rfl rfl) ?_
  refine F.qn rfl rfl rfl rfl (r_assign rfl) ?_
  refine F.qn rfl rfl rfl rfl (r_assign rfl) ?_
  refine F.nil (Nrm.seq (Tri.ret ?_))
  cases h
  exact Rtn.body (.tmp rfl (.tmp rfl .nil)) (fun w hw => ⟨rfl, hw.ext⟩)


def spec_FillingDepth.f (k : Nat) (a0_0 : Int) (a0_1 : List (Int × Int × Int)) (a0_2 : List Int) (a1 : Int) (a2 : List Int) : Option (Int × Bool) := ((spec_l9Good.f k a0_0 a0_1 a0_2 a1 a2).bind fun t11 => (if (!t11) = true then some true else (spec_l9Depth.f k a0_0 a0_1 a0_2 a1 a2).bind fun t17 => some (t17 == 0))).bind fun y19 => (if y19 = true then some (0, false) else (spec_l9Depth.f k a0_0 a0_1 a0_2 a1 a2).bind fun t23 => some (t23, true))

theorem spec_FillingDepth.ok {k : Nat}  {a0_0 : Int} {a0_1 : List (Int × Int × Int)} {a0_2 : List Int} {a1 : Int} {a2 : List Int} {r0 : Int} {r1 : Bool} (h : spec_FillingDepth.f k a0_0 a0_1 a0_2 a1 a2 = some (r0, r1)) (w : World) {va0_1 : Value} {va0_2 : Value} {va2 : Value} (hr_a0_1 : Rd w va0_1 a0_1) (hr_a0_2 : Rd w va0_2 a0_2) (hr_a2 : Rd w va2 a2) :
  Calls Try.prog 36 ([.agg ([.int .i64 a0_0, va0_1, va0_2].toArray), .int .i64 a1, va2] : List Value).toArray w (fun e w' => e = .returned (.tuple #[.int .i64 r0, .bool r1]) ∧ Ext w w') := by
 unfold spec_FillingDepth.f at h
 have hl_va0_1 := hr_a0_1.len
 have hl_va0_2 := hr_a0_2.len
 have hl_va2 := hr_a2.len
 refine Calls.of_tri (N := 24) Try.func36 rfl rfl rfl (Sep.nil (M := noM)) ?_
 refine Tri.seq (Tri.reg (l := [0, 1, 2]) rfl ?_)
 refine F.mn rfl rfl rfl rfl (m_boxG rfl rfl) ?_
 rintro _ _ ⟨b3_1, rfl, rfl⟩
 refine F.qn rfl rfl rfl rfl (r_assign rfl) ?_
 refine F.qn rfl rfl rfl rfl (r_assign rfl) ?_
 refine F.nil (Nrm.seq (Tri.seq (Tri.seq ?_)))
 obtain ⟨y19, hE_1, h⟩ := bind_some h
 refine Tri.cut (fun e' C' => e' = [(1, .int .i64 a1), (2, va2), (3, .pointer (some ⟨b3_1, 0, none⟩)), (19, .bool y19)] ∧ C' = Sep w noM [R.box b3_1 27 [.int .i64 a0_0, va0_1, va0_2]]) ?_ (fun hj_1 => ?_)
 ·rintro _ _ ⟨rfl, rfl⟩
  refine Nrm.seq (Tri.cond (b := y19) rfl (fun g_1 => ?_) (fun g_1 => ?_))
  ·replace h := if_tt g_1 h
   refine Tri.seq (Tri.reg (l := [0, 1]) rfl ?_)
   refine F.qn rfl rfl rfl rfl (r_assign rfl) ?_
   refine F.qn rfl rfl rfl rfl (r_assign rfl) ?_
   refine F.nil (Nrm.seq (Tri.ret ?_))
   refine Rtn.then ?_
   cases h
   exact Rtn.body (.tmp rfl (.tmp rfl .nil)) (fun w hw => ⟨rfl, hw.ext⟩)
  ·replace h := if_ff g_1 h
   refine Tri.skip (Nrm.seq (Tri.seq ?_))
   obtain ⟨t23, h23, h⟩ := bind_some h
   refine Tri.reg (l := [0, 1, 2, 3, 4, 5]) rfl ?_
   refine F.qn rfl rfl rfl rfl (r_loadA ta27 ti27 rfl rfl (fun w hw => (box_cells (i := 0) rfl w hw))) ?_
   refine F.qn rfl rfl rfl rfl (r_move rfl) ?_
   refine F.qn rfl rfl rfl rfl (r_move rfl) ?_
   refine F.qcn rfl rfl rfl rfl (q_callF (xs := _) rfl ok91 rfl rfl (fun w hw => spec_l9Depth.ok h23 w ((fun _ hw => hr_a0_1.sep hw) w hw) ((fun _ hw => hr_a0_2.sep hw) w hw) ((fun _ hw => hr_a2.sep hw) w hw))) ?_
   refine F.qn rfl rfl rfl rfl (r_assign rfl) ?_
   refine F.qn rfl rfl rfl rfl (r_assign rfl) ?_
   refine F.nil (Nrm.seq (Tri.ret ?_))
   cases h
   exact Rtn.body (.tmp rfl (.tmp rfl .nil)) (fun w hw => ⟨rfl, hw.ext⟩)
 ·obtain ⟨t11, h11, hE_1⟩ := bind_some hE_1
  rcases Bool.eq_false_or_eq_true (!t11) with g13 | g13
  ·replace hE_1 := if_tt g13 hE_1
   refine Tri.reg (l := List.range 12) rfl ?_
   refine F.qn rfl rfl rfl rfl (r_loadA ta27 ti27 rfl rfl (fun w hw => (box_cells (i := 0) rfl w hw))) ?_
   refine F.qn rfl rfl rfl rfl (r_move rfl) ?_
   refine F.qn rfl rfl rfl rfl (r_move rfl) ?_
   refine F.qcn rfl rfl rfl rfl (q_callF (xs := _) rfl ok113 rfl rfl (fun w hw => spec_l9Good.ok h11 w ((fun _ hw => hr_a0_1.sep hw) w hw) ((fun _ hw => hr_a0_2.sep hw) w hw) ((fun _ hw => hr_a2.sep hw) w hw))) ?_
   refine F.qn rfl rfl rfl rfl (r_not rfl) ?_
   refine F.qn rfl rfl rfl rfl (r_move rfl) ?_
   iterate 5 refine F.sk rfl rfl rfl (wf rfl rfl rfl g13) ?_
   refine F.qn rfl rfl rfl rfl (r_pick rfl rfl g13) ?_
   refine F.nil ?_
   cases hE_1
   refine Nrm.only [1, 2, 3, 19] rfl ?_
   refine Nrm.pick [0] rfl rfl ?_
   exact hj_1 _ _ ⟨rfl, rfl⟩
  ·replace hE_1 := if_ff g13 hE_1
   obtain ⟨t17, h17, hE_1⟩ := bind_some hE_1
   refine Tri.reg (l := List.range 12) rfl ?_
   refine F.qn rfl rfl rfl rfl (r_loadA ta27 ti27 rfl rfl (fun w hw => (box_cells (i := 0) rfl w hw))) ?_
   refine F.qn rfl rfl rfl rfl (r_move rfl) ?_
   refine F.qn rfl rfl rfl rfl (r_move rfl) ?_
   refine F.qcn rfl rfl rfl rfl (q_callF (xs := _) rfl ok113 rfl rfl (fun w hw => spec_l9Good.ok h11 w ((fun _ hw => hr_a0_1.sep hw) w hw) ((fun _ hw => hr_a0_2.sep hw) w hw) ((fun _ hw => hr_a2.sep hw) w hw))) ?_
   refine F.qn rfl rfl rfl rfl (r_not rfl) ?_
   refine F.qn rfl rfl rfl rfl (r_move rfl) ?_
   refine F.qg rfl rfl rfl rfl rfl rfl g13 (r_loadA ta27 ti27 rfl rfl (fun w hw => (box_cells (i := 0) rfl w hw))) ?_
   refine F.qg rfl rfl rfl rfl rfl rfl g13 (r_move rfl) ?_
   refine F.qg rfl rfl rfl rfl rfl rfl g13 (r_move rfl) ?_
   refine F.qc rfl rfl rfl (wg rfl rfl rfl g13) (q_callF (xs := _) rfl ok91 rfl rfl (fun w hw => spec_l9Depth.ok h17 w ((fun _ hw => hr_a0_1.sep hw) w hw) ((fun _ hw => hr_a0_2.sep hw) w hw) ((fun _ hw => hr_a2.sep hw) w hw))) ?_
   refine F.qg rfl rfl rfl rfl rfl rfl g13 (r_eql rfl rfl) ?_
   refine F.qn rfl rfl rfl rfl (r_pickf rfl rfl g13) ?_
   refine F.nil ?_
   cases hE_1
   refine Nrm.only [1, 2, 3, 19] rfl ?_
   refine Nrm.pick [0] rfl rfl ?_
   exact hj_1 _ _ ⟨rfl, rfl⟩


def impl_swapped.f (k : Nat) (a0 : List Int) (a1 : Int) (a2 : Int) : Option ((List Int)) := (slices_Clone_int_int.f k a0).bind fun t9 => ((rdl t9 a2).bind fun t16 => (rdl t9 a1).bind fun t20 => (rdl t9 a1).bind fun t22 => (rdl (t9.set a1.toNat t16) a2).bind fun t23 => some ((t9.set a1.toNat t16).set a2.toNat t20)).bind fun y7 => some y7

theorem impl_swapped.ok {k : Nat}  {a0 : List Int} {a1 : Int} {a2 : Int} {r0 : List Int} (h : impl_swapped.f k a0 a1 a2 = some r0) (w : World) {va0 : Value} (hr_a0 : Rd w va0 a0) :
  Calls Try.prog 115 ([va0, .int .i64 a1, .int .i64 a2] : List Value).toArray w (Post (fun u ns => ∃ (Sr0 : Nat → Prop), SlLen u r0.length ∧ ns = [R.sl Sr0 u r0]) w) := by
 unfold impl_swapped.f at h
 have hl_va0 := hr_a0.len
 refine Calls.of_tri (N := 25) Try.func115 rfl rfl rfl (Sep.nil (M := noM)) ?_
 refine Tri.seq (Tri.reg (l := [0]) rfl ?_)
 refine F.qn rfl rfl rfl rfl (r_assign rfl) ?_
 refine F.nil (Nrm.seq (Tri.seq ?_))
 obtain ⟨t9, h9, h⟩ := bind_some h
 refine Tri.reg (l := [0, 1, 2]) rfl ?_
 refine F.qn rfl rfl rfl rfl (r_move rfl) ?_
 refine F.mn rfl rfl rfl rfl (m_callF (xs := _) rfl ok171 rfl rfl (fun w hw => slices_Clone_int_int.ok h9 w ((fun _ hw => hr_a0.sep hw) w hw))) ?_
 rintro v9_1 _ ⟨_, ⟨S9_1, hl_v9_1, rfl⟩, rfl⟩
 refine F.qn rfl rfl rfl rfl (r_assign rfl) ?_
 refine F.nil (Nrm.seq (Tri.seq ?_))
 obtain ⟨y7, hE_1, h⟩ := bind_some h
 refine Tri.cut (fun e' C' => ∃ (v7_1 : Value) (S7_1 : Nat → Prop), SlLen v7_1 (y7).length ∧ e' = [(7, v7_1)] ∧ C' = Sep w noM [R.sl S7_1 v7_1 (y7 : List (Int))]) ?_ (fun hj_1 => ?_)
 ·rintro _ _ ⟨v7_1, S7_1, hl_v7_1, rfl, rfl⟩
  refine Nrm.seq (Tri.seq (Tri.reg (l := [0, 1]) rfl ?_))
  refine F.qn rfl rfl rfl rfl (r_move rfl) ?_
  refine F.qn rfl rfl rfl rfl (r_assign rfl) ?_
  refine F.nil (Nrm.seq (Tri.ret ?_))
  cases h
  exact Rtn.body (.tmp rfl .nil) (fun w hw => ⟨_, _, rfl, ⟨S7_1, hl_v7_1, rfl⟩, Sep.pick (is := [0]) rfl rfl hw⟩)
 ·obtain ⟨t16, h16, hE_1⟩ := bind_some hE_1
  obtain ⟨t20, h20, hE_1⟩ := bind_some hE_1
  obtain ⟨t22, h22, hE_1⟩ := bind_some hE_1
  obtain ⟨t23, h23, hE_1⟩ := bind_some hE_1
  refine Tri.drawTZ mixedT Sep.up [0, 1, 2, 3, 4, 5, 6, 8, 9, 10, 7, 11, 12, 13] [14, 15] (.q 0 (.q 1 (.q 2 (.q 3 (.q 4 (.q 5 (.q 6 (.q 8 (.q 9 (.q 10 (.alt 7 (.alt 11 (.alt 12 (.alt 13 .nil .stop) .stop) .stop) (.alt 11 (.alt 7 (.alt 12 (.alt 13 .nil .stop) .stop) .stop) .stop)))))))))))) (by kernel_rfl) ?_
  iterate 6 refine TZ.q rfl rfl rfl (wanted_none rfl) (r_move rfl) ?_
  refine TZ.q rfl rfl rfl (wanted_none rfl) (r_indexAddrS Try.underlying25 ti3 rfl hl_v9_1 rfl (rdl_some h16).1 (rdl_some h16).2.1) ?_
  refine TZ.q rfl rfl rfl (wanted_none rfl) (r_move rfl) ?_
  refine TZ.q rfl rfl rfl (wanted_none rfl) (r_move rfl) ?_
  refine TZ.q rfl rfl rfl (wanted_none rfl) (r_indexAddrS Try.underlying25 ti3 rfl hl_v9_1 rfl (rdl_some h20).1 (rdl_some h20).2.1) ?_
  refine T.ef rfl rfl rfl (wanted_none rfl) (Runs.does (r_load ta3 rfl (fun w hw => cell_0 (Rd.flat ((rd_sl (i := 0) rfl) w hw) (rdl_some h16).2.2) rfl))) (by rintro _ _ ⟨rfl, rfl⟩; exact ⟨Sep.up, fun _ _ => trivial⟩) ?_ ?_
  ·rintro _ _ ⟨rfl, rfl⟩
   refine T.ef rfl rfl rfl (wanted_none rfl) (Runs.does (r_load ta3 rfl (fun w hw => cell_0 (Rd.flat ((rd_sl (i := 0) rfl) w hw) (rdl_some h20).2.2) rfl))) (by rintro _ _ ⟨rfl, rfl⟩; exact ⟨Sep.up, fun _ _ => trivial⟩) ?_ ?_
   ·rintro _ _ ⟨rfl, rfl⟩
    refine T.ef rfl rfl rfl (wanted_none rfl) (Runs.does (r_indexAddrS Try.underlying25 ti3 rfl hl_v9_1 rfl (rdl_some h22).1 (rdl_some h22).2.1)) (by rintro _ _ ⟨rfl, rfl⟩; exact ⟨Sep.up, fun _ _ => trivial⟩) ?_ ?_
    ·rintro _ _ ⟨rfl, rfl⟩
     refine T.ef0 rfl rfl (wanted_none rfl) (d_storeE (i := 0) (x1 := t16) ti3 rfl rfl rfl (rdl_some h22) rfl) (by rintro _ _ ⟨rfl, rfl⟩; exact ⟨Sep.up, fun _ _ => trivial⟩) ?_ ?_
     ·rintro _ _ ⟨rfl, rfl⟩
      refine T.nil ?_
      refine F.qn rfl rfl rfl rfl (r_indexAddrS Try.underlying25 ti3 rfl (len_set hl_v9_1) rfl (rdl_some h23).1 (rdl_some h23).2.1) ?_
      refine F.ef0 rfl rfl (wanted_none rfl) (d_storeE (i := 0) (x1 := t20) ti3 rfl rfl rfl (rdl_some h23) rfl) ?_
      rintro _ _ ⟨rfl, rfl⟩
      refine F.nil ?_
      cases hE_1
      refine Nrm.only [7] rfl ?_
      refine Nrm.pick [0] rfl rfl ?_
      exact hj_1 _ _ ⟨v9_1, S9_1, (len_set (len_set hl_v9_1)), rfl, rfl⟩
     exact T.stop
    exact T.stop
   exact T.stop
  ·refine T.ef rfl rfl rfl (wanted_none rfl) (Runs.does (r_load ta3 rfl (fun w hw => cell_0 (Rd.flat ((rd_sl (i := 0) rfl) w hw) (rdl_some h20).2.2) rfl))) (by rintro _ _ ⟨rfl, rfl⟩; exact ⟨Sep.up, fun _ _ => trivial⟩) ?_ ?_
   ·rintro _ _ ⟨rfl, rfl⟩
    refine T.ef rfl rfl rfl (wanted_none rfl) (Runs.does (r_load ta3 rfl (fun w hw => cell_0 (Rd.flat ((rd_sl (i := 0) rfl) w hw) (rdl_some h16).2.2) rfl))) (by rintro _ _ ⟨rfl, rfl⟩; exact ⟨Sep.up, fun _ _ => trivial⟩) ?_ ?_
    ·rintro _ _ ⟨rfl, rfl⟩
     refine T.ef rfl rfl rfl (wanted_none rfl) (Runs.does (r_indexAddrS Try.underlying25 ti3 rfl hl_v9_1 rfl (rdl_some h22).1 (rdl_some h22).2.1)) (by rintro _ _ ⟨rfl, rfl⟩; exact ⟨Sep.up, fun _ _ => trivial⟩) ?_ ?_
     ·rintro _ _ ⟨rfl, rfl⟩
      refine T.ef0 rfl rfl (wanted_none rfl) (d_storeE (i := 0) (x1 := t16) ti3 rfl rfl rfl (rdl_some h22) rfl) (by rintro _ _ ⟨rfl, rfl⟩; exact ⟨Sep.up, fun _ _ => trivial⟩) ?_ ?_
      ·rintro _ _ ⟨rfl, rfl⟩
       refine T.nil ?_
       refine F.qn rfl rfl rfl rfl (r_indexAddrS Try.underlying25 ti3 rfl (len_set hl_v9_1) rfl (rdl_some h23).1 (rdl_some h23).2.1) ?_
       refine F.ef0 rfl rfl (wanted_none rfl) (d_storeE (i := 0) (x1 := t20) ti3 rfl rfl rfl (rdl_some h23) rfl) ?_
       rintro _ _ ⟨rfl, rfl⟩
       refine F.nil ?_
       cases hE_1
       refine Nrm.only [7] rfl ?_
       refine Nrm.pick [0] rfl rfl ?_
       exact hj_1 _ _ ⟨v9_1, S9_1, (len_set (len_set hl_v9_1)), rfl, rfl⟩
      exact T.stop
     exact T.stop
    exact T.stop
   exact T.stop

end Go.Proofs
