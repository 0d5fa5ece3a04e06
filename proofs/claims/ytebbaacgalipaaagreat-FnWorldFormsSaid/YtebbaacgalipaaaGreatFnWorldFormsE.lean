/- A part of the proof of FnWorldForms: what the functions of the program compute, walked on the model. No condition. -/
import Derived.Test.YtebbaacgalipaaaGreatFnWorldFormsC
import Derived.Test.YtebbaacgalipaaaGreatFnWorldFormsD
set_option linter.unusedSimpArgs false
/- loop.example/g01158/spec.l2Maze -/
namespace Go.Proofs
open Go Go.Ga
set_option linter.unusedVariables false
set_option maxRecDepth 100000
set_option maxHeartbeats 4000000
def spec_l2Maze.l1 (k : Nat) (a0_0 : Int) (a0_2 : List Int) : Nat → Int → Option ((Unit) ⊕ (Bool))
 | 0,_=>none
 | n + 1,x5=>(if (decide (x5 < a0_0)) = true then (rdl a0_2 x5).bind fun t85=>(spec_l2Set.f k t85).bind fun t87=>(if (!t87) = true then some (Sum.inr false) else spec_l2Maze.l1 k a0_0 a0_2 n (w64 (x5 + 1))) else some (Sum.inl ()))

def spec_l2Maze.l0 (k : Nat) (a0_0 : Int) (a0_1 : List (Int × Int × Int)) : Nat → Int → Option ((Unit) ⊕ (Bool))
 | 0,_=>none
 | n + 1,x3=>(if (decide (x3 < (a0_1.length : Int))) = true then (rdl a0_1 x3).bind fun t34=>((spec_l1In.f k t34.1 0 (w64 (a0_0 - 1))).bind fun t41=>(if (!t41) = true then some true else (spec_l1In.f k t34.2.1 (w64 (t34.1 + 1)) (w64 (a0_0 - 1))).bind fun t52=>(if (!t52) = true then some true else (spec_l2Set.f k t34.2.2).bind fun t58=>(if (!t58) = true then some true else (if (decide (x3 > 0)) = true then (rdl a0_1 (w64 (x3 - 1))).bind fun t69=>(spec_l2Before.f k t69.1 t69.2.1 t69.2.2 t34.1 t34.2.1 t34.2.2).bind fun t72=>some (!t72) else some false))))).bind fun y75=>(if y75 = true then some (Sum.inr false) else spec_l2Maze.l0 k a0_0 a0_1 n (w64 (x3 + 1))) else some (Sum.inl ()))

def spec_l2Maze.f (k : Nat) (a0_0 : Int) (a0_1 : List (Int × Int × Int)) (a0_2 : List Int) : Option (Bool) := ((spec_l1In.f k a0_0 1 12).bind fun t8 => (if (!t8) = true then some true else (if (decide ((a0_1.length : Int) > 30)) = true then some true else some ((a0_2.length : Int) != a0_0)))).bind fun y23 => (if y23 = true then some false else (spec_l2Maze.l0 k a0_0 a0_1 k 0).bind fun s => Lr s some fun _ => (spec_l2Maze.l1 k a0_0 a0_2 k 0).bind fun s => Lr s some fun _ => some true)

theorem spec_l2Maze.ok {k : Nat}  {a0_0 : Int} {a0_1 : List (Int × Int × Int)} {a0_2 : List Int} {r0 : Bool} (h : spec_l2Maze.f k a0_0 a0_1 a0_2 = some r0) (w : World) {va0_1 : Value} {va0_2 : Value} (hr_a0_1 : Rd w va0_1 a0_1) (hr_a0_2 : Rd w va0_2 a0_2) :
  Calls Tryz.prog 108 ([.agg ([.int .i64 a0_0,va0_1,va0_2].toArray)] : List Value).toArray w (fun e w'=>e = .returned (.bool r0)∧Ext w w'):=by
 unfold spec_l2Maze.f at h
 have hl_va0_1:=hr_a0_1.len
 have hl_va0_2:=hr_a0_2.len
 refine Calls.of_tri (N:=89) Tryz.func108 rfl rfl rfl (Sep.nil (M:=noM)) ?_
 refine Tri.seq (Tri.reg (l:=[0,1]) rfl ?_)
 refine F.mn rfl (m_boxG rfl rfl) ?_
 rintro _ _ ⟨b1_1,rfl,rfl⟩
 refine F.qn rfl (r_assign rfl) (F.nil (Nrm.seq (Tri.seq (Tri.seq ?_))))
 obtain ⟨y23,hE_1,h⟩:=bind_some h
 refine Tri.cut (fun e' C'=>e' = [(1,.pointer (some ⟨b1_1,0,none⟩)),(23,.bool y23)]∧C' = Sep w noM [R.box b1_1 27 [.int .i64 a0_0,va0_1,va0_2]]) ?_ (fun hj_1=>?_)
 ·rintro _ _ ⟨rfl,rfl⟩
  refine Nrm.seq (Tri.cond (b:=y23) rfl (fun g_1=>?_) (fun g_1=>?_))
  ·replace h:=if_tt g_1 h
   refine Tri.seq (Tri.reg (l:=[0]) rfl ?_)
   refine F.qn rfl (r_assign rfl) (F.nil (Nrm.seq (Tri.ret ?_)))
   refine Rtn.then ?_
   cases h
   exact Rtn.body (.tmp rfl .nil) (fun w hw=>⟨rfl,hw.ext⟩)
  ·replace h:=if_ff g_1 h
   refine Tri.skip (Nrm.seq (Tri.seq (Tri.seq (Tri.reg (l:=[0]) rfl ?_))))
   refine F.qn rfl (r_assign rfl) (F.nil (Nrm.seq ?_))
   obtain ⟨s0,hE_2,h⟩:=bind_some h
   refine Tri.block ?_
   refine Tri.only [1,3] rfl ?_
   refine Tri.pick [0] rfl rfl ?_
   refine Tri.rounds (fun n e' C'=>∃ (x3' : Int),spec_l2Maze.l0 k a0_0 a0_1 n x3' = some s0∧e' = [(1,.pointer (some ⟨b1_1,0,none⟩)),(3,.int .i64 x3')]∧C' = Sep w noM [R.box b1_1 27 [.int .i64 a0_0,va0_1,va0_2]]) k ?_ ?_ ?_
   ·exact ⟨0,hE_2,rfl,rfl⟩
   ·rintro _ _ ⟨_,hE_2,_⟩
    rw [spec_l2Maze.l0.eq_1] at hE_2; cases hE_2
   ·rintro n_1 _ _ ⟨x3,hE_2,rfl,rfl⟩ ih_1
    rw [spec_l2Maze.l0.eq_2] at hE_2
    refine Tri.seq (Tri.seq (Tri.reg (l:=[0,1,2,3,4]) rfl ?_))
    refine F.qn rfl (r_move rfl) (F.qn rfl (r_fieldAddr tf27_1 rfl) (F.qn rfl (r_load ta24 rfl (fun w hw=>cell_1 (box_cells (i:=0) rfl w hw) rfl)) (F.qn rfl (r_len Tryz.underlying24 rfl hl_va0_1) (F.qn rfl (r_lss rfl rfl) (F.nil (Nrm.seq (Tri.cond (b:=decide (x3 < (a0_1.length : Int))) rfl (fun g_2=>?_) (fun g_2=>?_))))))))
    ·replace hE_2:=if_tt g_2 hE_2
     refine Tri.skip (Nrm.seq (Tri.seq (Tri.block ?_)))
     refine Tri.seq ?_
     obtain ⟨t34,h34,hE_2⟩:=bind_some hE_2
     refine Tri.reg (l:=[0,1,2,3,4,5,6]) rfl ?_
     refine F.qn rfl (r_fieldAddr tf27_1 rfl) (F.qn rfl (r_load ta24 rfl (fun w hw=>cell_1 (box_cells (i:=0) rfl w hw) rfl)) (F.qn rfl (r_move rfl) (F.qn rfl (r_indexAddrS Tryz.underlying24 ti168 rfl hl_va0_1 rfl (rdl_some h34).1 (rdl_some h34).2.1) (F.qn rfl (r_loadA ta168 ti168 rfl rfl (fun w hw=>(Rd.flat ((fun _ hw=>hr_a0_1.sep hw) w hw) (rdl_some h34).2.2))) ?_))))
     refine F.mn rfl (m_alloc ti168) ?_
     rintro _ _ ⟨b4_1,rfl,rfl⟩
     refine F.ef0 rfl rfl (wanted_none rfl) (d_storeG0 (i:=0) (cs2:=[.int .i64 t34.1,.int .i64 t34.2.1,.int .i64 t34.2.2]) ti168 rfl rfl rfl rfl rfl (Nat.le_of_ble_eq_true rfl) (lf_cons rfl (lf_cons rfl (lf_cons rfl lf_nil)))) ?_
     rintro _ _ ⟨rfl,rfl⟩
     refine F.nil (Nrm.seq (Tri.seq ?_))
     obtain ⟨y75,hE_3,hE_2⟩:=bind_some hE_2
     refine Tri.cut (fun e' C'=>e' = [(1,.pointer (some ⟨b1_1,0,none⟩)),(3,.int .i64 x3),(75,.bool y75)]∧C' = Sep w noM [R.box b1_1 27 [.int .i64 a0_0,va0_1,va0_2]]) ?_ (fun hj_2=>?_)
     ·rintro _ _ ⟨rfl,rfl⟩
      refine Nrm.seq (Tri.cond (b:=y75) rfl (fun g_3=>?_) (fun g_3=>?_))
      ·replace hE_2:=if_tt g_3 hE_2
       refine Tri.seq (Tri.reg (l:=[0]) rfl ?_)
       refine F.qn rfl (r_assign rfl) (F.nil (Nrm.seq (Tri.ret ?_)))
       refine Rtn.block ?_
       refine Rtn.then ?_
       refine Rtn.then ?_
       refine Rtn.block ?_
       refine Rtn.then ?_
       cases hE_2
       replace h:=Lr_inr h
       cases h
       exact Rtn.body (.tmp rfl .nil) (fun w hw=>⟨rfl,hw.ext⟩)
      ·replace hE_2:=if_ff g_3 hE_2
       refine Tri.skip (Nrm.block ?_)
       refine Nrm.seq (Tri.reg (l:=[0,1,2]) rfl ?_)
       refine F.qn rfl (r_move rfl) (F.qn rfl (r_add rfl rfl) (F.qn rfl (r_assign rfl) (F.nil (Nrm.round ?_))))
       refine Rnd.only [1,3] rfl ?_
       refine Rnd.pick [0] rfl rfl ?_
       exact ih_1 _ _ ⟨w64 (x3 + 1),hE_2,rfl,rfl⟩
     ·obtain ⟨t41,h41,hE_3⟩:=bind_some hE_3
      rcases Bool.eq_false_or_eq_true (!t41) with g43 | g43
      ·replace hE_3:=if_tt g43 hE_3
       refine Tri.drawA mixedT Sep.up [(0,true),(1,true),(2,true),(3,true),(4,true),(5,true),(6,true),(7,true),(8,true),(9,true),(10,true),(11,true),(12,true),(13,true),(14,true),(15,true),(16,true),(17,true),(18,true),(19,true),(20,true),(21,true),(22,true),(23,true),(24,true),(25,true),(26,true),(27,true),(28,true),(29,true),(30,true),(31,true),(32,true),(33,true),(34,true),(35,true),(36,true),(37,true),(38,true),(39,true)] [] (by kernel_rfl) ?_
       refine S.qn rfl (r_indexAddrA Tryz.underlying168 ti3 rfl rfl (by decide) (by decide)) (S.qn rfl (r_load ta3 rfl (fun w hw=>cell_1 (box_cells (i:=0) rfl w hw) rfl)) (S.qn rfl (r_fieldAddr tf27_0 rfl) (S.qn rfl (r_load ta3 rfl (fun w hw=>cell_1 (box_cells (i:=1) rfl w hw) rfl)) (S.qn rfl (r_sub rfl rfl) ?_))))
       refine S.qcn rfl (q_callF (xs:=_) rfl ok148 rfl rfl (fun w hw=>spec_l1In.ok h41 w)) ?_
       refine S.qn rfl (r_not rfl) (S.qn rfl (r_move rfl) ?_)
       iterate 10 refine S.skf rfl g43 ?_
       refine S.qn rfl (r_pick rfl rfl g43) (S.qn rfl (r_move rfl) ?_)
       iterate 4 refine S.skf rfl rfl ?_
       refine S.qn rfl (r_pick rfl rfl rfl) (S.qn rfl (r_move rfl) ?_)
       iterate 3 refine S.skf rfl rfl ?_
       iterate 9 refine S.sk rfl rfl rfl (wanted_undef rfl rfl rfl) ?_
       refine S.skf rfl rfl (S.qn rfl (r_pick rfl rfl rfl) (S.nil (F.nil ?_)))
       cases hE_3
       refine Nrm.only [1,3,75] rfl ?_
       refine Nrm.pick [1] rfl rfl ?_
       exact hj_2 _ _ ⟨rfl,rfl⟩
      ·replace hE_3:=if_ff g43 hE_3
       obtain ⟨t52,h52,hE_3⟩:=bind_some hE_3
       rcases Bool.eq_false_or_eq_true (!t52) with g55 | g55
       ·replace hE_3:=if_tt g55 hE_3
        refine Tri.drawA mixedT Sep.up [(0,true),(1,true),(2,true),(3,true),(4,true),(5,true),(6,true),(7,true),(8,true),(9,true),(10,true),(11,true),(12,true),(13,true),(14,true),(15,true),(16,true),(17,true),(18,true),(19,true),(20,true),(21,true),(22,true),(23,true),(24,true),(25,true),(26,true),(27,true),(28,true),(29,true),(30,true),(31,true),(32,true),(33,true),(34,true),(35,true),(36,true),(37,true),(38,true),(39,true)] [] (by kernel_rfl) ?_
        refine S.qn rfl (r_indexAddrA Tryz.underlying168 ti3 rfl rfl (by decide) (by decide)) (S.qn rfl (r_load ta3 rfl (fun w hw=>cell_1 (box_cells (i:=0) rfl w hw) rfl)) (S.qn rfl (r_fieldAddr tf27_0 rfl) (S.qn rfl (r_load ta3 rfl (fun w hw=>cell_1 (box_cells (i:=1) rfl w hw) rfl)) (S.qn rfl (r_sub rfl rfl) ?_))))
        refine S.qcn rfl (q_callF (xs:=_) rfl ok148 rfl rfl (fun w hw=>spec_l1In.ok h41 w)) ?_
        refine S.qn rfl (r_not rfl) (S.qn rfl (r_move rfl) (S.qg rfl g43 (r_indexAddrA Tryz.underlying168 ti3 rfl rfl (by decide) (by decide)) (S.qg rfl g43 (r_load ta3 rfl (fun w hw=>cell_1 (box_cells (i:=0) rfl w hw) rfl)) ?_)))
        refine S.qg rfl g43 (r_indexAddrA Tryz.underlying168 ti3 rfl rfl (by decide) (by decide)) (S.qg rfl g43 (r_load ta3 rfl (fun w hw=>cell_1 (box_cells (i:=0) rfl w hw) rfl)) (S.qg rfl g43 (r_add rfl rfl) (S.qg rfl g43 (r_fieldAddr tf27_0 rfl) (S.qg rfl g43 (r_load ta3 rfl (fun w hw=>cell_1 (box_cells (i:=1) rfl w hw) rfl)) (S.qg rfl g43 (r_sub rfl rfl) ?_)))))
        refine S.qc rfl rfl rfl (wg rfl rfl rfl g43) (q_callF (xs:=_) rfl ok148 rfl rfl (fun w hw=>spec_l1In.ok h52 w)) ?_
        refine S.qg rfl g43 (r_not rfl) (S.qn rfl (r_pickf rfl rfl g43) (S.qn rfl (r_move rfl) ?_))
        iterate 4 refine S.skf rfl g55 ?_
        refine S.qn rfl (r_pick rfl rfl g55) (S.qn rfl (r_move rfl) ?_)
        iterate 3 refine S.skf rfl rfl ?_
        iterate 9 refine S.sk rfl rfl rfl (wanted_undef rfl rfl rfl) ?_
        refine S.skf rfl rfl (S.qn rfl (r_pick rfl rfl rfl) (S.nil (F.nil ?_)))
        cases hE_3
        refine Nrm.only [1,3,75] rfl ?_
        refine Nrm.pick [1] rfl rfl ?_
        exact hj_2 _ _ ⟨rfl,rfl⟩
       ·replace hE_3:=if_ff g55 hE_3
        obtain ⟨t58,h58,hE_3⟩:=bind_some hE_3
        rcases Bool.eq_false_or_eq_true (!t58) with g61 | g61
        ·replace hE_3:=if_tt g61 hE_3
         refine Tri.drawA mixedT Sep.up [(0,true),(1,true),(2,true),(3,true),(4,true),(5,true),(6,true),(7,true),(8,true),(9,true),(10,true),(11,true),(12,true),(13,true),(14,true),(15,true),(16,true),(17,true),(18,true),(19,true),(20,true),(21,true),(22,true),(23,true),(24,true),(25,true),(26,true),(27,true),(28,true),(29,true),(30,true),(31,true),(32,true),(33,true),(34,true),(35,true),(36,true),(37,true),(38,true),(39,true)] [] (by kernel_rfl) ?_
         refine S.qn rfl (r_indexAddrA Tryz.underlying168 ti3 rfl rfl (by decide) (by decide)) (S.qn rfl (r_load ta3 rfl (fun w hw=>cell_1 (box_cells (i:=0) rfl w hw) rfl)) (S.qn rfl (r_fieldAddr tf27_0 rfl) (S.qn rfl (r_load ta3 rfl (fun w hw=>cell_1 (box_cells (i:=1) rfl w hw) rfl)) (S.qn rfl (r_sub rfl rfl) ?_))))
         refine S.qcn rfl (q_callF (xs:=_) rfl ok148 rfl rfl (fun w hw=>spec_l1In.ok h41 w)) ?_
         refine S.qn rfl (r_not rfl) (S.qn rfl (r_move rfl) (S.qg rfl g43 (r_indexAddrA Tryz.underlying168 ti3 rfl rfl (by decide) (by decide)) (S.qg rfl g43 (r_load ta3 rfl (fun w hw=>cell_1 (box_cells (i:=0) rfl w hw) rfl)) ?_)))
         refine S.qg rfl g43 (r_indexAddrA Tryz.underlying168 ti3 rfl rfl (by decide) (by decide)) (S.qg rfl g43 (r_load ta3 rfl (fun w hw=>cell_1 (box_cells (i:=0) rfl w hw) rfl)) (S.qg rfl g43 (r_add rfl rfl) (S.qg rfl g43 (r_fieldAddr tf27_0 rfl) (S.qg rfl g43 (r_load ta3 rfl (fun w hw=>cell_1 (box_cells (i:=1) rfl w hw) rfl)) (S.qg rfl g43 (r_sub rfl rfl) ?_)))))
         refine S.qc rfl rfl rfl (wg rfl rfl rfl g43) (q_callF (xs:=_) rfl ok148 rfl rfl (fun w hw=>spec_l1In.ok h52 w)) ?_
         refine S.qg rfl g43 (r_not rfl) (S.qn rfl (r_pickf rfl rfl g43) (S.qn rfl (r_move rfl) (S.qg rfl g55 (r_indexAddrA Tryz.underlying168 ti3 rfl rfl (by decide) (by decide)) (S.qg rfl g55 (r_load ta3 rfl (fun w hw=>cell_1 (box_cells (i:=0) rfl w hw) rfl)) ?_))))
         refine S.qc rfl rfl rfl (wg rfl rfl rfl g55) (q_callF (xs:=_) rfl ok178 rfl rfl (fun w hw=>spec_l2Set.ok h58 w)) ?_
         refine S.qg rfl g55 (r_not rfl) (S.qn rfl (r_pickf rfl rfl g55) (S.qn rfl (r_move rfl) ?_))
         iterate 3 refine S.skf rfl g61 ?_
         iterate 9 refine S.sk rfl rfl rfl (wanted_undef rfl rfl rfl) ?_
         refine S.skf rfl g61 (S.qn rfl (r_pick rfl rfl g61) (S.nil (F.nil ?_)))
         cases hE_3
         refine Nrm.only [1,3,75] rfl ?_
         refine Nrm.pick [1] rfl rfl ?_
         exact hj_2 _ _ ⟨rfl,rfl⟩
        ·replace hE_3:=if_ff g61 hE_3
         rcases Bool.eq_false_or_eq_true (decide (x3 > 0)) with g64 | g64
         ·replace hE_3:=if_tt g64 hE_3
          obtain ⟨t69,h69,hE_3⟩:=bind_some hE_3
          obtain ⟨t72,h72,hE_3⟩:=bind_some hE_3
          refine Tri.drawA mixedT Sep.up [(0,true),(1,true),(2,true),(3,true),(4,true),(5,true),(6,true),(7,true),(8,true),(9,true),(10,true),(11,true),(12,true),(13,true),(14,true),(15,true),(16,true),(17,true),(18,true),(19,true),(20,true),(21,true),(22,true),(23,true),(24,true),(25,true),(26,true),(27,true),(28,true),(29,true),(30,true),(31,true),(32,true),(33,true),(34,true),(35,true),(36,true),(37,true),(38,true),(39,true)] [] (by kernel_rfl) ?_
          refine S.qn rfl (r_indexAddrA Tryz.underlying168 ti3 rfl rfl (by decide) (by decide)) (S.qn rfl (r_load ta3 rfl (fun w hw=>cell_1 (box_cells (i:=0) rfl w hw) rfl)) (S.qn rfl (r_fieldAddr tf27_0 rfl) (S.qn rfl (r_load ta3 rfl (fun w hw=>cell_1 (box_cells (i:=1) rfl w hw) rfl)) (S.qn rfl (r_sub rfl rfl) ?_))))
          refine S.qcn rfl (q_callF (xs:=_) rfl ok148 rfl rfl (fun w hw=>spec_l1In.ok h41 w)) ?_
          refine S.qn rfl (r_not rfl) (S.qn rfl (r_move rfl) (S.qg rfl g43 (r_indexAddrA Tryz.underlying168 ti3 rfl rfl (by decide) (by decide)) (S.qg rfl g43 (r_load ta3 rfl (fun w hw=>cell_1 (box_cells (i:=0) rfl w hw) rfl)) ?_)))
          refine S.qg rfl g43 (r_indexAddrA Tryz.underlying168 ti3 rfl rfl (by decide) (by decide)) (S.qg rfl g43 (r_load ta3 rfl (fun w hw=>cell_1 (box_cells (i:=0) rfl w hw) rfl)) (S.qg rfl g43 (r_add rfl rfl) (S.qg rfl g43 (r_fieldAddr tf27_0 rfl) (S.qg rfl g43 (r_load ta3 rfl (fun w hw=>cell_1 (box_cells (i:=1) rfl w hw) rfl)) (S.qg rfl g43 (r_sub rfl rfl) ?_)))))
          refine S.qc rfl rfl rfl (wg rfl rfl rfl g43) (q_callF (xs:=_) rfl ok148 rfl rfl (fun w hw=>spec_l1In.ok h52 w)) ?_
          refine S.qg rfl g43 (r_not rfl) (S.qn rfl (r_pickf rfl rfl g43) (S.qn rfl (r_move rfl) (S.qg rfl g55 (r_indexAddrA Tryz.underlying168 ti3 rfl rfl (by decide) (by decide)) (S.qg rfl g55 (r_load ta3 rfl (fun w hw=>cell_1 (box_cells (i:=0) rfl w hw) rfl)) ?_))))
          refine S.qc rfl rfl rfl (wg rfl rfl rfl g55) (q_callF (xs:=_) rfl ok178 rfl rfl (fun w hw=>spec_l2Set.ok h58 w)) ?_
          refine S.qg rfl g55 (r_not rfl) ?_
          refine S.qn rfl (r_pickf rfl rfl g55) (S.qn rfl (r_move rfl) (S.qg rfl g61 (r_move rfl) (S.qg rfl g61 (r_gtr rfl rfl) (S.qg rfl g61 (r_move rfl) (S.qg rfl g64 (r_fieldAddr tf27_1 rfl) ?_)))))
          refine S.qg rfl g64 (r_load ta24 rfl (fun w hw=>cell_1 (box_cells (i:=1) rfl w hw) rfl)) (S.qg rfl g64 (r_move rfl) (S.qg rfl g64 (r_sub rfl rfl) (S.qg rfl g64 (r_indexAddrS Tryz.underlying24 ti168 rfl hl_va0_1 rfl (rdl_some h69).1 (rdl_some h69).2.1) (S.qg rfl g64 (r_loadA ta168 ti168 rfl rfl (fun w hw=>(Rd.flat ((fun _ hw=>hr_a0_1.sep hw) w hw) (rdl_some h69).2.2))) (S.qg rfl g64 (r_loadA ta168 ti168 rfl rfl (fun w hw=>(box_cells (i:=0) rfl w hw))) ?_)))))
          refine S.qc rfl rfl rfl (wg rfl rfl rfl g64) (q_callF (xs:=_) rfl ok196 rfl rfl (fun w hw=>spec_l2Before.ok h72 w)) ?_
          refine S.qg rfl g64 (r_not rfl) (S.qg rfl g61 (r_pick rfl rfl g64) (S.qn rfl (r_pickf rfl rfl g61) (S.nil (F.nil ?_))))
          cases hE_3
          refine Nrm.only [1,3,75] rfl ?_
          refine Nrm.pick [1] rfl rfl ?_
          exact hj_2 _ _ ⟨rfl,rfl⟩
         ·replace hE_3:=if_ff g64 hE_3
          refine Tri.drawA mixedT Sep.up [(0,true),(1,true),(2,true),(3,true),(4,true),(5,true),(6,true),(7,true),(8,true),(9,true),(10,true),(11,true),(12,true),(13,true),(14,true),(15,true),(16,true),(17,true),(18,true),(19,true),(20,true),(21,true),(22,true),(23,true),(24,true),(25,true),(26,true),(27,true),(28,true),(29,true),(30,true),(31,true),(32,true),(33,true),(34,true),(35,true),(36,true),(37,true),(38,true),(39,true)] [] (by kernel_rfl) ?_
          refine S.qn rfl (r_indexAddrA Tryz.underlying168 ti3 rfl rfl (by decide) (by decide)) (S.qn rfl (r_load ta3 rfl (fun w hw=>cell_1 (box_cells (i:=0) rfl w hw) rfl)) (S.qn rfl (r_fieldAddr tf27_0 rfl) (S.qn rfl (r_load ta3 rfl (fun w hw=>cell_1 (box_cells (i:=1) rfl w hw) rfl)) (S.qn rfl (r_sub rfl rfl) ?_))))
          refine S.qcn rfl (q_callF (xs:=_) rfl ok148 rfl rfl (fun w hw=>spec_l1In.ok h41 w)) ?_
          refine S.qn rfl (r_not rfl) (S.qn rfl (r_move rfl) (S.qg rfl g43 (r_indexAddrA Tryz.underlying168 ti3 rfl rfl (by decide) (by decide)) (S.qg rfl g43 (r_load ta3 rfl (fun w hw=>cell_1 (box_cells (i:=0) rfl w hw) rfl)) ?_)))
          refine S.qg rfl g43 (r_indexAddrA Tryz.underlying168 ti3 rfl rfl (by decide) (by decide)) (S.qg rfl g43 (r_load ta3 rfl (fun w hw=>cell_1 (box_cells (i:=0) rfl w hw) rfl)) (S.qg rfl g43 (r_add rfl rfl) (S.qg rfl g43 (r_fieldAddr tf27_0 rfl) (S.qg rfl g43 (r_load ta3 rfl (fun w hw=>cell_1 (box_cells (i:=1) rfl w hw) rfl)) (S.qg rfl g43 (r_sub rfl rfl) ?_)))))
          refine S.qc rfl rfl rfl (wg rfl rfl rfl g43) (q_callF (xs:=_) rfl ok148 rfl rfl (fun w hw=>spec_l1In.ok h52 w)) ?_
          refine S.qg rfl g43 (r_not rfl) (S.qn rfl (r_pickf rfl rfl g43) (S.qn rfl (r_move rfl) (S.qg rfl g55 (r_indexAddrA Tryz.underlying168 ti3 rfl rfl (by decide) (by decide)) (S.qg rfl g55 (r_load ta3 rfl (fun w hw=>cell_1 (box_cells (i:=0) rfl w hw) rfl)) ?_))))
          refine S.qc rfl rfl rfl (wg rfl rfl rfl g55) (q_callF (xs:=_) rfl ok178 rfl rfl (fun w hw=>spec_l2Set.ok h58 w)) ?_
          refine S.qg rfl g55 (r_not rfl) (S.qn rfl (r_pickf rfl rfl g55) (S.qn rfl (r_move rfl) (S.qg rfl g61 (r_move rfl) (S.qg rfl g61 (r_gtr rfl rfl) (S.qg rfl g61 (r_move rfl) ?_)))))
          iterate 9 refine S.skf rfl g64 ?_
          refine S.qg rfl g61 (r_pickf rfl rfl g64) (S.qn rfl (r_pickf rfl rfl g61) (S.nil (F.nil ?_)))
          cases hE_3
          refine Nrm.only [1,3,75] rfl ?_
          refine Nrm.pick [1] rfl rfl ?_
          exact hj_2 _ _ ⟨rfl,rfl⟩
    ·replace hE_2:=if_ff g_2 hE_2
     refine Tri.exit ?_
     refine Exi.then ?_
     refine Exi.then ?_
     refine Exi.same ?_
     cases hE_2
     replace h:=Lr_inl h
     refine Nrm.seq (Tri.seq (Tri.seq (Tri.reg (l:=[0]) rfl ?_)))
     refine F.qn rfl (r_assign rfl) (F.nil (Nrm.seq ?_))
     obtain ⟨s1,hE_4,h⟩:=bind_some h
     refine Tri.block ?_
     refine Tri.only [1,5] rfl ?_
     refine Tri.pick [0] rfl rfl ?_
     refine Tri.rounds (fun n e' C'=>∃ (x5' : Int),spec_l2Maze.l1 k a0_0 a0_2 n x5' = some s1∧e' = [(1,.pointer (some ⟨b1_1,0,none⟩)),(5,.int .i64 x5')]∧C' = Sep w noM [R.box b1_1 27 [.int .i64 a0_0,va0_1,va0_2]]) k ?_ ?_ ?_
     ·exact ⟨0,hE_4,rfl,rfl⟩
     ·rintro _ _ ⟨_,hE_4,_⟩
      rw [spec_l2Maze.l1.eq_1] at hE_4; cases hE_4
     ·rintro n_2 _ _ ⟨x5,hE_4,rfl,rfl⟩ ih_2
      rw [spec_l2Maze.l1.eq_2] at hE_4
      refine Tri.seq (Tri.seq (Tri.reg (l:=[0,1,2,3]) rfl ?_))
      refine F.qn rfl (r_move rfl) (F.qn rfl (r_fieldAddr tf27_0 rfl) (F.qn rfl (r_load ta3 rfl (fun w hw=>cell_1 (box_cells (i:=0) rfl w hw) rfl)) (F.qn rfl (r_lss rfl rfl) (F.nil (Nrm.seq (Tri.cond (b:=decide (x5 < a0_0)) rfl (fun g_4=>?_) (fun g_4=>?_)))))))
      ·replace hE_4:=if_tt g_4 hE_4
       refine Tri.skip (Nrm.seq (Tri.seq (Tri.block ?_)))
       refine Tri.seq ?_
       obtain ⟨t85,h85,hE_4⟩:=bind_some hE_4
       obtain ⟨t87,h87,hE_4⟩:=bind_some hE_4
       refine Tri.reg (l:=[0,1,2,3,4,5,6]) rfl ?_
       refine F.qn rfl (r_fieldAddr tf27_2 rfl) (F.qn rfl (r_load ta25 rfl (fun w hw=>cell_1 (box_cells (i:=0) rfl w hw) rfl)) (F.qn rfl (r_move rfl) (F.qn rfl (r_indexAddrS Tryz.underlying25 ti3 rfl hl_va0_2 rfl (rdl_some h85).1 (rdl_some h85).2.1) (F.qn rfl (r_load ta3 rfl (fun w hw=>cell_0 (Rd.flat ((fun _ hw=>hr_a0_2.sep hw) w hw) (rdl_some h85).2.2) rfl)) ?_))))
       refine F.qcn rfl (q_callF (xs:=_) rfl ok178 rfl rfl (fun w hw=>spec_l2Set.ok h87 w)) ?_
       refine F.qn rfl (r_not rfl) (F.nil (Nrm.seq (Tri.cond (b:=!t87) rfl (fun g_5=>?_) (fun g_5=>?_))))
       ·replace hE_4:=if_tt g_5 hE_4
        refine Tri.seq (Tri.reg (l:=[0]) rfl ?_)
        refine F.qn rfl (r_assign rfl) (F.nil (Nrm.seq (Tri.ret ?_)))
        refine Rtn.block ?_
        refine Rtn.then ?_
        refine Rtn.then ?_
        refine Rtn.block ?_
        refine Rtn.then ?_
        cases hE_4
        replace h:=Lr_inr h
        cases h
        exact Rtn.body (.tmp rfl .nil) (fun w hw=>⟨rfl,hw.ext⟩)
       ·replace hE_4:=if_ff g_5 hE_4
        refine Tri.skip (Nrm.block ?_)
        refine Nrm.seq (Tri.reg (l:=[0,1,2]) rfl ?_)
        refine F.qn rfl (r_move rfl) (F.qn rfl (r_add rfl rfl) (F.qn rfl (r_assign rfl) (F.nil (Nrm.round ?_))))
        refine Rnd.only [1,5] rfl ?_
        refine Rnd.pick [0] rfl rfl ?_
        exact ih_2 _ _ ⟨w64 (x5 + 1),hE_4,rfl,rfl⟩
      ·replace hE_4:=if_ff g_4 hE_4
       refine Tri.exit ?_
       refine Exi.then ?_
       refine Exi.then ?_
       refine Exi.same ?_
       cases hE_4
       replace h:=Lr_inl h
       refine Nrm.seq (Tri.seq (Tri.reg (l:=[0]) rfl ?_))
       refine F.qn rfl (r_assign rfl) (F.nil (Nrm.seq (Tri.ret ?_)))
       cases h
       exact Rtn.body (.tmp rfl .nil) (fun w hw=>⟨rfl,hw.ext⟩)
 ·obtain ⟨t8,h8,hE_1⟩:=bind_some hE_1
  rcases Bool.eq_false_or_eq_true (!t8) with g10 | g10
  ·replace hE_1:=if_tt g10 hE_1
   refine Tri.reg (l:=List.range 18) rfl ?_
   refine F.qn rfl (r_fieldAddr tf27_0 rfl) (F.qn rfl (r_load ta3 rfl (fun w hw=>cell_1 (box_cells (i:=0) rfl w hw) rfl)) ?_)
   refine F.qcn rfl (q_callF (xs:=_) rfl ok148 rfl rfl (fun w hw=>spec_l1In.ok h8 w)) ?_
   refine F.qn rfl (r_not rfl) (F.qn rfl (r_move rfl) ?_)
   iterate 4 refine F.skf rfl g10 ?_
   refine F.qn rfl (r_pick rfl rfl g10) (F.qn rfl (r_move rfl) ?_)
   iterate 6 refine F.skf rfl rfl ?_
   refine F.qn rfl (r_pick rfl rfl rfl) (F.nil ?_)
   cases hE_1
   refine Nrm.only [1,23] rfl ?_
   refine Nrm.pick [0] rfl rfl ?_
   exact hj_1 _ _ ⟨rfl,rfl⟩
  ·replace hE_1:=if_ff g10 hE_1
   rcases Bool.eq_false_or_eq_true (decide ((a0_1.length : Int) > 30)) with g16 | g16
   ·replace hE_1:=if_tt g16 hE_1
    refine Tri.reg (l:=List.range 18) rfl ?_
    refine F.qn rfl (r_fieldAddr tf27_0 rfl) (F.qn rfl (r_load ta3 rfl (fun w hw=>cell_1 (box_cells (i:=0) rfl w hw) rfl)) ?_)
    refine F.qcn rfl (q_callF (xs:=_) rfl ok148 rfl rfl (fun w hw=>spec_l1In.ok h8 w)) ?_
    refine F.qn rfl (r_not rfl) (F.qn rfl (r_move rfl) ?_)
    refine F.qg rfl g10 (r_fieldAddr tf27_1 rfl) (F.qg rfl g10 (r_load ta24 rfl (fun w hw=>cell_1 (box_cells (i:=0) rfl w hw) rfl)) (F.qg rfl g10 (r_len Tryz.underlying24 rfl hl_va0_1) (F.qg rfl g10 (r_gtr rfl rfl) (F.qn rfl (r_pickf rfl rfl g10) (F.qn rfl (r_move rfl) ?_)))))
    iterate 6 refine F.skf rfl g16 ?_
    refine F.qn rfl (r_pick rfl rfl g16) (F.nil ?_)
    cases hE_1
    refine Nrm.only [1,23] rfl ?_
    refine Nrm.pick [0] rfl rfl ?_
    exact hj_1 _ _ ⟨rfl,rfl⟩
   ·replace hE_1:=if_ff g16 hE_1
    refine Tri.reg (l:=List.range 18) rfl ?_
    refine F.qn rfl (r_fieldAddr tf27_0 rfl) (F.qn rfl (r_load ta3 rfl (fun w hw=>cell_1 (box_cells (i:=0) rfl w hw) rfl)) ?_)
    refine F.qcn rfl (q_callF (xs:=_) rfl ok148 rfl rfl (fun w hw=>spec_l1In.ok h8 w)) ?_
    refine F.qn rfl (r_not rfl) (F.qn rfl (r_move rfl) (F.qg rfl g10 (r_fieldAddr tf27_1 rfl) ?_))
    refine F.qg rfl g10 (r_load ta24 rfl (fun w hw=>cell_1 (box_cells (i:=0) rfl w hw) rfl)) (F.qg rfl g10 (r_len Tryz.underlying24 rfl hl_va0_1) (F.qg rfl g10 (r_gtr rfl rfl) (F.qn rfl (r_pickf rfl rfl g10) (F.qn rfl (r_move rfl) (F.qg rfl g16 (r_fieldAddr tf27_2 rfl) ?_)))))
    refine F.qg rfl g16 (r_load ta25 rfl (fun w hw=>cell_1 (box_cells (i:=0) rfl w hw) rfl)) (F.qg rfl g16 (r_len Tryz.underlying25 rfl hl_va0_2) (F.qg rfl g16 (r_fieldAddr tf27_0 rfl) (F.qg rfl g16 (r_load ta3 rfl (fun w hw=>cell_1 (box_cells (i:=0) rfl w hw) rfl)) (F.qg rfl g16 (r_neq rfl rfl) (F.qn rfl (r_pickf rfl rfl g16) (F.nil ?_))))))
    cases hE_1
    refine Nrm.only [1,23] rfl ?_
    refine Nrm.pick [0] rfl rfl ?_
    exact hj_1 _ _ ⟨rfl,rfl⟩


def spec_l10Worlds.l1 (k : Nat) (a0_0 : List (Int × List (Int × Int × Int) × List Int)) (a0_1 : List (List Int)) (x3 : Int) : Nat → Int → Option ((Unit) ⊕ (Bool))
 | 0,_=>none
 | n + 1,x4=>(rdl a0_1 x3).bind fun t52=>(if (decide (x4 < (t52.length : Int))) = true then (rdl a0_1 x3).bind fun t61=>(rdl t61 x4).bind fun t64=>(spec_l1In.f k t64 0 (w64 ((a0_0.length : Int) - 1))).bind fun t70=>(if (!t70) = true then some (Sum.inr false) else spec_l10Worlds.l1 k a0_0 a0_1 x3 n (w64 (x4 + 1))) else some (Sum.inl ()))

def spec_l10Worlds.l0 (k : Nat) (a0_0 : List (Int × List (Int × Int × Int) × List Int)) (a0_1 : List (List Int)) : Nat → Int → Option ((Unit) ⊕ (Bool))
 | 0,_=>none
 | n + 1,x3=>(if (decide (x3 < (a0_0.length : Int))) = true then ((rdl a0_0 x3).bind fun t29=>(spec_l2Maze.f k t29.1 t29.2.1 t29.2.2).bind fun t31=>(if (!t31) = true then some true else (rdl a0_1 x3).bind fun t37=>(rdl a0_0 x3).bind fun t43=>some ((t37.length : Int) != t43.1))).bind fun y47=>(if y47 = true then some (Sum.inr false) else (spec_l10Worlds.l1 k a0_0 a0_1 x3 k 0).bind fun s=>Lr s (fun r=>some (Sum.inr r)) fun _=>spec_l10Worlds.l0 k a0_0 a0_1 n (w64 (x3 + 1))) else some (Sum.inl ()))

def spec_l10Worlds.f (k : Nat) (a0_0 : List (Int × List (Int × Int × Int) × List Int)) (a0_1 : List (List Int)) : Option (Bool) := ((spec_l1In.f k (a0_0.length : Int) 1 3).bind fun t8 => (if (!t8) = true then some true else some ((a0_1.length : Int) != (a0_0.length : Int)))).bind fun y18 => (if y18 = true then some false else (spec_l10Worlds.l0 k a0_0 a0_1 k 0).bind fun s => Lr s some fun _ => some true)

theorem spec_l10Worlds.ok {k : Nat}  {a0_0 : List (Int × List (Int × Int × Int) × List Int)} {a0_1 : List (List Int)} {r0 : Bool} (h : spec_l10Worlds.f k a0_0 a0_1 = some r0) (w : World) {va0_0 : Value} {va0_1 : Value} (hr_a0_0 : Rd w va0_0 a0_0) (hr_a0_1 : Rd w va0_1 a0_1) :
  Calls Tryz.prog 159 ([.agg ([va0_0,va0_1].toArray)] : List Value).toArray w (fun e w'=>e = .returned (.bool r0)∧Ext w w'):=by
 unfold spec_l10Worlds.f at h
 have hl_va0_0:=hr_a0_0.len
 have hl_va0_1:=hr_a0_1.len
 refine Calls.of_tri (N:=72) Tryz.func159 rfl rfl rfl (Sep.nil (M:=noM)) ?_
 refine Tri.seq (Tri.reg (l:=[0,1]) rfl ?_)
 refine F.mn rfl (m_boxG rfl rfl) ?_
 rintro _ _ ⟨b1_1,rfl,rfl⟩
 refine F.qn rfl (r_assign rfl) (F.nil (Nrm.seq (Tri.seq (Tri.seq ?_))))
 obtain ⟨y18,hE_1,h⟩:=bind_some h
 refine Tri.cut (fun e' C'=>e' = [(1,.pointer (some ⟨b1_1,0,none⟩)),(18,.bool y18)]∧C' = Sep w noM [R.box b1_1 88 [va0_0,va0_1]]) ?_ (fun hj_1=>?_)
 ·rintro _ _ ⟨rfl,rfl⟩
  refine Nrm.seq (Tri.cond (b:=y18) rfl (fun g_1=>?_) (fun g_1=>?_))
  ·replace h:=if_tt g_1 h
   refine Tri.seq (Tri.reg (l:=[0]) rfl ?_)
   refine F.qn rfl (r_assign rfl) (F.nil (Nrm.seq (Tri.ret ?_)))
   refine Rtn.then ?_
   cases h
   exact Rtn.body (.tmp rfl .nil) (fun w hw=>⟨rfl,hw.ext⟩)
  ·replace h:=if_ff g_1 h
   refine Tri.skip (Nrm.seq (Tri.seq (Tri.seq (Tri.reg (l:=[0]) rfl ?_))))
   refine F.qn rfl (r_assign rfl) (F.nil (Nrm.seq ?_))
   obtain ⟨s0,hE_2,h⟩:=bind_some h
   refine Tri.block ?_
   refine Tri.only [1,3] rfl ?_
   refine Tri.pick [0] rfl rfl ?_
   refine Tri.rounds (fun n e' C'=>∃ (x3' : Int),spec_l10Worlds.l0 k a0_0 a0_1 n x3' = some s0∧e' = [(1,.pointer (some ⟨b1_1,0,none⟩)),(3,.int .i64 x3')]∧C' = Sep w noM [R.box b1_1 88 [va0_0,va0_1]]) k ?_ ?_ ?_
   ·exact ⟨0,hE_2,rfl,rfl⟩
   ·rintro _ _ ⟨_,hE_2,_⟩
    rw [spec_l10Worlds.l0.eq_1] at hE_2; cases hE_2
   ·rintro n_1 _ _ ⟨x3,hE_2,rfl,rfl⟩ ih_1
    rw [spec_l10Worlds.l0.eq_2] at hE_2
    refine Tri.seq (Tri.seq (Tri.reg (l:=[0,1,2,3,4]) rfl ?_))
    refine F.qn rfl (r_move rfl) (F.qn rfl (r_fieldAddr tf88_0 rfl) (F.qn rfl (r_load ta85 rfl (fun w hw=>cell_1 (box_cells (i:=0) rfl w hw) rfl)) (F.qn rfl (r_len Tryz.underlying85 rfl hl_va0_0) (F.qn rfl (r_lss rfl rfl) (F.nil (Nrm.seq (Tri.cond (b:=decide (x3 < (a0_0.length : Int))) rfl (fun g_2=>?_) (fun g_2=>?_))))))))
    ·replace hE_2:=if_tt g_2 hE_2
     refine Tri.skip (Nrm.seq (Tri.seq (Tri.block ?_)))
     refine Tri.seq (Tri.seq ?_)
     obtain ⟨y47,hE_3,hE_2⟩:=bind_some hE_2
     refine Tri.cut (fun e' C'=>e' = [(1,.pointer (some ⟨b1_1,0,none⟩)),(3,.int .i64 x3),(47,.bool y47)]∧C' = Sep w noM [R.box b1_1 88 [va0_0,va0_1]]) ?_ (fun hj_2=>?_)
     ·rintro _ _ ⟨rfl,rfl⟩
      refine Nrm.seq (Tri.cond (b:=y47) rfl (fun g_3=>?_) (fun g_3=>?_))
      ·replace hE_2:=if_tt g_3 hE_2
       refine Tri.seq (Tri.reg (l:=[0]) rfl ?_)
       refine F.qn rfl (r_assign rfl) (F.nil (Nrm.seq (Tri.ret ?_)))
       refine Rtn.then ?_
       refine Rtn.block ?_
       refine Rtn.then ?_
       refine Rtn.then ?_
       refine Rtn.block ?_
       refine Rtn.then ?_
       cases hE_2
       replace h:=Lr_inr h
       cases h
       exact Rtn.body (.tmp rfl .nil) (fun w hw=>⟨rfl,hw.ext⟩)
      ·replace hE_2:=if_ff g_3 hE_2
       refine Tri.skip (Nrm.seq (Tri.seq (Tri.reg (l:=[0]) rfl ?_)))
       refine F.qn rfl (r_assign rfl) (F.nil (Nrm.seq ?_))
       obtain ⟨s1,hE_4,hE_2⟩:=bind_some hE_2
       refine Tri.block ?_
       refine Tri.only [1,3,4] rfl ?_
       refine Tri.pick [0] rfl rfl ?_
       refine Tri.rounds (fun n e' C'=>∃ (x4' : Int),spec_l10Worlds.l1 k a0_0 a0_1 x3 n x4' = some s1∧e' = [(1,.pointer (some ⟨b1_1,0,none⟩)),(3,.int .i64 x3),(4,.int .i64 x4')]∧C' = Sep w noM [R.box b1_1 88 [va0_0,va0_1]]) k ?_ ?_ ?_
       ·exact ⟨0,hE_4,rfl,rfl⟩
       ·rintro _ _ ⟨_,hE_4,_⟩
        rw [spec_l10Worlds.l1.eq_1] at hE_4; cases hE_4
       ·rintro n_2 _ _ ⟨x4,hE_4,rfl,rfl⟩ ih_2
        rw [spec_l10Worlds.l1.eq_2] at hE_4
        refine Tri.seq (Tri.seq ?_)
        obtain ⟨t52,h52,hE_4⟩:=bind_some hE_4
        obtain ⟨_,hc52,hp52⟩:=Rd.elem hr_a0_1 (rdl_some h52).2.2
        obtain ⟨v52_0,rfl,hr_v52_0⟩:=op25 hp52
        have hl_v52_0:=hr_v52_0.len
        refine Tri.reg (l:=[0,1,2,3,4,5,6,7]) rfl ?_
        refine F.qn rfl (r_move rfl) (F.qn rfl (r_fieldAddr tf88_1 rfl) ?_)
        refine F.qn rfl (r_load ta86 rfl (fun w hw=>cell_1 (box_cells (i:=0) rfl w hw) rfl)) (F.qn rfl (r_move rfl) (F.qn rfl (r_indexAddrS Tryz.underlying86 ti25 rfl hl_va0_1 rfl (rdl_some h52).1 (rdl_some h52).2.1) (F.qn rfl (r_load ta25 rfl (fun w hw=>cell_0 (hc52.sep hw) rfl)) (F.qn rfl (r_len Tryz.underlying25 rfl hl_v52_0) (F.qn rfl (r_lss rfl rfl) (F.nil (Nrm.seq (Tri.cond (b:=decide (x4 < (t52.length : Int))) rfl (fun g_4=>?_) (fun g_4=>?_)))))))))
        ·replace hE_4:=if_tt g_4 hE_4
         refine Tri.skip (Nrm.seq (Tri.seq (Tri.block ?_)))
         refine Tri.seq ?_
         obtain ⟨t61,h61,hE_4⟩:=bind_some hE_4
         obtain ⟨_,hc61,hp61⟩:=Rd.elem hr_a0_1 (rdl_some h61).2.2
         obtain ⟨v61_0,rfl,hr_v61_0⟩:=op25 hp61
         have hl_v61_0:=hr_v61_0.len
         obtain ⟨t64,h64,hE_4⟩:=bind_some hE_4
         obtain ⟨t70,h70,hE_4⟩:=bind_some hE_4
         refine Tri.drawA mixedT Sep.up [(0,true),(1,true),(2,true),(3,true),(4,true),(5,true),(6,true),(7,true),(8,true),(9,true),(10,true),(11,true),(12,true),(13,true)] [] (by kernel_rfl) ?_
         refine S.qn rfl (r_fieldAddr tf88_1 rfl) (S.qn rfl (r_load ta86 rfl (fun w hw=>cell_1 (box_cells (i:=0) rfl w hw) rfl)) (S.qn rfl (r_move rfl) (S.qn rfl (r_indexAddrS Tryz.underlying86 ti25 rfl hl_va0_1 rfl (rdl_some h61).1 (rdl_some h61).2.1) (S.qn rfl (r_load ta25 rfl (fun w hw=>cell_0 (hc61.sep hw) rfl)) (S.qn rfl (r_move rfl) ?_)))))
         refine S.qn rfl (r_indexAddrS Tryz.underlying25 ti3 rfl hl_v61_0 rfl (rdl_some h64).1 (rdl_some h64).2.1) (S.qn rfl (r_load ta3 rfl (fun w hw=>cell_0 (Rd.flat ((fun _ hw=>hr_v61_0.sep hw) w hw) (rdl_some h64).2.2) rfl)) (S.qn rfl (r_fieldAddr tf88_0 rfl) (S.qn rfl (r_load ta85 rfl (fun w hw=>cell_1 (box_cells (i:=0) rfl w hw) rfl)) (S.qn rfl (r_len Tryz.underlying85 rfl hl_va0_0) (S.qn rfl (r_sub rfl rfl) ?_)))))
         refine S.qcn rfl (q_callF (xs:=_) rfl ok148 rfl rfl (fun w hw=>spec_l1In.ok h70 w)) ?_
         refine S.qn rfl (r_not rfl) (S.nil (F.nil (Nrm.seq (Tri.cond (b:=!t70) rfl (fun g_5=>?_) (fun g_5=>?_)))))
         ·replace hE_4:=if_tt g_5 hE_4
          refine Tri.seq (Tri.reg (l:=[0]) rfl ?_)
          refine F.qn rfl (r_assign rfl) (F.nil (Nrm.seq (Tri.ret ?_)))
          refine Rtn.block ?_
          refine Rtn.then ?_
          refine Rtn.then ?_
          refine Rtn.block ?_
          refine Rtn.block ?_
          refine Rtn.then ?_
          refine Rtn.then ?_
          refine Rtn.block ?_
          refine Rtn.then ?_
          cases hE_4
          replace hE_2:=Lr_inr hE_2
          cases hE_2
          replace h:=Lr_inr h
          cases h
          exact Rtn.body (.tmp rfl .nil) (fun w hw=>⟨rfl,hw.ext⟩)
         ·replace hE_4:=if_ff g_5 hE_4
          refine Tri.skip (Nrm.block ?_)
          refine Nrm.seq (Tri.reg (l:=[0,1,2]) rfl ?_)
          refine F.qn rfl (r_move rfl) (F.qn rfl (r_add rfl rfl) (F.qn rfl (r_assign rfl) (F.nil (Nrm.round ?_))))
          refine Rnd.only [1,3,4] rfl ?_
          refine Rnd.pick [0] rfl rfl ?_
          exact ih_2 _ _ ⟨w64 (x4 + 1),hE_4,rfl,rfl⟩
        ·replace hE_4:=if_ff g_4 hE_4
         refine Tri.exit ?_
         refine Exi.then ?_
         refine Exi.then ?_
         refine Exi.same ?_
         cases hE_4
         replace hE_2:=Lr_inl hE_2
         refine Nrm.block ?_
         refine Nrm.seq (Tri.reg (l:=[0,1,2]) rfl ?_)
         refine F.qn rfl (r_move rfl) (F.qn rfl (r_add rfl rfl) (F.qn rfl (r_assign rfl) (F.nil (Nrm.round ?_))))
         refine Rnd.only [1,3] rfl ?_
         refine Rnd.pick [0] rfl rfl ?_
         exact ih_1 _ _ ⟨w64 (x3 + 1),hE_2,rfl,rfl⟩
     ·obtain ⟨t29,h29,hE_3⟩:=bind_some hE_3
      obtain ⟨_,hc29,hp29⟩:=Rd.elem hr_a0_0 (rdl_some h29).2.2
      obtain ⟨v29_1,v29_2,rfl,hr_v29_1,hr_v29_2⟩:=op27 hp29
      have hl_v29_1:=hr_v29_1.len
      have hl_v29_2:=hr_v29_2.len
      obtain ⟨t31,h31,hE_3⟩:=bind_some hE_3
      rcases Bool.eq_false_or_eq_true (!t31) with g33 | g33
      ·replace hE_3:=if_tt g33 hE_3
       refine Tri.drawA mixedT Sep.up [(0,true),(1,true),(2,true),(3,true),(4,true),(5,true),(6,true),(7,true),(8,true),(9,true),(10,true),(11,true),(12,true),(13,true),(14,true),(15,true),(16,true),(17,true),(18,true),(19,true),(20,true),(21,true)] [] (by kernel_rfl) ?_
       refine S.qn rfl (r_fieldAddr tf88_0 rfl) (S.qn rfl (r_load ta85 rfl (fun w hw=>cell_1 (box_cells (i:=0) rfl w hw) rfl)) (S.qn rfl (r_move rfl) (S.qn rfl (r_indexAddrS Tryz.underlying85 ti27 rfl hl_va0_0 rfl (rdl_some h29).1 (rdl_some h29).2.1) (S.qn rfl (r_loadA ta27 ti27 rfl rfl (fun w hw=>(hc29.sep hw))) ?_))))
       refine S.qcn rfl (q_callF (xs:=_) rfl ok108 rfl rfl (fun w hw=>spec_l2Maze.ok h31 w ((fun _ hw=>hr_v29_1.sep hw) w hw) ((fun _ hw=>hr_v29_2.sep hw) w hw))) ?_
       refine S.qn rfl (r_not rfl) (S.qn rfl (r_move rfl) ?_)
       iterate 13 refine S.skf rfl g33 ?_
       refine S.qn rfl (r_pick rfl rfl g33) (S.nil (F.nil ?_))
       cases hE_3
       refine Nrm.only [1,3,47] rfl ?_
       refine Nrm.pick [0] rfl rfl ?_
       exact hj_2 _ _ ⟨rfl,rfl⟩
      ·replace hE_3:=if_ff g33 hE_3
       obtain ⟨t37,h37,hE_3⟩:=bind_some hE_3
       obtain ⟨_,hc37,hp37⟩:=Rd.elem hr_a0_1 (rdl_some h37).2.2
       obtain ⟨v37_0,rfl,hr_v37_0⟩:=op25 hp37
       have hl_v37_0:=hr_v37_0.len
       obtain ⟨t43,h43,hE_3⟩:=bind_some hE_3
       obtain ⟨_,hc43,hp43⟩:=Rd.elem hr_a0_0 (rdl_some h43).2.2
       obtain ⟨v43_1,v43_2,rfl,hr_v43_1,hr_v43_2⟩:=op27 hp43
       have hl_v43_1:=hr_v43_1.len
       have hl_v43_2:=hr_v43_2.len
       refine Tri.drawA mixedT Sep.up [(0,true),(1,true),(2,true),(3,true),(4,true),(5,true),(6,true),(7,true),(8,true),(9,true),(10,true),(11,true),(12,true),(13,true),(14,true),(15,true),(16,true),(17,true),(18,true),(19,true),(20,true),(21,true)] [] (by kernel_rfl) ?_
       refine S.qn rfl (r_fieldAddr tf88_0 rfl) (S.qn rfl (r_load ta85 rfl (fun w hw=>cell_1 (box_cells (i:=0) rfl w hw) rfl)) (S.qn rfl (r_move rfl) (S.qn rfl (r_indexAddrS Tryz.underlying85 ti27 rfl hl_va0_0 rfl (rdl_some h29).1 (rdl_some h29).2.1) (S.qn rfl (r_loadA ta27 ti27 rfl rfl (fun w hw=>(hc29.sep hw))) ?_))))
       refine S.qcn rfl (q_callF (xs:=_) rfl ok108 rfl rfl (fun w hw=>spec_l2Maze.ok h31 w ((fun _ hw=>hr_v29_1.sep hw) w hw) ((fun _ hw=>hr_v29_2.sep hw) w hw))) ?_
       refine S.qn rfl (r_not rfl) (S.qn rfl (r_move rfl) (S.qg rfl g33 (r_fieldAddr tf88_1 rfl) (S.qg rfl g33 (r_load ta86 rfl (fun w hw=>cell_1 (box_cells (i:=0) rfl w hw) rfl)) ?_)))
       refine S.qg rfl g33 (r_move rfl) (S.qg rfl g33 (r_indexAddrS Tryz.underlying86 ti25 rfl hl_va0_1 rfl (rdl_some h37).1 (rdl_some h37).2.1) (S.qg rfl g33 (r_load ta25 rfl (fun w hw=>cell_0 (hc37.sep hw) rfl)) (S.qg rfl g33 (r_len Tryz.underlying25 rfl hl_v37_0) (S.qg rfl g33 (r_fieldAddr tf88_0 rfl) (S.qg rfl g33 (r_load ta85 rfl (fun w hw=>cell_1 (box_cells (i:=0) rfl w hw) rfl)) ?_)))))
       refine S.qg rfl g33 (r_move rfl) (S.qg rfl g33 (r_indexAddrS Tryz.underlying85 ti27 rfl hl_va0_0 rfl (rdl_some h43).1 (rdl_some h43).2.1) (S.qg rfl g33 (r_fieldAddr tf27_0 rfl) (S.qg rfl g33 (r_load ta3 rfl (fun w hw=>cell_1 (hc43.sep hw) rfl)) (S.qg rfl g33 (r_neq rfl rfl) (S.qn rfl (r_pickf rfl rfl g33) (S.nil (F.nil ?_)))))))
       cases hE_3
       refine Nrm.only [1,3,47] rfl ?_
       refine Nrm.pick [0] rfl rfl ?_
       exact hj_2 _ _ ⟨rfl,rfl⟩
    ·replace hE_2:=if_ff g_2 hE_2
     refine Tri.exit ?_
     refine Exi.then ?_
     refine Exi.then ?_
     refine Exi.same ?_
     cases hE_2
     replace h:=Lr_inl h
     refine Nrm.seq (Tri.seq (Tri.reg (l:=[0]) rfl ?_))
     refine F.qn rfl (r_assign rfl) (F.nil (Nrm.seq (Tri.ret ?_)))
     cases h
     exact Rtn.body (.tmp rfl .nil) (fun w hw=>⟨rfl,hw.ext⟩)
 ·obtain ⟨t8,h8,hE_1⟩:=bind_some hE_1
  rcases Bool.eq_false_or_eq_true (!t8) with g10 | g10
  ·replace hE_1:=if_tt g10 hE_1
   refine Tri.reg (l:=List.range 14) rfl ?_
   refine F.qn rfl (r_fieldAddr tf88_0 rfl) (F.qn rfl (r_load ta85 rfl (fun w hw=>cell_1 (box_cells (i:=0) rfl w hw) rfl)) (F.qn rfl (r_len Tryz.underlying85 rfl hl_va0_0) ?_))
   refine F.qcn rfl (q_callF (xs:=_) rfl ok148 rfl rfl (fun w hw=>spec_l1In.ok h8 w)) ?_
   refine F.qn rfl (r_not rfl) (F.qn rfl (r_move rfl) ?_)
   iterate 7 refine F.skf rfl g10 ?_
   refine F.qn rfl (r_pick rfl rfl g10) (F.nil ?_)
   cases hE_1
   refine Nrm.only [1,18] rfl ?_
   refine Nrm.pick [0] rfl rfl ?_
   exact hj_1 _ _ ⟨rfl,rfl⟩
  ·replace hE_1:=if_ff g10 hE_1
   refine Tri.reg (l:=List.range 14) rfl ?_
   refine F.qn rfl (r_fieldAddr tf88_0 rfl) (F.qn rfl (r_load ta85 rfl (fun w hw=>cell_1 (box_cells (i:=0) rfl w hw) rfl)) (F.qn rfl (r_len Tryz.underlying85 rfl hl_va0_0) ?_))
   refine F.qcn rfl (q_callF (xs:=_) rfl ok148 rfl rfl (fun w hw=>spec_l1In.ok h8 w)) ?_
   refine F.qn rfl (r_not rfl) (F.qn rfl (r_move rfl) (F.qg rfl g10 (r_fieldAddr tf88_1 rfl) (F.qg rfl g10 (r_load ta86 rfl (fun w hw=>cell_1 (box_cells (i:=0) rfl w hw) rfl)) ?_)))
   refine F.qg rfl g10 (r_len Tryz.underlying86 rfl hl_va0_1) (F.qg rfl g10 (r_fieldAddr tf88_0 rfl) (F.qg rfl g10 (r_load ta85 rfl (fun w hw=>cell_1 (box_cells (i:=0) rfl w hw) rfl)) (F.qg rfl g10 (r_len Tryz.underlying85 rfl hl_va0_0) (F.qg rfl g10 (r_neq rfl rfl) (F.qn rfl (r_pickf rfl rfl g10) (F.nil ?_))))))
   cases hE_1
   refine Nrm.only [1,18] rfl ?_
   refine Nrm.pick [0] rfl rfl ?_
   exact hj_1 _ _ ⟨rfl,rfl⟩


def spec_l1Has.l0 (k : Nat) (a0 : List Int) (a1 : Int) : Nat → Int → Option ((Unit) ⊕ (Bool))
 | 0,_=>none
 | n + 1,x5=>(if (decide (x5 < (a0.length : Int))) = true then (rdl a0 x5).bind fun t14=>(if (t14 == a1) = true then some (Sum.inr true) else spec_l1Has.l0 k a0 a1 n (w64 (x5 + 1))) else some (Sum.inl ()))

def spec_l1Has.f (k : Nat) (a0 : List Int) (a1 : Int) : Option (Bool) := (spec_l1Has.l0 k a0 a1 k 0).bind fun s => Lr s some fun _ => some false

theorem spec_l1Has.ok {k : Nat}  {a0 : List Int} {a1 : Int} {r0 : Bool} (h : spec_l1Has.f k a0 a1 = some r0) (w : World) {va0 : Value} (hr_a0 : Rd w va0 a0) :
  Calls Tryz.prog 149 ([va0,.int .i64 a1] : List Value).toArray w (fun e w'=>e = .returned (.bool r0)∧Ext w w'):=by
 unfold spec_l1Has.f at h
 have hl_va0:=hr_a0.len
 refine Calls.of_tri (N:=18) Tryz.func149 rfl rfl rfl (Sep.nil (M:=noM)) ?_
 refine Tri.seq (Tri.reg (l:=[0]) rfl ?_)
 refine F.qn rfl (r_assign rfl) (F.nil (Nrm.seq (Tri.seq (Tri.seq (Tri.reg (l:=[0]) rfl ?_)))))
 refine F.qn rfl (r_assign rfl) (F.nil (Nrm.seq ?_))
 obtain ⟨s0,hE_1,h⟩:=bind_some h
 refine Tri.block ?_
 refine Tri.only [0,1,5] rfl ?_
 refine Tri.pick [] rfl rfl ?_
 refine Tri.rounds (fun n e' C'=>∃ (x5' : Int),spec_l1Has.l0 k a0 a1 n x5' = some s0∧e' = [(0,va0),(1,.int .i64 a1),(5,.int .i64 x5')]∧C' = Sep w noM []) k ?_ ?_ ?_
 ·exact ⟨0,hE_1,rfl,rfl⟩
 ·rintro _ _ ⟨_,hE_1,_⟩
  rw [spec_l1Has.l0.eq_1] at hE_1; cases hE_1
 ·rintro n_1 _ _ ⟨x5,hE_1,rfl,rfl⟩ ih_1
  rw [spec_l1Has.l0.eq_2] at hE_1
  refine Tri.seq (Tri.seq (Tri.reg (l:=[0,1,2,3]) rfl ?_))
  refine F.qn rfl (r_move rfl) (F.qn rfl (r_move rfl) (F.qn rfl (r_len Tryz.underlying25 rfl hl_va0) (F.qn rfl (r_lss rfl rfl) (F.nil (Nrm.seq (Tri.cond (b:=decide (x5 < (a0.length : Int))) rfl (fun g_1=>?_) (fun g_1=>?_)))))))
  ·replace hE_1:=if_tt g_1 hE_1
   refine Tri.skip (Nrm.seq (Tri.seq (Tri.block ?_)))
   refine Tri.seq ?_
   obtain ⟨t14,h14,hE_1⟩:=bind_some hE_1
   refine Tri.reg (l:=[0,1,2,3,4,5]) rfl ?_
   refine F.qn rfl (r_move rfl) (F.qn rfl (r_move rfl) (F.qn rfl (r_indexAddrS Tryz.underlying25 ti3 rfl hl_va0 rfl (rdl_some h14).1 (rdl_some h14).2.1) (F.qn rfl (r_load ta3 rfl (fun w hw=>cell_0 (Rd.flat ((fun _ hw=>hr_a0.sep hw) w hw) (rdl_some h14).2.2) rfl)) (F.qn rfl (r_move rfl) (F.qn rfl (r_eql rfl rfl) (F.nil (Nrm.seq (Tri.cond (b:=t14 == a1) rfl (fun g_2=>?_) (fun g_2=>?_)))))))))
   ·replace hE_1:=if_tt g_2 hE_1
    refine Tri.seq (Tri.reg (l:=[0]) rfl ?_)
    refine F.qn rfl (r_assign rfl) (F.nil (Nrm.seq (Tri.ret ?_)))
    refine Rtn.block ?_
    refine Rtn.then ?_
    refine Rtn.then ?_
    refine Rtn.block ?_
    refine Rtn.then ?_
    cases hE_1
    replace h:=Lr_inr h
    cases h
    exact Rtn.body (.tmp rfl .nil) (fun w hw=>⟨rfl,hw.ext⟩)
   ·replace hE_1:=if_ff g_2 hE_1
    refine Tri.skip (Nrm.block ?_)
    refine Nrm.seq (Tri.reg (l:=[0,1,2]) rfl ?_)
    refine F.qn rfl (r_move rfl) (F.qn rfl (r_add rfl rfl) (F.qn rfl (r_assign rfl) (F.nil (Nrm.round ?_))))
    refine Rnd.only [0,1,5] rfl ?_
    refine Rnd.pick [] rfl rfl ?_
    exact ih_1 _ _ ⟨w64 (x5 + 1),hE_1,rfl,rfl⟩
  ·replace hE_1:=if_ff g_1 hE_1
   refine Tri.exit ?_
   refine Exi.then ?_
   refine Exi.then ?_
   refine Exi.same ?_
   cases hE_1
   replace h:=Lr_inl h
   refine Nrm.seq (Tri.seq (Tri.reg (l:=[0]) rfl ?_))
   refine F.qn rfl (r_assign rfl) (F.nil (Nrm.seq (Tri.ret ?_)))
   cases h
   exact Rtn.body (.tmp rfl .nil) (fun w hw=>⟨rfl,hw.ext⟩)


def spec_l2Order.l0 (k : Nat) (a0 : List Int) (a1 : Int) : Nat → Int → Option ((Unit) ⊕ (Bool))
 | 0,_=>none
 | n + 1,x5=>(if (decide (x5 < a1)) = true then (spec_l1Has.f k a0 x5).bind fun t13=>(if (!t13) = true then some (Sum.inr false) else spec_l2Order.l0 k a0 a1 n (w64 (x5 + 1))) else some (Sum.inl ()))

def spec_l2Order.f (k : Nat) (a0 : List Int) (a1 : Int) : Option (Bool) := (spec_l2Order.l0 k a0 a1 k 0).bind fun s => Lr s some fun _ => some ((a0.length : Int) == a1)

theorem spec_l2Order.ok {k : Nat}  {a0 : List Int} {a1 : Int} {r0 : Bool} (h : spec_l2Order.f k a0 a1 = some r0) (w : World) {va0 : Value} (hr_a0 : Rd w va0 a0) :
  Calls Tryz.prog 160 ([va0,.int .i64 a1] : List Value).toArray w (fun e w'=>e = .returned (.bool r0)∧Ext w w'):=by
 unfold spec_l2Order.f at h
 have hl_va0:=hr_a0.len
 refine Calls.of_tri (N:=19) Tryz.func160 rfl rfl rfl (Sep.nil (M:=noM)) ?_
 refine Tri.seq (Tri.reg (l:=[0]) rfl ?_)
 refine F.qn rfl (r_assign rfl) (F.nil (Nrm.seq (Tri.seq (Tri.seq (Tri.reg (l:=[0]) rfl ?_)))))
 refine F.qn rfl (r_assign rfl) (F.nil (Nrm.seq ?_))
 obtain ⟨s0,hE_1,h⟩:=bind_some h
 refine Tri.block ?_
 refine Tri.only [0,1,5] rfl ?_
 refine Tri.pick [] rfl rfl ?_
 refine Tri.rounds (fun n e' C'=>∃ (x5' : Int),spec_l2Order.l0 k a0 a1 n x5' = some s0∧e' = [(0,va0),(1,.int .i64 a1),(5,.int .i64 x5')]∧C' = Sep w noM []) k ?_ ?_ ?_
 ·exact ⟨0,hE_1,rfl,rfl⟩
 ·rintro _ _ ⟨_,hE_1,_⟩
  rw [spec_l2Order.l0.eq_1] at hE_1; cases hE_1
 ·rintro n_1 _ _ ⟨x5,hE_1,rfl,rfl⟩ ih_1
  rw [spec_l2Order.l0.eq_2] at hE_1
  refine Tri.seq (Tri.seq (Tri.reg (l:=[0,1,2]) rfl ?_))
  refine F.qn rfl (r_move rfl) (F.qn rfl (r_move rfl) (F.qn rfl (r_lss rfl rfl) (F.nil (Nrm.seq (Tri.cond (b:=decide (x5 < a1)) rfl (fun g_1=>?_) (fun g_1=>?_))))))
  ·replace hE_1:=if_tt g_1 hE_1
   refine Tri.skip (Nrm.seq (Tri.seq (Tri.block ?_)))
   refine Tri.seq ?_
   obtain ⟨t13,h13,hE_1⟩:=bind_some hE_1
   refine Tri.reg (l:=[0,1,2,3]) rfl ?_
   refine F.qn rfl (r_move rfl) (F.qn rfl (r_move rfl) ?_)
   refine F.qcn rfl (q_callF (xs:=_) rfl ok149 rfl rfl (fun w hw=>spec_l1Has.ok h13 w ((fun _ hw=>hr_a0.sep hw) w hw))) ?_
   refine F.qn rfl (r_not rfl) (F.nil (Nrm.seq (Tri.cond (b:=!t13) rfl (fun g_2=>?_) (fun g_2=>?_))))
   ·replace hE_1:=if_tt g_2 hE_1
    refine Tri.seq (Tri.reg (l:=[0]) rfl ?_)
    refine F.qn rfl (r_assign rfl) (F.nil (Nrm.seq (Tri.ret ?_)))
    refine Rtn.block ?_
    refine Rtn.then ?_
    refine Rtn.then ?_
    refine Rtn.block ?_
    refine Rtn.then ?_
    cases hE_1
    replace h:=Lr_inr h
    cases h
    exact Rtn.body (.tmp rfl .nil) (fun w hw=>⟨rfl,hw.ext⟩)
   ·replace hE_1:=if_ff g_2 hE_1
    refine Tri.skip (Nrm.block ?_)
    refine Nrm.seq (Tri.reg (l:=[0,1,2]) rfl ?_)
    refine F.qn rfl (r_move rfl) (F.qn rfl (r_add rfl rfl) (F.qn rfl (r_assign rfl) (F.nil (Nrm.round ?_))))
    refine Rnd.only [0,1,5] rfl ?_
    refine Rnd.pick [] rfl rfl ?_
    exact ih_1 _ _ ⟨w64 (x5 + 1),hE_1,rfl,rfl⟩
  ·replace hE_1:=if_ff g_1 hE_1
   refine Tri.exit ?_
   refine Exi.then ?_
   refine Exi.then ?_
   refine Exi.same ?_
   cases hE_1
   replace h:=Lr_inl h
   refine Nrm.seq (Tri.seq (Tri.reg (l:=[0,1,2,3,4]) rfl ?_))
   refine F.qn rfl (r_move rfl) (F.qn rfl (r_len Tryz.underlying25 rfl hl_va0) (F.qn rfl (r_move rfl) (F.qn rfl (r_eql rfl rfl) (F.qn rfl (r_assign rfl) (F.nil (Nrm.seq (Tri.ret ?_)))))))
   cases h
   exact Rtn.body (.tmp rfl .nil) (fun w hw=>⟨rfl,hw.ext⟩)


def spec_OrderWorlds.l2 (k : Nat) (a0_1 : List (List Int)) (a1 : List Int) (x6 : List (Int)) (x9 : Int) : Nat → (List (Int)) → Int → Option ((List (Int)))
 | 0,_,_=>none
 | n + 1,x10,x11=>(rdl a1 x9).bind fun t55=>(rdl a0_1 t55).bind fun t57=>(if (decide (x11 < (t57.length : Int))) = true then (rdl a1 x9).bind fun t69=>(rdl a0_1 t69).bind fun t71=>(rdl t71 x11).bind fun t74=>(rdl x6 t74).bind fun t76=>if (x10 ++ ([t76] : List (Int))).length < 1099511627776 then spec_OrderWorlds.l2 k a0_1 a1 x6 x9 n (x10 ++ ([t76] : List (Int))) (w64 (x11 + 1)) else none else some x10)

def spec_OrderWorlds.l1 (k : Nat) (a0_0 : List (Int × List (Int × Int × Int) × List Int)) (a0_1 : List (List Int)) (a1 : List Int) (x6 : List (Int)) : Nat → Int → (List (Int × List (Int × Int × Int) × List Int)) → (List (List Int)) → Option ((List (Int × List (Int × Int × Int) × List Int)) × (List (List Int)))
 | 0,_,_,_=>none
 | n + 1,x9,xq8_1_0,xq8_1_1=>(if (decide (x9 < (a1.length : Int))) = true then (spec_OrderWorlds.l2 k a0_1 a1 x6 x9 k ([] : List (Int)) 0).bind fun x10=>(rdl a1 x9).bind fun t86=>(rdl a0_0 t86).bind fun t88=>(spec_l2Own.f k t88.1 t88.2.1 t88.2.2).bind fun (t90_1,t90_2,t90_3)=>if ((xq8_1_0 : List (Int × List (Int × Int × Int) × List Int)) ++ ([(t90_1,t90_2,t90_3)] : List (Int × List (Int × Int × Int) × List Int))).length < 1099511627776 then if ((xq8_1_1 : List (List Int)) ++ ([x10] : List (List Int))).length < 1099511627776 then spec_OrderWorlds.l1 k a0_0 a0_1 a1 x6 n (w64 (x9 + 1)) ((xq8_1_0 : List (Int × List (Int × Int × Int) × List Int)) ++ ([(t90_1,t90_2,t90_3)] : List (Int × List (Int × Int × Int) × List Int))) ((xq8_1_1 : List (List Int)) ++ ([x10] : List (List Int))) else none else none else some (xq8_1_0,xq8_1_1))

def spec_OrderWorlds.l0 (k : Nat) (a1 : List Int) : Nat → (List (Int)) → Int → Option ((List (Int)))
 | 0,_,_=>none
 | n + 1,x6,x7=>(if (decide (x7 < (a1.length : Int))) = true then (rdl a1 x7).bind fun t36=>(rdl x6 t36).bind fun t39=>spec_OrderWorlds.l0 k a1 n (x6.set t36.toNat x7) (w64 (x7 + 1)) else some x6)

def spec_OrderWorlds.f (k : Nat) (a0_0 : List (Int × List (Int × Int × Int) × List Int)) (a0_1 : List (List Int)) (a1 : List Int) : Option ((List (Int × List (Int × Int × Int) × List Int)) × (List (List Int)) × Bool) := ((spec_l10Worlds.f k a0_0 a0_1).bind fun t13 => (if (!t13) = true then some true else (spec_l2Order.f k a1 (a0_0.length : Int)).bind fun t20 => some (!t20))).bind fun y22 => (if y22 = true then some ([], [], false) else if 0 ≤ (a1.length : Int) ∧ (a1.length : Int) < 1099511627776 then (spec_OrderWorlds.l0 k a1 k (List.replicate ((a1.length : Int)).toNat (0 : Int)) 0).bind fun x6 => (spec_OrderWorlds.l1 k a0_0 a0_1 a1 x6 k 0 ([] : List (Int × List (Int × Int × Int) × List Int)) ([] : List (List Int))).bind fun (xq8_1_0, xq8_1_1) => some (xq8_1_0, xq8_1_1, true) else none)

theorem spec_OrderWorlds.ok {k : Nat}  {a0_0 : List (Int × List (Int × Int × Int) × List Int)} {a0_1 : List (List Int)} {a1 : List Int} {r0 : List (Int × List (Int × Int × Int) × List Int)} {r1 : List (List Int)} {r2 : Bool} (h : spec_OrderWorlds.f k a0_0 a0_1 a1 = some (r0, r1, r2)) (w : World) {va0_0 : Value} {va0_1 : Value} {va1 : Value} (hr_a0_0 : Rd w va0_0 a0_0) (hr_a0_1 : Rd w va0_1 a0_1) (hr_a1 : Rd w va1 a1) :
  Calls Tryz.prog 72 ([.agg ([va0_0,va0_1].toArray),va1] : List Value).toArray w (Post (fun u ns=>∃ (ur0 : Value) (Sr0 : Nat → Prop) (ur1 : Value) (Sr1 : Nat → Prop),u = .tuple #[.agg [ur0,ur1].toArray,.bool r2]∧SlLen ur0 r0.length∧SlLen ur1 r1.length∧ns = [R.sl Sr0 ur0 r0,R.sl Sr1 ur1 r1]) w):=by
 unfold spec_OrderWorlds.f at h
 have hl_va0_0:=hr_a0_0.len
 have hl_va0_1:=hr_a0_1.len
 have hl_va1:=hr_a1.len
 refine Calls.of_tri (N:=101) Tryz.func72 rfl rfl rfl (Sep.nil (M:=noM)) ?_
 refine Tri.seq (Tri.reg (l:=[0,1,2]) rfl ?_)
 refine F.mn rfl (m_boxG rfl rfl) ?_
 rintro _ _ ⟨b2_1,rfl,rfl⟩
 refine F.mn rfl (m_alloc ti88) ?_
 rintro _ _ ⟨b4_1,rfl,rfl⟩
 refine F.qn rfl (r_assign rfl) (F.nil (Nrm.seq (Tri.seq (Tri.seq ?_))))
 obtain ⟨y22,hE_1,h⟩:=bind_some h
 refine Tri.cut (fun e' C'=>e' = [(1,va1),(2,.pointer (some ⟨b2_1,0,none⟩)),(4,.pointer (some ⟨b4_1,0,none⟩)),(22,.bool y22)]∧C' = Sep w noM [R.box b4_1 88 [.slice none 0 0,.slice none 0 0],R.box b2_1 88 [va0_0,va0_1]]) ?_ (fun hj_1=>?_)
 ·rintro _ _ ⟨rfl,rfl⟩
  refine Nrm.seq (Tri.cond (b:=y22) rfl (fun g_1=>?_) (fun g_1=>?_))
  ·replace h:=if_tt g_1 h
   refine Tri.seq (Tri.reg (l:=[0,1,2]) rfl ?_)
   refine F.qn rfl (r_build (pl:=[(0,1),(1,1)]) (qs:=[]) (cs:=[.slice none 0 0,.slice none 0 0]) (by kernel_rfl) ti88 rfl .nil rfl rfl) ?_
   refine F.ef0 rfl rfl (wanted_none rfl) (d_storeG0 (i:=0) (cs2:=[.slice none 0 0,.slice none 0 0]) ti88 rfl rfl rfl rfl rfl (Nat.le_of_ble_eq_true rfl) (lf_cons rfl (lf_cons rfl lf_nil))) ?_
   rintro _ _ ⟨rfl,rfl⟩
   refine F.qn rfl (r_assign rfl) (F.nil (Nrm.seq (Tri.ret ?_)))
   refine Rtn.then ?_
   cases h
   exact Rtn.body (.cell rfl ta88 ti88 rfl (fun _ hw=>box_cells (i:=0) rfl _ hw) (.tmp rfl .nil)) (fun w hw=>⟨_,_,rfl,⟨.slice none 0 0,fun _=>False,.slice none 0 0,fun _=>False,rfl,len_nil,len_nil,rfl⟩,Sep.pick (is:=[0,1]) rfl rfl hw.pushNil.pushNil⟩)
  ·replace h:=if_ff g_1 h
   refine Tri.skip (Nrm.seq (Tri.seq ?_))
   obtain ⟨hm26,h⟩:=ck h
   refine Tri.reg (l:=[0,1,2,3]) rfl ?_
   refine F.qn rfl (r_move rfl) (F.qn rfl (r_len Tryz.underlying25 rfl hl_va1) ?_)
   refine F.mn rfl (m_make (x0:=(0 : Int)) Tryz.underlying25 ti3 rfl rfl rfl hm26.1 hm26.2 (by decide)) ?_
   rintro v26_1 _ ⟨S26_1,hl_v26_1,rfl⟩
   refine F.qn rfl (r_assign rfl) (F.nil (Nrm.seq (Tri.seq (Tri.seq (Tri.reg (l:=[0]) rfl ?_)))))
   refine F.qn rfl (r_assign rfl) (F.nil (Nrm.seq ?_))
   obtain ⟨x6,hE_2,h⟩:=bind_some h
   refine Tri.block ?_
   refine Tri.only [1,2,4,6,7] rfl ?_
   refine Tri.pick [1,2,0] rfl rfl ?_
   refine Tri.rounds (fun n e' C'=>∃ (x6' : List (Int)) (x7' : Int),spec_OrderWorlds.l0 k a1 n x6' x7' = some x6∧SlLen v26_1 (x6').length∧e' = [(1,va1),(2,.pointer (some ⟨b2_1,0,none⟩)),(4,.pointer (some ⟨b4_1,0,none⟩)),(6,v26_1),(7,.int .i64 x7')]∧C' = Sep w noM [R.box b4_1 88 [.slice none 0 0,.slice none 0 0],R.box b2_1 88 [va0_0,va0_1],R.sl S26_1 v26_1 (x6' : List (Int))]) k ?_ ?_ ?_
   ·exact ⟨List.replicate ((a1.length : Int)).toNat (0 : Int),0,hE_2,hl_v26_1,rfl,rfl⟩
   ·rintro _ _ ⟨_,_,hE_2,_⟩
    rw [spec_OrderWorlds.l0.eq_1] at hE_2; cases hE_2
   ·rintro n_1 _ _ ⟨x6,x7,hE_2,hl_x6,rfl,rfl⟩ ih_1
    rw [spec_OrderWorlds.l0.eq_2] at hE_2
    refine Tri.seq (Tri.seq (Tri.reg (l:=[0,1,2,3]) rfl ?_))
    refine F.qn rfl (r_move rfl) (F.qn rfl (r_move rfl) (F.qn rfl (r_len Tryz.underlying25 rfl hl_va1) (F.qn rfl (r_lss rfl rfl) (F.nil (Nrm.seq (Tri.cond (b:=decide (x7 < (a1.length : Int))) rfl (fun g_2=>?_) (fun g_2=>?_)))))))
    ·replace hE_2:=if_tt g_2 hE_2
     refine Tri.skip (Nrm.seq (Tri.seq (Tri.block ?_)))
     obtain ⟨t36,h36,hE_2⟩:=bind_some hE_2
     obtain ⟨t39,h39,hE_2⟩:=bind_some hE_2
     refine Tri.reg (l:=[0,1,2,3,4,5,6,7]) rfl ?_
     iterate 3 refine F.qn rfl (r_move rfl) ?_
     refine F.qn rfl (r_indexAddrS Tryz.underlying25 ti3 rfl hl_va1 rfl (rdl_some h36).1 (rdl_some h36).2.1) (F.qn rfl (r_load ta3 rfl (fun w hw=>cell_0 (Rd.flat ((fun _ hw=>hr_a1.sep hw) w hw) (rdl_some h36).2.2) rfl)) (F.qn rfl (r_move rfl) (F.qn rfl (r_indexAddrS Tryz.underlying25 ti3 rfl hl_x6 rfl (rdl_some h39).1 (rdl_some h39).2.1) ?_)))
     refine F.ef0 rfl rfl (wanted_none rfl) (d_storeE (i:=2) (x1:=x7) ti3 rfl rfl rfl (rdl_some h39) rfl) ?_
     rintro _ _ ⟨rfl,rfl⟩
     refine F.nil (Nrm.block ?_)
     refine Nrm.seq (Tri.reg (l:=[0,1,2]) rfl ?_)
     refine F.qn rfl (r_move rfl) (F.qn rfl (r_add rfl rfl) (F.qn rfl (r_assign rfl) (F.nil (Nrm.round ?_))))
     refine Rnd.only [1,2,4,6,7] rfl ?_
     refine Rnd.pick [0,1,2] rfl rfl ?_
     exact ih_1 _ _ ⟨x6.set t36.toNat x7,w64 (x7 + 1),hE_2,(len_set hl_x6),rfl,rfl⟩
    ·replace hE_2:=if_ff g_2 hE_2
     refine Tri.exit ?_
     refine Exi.then ?_
     refine Exi.then ?_
     refine Exi.same ?_
     cases hE_2
     refine Nrm.seq (Tri.seq (Tri.reg (l:=[0,1,2,3,4]) rfl ?_))
     refine F.mn rfl (m_build0 (α:=Int × List (Int × Int × Int) × List Int) Tryz.underlying85 ti27) ?_
     rintro v40_1 _ ⟨S40_1,hl_v40_1,rfl⟩
     refine F.mn rfl (m_build0 (α:=List Int) Tryz.underlying86 ti25) ?_
     rintro v41_1 _ ⟨S41_1,hl_v41_1,rfl⟩
     refine F.qn rfl (r_build (pl:=[(0,1),(1,1)]) (qs:=[(0,[v40_1]),(1,[v41_1])]) (cs:=[v40_1,v41_1]) (by kernel_rfl) ti88 rfl (.cons (sl_cells hl_v40_1) rfl (Nat.le_of_ble_eq_true rfl) (.cons (sl_cells hl_v41_1) rfl (Nat.le_of_ble_eq_true rfl) .nil)) rfl rfl) ?_
     refine F.mn rfl (m_alloc ti88) ?_
     rintro _ _ ⟨b8_1,rfl,rfl⟩
     refine F.ef0 rfl rfl (wanted_none rfl) (d_storeG0 (i:=0) (cs2:=[v40_1,v41_1]) ti88 rfl rfl rfl rfl rfl (Nat.le_of_ble_eq_true rfl) (lf_cons (sl_leaf hl_v40_1) (lf_cons (sl_leaf hl_v41_1) lf_nil))) ?_
     rintro _ _ ⟨rfl,rfl⟩
     refine F.nil (Nrm.seq (Tri.seq (Tri.seq (Tri.reg (l:=[0]) rfl ?_))))
     refine F.qn rfl (r_assign rfl) (F.nil (Nrm.seq ?_))
     obtain ⟨⟨xq8_1_0,xq8_1_1⟩,hE_3,h⟩:=bind_some h
     refine Tri.block ?_
     refine Tri.only [1,2,4,6,8,9] rfl ?_
     refine Tri.pick [0,3,4,1,2,5] rfl rfl ?_
     refine Tri.rounds (fun n e' C'=>∃ (x9' : Int) (xq8_1_0' : List (Int × List (Int × Int × Int) × List Int)) (xq8_1_1' : List (List Int)) (wq8_1_0 : Value) (Tq8_1_0 : Nat → Prop) (wq8_1_1 : Value) (Tq8_1_1 : Nat → Prop),spec_OrderWorlds.l1 k a0_0 a0_1 a1 x6 n x9' xq8_1_0' xq8_1_1' = some (xq8_1_0,xq8_1_1)∧SlLen wq8_1_0 (xq8_1_0').length∧SlLen wq8_1_1 (xq8_1_1').length∧e' = [(1,va1),(2,.pointer (some ⟨b2_1,0,none⟩)),(4,.pointer (some ⟨b4_1,0,none⟩)),(6,v26_1),(8,.pointer (some ⟨b8_1,0,none⟩)),(9,.int .i64 x9')]∧C' = Sep w noM [R.box b8_1 88 [wq8_1_0,wq8_1_1],R.box b4_1 88 [.slice none 0 0,.slice none 0 0],R.box b2_1 88 [va0_0,va0_1],R.sl Tq8_1_1 wq8_1_1 (xq8_1_1' : List (List Int)),R.sl Tq8_1_0 wq8_1_0 (xq8_1_0' : List (Int × List (Int × Int × Int) × List Int)),R.sl S26_1 v26_1 (x6 : List (Int))]) k ?_ ?_ ?_
     ·exact ⟨0,([] : List (Int × List (Int × Int × Int) × List Int)),([] : List (List Int)),v40_1,S40_1,v41_1,S41_1,hE_3,hl_v40_1,hl_v41_1,rfl,rfl⟩
     ·rintro _ _ ⟨_,_,_,_,_,_,_,hE_3,_⟩
      rw [spec_OrderWorlds.l1.eq_1] at hE_3; cases hE_3
     ·rintro n_2 _ _ ⟨x9,xq8_1_0,xq8_1_1,wq8_1_0,Tq8_1_0,wq8_1_1,Tq8_1_1,hE_3,hl_wq8_1_0,hl_wq8_1_1,rfl,rfl⟩ ih_2
      rw [spec_OrderWorlds.l1.eq_2] at hE_3
      refine Tri.seq (Tri.seq (Tri.reg (l:=[0,1,2,3]) rfl ?_))
      refine F.qn rfl (r_move rfl) (F.qn rfl (r_move rfl) (F.qn rfl (r_len Tryz.underlying25 rfl hl_va1) (F.qn rfl (r_lss rfl rfl) (F.nil (Nrm.seq (Tri.cond (b:=decide (x9 < (a1.length : Int))) rfl (fun g_3=>?_) (fun g_3=>?_)))))))
      ·replace hE_3:=if_tt g_3 hE_3
       refine Tri.skip (Nrm.seq (Tri.seq (Tri.block ?_)))
       refine Tri.seq (Tri.reg (l:=[0,1]) rfl ?_)
       refine F.mn rfl (m_build0 (α:=Int) Tryz.underlying25 ti3) ?_
       rintro v49_1 _ ⟨S49_1,hl_v49_1,rfl⟩
       refine F.qn rfl (r_assign rfl) (F.nil (Nrm.seq (Tri.seq (Tri.seq (Tri.reg (l:=[0]) rfl ?_)))))
       refine F.qn rfl (r_assign rfl) (F.nil (Nrm.seq ?_))
       obtain ⟨x10,hE_4,hE_3⟩:=bind_some hE_3
       refine Tri.block ?_
       refine Tri.only [1,2,4,6,8,9,10,11] rfl ?_
       refine Tri.pick [1,2,3,0,4,5,6] rfl rfl ?_
       refine Tri.rounds (fun n e' C'=>∃ (x10' : List (Int)) (x11' : Int) (w10 : Value) (T10 : Nat → Prop),spec_OrderWorlds.l2 k a0_1 a1 x6 x9 n x10' x11' = some x10∧SlLen w10 (x10').length∧e' = [(1,va1),(2,.pointer (some ⟨b2_1,0,none⟩)),(4,.pointer (some ⟨b4_1,0,none⟩)),(6,v26_1),(8,.pointer (some ⟨b8_1,0,none⟩)),(9,.int .i64 x9),(10,w10),(11,.int .i64 x11')]∧C' = Sep w noM [R.box b8_1 88 [wq8_1_0,wq8_1_1],R.box b4_1 88 [.slice none 0 0,.slice none 0 0],R.box b2_1 88 [va0_0,va0_1],R.sl T10 w10 (x10' : List (Int)),R.sl Tq8_1_1 wq8_1_1 (xq8_1_1 : List (List Int)),R.sl Tq8_1_0 wq8_1_0 (xq8_1_0 : List (Int × List (Int × Int × Int) × List Int)),R.sl S26_1 v26_1 (x6 : List (Int))]) k ?_ ?_ ?_
       ·exact ⟨([] : List (Int)),0,v49_1,S49_1,hE_4,hl_v49_1,rfl,rfl⟩
       ·rintro _ _ ⟨_,_,_,_,hE_4,_⟩
        rw [spec_OrderWorlds.l2.eq_1] at hE_4; cases hE_4
       ·rintro n_3 _ _ ⟨x10,x11,w10,T10,hE_4,hl_w10,rfl,rfl⟩ ih_3
        rw [spec_OrderWorlds.l2.eq_2] at hE_4
        refine Tri.seq (Tri.seq ?_)
        obtain ⟨t55,h55,hE_4⟩:=bind_some hE_4
        obtain ⟨t57,h57,hE_4⟩:=bind_some hE_4
        obtain ⟨_,hc57,hp57⟩:=Rd.elem hr_a0_1 (rdl_some h57).2.2
        obtain ⟨v57_0,rfl,hr_v57_0⟩:=op25 hp57
        have hl_v57_0:=hr_v57_0.len
        refine Tri.drawA mixedT Sep.up [(0,true),(1,true),(2,true),(3,true),(4,true),(5,true),(6,true),(7,true),(8,true),(9,true),(10,true)] [] (by kernel_rfl) ?_
        refine S.qn rfl (r_move rfl) (S.qn rfl (r_fieldAddr tf88_1 rfl) (S.qn rfl (r_load ta86 rfl (fun w hw=>cell_1 (box_cells (i:=2) rfl w hw) rfl)) (S.qn rfl (r_move rfl) (S.qn rfl (r_move rfl) ?_))))
        refine S.qn rfl (r_indexAddrS Tryz.underlying25 ti3 rfl hl_va1 rfl (rdl_some h55).1 (rdl_some h55).2.1) (S.qn rfl (r_load ta3 rfl (fun w hw=>cell_0 (Rd.flat ((fun _ hw=>hr_a1.sep hw) w hw) (rdl_some h55).2.2) rfl)) (S.qn rfl (r_indexAddrS Tryz.underlying86 ti25 rfl hl_va0_1 rfl (rdl_some h57).1 (rdl_some h57).2.1) (S.qn rfl (r_load ta25 rfl (fun w hw=>cell_0 (hc57.sep hw) rfl)) (S.qn rfl (r_len Tryz.underlying25 rfl hl_v57_0) (S.qn rfl (r_lss rfl rfl) (S.nil (F.nil (Nrm.seq (Tri.cond (b:=decide (x11 < (t57.length : Int))) rfl (fun g_4=>?_) (fun g_4=>?_))))))))))
        ·replace hE_4:=if_tt g_4 hE_4
         refine Tri.skip (Nrm.seq (Tri.seq (Tri.block ?_)))
         obtain ⟨t69,h69,hE_4⟩:=bind_some hE_4
         obtain ⟨t71,h71,hE_4⟩:=bind_some hE_4
         obtain ⟨_,hc71,hp71⟩:=Rd.elem hr_a0_1 (rdl_some h71).2.2
         obtain ⟨v71_0,rfl,hr_v71_0⟩:=op25 hp71
         have hl_v71_0:=hr_v71_0.len
         obtain ⟨t74,h74,hE_4⟩:=bind_some hE_4
         obtain ⟨t76,h76,hE_4⟩:=bind_some hE_4
         obtain ⟨hs79,hE_4⟩:=ck hE_4
         refine Tri.drawA mixedT Sep.up [(0,true),(1,true),(2,true),(3,true),(4,true),(5,true),(6,true),(7,true),(8,true),(9,true),(10,true),(11,true),(12,true),(13,true),(14,true),(15,false)] [16,17] (by kernel_rfl) ?_
         refine S.qn rfl (r_move rfl) (S.qn rfl (r_move rfl) (S.qn rfl (r_fieldAddr tf88_1 rfl) ?_))
         refine S.qn rfl (r_load ta86 rfl (fun w hw=>cell_1 (box_cells (i:=2) rfl w hw) rfl)) (S.qn rfl (r_move rfl) (S.qn rfl (r_move rfl) (S.qn rfl (r_indexAddrS Tryz.underlying25 ti3 rfl hl_va1 rfl (rdl_some h69).1 (rdl_some h69).2.1) (S.qn rfl (r_load ta3 rfl (fun w hw=>cell_0 (Rd.flat ((fun _ hw=>hr_a1.sep hw) w hw) (rdl_some h69).2.2) rfl)) (S.qn rfl (r_indexAddrS Tryz.underlying86 ti25 rfl hl_va0_1 rfl (rdl_some h71).1 (rdl_some h71).2.1) ?_)))))
         refine S.qn rfl (r_load ta25 rfl (fun w hw=>cell_0 (hc71.sep hw) rfl)) (S.qn rfl (r_move rfl) (S.qn rfl (r_indexAddrS Tryz.underlying25 ti3 rfl hl_v71_0 rfl (rdl_some h74).1 (rdl_some h74).2.1) (S.qn rfl (r_load ta3 rfl (fun w hw=>cell_0 (Rd.flat ((fun _ hw=>hr_v71_0.sep hw) w hw) (rdl_some h74).2.2) rfl)) (S.qn rfl (r_indexAddrS Tryz.underlying25 ti3 rfl hl_x6 rfl (rdl_some h76).1 (rdl_some h76).2.1) (S.qn rfl (r_load ta3 rfl (fun w hw=>cell_0 (Rd.flat ((rd_sl (i:=6) rfl) w hw) (rdl_some h76).2.2) rfl)) ?_)))))
         refine S.m rfl rfl rfl (wanted_none rfl) (m_buildF (l:=([t76] : List (Int))) Tryz.underlying25 ti3 rfl rfl rfl rfl rfl) ?_
         rintro v78_2 _ ⟨S78_2,hl_v78_2,rfl⟩
         refine S.nil (F.efn rfl (d_append (i:=4) Tryz.underlying25 Tryz.underlying25 ti3 rfl (by decide) rfl rfl rfl (rd_sl (i:=0) rfl) hs79) ?_)
         rintro v79_2 _ ⟨S79_2,rfl,hl_v79_2⟩
         refine F.qn rfl (r_assign rfl) (F.nil (Nrm.block ?_))
         refine Nrm.seq (Tri.reg (l:=[0,1,2]) rfl ?_)
         refine F.qn rfl (r_move rfl) (F.qn rfl (r_add rfl rfl) (F.qn rfl (r_assign rfl) (F.nil (Nrm.round ?_))))
         refine Rnd.only [1,2,4,6,8,9,10,11] rfl ?_
         refine Rnd.pick [1,2,3,4,5,6,7] rfl rfl ?_
         exact ih_3 _ _ ⟨x10 ++ ([t76] : List (Int)),w64 (x11 + 1),v79_2,S79_2,hE_4,hl_v79_2,rfl,rfl⟩
        ·replace hE_4:=if_ff g_4 hE_4
         refine Tri.exit ?_
         refine Exi.then ?_
         refine Exi.then ?_
         refine Exi.same ?_
         cases hE_4
         refine Nrm.seq (Tri.seq ?_)
         obtain ⟨t86,h86,hE_3⟩:=bind_some hE_3
         obtain ⟨t88,h88,hE_3⟩:=bind_some hE_3
         obtain ⟨_,hc88,hp88⟩:=Rd.elem hr_a0_0 (rdl_some h88).2.2
         obtain ⟨v88_1,v88_2,rfl,hr_v88_1,hr_v88_2⟩:=op27 hp88
         have hl_v88_1:=hr_v88_1.len
         have hl_v88_2:=hr_v88_2.len
         obtain ⟨⟨t90_1,t90_2,t90_3⟩,h90,hE_3⟩:=bind_some hE_3
         obtain ⟨hs92,hE_3⟩:=ck hE_3
         refine Tri.drawB mixedT Sep.up [(0,true),(1,true),(2,true),(3,true),(4,true),(5,true),(6,true),(7,true),(8,true),(9,true),(10,false),(11,false)] [12,13,14] (by kernel_rfl) ?_
         refine B.q rfl rfl rfl (wanted_none rfl) (r_fieldAddr tf88_0 rfl) ?_
         refine B.q rfl rfl rfl (wanted_none rfl) (r_load ta85 rfl (fun w hw=>cell_1 (box_cells (i:=0) rfl w hw) rfl)) ?_
         refine B.q rfl rfl rfl (wanted_none rfl) (r_fieldAddr tf88_0 rfl) ?_
         refine B.q rfl rfl rfl (wanted_none rfl) (r_load ta85 rfl (fun w hw=>cell_1 (box_cells (i:=2) rfl w hw) rfl)) ?_
         refine B.q rfl rfl rfl (wanted_none rfl) (r_move rfl) ?_
         refine B.q rfl rfl rfl (wanted_none rfl) (r_move rfl) ?_
         refine B.q rfl rfl rfl (wanted_none rfl) (r_indexAddrS Tryz.underlying25 ti3 rfl hl_va1 rfl (rdl_some h86).1 (rdl_some h86).2.1) ?_
         refine B.q rfl rfl rfl (wanted_none rfl) (r_load ta3 rfl (fun w hw=>cell_0 (Rd.flat ((fun _ hw=>hr_a1.sep hw) w hw) (rdl_some h86).2.2) rfl)) ?_
         refine B.q rfl rfl rfl (wanted_none rfl) (r_indexAddrS Tryz.underlying85 ti27 rfl hl_va0_0 rfl (rdl_some h88).1 (rdl_some h88).2.1) ?_
         refine B.q rfl rfl rfl (wanted_none rfl) (r_loadA ta27 ti27 rfl rfl (fun w hw=>(hc88.sep hw))) ?_
         refine B.ef rfl rfl rfl (wanted_none rfl) (Makes.does (m_callF (xs:=_) rfl ok141 rfl rfl (fun w hw=>spec_l2Own.ok h90 w ((fun _ hw=>hr_v88_1.sep hw) w hw) ((fun _ hw=>hr_v88_2.sep hw) w hw)))) (by rintro _ _ ⟨_,⟨v90_3,S90_3,v90_4,S90_4,rfl,hl_v90_3,hl_v90_4,rfl⟩,rfl⟩; exact upd rfl [2,3,4,5,6,7,8] rfl rfl) ?_
         rintro _ _ ⟨_,⟨v90_3,S90_3,v90_4,S90_4,rfl,hl_v90_3,hl_v90_4,rfl⟩,rfl⟩
         refine B.ef rfl rfl rfl (wanted_none rfl) (d_build1 (cells:=[.int .i64 t90_1,v90_3,v90_4]) (x0:=((t90_1,t90_2,t90_3) : Int × List (Int × Int × Int) × List Int)) (cs:=[R.sl S90_3 v90_3 (t90_2 : List (Int × Int × Int)),R.sl S90_4 v90_4 (t90_3 : List (Int))]) (rest:=[R.box b8_1 88 [wq8_1_0,wq8_1_1],R.box b4_1 88 [.slice none 0 0,.slice none 0 0],R.box b2_1 88 [va0_0,va0_1],R.sl T10 w10 (x10 : List (Int)),R.sl Tq8_1_1 wq8_1_1 (xq8_1_1 : List (List Int)),R.sl Tq8_1_0 wq8_1_0 (xq8_1_0 : List (Int × List (Int × Int × Int) × List Int)),R.sl S26_1 v26_1 (x6 : List (Int))]) [0,1] [2,3,4,5,6,7,8] Tryz.underlying85 ti27 rfl rfl rfl (lf_cons rfl (lf_cons (sl_leaf hl_v90_3) (lf_cons (sl_leaf hl_v90_4) lf_nil))) rfl rfl (jn_pair (jn_int (n:=t90_1)) (jn_pair (jn_sl (S:=S90_3) (v:=v90_3) (l:=(t90_2 : List (Int × Int × Int)))) (jn_sl (S:=S90_4) (v:=v90_4) (l:=(t90_3 : List (Int))))))) (by rintro v91_2 _ ⟨S91_2,hl_v91_2,rfl⟩; exact upd rfl [1,2,3,4,5,6,7] rfl rfl) ?_
         rintro v91_2 _ ⟨S91_2,hl_v91_2,rfl⟩
         refine B.nil ?_
         refine F.efn rfl (d_appendN (rest:=[R.box b8_1 88 [wq8_1_0,wq8_1_1],R.box b4_1 88 [.slice none 0 0,.slice none 0 0],R.box b2_1 88 [va0_0,va0_1],R.sl T10 w10 (x10 : List (Int)),R.sl Tq8_1_1 wq8_1_1 (xq8_1_1 : List (List Int)),R.sl S26_1 v26_1 (x6 : List (Int))]) 6 0 [1,2,3,4,5,7] Tryz.underlying85 Tryz.underlying85 ti27 rfl (by decide) rfl rfl rfl rfl hs92) ?_
         rintro v92_2 _ ⟨S92_2,hl_v92_2,rfl⟩
         refine F.qn rfl (r_fieldAddr tf88_0 rfl) ?_
         refine F.ef0 rfl rfl (wanted_none rfl) (d_storeG1 (i:=1) (cs2:=[v92_2]) ti85 rfl rfl rfl (sl_cells hl_v92_2) rfl (Nat.le_of_ble_eq_true rfl) (lf_cons (sl_leaf hl_v92_2) lf_nil)) ?_
         rintro _ _ ⟨rfl,rfl⟩
         refine F.nil (Nrm.seq ?_)
         obtain ⟨hs98,hE_3⟩:=ck hE_3
         refine Tri.reg (l:=[0,1,2,3,4,5,6]) rfl ?_
         refine F.qn rfl (r_fieldAddr tf88_1 rfl) (F.qn rfl (r_load ta86 rfl (fun w hw=>cell_1 (box_cells (i:=1) rfl w hw) rfl)) (F.qn rfl (r_move rfl) ?_))
         refine F.efn rfl (d_build1 (cells:=[w10]) (x0:=(x10 : List Int)) (cs:=[R.sl T10 w10 (x10 : List (Int))]) (rest:=[R.sl S92_2 v92_2 ((xq8_1_0 : List (Int × List (Int × Int × Int) × List Int)) ++ ([(t90_1,t90_2,t90_3)] : List (Int × List (Int × Int × Int) × List Int)) : List (Int × List (Int × Int × Int) × List Int)),R.box b8_1 88 [v92_2,wq8_1_1],R.box b4_1 88 [.slice none 0 0,.slice none 0 0],R.box b2_1 88 [va0_0,va0_1],R.sl Tq8_1_1 wq8_1_1 (xq8_1_1 : List (List Int)),R.sl S26_1 v26_1 (x6 : List (Int))]) [4] [0,1,2,3,5,6] Tryz.underlying86 ti25 rfl (sl_cells hl_w10) rfl (lf_cons (sl_leaf hl_w10) lf_nil) rfl rfl (jn_sl (S:=T10) (v:=w10) (l:=(x10 : List (Int))))) ?_
         rintro v97_1 _ ⟨S97_1,hl_v97_1,rfl⟩
         refine F.efn rfl (d_appendN (rest:=[R.sl S92_2 v92_2 ((xq8_1_0 : List (Int × List (Int × Int × Int) × List Int)) ++ ([(t90_1,t90_2,t90_3)] : List (Int × List (Int × Int × Int) × List Int)) : List (Int × List (Int × Int × Int) × List Int)),R.box b8_1 88 [v92_2,wq8_1_1],R.box b4_1 88 [.slice none 0 0,.slice none 0 0],R.box b2_1 88 [va0_0,va0_1],R.sl S26_1 v26_1 (x6 : List (Int))]) 5 0 [1,2,3,4,6] Tryz.underlying86 Tryz.underlying86 ti25 rfl (by decide) rfl rfl rfl rfl hs98) ?_
         rintro v98_1 _ ⟨S98_1,hl_v98_1,rfl⟩
         refine F.qn rfl (r_fieldAddr tf88_1 rfl) ?_
         refine F.ef0 rfl rfl (wanted_none rfl) (d_storeG1 (i:=2) (cs2:=[v98_1]) ti86 rfl rfl rfl (sl_cells hl_v98_1) rfl (Nat.le_of_ble_eq_true rfl) (lf_cons (sl_leaf hl_v98_1) lf_nil)) ?_
         rintro _ _ ⟨rfl,rfl⟩
         refine F.nil (Nrm.block ?_)
         refine Nrm.seq (Tri.reg (l:=[0,1,2]) rfl ?_)
         refine F.qn rfl (r_move rfl) (F.qn rfl (r_add rfl rfl) (F.qn rfl (r_assign rfl) (F.nil (Nrm.round ?_))))
         refine Rnd.only [1,2,4,6,8,9] rfl ?_
         refine Rnd.pick [2,3,4,0,1,5] rfl rfl ?_
         exact ih_2 _ _ ⟨w64 (x9 + 1),(xq8_1_0 : List (Int × List (Int × Int × Int) × List Int)) ++ ([(t90_1,t90_2,t90_3)] : List (Int × List (Int × Int × Int) × List Int)),(xq8_1_1 : List (List Int)) ++ ([x10] : List (List Int)),v92_2,S92_2,v98_1,S98_1,hE_3,hl_v92_2,hl_v98_1,rfl,rfl⟩
      ·replace hE_3:=if_ff g_3 hE_3
       refine Tri.exit ?_
       refine Exi.then ?_
       refine Exi.then ?_
       refine Exi.same ?_
       cases hE_3
       refine Nrm.seq (Tri.seq (Tri.reg (l:=[0,1,2]) rfl ?_))
       refine F.qn rfl (r_loadA ta88 ti88 rfl rfl (fun w hw=>(box_cells (i:=0) rfl w hw))) ?_
       refine F.ef0 rfl rfl (wanted_none rfl) (d_storeG0 (i:=1) (cs2:=[wq8_1_0,wq8_1_1]) ti88 rfl rfl rfl rfl rfl (Nat.le_of_ble_eq_true rfl) (lf_cons (sl_leaf hl_wq8_1_0) (lf_cons (sl_leaf hl_wq8_1_1) lf_nil))) ?_
       rintro _ _ ⟨rfl,rfl⟩
       refine F.qn rfl (r_assign rfl) (F.nil (Nrm.seq (Tri.ret ?_)))
       cases h
       exact Rtn.body (.cell rfl ta88 ti88 rfl (fun _ hw=>box_cells (i:=1) rfl _ hw) (.tmp rfl .nil)) (fun w hw=>⟨_,_,rfl,⟨wq8_1_0,Tq8_1_0,wq8_1_1,Tq8_1_1,rfl,hl_wq8_1_0,hl_wq8_1_1,rfl⟩,Sep.pick (is:=[4,3]) rfl rfl hw⟩)
 ·obtain ⟨t13,h13,hE_1⟩:=bind_some hE_1
  rcases Bool.eq_false_or_eq_true (!t13) with g15 | g15
  ·replace hE_1:=if_tt g15 hE_1
   refine Tri.reg (l:=[0,1,2,3,4,5,6,7,8,9,10]) rfl ?_
   refine F.qn rfl (r_loadA ta88 ti88 rfl rfl (fun w hw=>(box_cells (i:=1) rfl w hw))) ?_
   refine F.qcn rfl (q_callF (xs:=_) rfl ok159 rfl rfl (fun w hw=>spec_l10Worlds.ok h13 w ((fun _ hw=>hr_a0_0.sep hw) w hw) ((fun _ hw=>hr_a0_1.sep hw) w hw))) ?_
   refine F.qn rfl (r_not rfl) (F.qn rfl (r_move rfl) ?_)
   iterate 6 refine F.skf rfl g15 ?_
   refine F.qn rfl (r_pick rfl rfl g15) (F.nil ?_)
   cases hE_1
   refine Nrm.only [1,2,4,22] rfl ?_
   refine Nrm.pick [0,1] rfl rfl ?_
   exact hj_1 _ _ ⟨rfl,rfl⟩
  ·replace hE_1:=if_ff g15 hE_1
   obtain ⟨t20,h20,hE_1⟩:=bind_some hE_1
   refine Tri.reg (l:=[0,1,2,3,4,5,6,7,8,9,10]) rfl ?_
   refine F.qn rfl (r_loadA ta88 ti88 rfl rfl (fun w hw=>(box_cells (i:=1) rfl w hw))) ?_
   refine F.qcn rfl (q_callF (xs:=_) rfl ok159 rfl rfl (fun w hw=>spec_l10Worlds.ok h13 w ((fun _ hw=>hr_a0_0.sep hw) w hw) ((fun _ hw=>hr_a0_1.sep hw) w hw))) ?_
   refine F.qn rfl (r_not rfl) (F.qn rfl (r_move rfl) (F.qg rfl g15 (r_move rfl) (F.qg rfl g15 (r_fieldAddr tf88_0 rfl) (F.qg rfl g15 (r_load ta85 rfl (fun w hw=>cell_1 (box_cells (i:=1) rfl w hw) rfl)) (F.qg rfl g15 (r_len Tryz.underlying85 rfl hl_va0_0) ?_)))))
   refine F.qc rfl rfl rfl (wg rfl rfl rfl g15) (q_callF (xs:=_) rfl ok160 rfl rfl (fun w hw=>spec_l2Order.ok h20 w ((fun _ hw=>hr_a1.sep hw) w hw))) ?_
   refine F.qg rfl g15 (r_not rfl) (F.qn rfl (r_pickf rfl rfl g15) (F.nil ?_))
   cases hE_1
   refine Nrm.only [1,2,4,22] rfl ?_
   refine Nrm.pick [0,1] rfl rfl ?_
   exact hj_1 _ _ ⟨rfl,rfl⟩


def laws_rInts.l0 (k : Nat) (a0 : List Int) (a1 : List Int) : Nat → Int → Option ((Unit) ⊕ (Bool))
 | 0,_=>none
 | n + 1,x5=>(if (decide (x5 < (a0.length : Int))) = true then (rdl a0 x5).bind fun t19=>(rdl a1 x5).bind fun t23=>(if (t19 != t23) = true then some (Sum.inr false) else laws_rInts.l0 k a0 a1 n (w64 (x5 + 1))) else some (Sum.inl ()))

def laws_rInts.f (k : Nat) (a0 : List Int) (a1 : List Int) : Option (Bool) := (if ((a0.length : Int) != (a1.length : Int)) = true then some false else (laws_rInts.l0 k a0 a1 k 0).bind fun s => Lr s some fun _ => some true)

theorem laws_rInts.ok {k : Nat}  {a0 : List Int} {a1 : List Int} {r0 : Bool} (h : laws_rInts.f k a0 a1 = some r0) (w : World) {va0 : Value} {va1 : Value} (hr_a0 : Rd w va0 a0) (hr_a1 : Rd w va1 a1) :
  Calls Tryz.prog 51 ([va0,va1] : List Value).toArray w (fun e w'=>e = .returned (.bool r0)∧Ext w w'):=by
 unfold laws_rInts.f at h
 have hl_va0:=hr_a0.len
 have hl_va1:=hr_a1.len
 refine Calls.of_tri (N:=26) Tryz.func51 rfl rfl rfl (Sep.nil (M:=noM)) ?_
 refine Tri.seq (Tri.reg (l:=[0]) rfl ?_)
 refine F.qn rfl (r_assign rfl) (F.nil (Nrm.seq (Tri.seq (Tri.seq (Tri.reg (l:=[0,1,2,3,4]) rfl ?_)))))
 refine F.qn rfl (r_move rfl) (F.qn rfl (r_len Tryz.underlying25 rfl hl_va0) (F.qn rfl (r_move rfl) (F.qn rfl (r_len Tryz.underlying25 rfl hl_va1) (F.qn rfl (r_neq rfl rfl) (F.nil (Nrm.seq (Tri.cond (b:=(a0.length : Int) != (a1.length : Int)) rfl (fun g_1=>?_) (fun g_1=>?_))))))))
 ·replace h:=if_tt g_1 h
  refine Tri.seq (Tri.reg (l:=[0]) rfl ?_)
  refine F.qn rfl (r_assign rfl) (F.nil (Nrm.seq (Tri.ret ?_)))
  refine Rtn.then ?_
  cases h
  exact Rtn.body (.tmp rfl .nil) (fun w hw=>⟨rfl,hw.ext⟩)
 ·replace h:=if_ff g_1 h
  refine Tri.skip (Nrm.seq (Tri.seq (Tri.seq (Tri.reg (l:=[0]) rfl ?_))))
  refine F.qn rfl (r_assign rfl) (F.nil (Nrm.seq ?_))
  obtain ⟨s0,hE_1,h⟩:=bind_some h
  refine Tri.block ?_
  refine Tri.only [0,1,5] rfl ?_
  refine Tri.pick [] rfl rfl ?_
  refine Tri.rounds (fun n e' C'=>∃ (x5' : Int),laws_rInts.l0 k a0 a1 n x5' = some s0∧e' = [(0,va0),(1,va1),(5,.int .i64 x5')]∧C' = Sep w noM []) k ?_ ?_ ?_
  ·exact ⟨0,hE_1,rfl,rfl⟩
  ·rintro _ _ ⟨_,hE_1,_⟩
   rw [laws_rInts.l0.eq_1] at hE_1; cases hE_1
  ·rintro n_1 _ _ ⟨x5,hE_1,rfl,rfl⟩ ih_1
   rw [laws_rInts.l0.eq_2] at hE_1
   refine Tri.seq (Tri.seq (Tri.reg (l:=[0,1,2,3]) rfl ?_))
   refine F.qn rfl (r_move rfl) (F.qn rfl (r_move rfl) (F.qn rfl (r_len Tryz.underlying25 rfl hl_va0) (F.qn rfl (r_lss rfl rfl) (F.nil (Nrm.seq (Tri.cond (b:=decide (x5 < (a0.length : Int))) rfl (fun g_2=>?_) (fun g_2=>?_)))))))
   ·replace hE_1:=if_tt g_2 hE_1
    refine Tri.skip (Nrm.seq (Tri.seq (Tri.block ?_)))
    refine Tri.seq ?_
    obtain ⟨t19,h19,hE_1⟩:=bind_some hE_1
    obtain ⟨t23,h23,hE_1⟩:=bind_some hE_1
    refine Tri.drawA mixedT Sep.up [(0,true),(1,true),(2,true),(3,true),(4,true),(5,true),(6,true),(7,true),(8,true)] [] (by kernel_rfl) ?_
    refine S.qn rfl (r_move rfl) (S.qn rfl (r_move rfl) (S.qn rfl (r_indexAddrS Tryz.underlying25 ti3 rfl hl_va0 rfl (rdl_some h19).1 (rdl_some h19).2.1) ?_))
    refine S.qn rfl (r_load ta3 rfl (fun w hw=>cell_0 (Rd.flat ((fun _ hw=>hr_a0.sep hw) w hw) (rdl_some h19).2.2) rfl)) (S.qn rfl (r_move rfl) (S.qn rfl (r_move rfl) (S.qn rfl (r_indexAddrS Tryz.underlying25 ti3 rfl hl_va1 rfl (rdl_some h23).1 (rdl_some h23).2.1) (S.qn rfl (r_load ta3 rfl (fun w hw=>cell_0 (Rd.flat ((fun _ hw=>hr_a1.sep hw) w hw) (rdl_some h23).2.2) rfl)) (S.qn rfl (r_neq rfl rfl) (S.nil (F.nil (Nrm.seq (Tri.cond (b:=t19 != t23) rfl (fun g_3=>?_) (fun g_3=>?_))))))))))
    ·replace hE_1:=if_tt g_3 hE_1
     refine Tri.seq (Tri.reg (l:=[0]) rfl ?_)
     refine F.qn rfl (r_assign rfl) (F.nil (Nrm.seq (Tri.ret ?_)))
     refine Rtn.block ?_
     refine Rtn.then ?_
     refine Rtn.then ?_
     refine Rtn.block ?_
     refine Rtn.then ?_
     cases hE_1
     replace h:=Lr_inr h
     cases h
     exact Rtn.body (.tmp rfl .nil) (fun w hw=>⟨rfl,hw.ext⟩)
    ·replace hE_1:=if_ff g_3 hE_1
     refine Tri.skip (Nrm.block ?_)
     refine Nrm.seq (Tri.reg (l:=[0,1,2]) rfl ?_)
     refine F.qn rfl (r_move rfl) (F.qn rfl (r_add rfl rfl) (F.qn rfl (r_assign rfl) (F.nil (Nrm.round ?_))))
     refine Rnd.only [0,1,5] rfl ?_
     refine Rnd.pick [] rfl rfl ?_
     exact ih_1 _ _ ⟨w64 (x5 + 1),hE_1,rfl,rfl⟩
   ·replace hE_1:=if_ff g_2 hE_1
    refine Tri.exit ?_
    refine Exi.then ?_
    refine Exi.then ?_
    refine Exi.same ?_
    cases hE_1
    replace h:=Lr_inl h
    refine Nrm.seq (Tri.seq (Tri.reg (l:=[0]) rfl ?_))
    refine F.qn rfl (r_assign rfl) (F.nil (Nrm.seq (Tri.ret ?_)))
    cases h
    exact Rtn.body (.tmp rfl .nil) (fun w hw=>⟨rfl,hw.ext⟩)


def laws_rMaze.l0 (k : Nat) (a0_1 : List (Int × Int × Int)) (a1_1 : List (Int × Int × Int)) : Nat → Int → Option ((Unit) ⊕ (Bool))
 | 0,_=>none
 | n + 1,x5=>(if (decide (x5 < (a0_1.length : Int))) = true then (rdl a0_1 x5).bind fun t38=>(rdl a1_1 x5).bind fun t43=>(if (!decide ((t38.1,t38.2.1,t38.2.2) = (t43.1,t43.2.1,t43.2.2))) = true then some (Sum.inr false) else laws_rMaze.l0 k a0_1 a1_1 n (w64 (x5 + 1))) else some (Sum.inl ()))

def laws_rMaze.f (k : Nat) (a0_0 : Int) (a0_1 : List (Int × Int × Int)) (a0_2 : List Int) (a1_0 : Int) (a1_1 : List (Int × Int × Int)) (a1_2 : List Int) : Option (Bool) := ((if (a0_0 != a1_0) = true then some true else (if ((a0_1.length : Int) != (a1_1.length : Int)) = true then some true else (laws_rInts.f k a0_2 a1_2).bind fun t25 => some (!t25)))).bind fun y27 => (if y27 = true then some false else (laws_rMaze.l0 k a0_1 a1_1 k 0).bind fun s => Lr s some fun _ => some true)

theorem laws_rMaze.ok {k : Nat}  {a0_0 : Int} {a0_1 : List (Int × Int × Int)} {a0_2 : List Int} {a1_0 : Int} {a1_1 : List (Int × Int × Int)} {a1_2 : List Int} {r0 : Bool} (h : laws_rMaze.f k a0_0 a0_1 a0_2 a1_0 a1_1 a1_2 = some r0) (w : World) {va0_1 : Value} {va0_2 : Value} {va1_1 : Value} {va1_2 : Value} (hr_a0_1 : Rd w va0_1 a0_1) (hr_a0_2 : Rd w va0_2 a0_2) (hr_a1_1 : Rd w va1_1 a1_1) (hr_a1_2 : Rd w va1_2 a1_2) :
  Calls Tryz.prog 142 ([.agg ([.int .i64 a0_0,va0_1,va0_2].toArray),.agg ([.int .i64 a1_0,va1_1,va1_2].toArray)] : List Value).toArray w (fun e w'=>e = .returned (.bool r0)∧Ext w w'):=by
 unfold laws_rMaze.f at h
 have hl_va0_1:=hr_a0_1.len
 have hl_va0_2:=hr_a0_2.len
 have hl_va1_1:=hr_a1_1.len
 have hl_va1_2:=hr_a1_2.len
 refine Calls.of_tri (N:=46) Tryz.func142 rfl rfl rfl (Sep.nil (M:=noM)) ?_
 refine Tri.seq (Tri.reg (l:=[0,1,2]) rfl ?_)
 refine F.mn rfl (m_boxG rfl rfl) ?_
 rintro _ _ ⟨b2_1,rfl,rfl⟩
 refine F.mn rfl (m_boxG rfl rfl) ?_
 rintro _ _ ⟨b3_1,rfl,rfl⟩
 refine F.qn rfl (r_assign rfl) (F.nil (Nrm.seq (Tri.seq (Tri.seq ?_))))
 obtain ⟨y27,hE_1,h⟩:=bind_some h
 refine Tri.cut (fun e' C'=>e' = [(2,.pointer (some ⟨b2_1,0,none⟩)),(3,.pointer (some ⟨b3_1,0,none⟩)),(27,.bool y27)]∧C' = Sep w noM [R.box b3_1 27 [.int .i64 a1_0,va1_1,va1_2],R.box b2_1 27 [.int .i64 a0_0,va0_1,va0_2]]) ?_ (fun hj_1=>?_)
 ·rintro _ _ ⟨rfl,rfl⟩
  refine Nrm.seq (Tri.cond (b:=y27) rfl (fun g_1=>?_) (fun g_1=>?_))
  ·replace h:=if_tt g_1 h
   refine Tri.seq (Tri.reg (l:=[0]) rfl ?_)
   refine F.qn rfl (r_assign rfl) (F.nil (Nrm.seq (Tri.ret ?_)))
   refine Rtn.then ?_
   cases h
   exact Rtn.body (.tmp rfl .nil) (fun w hw=>⟨rfl,hw.ext⟩)
  ·replace h:=if_ff g_1 h
   refine Tri.skip (Nrm.seq (Tri.seq (Tri.seq (Tri.reg (l:=[0]) rfl ?_))))
   refine F.qn rfl (r_assign rfl) (F.nil (Nrm.seq ?_))
   obtain ⟨s0,hE_2,h⟩:=bind_some h
   refine Tri.block ?_
   refine Tri.only [2,3,5] rfl ?_
   refine Tri.pick [0,1] rfl rfl ?_
   refine Tri.rounds (fun n e' C'=>∃ (x5' : Int),laws_rMaze.l0 k a0_1 a1_1 n x5' = some s0∧e' = [(2,.pointer (some ⟨b2_1,0,none⟩)),(3,.pointer (some ⟨b3_1,0,none⟩)),(5,.int .i64 x5')]∧C' = Sep w noM [R.box b3_1 27 [.int .i64 a1_0,va1_1,va1_2],R.box b2_1 27 [.int .i64 a0_0,va0_1,va0_2]]) k ?_ ?_ ?_
   ·exact ⟨0,hE_2,rfl,rfl⟩
   ·rintro _ _ ⟨_,hE_2,_⟩
    rw [laws_rMaze.l0.eq_1] at hE_2; cases hE_2
   ·rintro n_1 _ _ ⟨x5,hE_2,rfl,rfl⟩ ih_1
    rw [laws_rMaze.l0.eq_2] at hE_2
    refine Tri.seq (Tri.seq (Tri.reg (l:=[0,1,2,3,4]) rfl ?_))
    refine F.qn rfl (r_move rfl) (F.qn rfl (r_fieldAddr tf27_1 rfl) (F.qn rfl (r_load ta24 rfl (fun w hw=>cell_1 (box_cells (i:=1) rfl w hw) rfl)) (F.qn rfl (r_len Tryz.underlying24 rfl hl_va0_1) (F.qn rfl (r_lss rfl rfl) (F.nil (Nrm.seq (Tri.cond (b:=decide (x5 < (a0_1.length : Int))) rfl (fun g_2=>?_) (fun g_2=>?_))))))))
    ·replace hE_2:=if_tt g_2 hE_2
     refine Tri.skip (Nrm.seq (Tri.seq (Tri.block ?_)))
     refine Tri.seq ?_
     obtain ⟨t38,h38,hE_2⟩:=bind_some hE_2
     obtain ⟨t43,h43,hE_2⟩:=bind_some hE_2
     refine Tri.drawA mixedT Sep.up [(0,true),(1,true),(2,true),(3,true),(4,true),(5,true),(6,true),(7,true),(8,true),(9,true),(10,true)] [] (by kernel_rfl) ?_
     refine S.qn rfl (r_fieldAddr tf27_1 rfl) (S.qn rfl (r_load ta24 rfl (fun w hw=>cell_1 (box_cells (i:=1) rfl w hw) rfl)) (S.qn rfl (r_move rfl) (S.qn rfl (r_indexAddrS Tryz.underlying24 ti168 rfl hl_va0_1 rfl (rdl_some h38).1 (rdl_some h38).2.1) (S.qn rfl (r_loadA ta168 ti168 rfl rfl (fun w hw=>(Rd.flat ((fun _ hw=>hr_a0_1.sep hw) w hw) (rdl_some h38).2.2))) ?_))))
     refine S.qn rfl (r_fieldAddr tf27_1 rfl) (S.qn rfl (r_load ta24 rfl (fun w hw=>cell_1 (box_cells (i:=0) rfl w hw) rfl)) (S.qn rfl (r_move rfl) (S.qn rfl (r_indexAddrS Tryz.underlying24 ti168 rfl hl_va1_1 rfl (rdl_some h43).1 (rdl_some h43).2.1) (S.qn rfl (r_loadA ta168 ti168 rfl rfl (fun w hw=>(Rd.flat ((fun _ hw=>hr_a1_1.sep hw) w hw) (rdl_some h43).2.2))) (S.qn rfl (r_neqA3 Tryz.underlying168 Tryz.underlying3 ti3 ta3 rfl rfl eg168) (S.nil (F.nil (Nrm.seq (Tri.cond (b:=!decide ((t38.1,t38.2.1,t38.2.2) = (t43.1,t43.2.1,t43.2.2))) rfl (fun g_3=>?_) (fun g_3=>?_))))))))))
     ·replace hE_2:=if_tt g_3 hE_2
      refine Tri.seq (Tri.reg (l:=[0]) rfl ?_)
      refine F.qn rfl (r_assign rfl) (F.nil (Nrm.seq (Tri.ret ?_)))
      refine Rtn.block ?_
      refine Rtn.then ?_
      refine Rtn.then ?_
      refine Rtn.block ?_
      refine Rtn.then ?_
      cases hE_2
      replace h:=Lr_inr h
      cases h
      exact Rtn.body (.tmp rfl .nil) (fun w hw=>⟨rfl,hw.ext⟩)
     ·replace hE_2:=if_ff g_3 hE_2
      refine Tri.skip (Nrm.block ?_)
      refine Nrm.seq (Tri.reg (l:=[0,1,2]) rfl ?_)
      refine F.qn rfl (r_move rfl) (F.qn rfl (r_add rfl rfl) (F.qn rfl (r_assign rfl) (F.nil (Nrm.round ?_))))
      refine Rnd.only [2,3,5] rfl ?_
      refine Rnd.pick [0,1] rfl rfl ?_
      exact ih_1 _ _ ⟨w64 (x5 + 1),hE_2,rfl,rfl⟩
    ·replace hE_2:=if_ff g_2 hE_2
     refine Tri.exit ?_
     refine Exi.then ?_
     refine Exi.then ?_
     refine Exi.same ?_
     cases hE_2
     replace h:=Lr_inl h
     refine Nrm.seq (Tri.seq (Tri.reg (l:=[0]) rfl ?_))
     refine F.qn rfl (r_assign rfl) (F.nil (Nrm.seq (Tri.ret ?_)))
     cases h
     exact Rtn.body (.tmp rfl .nil) (fun w hw=>⟨rfl,hw.ext⟩)
 ·rcases Bool.eq_false_or_eq_true (a0_0 != a1_0) with g11 | g11
  ·replace hE_1:=if_tt g11 hE_1
   refine Tri.reg (l:=List.range 22) rfl ?_
   refine F.qn rfl (r_fieldAddr tf27_0 rfl) (F.qn rfl (r_load ta3 rfl (fun w hw=>cell_1 (box_cells (i:=1) rfl w hw) rfl)) (F.qn rfl (r_fieldAddr tf27_0 rfl) (F.qn rfl (r_load ta3 rfl (fun w hw=>cell_1 (box_cells (i:=0) rfl w hw) rfl)) (F.qn rfl (r_neq rfl rfl) (F.qn rfl (r_move rfl) ?_)))))
   iterate 7 refine F.skf rfl g11 ?_
   refine F.qn rfl (r_pick rfl rfl g11) (F.qn rfl (r_move rfl) ?_)
   iterate 6 refine F.skf rfl rfl ?_
   refine F.qn rfl (r_pick rfl rfl rfl) (F.nil ?_)
   cases hE_1
   refine Nrm.only [2,3,27] rfl ?_
   refine Nrm.pick [0,1] rfl rfl ?_
   exact hj_1 _ _ ⟨rfl,rfl⟩
  ·replace hE_1:=if_ff g11 hE_1
   rcases Bool.eq_false_or_eq_true ((a0_1.length : Int) != (a1_1.length : Int)) with g20 | g20
   ·replace hE_1:=if_tt g20 hE_1
    refine Tri.reg (l:=List.range 22) rfl ?_
    refine F.qn rfl (r_fieldAddr tf27_0 rfl) (F.qn rfl (r_load ta3 rfl (fun w hw=>cell_1 (box_cells (i:=1) rfl w hw) rfl)) (F.qn rfl (r_fieldAddr tf27_0 rfl) ?_))
    refine F.qn rfl (r_load ta3 rfl (fun w hw=>cell_1 (box_cells (i:=0) rfl w hw) rfl)) (F.qn rfl (r_neq rfl rfl) (F.qn rfl (r_move rfl) (F.qg rfl g11 (r_fieldAddr tf27_1 rfl) (F.qg rfl g11 (r_load ta24 rfl (fun w hw=>cell_1 (box_cells (i:=1) rfl w hw) rfl)) (F.qg rfl g11 (r_len Tryz.underlying24 rfl hl_va0_1) ?_)))))
    refine F.qg rfl g11 (r_fieldAddr tf27_1 rfl) (F.qg rfl g11 (r_load ta24 rfl (fun w hw=>cell_1 (box_cells (i:=0) rfl w hw) rfl)) (F.qg rfl g11 (r_len Tryz.underlying24 rfl hl_va1_1) (F.qg rfl g11 (r_neq rfl rfl) (F.qn rfl (r_pickf rfl rfl g11) (F.qn rfl (r_move rfl) ?_)))))
    iterate 6 refine F.skf rfl g20 ?_
    refine F.qn rfl (r_pick rfl rfl g20) (F.nil ?_)
    cases hE_1
    refine Nrm.only [2,3,27] rfl ?_
    refine Nrm.pick [0,1] rfl rfl ?_
    exact hj_1 _ _ ⟨rfl,rfl⟩
   ·replace hE_1:=if_ff g20 hE_1
    obtain ⟨t25,h25,hE_1⟩:=bind_some hE_1
    refine Tri.reg (l:=List.range 22) rfl ?_
    refine F.qn rfl (r_fieldAddr tf27_0 rfl) ?_
    refine F.qn rfl (r_load ta3 rfl (fun w hw=>cell_1 (box_cells (i:=1) rfl w hw) rfl)) (F.qn rfl (r_fieldAddr tf27_0 rfl) (F.qn rfl (r_load ta3 rfl (fun w hw=>cell_1 (box_cells (i:=0) rfl w hw) rfl)) (F.qn rfl (r_neq rfl rfl) (F.qn rfl (r_move rfl) (F.qg rfl g11 (r_fieldAddr tf27_1 rfl) ?_)))))
    refine F.qg rfl g11 (r_load ta24 rfl (fun w hw=>cell_1 (box_cells (i:=1) rfl w hw) rfl)) (F.qg rfl g11 (r_len Tryz.underlying24 rfl hl_va0_1) (F.qg rfl g11 (r_fieldAddr tf27_1 rfl) (F.qg rfl g11 (r_load ta24 rfl (fun w hw=>cell_1 (box_cells (i:=0) rfl w hw) rfl)) (F.qg rfl g11 (r_len Tryz.underlying24 rfl hl_va1_1) (F.qg rfl g11 (r_neq rfl rfl) ?_)))))
    refine F.qn rfl (r_pickf rfl rfl g11) (F.qn rfl (r_move rfl) (F.qg rfl g20 (r_fieldAddr tf27_2 rfl) (F.qg rfl g20 (r_load ta25 rfl (fun w hw=>cell_1 (box_cells (i:=1) rfl w hw) rfl)) (F.qg rfl g20 (r_fieldAddr tf27_2 rfl) (F.qg rfl g20 (r_load ta25 rfl (fun w hw=>cell_1 (box_cells (i:=0) rfl w hw) rfl)) ?_)))))
    refine F.qc rfl rfl rfl (wg rfl rfl rfl g20) (q_callF (xs:=_) rfl ok51 rfl rfl (fun w hw=>laws_rInts.ok h25 w ((fun _ hw=>hr_a0_2.sep hw) w hw) ((fun _ hw=>hr_a1_2.sep hw) w hw))) ?_
    refine F.qg rfl g20 (r_not rfl) (F.qn rfl (r_pickf rfl rfl g20) (F.nil ?_))
    cases hE_1
    refine Nrm.only [2,3,27] rfl ?_
    refine Nrm.pick [0,1] rfl rfl ?_
    exact hj_1 _ _ ⟨rfl,rfl⟩


def laws_rTable.l0 (k : Nat) (a0 : List (List Int)) (a1 : List (List Int)) : Nat → Int → Option ((Unit) ⊕ (Bool))
 | 0,_=>none
 | n + 1,x5=>(if (decide (x5 < (a0.length : Int))) = true then (rdl a0 x5).bind fun t19=>(rdl a1 x5).bind fun t23=>(laws_rInts.f k t19 t23).bind fun t25=>(if (!t25) = true then some (Sum.inr false) else laws_rTable.l0 k a0 a1 n (w64 (x5 + 1))) else some (Sum.inl ()))

def laws_rTable.f (k : Nat) (a0 : List (List Int)) (a1 : List (List Int)) : Option (Bool) := (if ((a0.length : Int) != (a1.length : Int)) = true then some false else (laws_rTable.l0 k a0 a1 k 0).bind fun s => Lr s some fun _ => some true)

theorem laws_rTable.ok {k : Nat}  {a0 : List (List Int)} {a1 : List (List Int)} {r0 : Bool} (h : laws_rTable.f k a0 a1 = some r0) (w : World) {va0 : Value} {va1 : Value} (hr_a0 : Rd w va0 a0) (hr_a1 : Rd w va1 a1) :
  Calls Tryz.prog 161 ([va0,va1] : List Value).toArray w (fun e w'=>e = .returned (.bool r0)∧Ext w w'):=by
 unfold laws_rTable.f at h
 have hl_va0:=hr_a0.len
 have hl_va1:=hr_a1.len
 refine Calls.of_tri (N:=27) Tryz.func161 rfl rfl rfl (Sep.nil (M:=noM)) ?_
 refine Tri.seq (Tri.reg (l:=[0]) rfl ?_)
 refine F.qn rfl (r_assign rfl) (F.nil (Nrm.seq (Tri.seq (Tri.seq (Tri.reg (l:=[0,1,2,3,4]) rfl ?_)))))
 refine F.qn rfl (r_move rfl) (F.qn rfl (r_len Tryz.underlying86 rfl hl_va0) (F.qn rfl (r_move rfl) (F.qn rfl (r_len Tryz.underlying86 rfl hl_va1) (F.qn rfl (r_neq rfl rfl) (F.nil (Nrm.seq (Tri.cond (b:=(a0.length : Int) != (a1.length : Int)) rfl (fun g_1=>?_) (fun g_1=>?_))))))))
 ·replace h:=if_tt g_1 h
  refine Tri.seq (Tri.reg (l:=[0]) rfl ?_)
  refine F.qn rfl (r_assign rfl) (F.nil (Nrm.seq (Tri.ret ?_)))
  refine Rtn.then ?_
  cases h
  exact Rtn.body (.tmp rfl .nil) (fun w hw=>⟨rfl,hw.ext⟩)
 ·replace h:=if_ff g_1 h
  refine Tri.skip (Nrm.seq (Tri.seq (Tri.seq (Tri.reg (l:=[0]) rfl ?_))))
  refine F.qn rfl (r_assign rfl) (F.nil (Nrm.seq ?_))
  obtain ⟨s0,hE_1,h⟩:=bind_some h
  refine Tri.block ?_
  refine Tri.only [0,1,5] rfl ?_
  refine Tri.pick [] rfl rfl ?_
  refine Tri.rounds (fun n e' C'=>∃ (x5' : Int),laws_rTable.l0 k a0 a1 n x5' = some s0∧e' = [(0,va0),(1,va1),(5,.int .i64 x5')]∧C' = Sep w noM []) k ?_ ?_ ?_
  ·exact ⟨0,hE_1,rfl,rfl⟩
  ·rintro _ _ ⟨_,hE_1,_⟩
   rw [laws_rTable.l0.eq_1] at hE_1; cases hE_1
  ·rintro n_1 _ _ ⟨x5,hE_1,rfl,rfl⟩ ih_1
   rw [laws_rTable.l0.eq_2] at hE_1
   refine Tri.seq (Tri.seq (Tri.reg (l:=[0,1,2,3]) rfl ?_))
   refine F.qn rfl (r_move rfl) (F.qn rfl (r_move rfl) (F.qn rfl (r_len Tryz.underlying86 rfl hl_va0) (F.qn rfl (r_lss rfl rfl) (F.nil (Nrm.seq (Tri.cond (b:=decide (x5 < (a0.length : Int))) rfl (fun g_2=>?_) (fun g_2=>?_)))))))
   ·replace hE_1:=if_tt g_2 hE_1
    refine Tri.skip (Nrm.seq (Tri.seq (Tri.block ?_)))
    refine Tri.seq ?_
    obtain ⟨t19,h19,hE_1⟩:=bind_some hE_1
    obtain ⟨_,hc19,hp19⟩:=Rd.elem hr_a0 (rdl_some h19).2.2
    obtain ⟨v19_0,rfl,hr_v19_0⟩:=op25 hp19
    have hl_v19_0:=hr_v19_0.len
    obtain ⟨t23,h23,hE_1⟩:=bind_some hE_1
    obtain ⟨_,hc23,hp23⟩:=Rd.elem hr_a1 (rdl_some h23).2.2
    obtain ⟨v23_0,rfl,hr_v23_0⟩:=op25 hp23
    have hl_v23_0:=hr_v23_0.len
    obtain ⟨t25,h25,hE_1⟩:=bind_some hE_1
    refine Tri.drawA mixedT Sep.up [(0,true),(1,true),(2,true),(3,true),(4,true),(5,true),(6,true),(7,true),(8,true),(9,true)] [] (by kernel_rfl) ?_
    refine S.qn rfl (r_move rfl) (S.qn rfl (r_move rfl) ?_)
    refine S.qn rfl (r_indexAddrS Tryz.underlying86 ti25 rfl hl_va0 rfl (rdl_some h19).1 (rdl_some h19).2.1) (S.qn rfl (r_load ta25 rfl (fun w hw=>cell_0 (hc19.sep hw) rfl)) (S.qn rfl (r_move rfl) (S.qn rfl (r_move rfl) (S.qn rfl (r_indexAddrS Tryz.underlying86 ti25 rfl hl_va1 rfl (rdl_some h23).1 (rdl_some h23).2.1) (S.qn rfl (r_load ta25 rfl (fun w hw=>cell_0 (hc23.sep hw) rfl)) ?_)))))
    refine S.qcn rfl (q_callF (xs:=_) rfl ok51 rfl rfl (fun w hw=>laws_rInts.ok h25 w ((fun _ hw=>hr_v19_0.sep hw) w hw) ((fun _ hw=>hr_v23_0.sep hw) w hw))) ?_
    refine S.qn rfl (r_not rfl) (S.nil (F.nil (Nrm.seq (Tri.cond (b:=!t25) rfl (fun g_3=>?_) (fun g_3=>?_)))))
    ·replace hE_1:=if_tt g_3 hE_1
     refine Tri.seq (Tri.reg (l:=[0]) rfl ?_)
     refine F.qn rfl (r_assign rfl) (F.nil (Nrm.seq (Tri.ret ?_)))
     refine Rtn.block ?_
     refine Rtn.then ?_
     refine Rtn.then ?_
     refine Rtn.block ?_
     refine Rtn.then ?_
     cases hE_1
     replace h:=Lr_inr h
     cases h
     exact Rtn.body (.tmp rfl .nil) (fun w hw=>⟨rfl,hw.ext⟩)
    ·replace hE_1:=if_ff g_3 hE_1
     refine Tri.skip (Nrm.block ?_)
     refine Nrm.seq (Tri.reg (l:=[0,1,2]) rfl ?_)
     refine F.qn rfl (r_move rfl) (F.qn rfl (r_add rfl rfl) (F.qn rfl (r_assign rfl) (F.nil (Nrm.round ?_))))
     refine Rnd.only [0,1,5] rfl ?_
     refine Rnd.pick [] rfl rfl ?_
     exact ih_1 _ _ ⟨w64 (x5 + 1),hE_1,rfl,rfl⟩
   ·replace hE_1:=if_ff g_2 hE_1
    refine Tri.exit ?_
    refine Exi.then ?_
    refine Exi.then ?_
    refine Exi.same ?_
    cases hE_1
    replace h:=Lr_inl h
    refine Nrm.seq (Tri.seq (Tri.reg (l:=[0]) rfl ?_))
    refine F.qn rfl (r_assign rfl) (F.nil (Nrm.seq (Tri.ret ?_)))
    cases h
    exact Rtn.body (.tmp rfl .nil) (fun w hw=>⟨rfl,hw.ext⟩)


def laws_rWorlds.l0 (k : Nat) (a0_0 : List (Int × List (Int × Int × Int) × List Int)) (a1_0 : List (Int × List (Int × Int × Int) × List Int)) : Nat → Int → Option ((Unit) ⊕ (Bool))
 | 0,_=>none
 | n + 1,x5=>(if (decide (x5 < (a0_0.length : Int))) = true then (rdl a0_0 x5).bind fun t31=>(rdl a1_0 x5).bind fun t36=>(laws_rMaze.f k t31.1 t31.2.1 t31.2.2 t36.1 t36.2.1 t36.2.2).bind fun t38=>(if (!t38) = true then some (Sum.inr false) else laws_rWorlds.l0 k a0_0 a1_0 n (w64 (x5 + 1))) else some (Sum.inl ()))

def laws_rWorlds.f (k : Nat) (a0_0 : List (Int × List (Int × Int × Int) × List Int)) (a0_1 : List (List Int)) (a1_0 : List (Int × List (Int × Int × Int) × List Int)) (a1_1 : List (List Int)) : Option (Bool) := ((if ((a0_0.length : Int) != (a1_0.length : Int)) = true then some true else (laws_rTable.f k a0_1 a1_1).bind fun t18 => some (!t18))).bind fun y20 => (if y20 = true then some false else (laws_rWorlds.l0 k a0_0 a1_0 k 0).bind fun s => Lr s some fun _ => some true)

theorem laws_rWorlds.ok {k : Nat}  {a0_0 : List (Int × List (Int × Int × Int) × List Int)} {a0_1 : List (List Int)} {a1_0 : List (Int × List (Int × Int × Int) × List Int)} {a1_1 : List (List Int)} {r0 : Bool} (h : laws_rWorlds.f k a0_0 a0_1 a1_0 a1_1 = some r0) (w : World) {va0_0 : Value} {va0_1 : Value} {va1_0 : Value} {va1_1 : Value} (hr_a0_0 : Rd w va0_0 a0_0) (hr_a0_1 : Rd w va0_1 a0_1) (hr_a1_0 : Rd w va1_0 a1_0) (hr_a1_1 : Rd w va1_1 a1_1) :
  Calls Tryz.prog 73 ([.agg ([va0_0,va0_1].toArray),.agg ([va1_0,va1_1].toArray)] : List Value).toArray w (fun e w'=>e = .returned (.bool r0)∧Ext w w'):=by
 unfold laws_rWorlds.f at h
 have hl_va0_0:=hr_a0_0.len
 have hl_va0_1:=hr_a0_1.len
 have hl_va1_0:=hr_a1_0.len
 have hl_va1_1:=hr_a1_1.len
 refine Calls.of_tri (N:=40) Tryz.func73 rfl rfl rfl (Sep.nil (M:=noM)) ?_
 refine Tri.seq (Tri.reg (l:=[0,1,2]) rfl ?_)
 refine F.mn rfl (m_boxG rfl rfl) ?_
 rintro _ _ ⟨b2_1,rfl,rfl⟩
 refine F.mn rfl (m_boxG rfl rfl) ?_
 rintro _ _ ⟨b3_1,rfl,rfl⟩
 refine F.qn rfl (r_assign rfl) (F.nil (Nrm.seq (Tri.seq (Tri.seq ?_))))
 obtain ⟨y20,hE_1,h⟩:=bind_some h
 refine Tri.cut (fun e' C'=>e' = [(2,.pointer (some ⟨b2_1,0,none⟩)),(3,.pointer (some ⟨b3_1,0,none⟩)),(20,.bool y20)]∧C' = Sep w noM [R.box b3_1 88 [va1_0,va1_1],R.box b2_1 88 [va0_0,va0_1]]) ?_ (fun hj_1=>?_)
 ·rintro _ _ ⟨rfl,rfl⟩
  refine Nrm.seq (Tri.cond (b:=y20) rfl (fun g_1=>?_) (fun g_1=>?_))
  ·replace h:=if_tt g_1 h
   refine Tri.seq (Tri.reg (l:=[0]) rfl ?_)
   refine F.qn rfl (r_assign rfl) (F.nil (Nrm.seq (Tri.ret ?_)))
   refine Rtn.then ?_
   cases h
   exact Rtn.body (.tmp rfl .nil) (fun w hw=>⟨rfl,hw.ext⟩)
  ·replace h:=if_ff g_1 h
   refine Tri.skip (Nrm.seq (Tri.seq (Tri.seq (Tri.reg (l:=[0]) rfl ?_))))
   refine F.qn rfl (r_assign rfl) (F.nil (Nrm.seq ?_))
   obtain ⟨s0,hE_2,h⟩:=bind_some h
   refine Tri.block ?_
   refine Tri.only [2,3,5] rfl ?_
   refine Tri.pick [0,1] rfl rfl ?_
   refine Tri.rounds (fun n e' C'=>∃ (x5' : Int),laws_rWorlds.l0 k a0_0 a1_0 n x5' = some s0∧e' = [(2,.pointer (some ⟨b2_1,0,none⟩)),(3,.pointer (some ⟨b3_1,0,none⟩)),(5,.int .i64 x5')]∧C' = Sep w noM [R.box b3_1 88 [va1_0,va1_1],R.box b2_1 88 [va0_0,va0_1]]) k ?_ ?_ ?_
   ·exact ⟨0,hE_2,rfl,rfl⟩
   ·rintro _ _ ⟨_,hE_2,_⟩
    rw [laws_rWorlds.l0.eq_1] at hE_2; cases hE_2
   ·rintro n_1 _ _ ⟨x5,hE_2,rfl,rfl⟩ ih_1
    rw [laws_rWorlds.l0.eq_2] at hE_2
    refine Tri.seq (Tri.seq (Tri.reg (l:=[0,1,2,3,4]) rfl ?_))
    refine F.qn rfl (r_move rfl) (F.qn rfl (r_fieldAddr tf88_0 rfl) (F.qn rfl (r_load ta85 rfl (fun w hw=>cell_1 (box_cells (i:=1) rfl w hw) rfl)) (F.qn rfl (r_len Tryz.underlying85 rfl hl_va0_0) (F.qn rfl (r_lss rfl rfl) (F.nil (Nrm.seq (Tri.cond (b:=decide (x5 < (a0_0.length : Int))) rfl (fun g_2=>?_) (fun g_2=>?_))))))))
    ·replace hE_2:=if_tt g_2 hE_2
     refine Tri.skip (Nrm.seq (Tri.seq (Tri.block ?_)))
     refine Tri.seq ?_
     obtain ⟨t31,h31,hE_2⟩:=bind_some hE_2
     obtain ⟨_,hc31,hp31⟩:=Rd.elem hr_a0_0 (rdl_some h31).2.2
     obtain ⟨v31_1,v31_2,rfl,hr_v31_1,hr_v31_2⟩:=op27 hp31
     have hl_v31_1:=hr_v31_1.len
     have hl_v31_2:=hr_v31_2.len
     obtain ⟨t36,h36,hE_2⟩:=bind_some hE_2
     obtain ⟨_,hc36,hp36⟩:=Rd.elem hr_a1_0 (rdl_some h36).2.2
     obtain ⟨v36_1,v36_2,rfl,hr_v36_1,hr_v36_2⟩:=op27 hp36
     have hl_v36_1:=hr_v36_1.len
     have hl_v36_2:=hr_v36_2.len
     obtain ⟨t38,h38,hE_2⟩:=bind_some hE_2
     refine Tri.drawA mixedT Sep.up [(0,true),(1,true),(2,true),(3,true),(4,true),(5,true),(6,true),(7,true),(8,true),(9,true),(10,true),(11,true)] [] (by kernel_rfl) ?_
     refine S.qn rfl (r_fieldAddr tf88_0 rfl) (S.qn rfl (r_load ta85 rfl (fun w hw=>cell_1 (box_cells (i:=1) rfl w hw) rfl)) (S.qn rfl (r_move rfl) (S.qn rfl (r_indexAddrS Tryz.underlying85 ti27 rfl hl_va0_0 rfl (rdl_some h31).1 (rdl_some h31).2.1) ?_)))
     refine S.qn rfl (r_loadA ta27 ti27 rfl rfl (fun w hw=>(hc31.sep hw))) (S.qn rfl (r_fieldAddr tf88_0 rfl) (S.qn rfl (r_load ta85 rfl (fun w hw=>cell_1 (box_cells (i:=0) rfl w hw) rfl)) (S.qn rfl (r_move rfl) (S.qn rfl (r_indexAddrS Tryz.underlying85 ti27 rfl hl_va1_0 rfl (rdl_some h36).1 (rdl_some h36).2.1) (S.qn rfl (r_loadA ta27 ti27 rfl rfl (fun w hw=>(hc36.sep hw))) ?_)))))
     refine S.qcn rfl (q_callF (xs:=_) rfl ok142 rfl rfl (fun w hw=>laws_rMaze.ok h38 w ((fun _ hw=>hr_v31_1.sep hw) w hw) ((fun _ hw=>hr_v31_2.sep hw) w hw) ((fun _ hw=>hr_v36_1.sep hw) w hw) ((fun _ hw=>hr_v36_2.sep hw) w hw))) ?_
     refine S.qn rfl (r_not rfl) (S.nil (F.nil (Nrm.seq (Tri.cond (b:=!t38) rfl (fun g_3=>?_) (fun g_3=>?_)))))
     ·replace hE_2:=if_tt g_3 hE_2
      refine Tri.seq (Tri.reg (l:=[0]) rfl ?_)
      refine F.qn rfl (r_assign rfl) (F.nil (Nrm.seq (Tri.ret ?_)))
      refine Rtn.block ?_
      refine Rtn.then ?_
      refine Rtn.then ?_
      refine Rtn.block ?_
      refine Rtn.then ?_
      cases hE_2
      replace h:=Lr_inr h
      cases h
      exact Rtn.body (.tmp rfl .nil) (fun w hw=>⟨rfl,hw.ext⟩)
     ·replace hE_2:=if_ff g_3 hE_2
      refine Tri.skip (Nrm.block ?_)
      refine Nrm.seq (Tri.reg (l:=[0,1,2]) rfl ?_)
      refine F.qn rfl (r_move rfl) (F.qn rfl (r_add rfl rfl) (F.qn rfl (r_assign rfl) (F.nil (Nrm.round ?_))))
      refine Rnd.only [2,3,5] rfl ?_
      refine Rnd.pick [0,1] rfl rfl ?_
      exact ih_1 _ _ ⟨w64 (x5 + 1),hE_2,rfl,rfl⟩
    ·replace hE_2:=if_ff g_2 hE_2
     refine Tri.exit ?_
     refine Exi.then ?_
     refine Exi.then ?_
     refine Exi.same ?_
     cases hE_2
     replace h:=Lr_inl h
     refine Nrm.seq (Tri.seq (Tri.reg (l:=[0]) rfl ?_))
     refine F.qn rfl (r_assign rfl) (F.nil (Nrm.seq (Tri.ret ?_)))
     cases h
     exact Rtn.body (.tmp rfl .nil) (fun w hw=>⟨rfl,hw.ext⟩)
 ·rcases Bool.eq_false_or_eq_true ((a0_0.length : Int) != (a1_0.length : Int)) with g13 | g13
  ·replace hE_1:=if_tt g13 hE_1
   refine Tri.reg (l:=List.range 15) rfl ?_
   refine F.qn rfl (r_fieldAddr tf88_0 rfl) (F.qn rfl (r_load ta85 rfl (fun w hw=>cell_1 (box_cells (i:=1) rfl w hw) rfl)) ?_)
   refine F.qn rfl (r_len Tryz.underlying85 rfl hl_va0_0) (F.qn rfl (r_fieldAddr tf88_0 rfl) (F.qn rfl (r_load ta85 rfl (fun w hw=>cell_1 (box_cells (i:=0) rfl w hw) rfl)) (F.qn rfl (r_len Tryz.underlying85 rfl hl_va1_0) (F.qn rfl (r_neq rfl rfl) (F.qn rfl (r_move rfl) ?_)))))
   iterate 6 refine F.skf rfl g13 ?_
   refine F.qn rfl (r_pick rfl rfl g13) (F.nil ?_)
   cases hE_1
   refine Nrm.only [2,3,20] rfl ?_
   refine Nrm.pick [0,1] rfl rfl ?_
   exact hj_1 _ _ ⟨rfl,rfl⟩
  ·replace hE_1:=if_ff g13 hE_1
   obtain ⟨t18,h18,hE_1⟩:=bind_some hE_1
   refine Tri.reg (l:=List.range 15) rfl ?_
   refine F.qn rfl (r_fieldAddr tf88_0 rfl) (F.qn rfl (r_load ta85 rfl (fun w hw=>cell_1 (box_cells (i:=1) rfl w hw) rfl)) (F.qn rfl (r_len Tryz.underlying85 rfl hl_va0_0) (F.qn rfl (r_fieldAddr tf88_0 rfl) (F.qn rfl (r_load ta85 rfl (fun w hw=>cell_1 (box_cells (i:=0) rfl w hw) rfl)) (F.qn rfl (r_len Tryz.underlying85 rfl hl_va1_0) ?_)))))
   refine F.qn rfl (r_neq rfl rfl) (F.qn rfl (r_move rfl) (F.qg rfl g13 (r_fieldAddr tf88_1 rfl) (F.qg rfl g13 (r_load ta86 rfl (fun w hw=>cell_1 (box_cells (i:=1) rfl w hw) rfl)) (F.qg rfl g13 (r_fieldAddr tf88_1 rfl) (F.qg rfl g13 (r_load ta86 rfl (fun w hw=>cell_1 (box_cells (i:=0) rfl w hw) rfl)) ?_)))))
   refine F.qc rfl rfl rfl (wg rfl rfl rfl g13) (q_callF (xs:=_) rfl ok161 rfl rfl (fun w hw=>laws_rTable.ok h18 w ((fun _ hw=>hr_a0_1.sep hw) w hw) ((fun _ hw=>hr_a1_1.sep hw) w hw))) ?_
   refine F.qg rfl g13 (r_not rfl) (F.qn rfl (r_pickf rfl rfl g13) (F.nil ?_))
   cases hE_1
   refine Nrm.only [2,3,20] rfl ?_
   refine Nrm.pick [0,1] rfl rfl ?_
   exact hj_1 _ _ ⟨rfl,rfl⟩


def spec_l1Cur_maze.f (k : Nat) (a0_0 : List By) (a0_1 : Int) (a0_2 : Int) : Option (Int × (List (Int × Int × Int)) × (List Int) × Int × Int) := (spec_l1Cur_among.f k a0_0 a0_1 a0_2 ([5, 6, 4, 7, 3, 8, 2, 10, 1, 12] : List (Int))).bind fun (t6_1, t6_2, t6_3) => (spec_l1Cur_someMaze.f k a0_0 t6_2 t6_3 t6_1).bind fun (t7_1, t7_2, t7_3, t7_4, t7_5) => some (t7_1, t7_2, t7_3, t7_4, t7_5)

theorem spec_l1Cur_maze.ok {k : Nat}  {a0_0 : List By} {a0_1 : Int} {a0_2 : Int} {r0 : Int} {r1 : List (Int × Int × Int)} {r2 : List Int} {r3 : Int} {r4 : Int} (h : spec_l1Cur_maze.f k a0_0 a0_1 a0_2 = some (r0, r1, r2, r3, r4)) (w : World) {pa0 : Nat} {va0_0 : Value} (hr_a0_0 : RdM w (footM [R.box pa0 114 [va0_0, .int .i64 a0_1, .int .u64 a0_2]]) va0_0 a0_0) (hw0 : Sep w (footM [R.box pa0 114 [va0_0, .int .i64 a0_1, .int .u64 a0_2]]) [R.box pa0 114 [va0_0, .int .i64 a0_1, .int .u64 a0_2]] w) :
  Calls Tryz.prog 106 ([.pointer (some ⟨pa0,0,none⟩)] : List Value).toArray w (PostM (footM [R.box pa0 114 [va0_0,.int .i64 a0_1,.int .u64 a0_2]]) (fun u ns=>∃ (ur1 : Value) (Sr1 : Nat → Prop) (ur2 : Value) (Sr2 : Nat → Prop),u = .agg [.int .i64 r0,ur1,ur2].toArray∧SlLen ur1 r1.length∧SlLen ur2 r2.length∧ns = [R.sl Sr1 ur1 r1,R.sl Sr2 ur2 r2,R.box pa0 114 [va0_0,.int .i64 r3,.int .u64 r4]]) w):=by
 unfold spec_l1Cur_maze.f at h
 have hl_va0_0:=hr_a0_0.len
 refine Calls.of_tri (N:=8) Tryz.func106 rfl rfl rfl hw0 ?_
 refine Tri.seq (Tri.reg (l:=[0]) rfl ?_)
 refine F.mn rfl (m_alloc ti27) ?_
 rintro _ _ ⟨b2_1,rfl,rfl⟩
 refine F.nil (Nrm.seq (Tri.seq ?_))
 obtain ⟨⟨t6_1,t6_2,t6_3⟩,h6,h⟩:=bind_some h
 obtain ⟨⟨t7_1,t7_2,t7_3,t7_4,t7_5⟩,h7,h⟩:=bind_some h
 refine Tri.reg (l:=[0,1,2,3,4,5]) rfl ?_
 refine F.qn rfl (r_move rfl) (F.qn rfl (r_move rfl) ?_)
 refine F.mn rfl (m_buildF (l:=([5,6,4,7,3,8,2,10,1,12] : List (Int))) Tryz.underlying25 ti3 rfl rfl rfl rfl rfl) ?_
 rintro v5_1 _ ⟨S5_1,hl_v5_1,rfl⟩
 refine F.efn rfl (d_callM (xs:=_) (cs:=[R.box pa0 114 [va0_0,.int .i64 a0_1,.int .u64 a0_2]]) (rest:=[R.sl S5_1 v5_1 (([5,6,4,7,3,8,2,10,1,12] : List (Int)) : List (Int)),R.box b2_1 27 [.int .i64 0,.slice none 0 0,.slice none 0 0]]) [2] [0,1] rfl ok194 rfl rfl rfl rfl (fun w hw=>spec_l1Cur_among.ok h6 w (hr_a0_0.down hw) (rdm_sl (i:=0) rfl hw) (Sep.sub hw))) ?_
 rintro _ _ ⟨_,⟨rfl,rfl⟩,rfl⟩
 refine F.efn rfl (d_callM (xs:=_) (cs:=[R.box pa0 114 [va0_0,.int .i64 t6_2,.int .u64 t6_3]]) (rest:=[R.sl S5_1 v5_1 (([5,6,4,7,3,8,2,10,1,12] : List (Int)) : List (Int)),R.box b2_1 27 [.int .i64 0,.slice none 0 0,.slice none 0 0]]) [0] [1,2] rfl ok193 rfl rfl rfl rfl (fun w hw=>spec_l1Cur_someMaze.ok h7 w (hr_a0_0.down hw) (Sep.sub hw))) ?_
 rintro _ _ ⟨_,⟨v7_1,S7_1,v7_2,S7_2,rfl,hl_v7_1,hl_v7_2,rfl⟩,rfl⟩
 refine F.ef0 rfl rfl (wanted_none rfl) (d_storeG0 (i:=4) (cs2:=[.int .i64 t7_1,v7_1,v7_2]) ti27 rfl rfl rfl rfl rfl (Nat.le_of_ble_eq_true rfl) (lf_cons rfl (lf_cons (sl_leaf hl_v7_1) (lf_cons (sl_leaf hl_v7_2) lf_nil)))) ?_
 rintro _ _ ⟨rfl,rfl⟩
 refine F.nil (Nrm.seq (Tri.ret ?_))
 cases h
 exact Rtn.body (.cell rfl ta27 ti27 rfl (fun _ hw=>box_cells (i:=4) rfl _ hw) .nil) (fun w hw=>⟨_,_,rfl,⟨v7_1,S7_1,v7_2,S7_2,rfl,hl_v7_1,hl_v7_2,rfl⟩,Sep.pick (is:=[0,1,2]) rfl rfl hw⟩)


def spec_DrawIsMaze.f (k : Nat) (a0 : List By) : Option (Int × (List (Int × Int × Int)) × (List Int)) := (spec_l1Cur_maze.f k a0 0 0).bind fun (t8_1, t8_2, t8_3, t8_4, t8_5) => some (t8_1, t8_2, t8_3)

theorem spec_DrawIsMaze.ok {k : Nat}  {a0 : List By} {r0 : Int} {r1 : List (Int × Int × Int)} {r2 : List Int} (h : spec_DrawIsMaze.f k a0 = some (r0, r1, r2)) (w : World) {va0 : Value} (hr_a0 : Rd w va0 a0) :
  Calls Tryz.prog 162 ([va0] : List Value).toArray w (Post (fun u ns=>∃ (ur1 : Value) (Sr1 : Nat → Prop) (ur2 : Value) (Sr2 : Nat → Prop),u = .agg [.int .i64 r0,ur1,ur2].toArray∧SlLen ur1 r1.length∧SlLen ur2 r2.length∧ns = [R.sl Sr1 ur1 r1,R.sl Sr2 ur2 r2]) w):=by
 unfold spec_DrawIsMaze.f at h
 have hl_va0:=hr_a0.len
 refine Calls.of_tri (N:=9) Tryz.func162 rfl rfl rfl (Sep.nil (M:=noM)) ?_
 refine Tri.seq (Tri.reg (l:=[0]) rfl ?_)
 refine F.mn rfl (m_alloc ti27) ?_
 rintro _ _ ⟨b2_1,rfl,rfl⟩
 refine F.nil (Nrm.seq (Tri.seq (Tri.reg (l:=[0,1,2,3]) rfl ?_)))
 refine F.qn rfl (r_move rfl) (F.qn rfl (r_build (pl:=[(0,1),(1,1),(2,1)]) (qs:=[(0,[va0])]) (cs:=[va0,.int .i64 0,.int .u64 0]) (by kernel_rfl) ti114 rfl (.cons (sl_cells hl_va0) rfl (Nat.le_of_ble_eq_true rfl) .nil) rfl rfl) ?_)
 refine F.mn rfl (m_boxG rfl rfl) ?_
 rintro _ _ ⟨b6_1,rfl,rfl⟩
 refine F.qn rfl (r_assign rfl) (F.nil (Nrm.seq (Tri.seq ?_)))
 obtain ⟨⟨t8_1,t8_2,t8_3,t8_4,t8_5⟩,h8,h⟩:=bind_some h
 refine Tri.reg (l:=[0,1,2]) rfl ?_
 refine F.qn rfl (r_move rfl) ?_
 refine F.efn rfl (d_callM (xs:=_) (cs:=[R.box b6_1 114 [va0,.int .i64 0,.int .u64 0]]) (rest:=[R.box b2_1 27 [.int .i64 0,.slice none 0 0,.slice none 0 0]]) [0] [1] rfl ok106 rfl rfl rfl rfl (fun w hw=>spec_l1Cur_maze.ok h8 w (hr_a0.down hw) (Sep.sub hw))) ?_
 rintro _ _ ⟨_,⟨v8_1,S8_1,v8_2,S8_2,rfl,hl_v8_1,hl_v8_2,rfl⟩,rfl⟩
 refine F.ef0 rfl rfl (wanted_none rfl) (d_storeG0 (i:=3) (cs2:=[.int .i64 t8_1,v8_1,v8_2]) ti27 rfl rfl rfl rfl rfl (Nat.le_of_ble_eq_true rfl) (lf_cons rfl (lf_cons (sl_leaf hl_v8_1) (lf_cons (sl_leaf hl_v8_2) lf_nil)))) ?_
 rintro _ _ ⟨rfl,rfl⟩
 refine F.nil (Nrm.seq (Tri.ret ?_))
 cases h
 exact Rtn.body (.cell rfl ta27 ti27 rfl (fun _ hw=>box_cells (i:=3) rfl _ hw) .nil) (fun w hw=>⟨_,_,rfl,⟨v8_1,S8_1,v8_2,S8_2,rfl,hl_v8_1,hl_v8_2,rfl⟩,Sep.pick (is:=[0,1]) rfl rfl hw⟩)


def spec_DrawAloneWorlds.f (k : Nat) (a0 : List By) : Option (Int × (List (Int × Int × Int)) × (List Int)) := (spec_DrawIsMaze.f k a0).bind fun (t4_1, t4_2, t4_3) => some (t4_1, t4_2, t4_3)

theorem spec_DrawAloneWorlds.ok {k : Nat}  {a0 : List By} {r0 : Int} {r1 : List (Int × Int × Int)} {r2 : List Int} (h : spec_DrawAloneWorlds.f k a0 = some (r0, r1, r2)) (w : World) {va0 : Value} (hr_a0 : Rd w va0 a0) :
  Calls Tryz.prog 74 ([va0] : List Value).toArray w (Post (fun u ns=>∃ (ur1 : Value) (Sr1 : Nat → Prop) (ur2 : Value) (Sr2 : Nat → Prop),u = .agg [.int .i64 r0,ur1,ur2].toArray∧SlLen ur1 r1.length∧SlLen ur2 r2.length∧ns = [R.sl Sr1 ur1 r1,R.sl Sr2 ur2 r2]) w):=by
 unfold spec_DrawAloneWorlds.f at h
 have hl_va0:=hr_a0.len
 refine Calls.of_tri (N:=5) Tryz.func74 rfl rfl rfl (Sep.nil (M:=noM)) ?_
 refine Tri.seq (Tri.reg (l:=[0]) rfl ?_)
 refine F.mn rfl (m_alloc ti27) ?_
 rintro _ _ ⟨b2_1,rfl,rfl⟩
 refine F.nil (Nrm.seq (Tri.seq ?_))
 obtain ⟨⟨t4_1,t4_2,t4_3⟩,h4,h⟩:=bind_some h
 refine Tri.reg (l:=[0,1,2]) rfl ?_
 refine F.qn rfl (r_move rfl) ?_
 refine F.mn rfl (m_callF (xs:=_) rfl ok162 rfl rfl (fun w hw=>spec_DrawIsMaze.ok h4 w ((fun _ hw=>hr_a0.sep hw) w hw))) ?_
 rintro _ _ ⟨_,⟨v4_1,S4_1,v4_2,S4_2,rfl,hl_v4_1,hl_v4_2,rfl⟩,rfl⟩
 refine F.ef0 rfl rfl (wanted_none rfl) (d_storeG0 (i:=2) (cs2:=[.int .i64 t4_1,v4_1,v4_2]) ti27 rfl rfl rfl rfl rfl (Nat.le_of_ble_eq_true rfl) (lf_cons rfl (lf_cons (sl_leaf hl_v4_1) (lf_cons (sl_leaf hl_v4_2) lf_nil)))) ?_
 rintro _ _ ⟨rfl,rfl⟩
 refine F.nil (Nrm.seq (Tri.ret ?_))
 cases h
 exact Rtn.body (.cell rfl ta27 ti27 rfl (fun _ hw=>box_cells (i:=2) rfl _ hw) .nil) (fun w hw=>⟨_,_,rfl,⟨v4_1,S4_1,v4_2,S4_2,rfl,hl_v4_1,hl_v4_2,rfl⟩,Sep.pick (is:=[0,1]) rfl rfl hw⟩)


def impl_AloneWorlds.f (k : Nat) (a0_0 : Int) (a0_1 : List (Int × Int × Int)) (a0_2 : List Int) : Option ((List (Int × List (Int × Int × Int) × List Int)) × (List (List Int)) × Bool) := (impl_IsMaze.f k a0_0 a0_1 a0_2).bind fun t5 => (if (!t5) = true then some ([], [], false) else ((impl_own.f k a0_0 a0_1 a0_2).bind fun (t9_1, t9_2, t9_3) => if 0 ≤ a0_0 ∧ a0_0 < 1099511627776 then some (true, ([(t9_1, t9_2, t9_3)] : List (Int × List (Int × Int × Int) × List Int)), ([List.replicate (a0_0).toNat (0 : Int)] : List (List Int))) else none).bind fun (y3, yb2_1_0, yb2_1_1) => some (yb2_1_0, yb2_1_1, y3))

theorem impl_AloneWorlds.ok {k : Nat}  {a0_0 : Int} {a0_1 : List (Int × Int × Int)} {a0_2 : List Int} {r0 : List (Int × List (Int × Int × Int) × List Int)} {r1 : List (List Int)} {r2 : Bool} (h : impl_AloneWorlds.f k a0_0 a0_1 a0_2 = some (r0, r1, r2)) (w : World) {va0_1 : Value} {va0_2 : Value} (hr_a0_1 : Rd w va0_1 a0_1) (hr_a0_2 : Rd w va0_2 a0_2) :
  Calls Tryz.prog 75 ([.agg ([.int .i64 a0_0,va0_1,va0_2].toArray)] : List Value).toArray w (Post (fun u ns=>∃ (ur0 : Value) (Sr0 : Nat → Prop) (ur1 : Value) (Sr1 : Nat → Prop),u = .tuple #[.agg [ur0,ur1].toArray,.bool r2]∧SlLen ur0 r0.length∧SlLen ur1 r1.length∧ns = [R.sl Sr0 ur0 r0,R.sl Sr1 ur1 r1]) w):=by
 unfold impl_AloneWorlds.f at h
 have hl_va0_1:=hr_a0_1.len
 have hl_va0_2:=hr_a0_2.len
 refine Calls.of_tri (N:=16) Tryz.func75 rfl rfl rfl (Sep.nil (M:=noM)) ?_
 refine Tri.seq (Tri.reg (l:=[0,1,2]) rfl ?_)
 refine F.mn rfl (m_boxG rfl rfl) ?_
 rintro _ _ ⟨b1_1,rfl,rfl⟩
 refine F.mn rfl (m_alloc ti88) ?_
 rintro _ _ ⟨b2_1,rfl,rfl⟩
 refine F.qn rfl (r_assign rfl) (F.nil (Nrm.seq (Tri.seq (Tri.seq ?_))))
 obtain ⟨t5,h5,h⟩:=bind_some h
 refine Tri.reg (l:=[0,1,2]) rfl ?_
 refine F.qn rfl (r_loadA ta27 ti27 rfl rfl (fun w hw=>(box_cells (i:=1) rfl w hw))) ?_
 refine F.qcn rfl (q_callF (xs:=_) rfl ok102 rfl rfl (fun w hw=>impl_IsMaze.ok h5 w ((fun _ hw=>hr_a0_1.sep hw) w hw) ((fun _ hw=>hr_a0_2.sep hw) w hw))) ?_
 refine F.qn rfl (r_not rfl) (F.nil (Nrm.seq (Tri.cond (b:=!t5) rfl (fun g_1=>?_) (fun g_1=>?_))))
 ·replace h:=if_tt g_1 h
  refine Tri.seq (Tri.reg (l:=[0,1,2]) rfl ?_)
  refine F.qn rfl (r_build (pl:=[(0,1),(1,1)]) (qs:=[]) (cs:=[.slice none 0 0,.slice none 0 0]) (by kernel_rfl) ti88 rfl .nil rfl rfl) ?_
  refine F.ef0 rfl rfl (wanted_none rfl) (d_storeG0 (i:=0) (cs2:=[.slice none 0 0,.slice none 0 0]) ti88 rfl rfl rfl rfl rfl (Nat.le_of_ble_eq_true rfl) (lf_cons rfl (lf_cons rfl lf_nil))) ?_
  rintro _ _ ⟨rfl,rfl⟩
  refine F.qn rfl (r_assign rfl) (F.nil (Nrm.seq (Tri.ret ?_)))
  refine Rtn.then ?_
  cases h
  exact Rtn.body (.cell rfl ta88 ti88 rfl (fun _ hw=>box_cells (i:=0) rfl _ hw) (.tmp rfl .nil)) (fun w hw=>⟨_,_,rfl,⟨.slice none 0 0,fun _=>False,.slice none 0 0,fun _=>False,rfl,len_nil,len_nil,rfl⟩,Sep.pick (is:=[0,1]) rfl rfl hw.pushNil.pushNil⟩)
 ·replace h:=if_ff g_1 h
  refine Tri.skip (Nrm.seq (Tri.seq ?_))
  obtain ⟨⟨y3,yb2_1_0,yb2_1_1⟩,hE_1,h⟩:=bind_some h
  refine Tri.cut (fun e' C'=>∃ (vb2_1_0_1 : Value) (Sb2_1_0_1 : Nat → Prop) (vb2_1_1_1 : Value) (Sb2_1_1_1 : Nat → Prop),SlLen vb2_1_0_1 (yb2_1_0).length∧SlLen vb2_1_1_1 (yb2_1_1).length∧e' = [(2,.pointer (some ⟨b2_1,0,none⟩)),(3,.bool y3)]∧C' = Sep w noM [R.box b2_1 88 [vb2_1_0_1,vb2_1_1_1],R.sl Sb2_1_0_1 vb2_1_0_1 (yb2_1_0 : List (Int × List (Int × Int × Int) × List Int)),R.sl Sb2_1_1_1 vb2_1_1_1 (yb2_1_1 : List (List Int))]) ?_ (fun hj_1=>?_)
  ·rintro _ _ ⟨vb2_1_0_1,Sb2_1_0_1,vb2_1_1_1,Sb2_1_1_1,hl_vb2_1_0_1,hl_vb2_1_1_1,rfl,rfl⟩
   refine Nrm.seq (Tri.ret ?_)
   cases h
   exact Rtn.body (.cell rfl ta88 ti88 rfl (fun _ hw=>box_cells (i:=0) rfl _ hw) (.tmp rfl .nil)) (fun w hw=>⟨_,_,rfl,⟨vb2_1_0_1,Sb2_1_0_1,vb2_1_1_1,Sb2_1_1_1,rfl,hl_vb2_1_0_1,hl_vb2_1_1_1,rfl⟩,Sep.pick (is:=[1,2]) rfl rfl hw⟩)
  ·obtain ⟨⟨t9_1,t9_2,t9_3⟩,h9,hE_1⟩:=bind_some hE_1
   obtain ⟨hm13,hE_1⟩:=ck hE_1
   refine Tri.drawT mixedT Sep.up [0,3,4,1,2,5,6] [7,8,9] (.q 0 (.q 3 (.q 4 (.alt 1 (.alt 2 (.alt 5 (.alt 6 .nil .stop) .stop) (.alt 5 (.alt 2 (.alt 6 .nil .stop) (.alt 6 (.alt 2 .nil .stop) .stop)) .stop)) (.alt 5 (.alt 1 (.alt 2 (.alt 6 .nil .stop) (.alt 6 (.alt 2 .nil .stop) .stop)) (.alt 6 (.alt 1 (.alt 2 .nil .stop) .stop) .stop)) .stop))))) (by kernel_rfl) ?_
   refine T.q rfl rfl rfl (wanted_none rfl) (r_loadA ta27 ti27 rfl rfl (fun w hw=>(box_cells (i:=1) rfl w hw))) ?_
   refine T.q rfl rfl rfl (wanted_none rfl) (r_fieldAddr tf27_0 rfl) ?_
   refine T.q rfl rfl rfl (wanted_none rfl) (r_load ta3 rfl (fun w hw=>cell_1 (box_cells (i:=1) rfl w hw) rfl)) ?_
   refine T.ef rfl rfl rfl (wanted_none rfl) (Makes.does (m_callF (xs:=_) rfl ok107 rfl rfl (fun w hw=>impl_own.ok h9 w ((fun _ hw=>hr_a0_1.sep hw) w hw) ((fun _ hw=>hr_a0_2.sep hw) w hw)))) (by rintro _ _ ⟨_,⟨v9_3,S9_3,v9_4,S9_4,rfl,hl_v9_3,hl_v9_4,rfl⟩,rfl⟩; exact upd rfl [2,3] rfl rfl) ?_ ?_
   ·rintro _ _ ⟨_,⟨v9_3,S9_3,v9_4,S9_4,rfl,hl_v9_3,hl_v9_4,rfl⟩,rfl⟩
    refine T.ef rfl rfl rfl (wanted_none rfl) (d_build1 (cells:=[.int .i64 t9_1,v9_3,v9_4]) (x0:=((t9_1,t9_2,t9_3) : Int × List (Int × Int × Int) × List Int)) (cs:=[R.sl S9_3 v9_3 (t9_2 : List (Int × Int × Int)),R.sl S9_4 v9_4 (t9_3 : List (Int))]) (rest:=[R.box b2_1 88 [.slice none 0 0,.slice none 0 0],R.box b1_1 27 [.int .i64 a0_0,va0_1,va0_2]]) [0,1] [2,3] Tryz.underlying85 ti27 rfl rfl rfl (lf_cons rfl (lf_cons (sl_leaf hl_v9_3) (lf_cons (sl_leaf hl_v9_4) lf_nil))) rfl rfl (jn_pair (jn_int (n:=t9_1)) (jn_pair (jn_sl (S:=S9_3) (v:=v9_3) (l:=(t9_2 : List (Int × Int × Int)))) (jn_sl (S:=S9_4) (v:=v9_4) (l:=(t9_3 : List (Int))))))) (by rintro v10_2 _ ⟨S10_2,hl_v10_2,rfl⟩; exact upd rfl [1,2] rfl rfl) ?_ ?_
    ·rintro v10_2 _ ⟨S10_2,hl_v10_2,rfl⟩
     refine T.ef rfl rfl rfl (wanted_none rfl) (Makes.does (m_make (x0:=(0 : Int)) Tryz.underlying25 ti3 rfl rfl rfl hm13.1 hm13.2 (by decide))) (by rintro v13_2 _ ⟨S13_2,hl_v13_2,rfl⟩; exact upd rfl [2,3] rfl rfl) ?_ ?_
     ·rintro v13_2 _ ⟨S13_2,hl_v13_2,rfl⟩
      refine T.ef rfl rfl rfl (wanted_none rfl) (d_build1 (cells:=[v13_2]) (x0:=(List.replicate (a0_0).toNat (0 : Int) : List Int)) (cs:=[R.sl S13_2 v13_2 (List.replicate (a0_0).toNat (0 : Int) : List (Int))]) (rest:=[R.sl S10_2 v10_2 (([(t9_1,t9_2,t9_3)] : List (Int × List (Int × Int × Int) × List Int)) : List (Int × List (Int × Int × Int) × List Int)),R.box b2_1 88 [.slice none 0 0,.slice none 0 0],R.box b1_1 27 [.int .i64 a0_0,va0_1,va0_2]]) [0] [1,2,3] Tryz.underlying86 ti25 rfl (sl_cells hl_v13_2) rfl (lf_cons (sl_leaf hl_v13_2) lf_nil) rfl rfl (jn_sl (S:=S13_2) (v:=v13_2) (l:=(List.replicate (a0_0).toNat (0 : Int) : List (Int))))) (by rintro v14_2 _ ⟨S14_2,hl_v14_2,rfl⟩; exact upd rfl [2,3] rfl rfl) ?_ ?_
      ·rintro v14_2 _ ⟨S14_2,hl_v14_2,rfl⟩
       refine T.nil ?_
       refine F.qn rfl (r_build (pl:=[(0,1),(1,1)]) (qs:=[(0,[v10_2]),(1,[v14_2])]) (cs:=[v10_2,v14_2]) (by kernel_rfl) ti88 rfl (.cons (sl_cells hl_v10_2) rfl (Nat.le_of_ble_eq_true rfl) (.cons (sl_cells hl_v14_2) rfl (Nat.le_of_ble_eq_true rfl) .nil)) rfl rfl) ?_
       refine F.ef0 rfl rfl (wanted_none rfl) (d_storeG0 (i:=2) (cs2:=[v10_2,v14_2]) ti88 rfl rfl rfl rfl rfl (Nat.le_of_ble_eq_true rfl) (lf_cons (sl_leaf hl_v10_2) (lf_cons (sl_leaf hl_v14_2) lf_nil))) ?_
       rintro _ _ ⟨rfl,rfl⟩
       refine F.qn rfl (r_assign rfl) (F.nil ?_)
       cases hE_1
       refine Nrm.only [2,3] rfl ?_
       refine Nrm.pick [2,1,0] rfl rfl ?_
       exact hj_1 _ _ ⟨v10_2,S10_2,v14_2,S14_2,hl_v10_2,hl_v14_2,rfl,rfl⟩
      exact T.stop
     exact T.stop
    ·refine T.ef rfl rfl rfl (wanted_none rfl) (Makes.does (m_make (x0:=(0 : Int)) Tryz.underlying25 ti3 rfl rfl rfl hm13.1 hm13.2 (by decide))) (by rintro v13_3 _ ⟨S13_3,hl_v13_3,rfl⟩; exact upd rfl [3,4] rfl rfl) ?_ ?_
     ·rintro v13_3 _ ⟨S13_3,hl_v13_3,rfl⟩
      refine T.ef rfl rfl rfl (wanted_none rfl) (d_build1 (cells:=[.int .i64 t9_1,v9_3,v9_4]) (x0:=((t9_1,t9_2,t9_3) : Int × List (Int × Int × Int) × List Int)) (cs:=[R.sl S9_3 v9_3 (t9_2 : List (Int × Int × Int)),R.sl S9_4 v9_4 (t9_3 : List (Int))]) (rest:=[R.sl S13_3 v13_3 (List.replicate (a0_0).toNat (0 : Int) : List (Int)),R.box b2_1 88 [.slice none 0 0,.slice none 0 0],R.box b1_1 27 [.int .i64 a0_0,va0_1,va0_2]]) [1,2] [0,3,4] Tryz.underlying85 ti27 rfl rfl rfl (lf_cons rfl (lf_cons (sl_leaf hl_v9_3) (lf_cons (sl_leaf hl_v9_4) lf_nil))) rfl rfl (jn_pair (jn_int (n:=t9_1)) (jn_pair (jn_sl (S:=S9_3) (v:=v9_3) (l:=(t9_2 : List (Int × Int × Int)))) (jn_sl (S:=S9_4) (v:=v9_4) (l:=(t9_3 : List (Int))))))) (by rintro v10_3 _ ⟨S10_3,hl_v10_3,rfl⟩; exact upd rfl [2,3] rfl rfl) ?_ ?_
      ·rintro v10_3 _ ⟨S10_3,hl_v10_3,rfl⟩
       refine T.ef rfl rfl rfl (wanted_none rfl) (d_build1 (cells:=[v13_3]) (x0:=(List.replicate (a0_0).toNat (0 : Int) : List Int)) (cs:=[R.sl S13_3 v13_3 (List.replicate (a0_0).toNat (0 : Int) : List (Int))]) (rest:=[R.sl S10_3 v10_3 (([(t9_1,t9_2,t9_3)] : List (Int × List (Int × Int × Int) × List Int)) : List (Int × List (Int × Int × Int) × List Int)),R.box b2_1 88 [.slice none 0 0,.slice none 0 0],R.box b1_1 27 [.int .i64 a0_0,va0_1,va0_2]]) [1] [0,2,3] Tryz.underlying86 ti25 rfl (sl_cells hl_v13_3) rfl (lf_cons (sl_leaf hl_v13_3) lf_nil) rfl rfl (jn_sl (S:=S13_3) (v:=v13_3) (l:=(List.replicate (a0_0).toNat (0 : Int) : List (Int))))) (by rintro v14_3 _ ⟨S14_3,hl_v14_3,rfl⟩; exact upd rfl [2,3] rfl rfl) ?_ ?_
       ·rintro v14_3 _ ⟨S14_3,hl_v14_3,rfl⟩
        refine T.nil ?_
        refine F.qn rfl (r_build (pl:=[(0,1),(1,1)]) (qs:=[(0,[v10_3]),(1,[v14_3])]) (cs:=[v10_3,v14_3]) (by kernel_rfl) ti88 rfl (.cons (sl_cells hl_v10_3) rfl (Nat.le_of_ble_eq_true rfl) (.cons (sl_cells hl_v14_3) rfl (Nat.le_of_ble_eq_true rfl) .nil)) rfl rfl) ?_
        refine F.ef0 rfl rfl (wanted_none rfl) (d_storeG0 (i:=2) (cs2:=[v10_3,v14_3]) ti88 rfl rfl rfl rfl rfl (Nat.le_of_ble_eq_true rfl) (lf_cons (sl_leaf hl_v10_3) (lf_cons (sl_leaf hl_v14_3) lf_nil))) ?_
        rintro _ _ ⟨rfl,rfl⟩
        refine F.qn rfl (r_assign rfl) (F.nil ?_)
        cases hE_1
        refine Nrm.only [2,3] rfl ?_
        refine Nrm.pick [2,1,0] rfl rfl ?_
        exact hj_1 _ _ ⟨v10_3,S10_3,v14_3,S14_3,hl_v10_3,hl_v14_3,rfl,rfl⟩
       exact T.stop
      ·refine T.ef rfl rfl rfl (wanted_none rfl) (d_build1 (cells:=[v13_3]) (x0:=(List.replicate (a0_0).toNat (0 : Int) : List Int)) (cs:=[R.sl S13_3 v13_3 (List.replicate (a0_0).toNat (0 : Int) : List (Int))]) (rest:=[R.sl S9_3 v9_3 (t9_2 : List (Int × Int × Int)),R.sl S9_4 v9_4 (t9_3 : List (Int)),R.box b2_1 88 [.slice none 0 0,.slice none 0 0],R.box b1_1 27 [.int .i64 a0_0,va0_1,va0_2]]) [0] [1,2,3,4] Tryz.underlying86 ti25 rfl (sl_cells hl_v13_3) rfl (lf_cons (sl_leaf hl_v13_3) lf_nil) rfl rfl (jn_sl (S:=S13_3) (v:=v13_3) (l:=(List.replicate (a0_0).toNat (0 : Int) : List (Int))))) (by rintro v14_4 _ ⟨S14_4,hl_v14_4,rfl⟩; exact upd rfl [3,4] rfl rfl) ?_ ?_
       ·rintro v14_4 _ ⟨S14_4,hl_v14_4,rfl⟩
        refine T.ef rfl rfl rfl (wanted_none rfl) (d_build1 (cells:=[.int .i64 t9_1,v9_3,v9_4]) (x0:=((t9_1,t9_2,t9_3) : Int × List (Int × Int × Int) × List Int)) (cs:=[R.sl S9_3 v9_3 (t9_2 : List (Int × Int × Int)),R.sl S9_4 v9_4 (t9_3 : List (Int))]) (rest:=[R.sl S14_4 v14_4 (([List.replicate (a0_0).toNat (0 : Int)] : List (List Int)) : List (List Int)),R.box b2_1 88 [.slice none 0 0,.slice none 0 0],R.box b1_1 27 [.int .i64 a0_0,va0_1,va0_2]]) [1,2] [0,3,4] Tryz.underlying85 ti27 rfl rfl rfl (lf_cons rfl (lf_cons (sl_leaf hl_v9_3) (lf_cons (sl_leaf hl_v9_4) lf_nil))) rfl rfl (jn_pair (jn_int (n:=t9_1)) (jn_pair (jn_sl (S:=S9_3) (v:=v9_3) (l:=(t9_2 : List (Int × Int × Int)))) (jn_sl (S:=S9_4) (v:=v9_4) (l:=(t9_3 : List (Int))))))) (by rintro v10_4 _ ⟨S10_4,hl_v10_4,rfl⟩; exact upd rfl [2,3] rfl rfl) ?_ ?_
        ·rintro v10_4 _ ⟨S10_4,hl_v10_4,rfl⟩
         refine T.nil ?_
         refine F.qn rfl (r_build (pl:=[(0,1),(1,1)]) (qs:=[(0,[v10_4]),(1,[v14_4])]) (cs:=[v10_4,v14_4]) (by kernel_rfl) ti88 rfl (.cons (sl_cells hl_v10_4) rfl (Nat.le_of_ble_eq_true rfl) (.cons (sl_cells hl_v14_4) rfl (Nat.le_of_ble_eq_true rfl) .nil)) rfl rfl) ?_
         refine F.ef0 rfl rfl (wanted_none rfl) (d_storeG0 (i:=2) (cs2:=[v10_4,v14_4]) ti88 rfl rfl rfl rfl rfl (Nat.le_of_ble_eq_true rfl) (lf_cons (sl_leaf hl_v10_4) (lf_cons (sl_leaf hl_v14_4) lf_nil))) ?_
         rintro _ _ ⟨rfl,rfl⟩
         refine F.qn rfl (r_assign rfl) (F.nil ?_)
         cases hE_1
         refine Nrm.only [2,3] rfl ?_
         refine Nrm.pick [2,0,1] rfl rfl ?_
         exact hj_1 _ _ ⟨v10_4,S10_4,v14_4,S14_4,hl_v10_4,hl_v14_4,rfl,rfl⟩
        exact T.stop
       exact T.stop
     exact T.stop
   ·refine T.ef rfl rfl rfl (wanted_none rfl) (Makes.does (m_make (x0:=(0 : Int)) Tryz.underlying25 ti3 rfl rfl rfl hm13.1 hm13.2 (by decide))) (by rintro v13_4 _ ⟨S13_4,hl_v13_4,rfl⟩; exact upd rfl [1,2] rfl rfl) ?_ ?_
    ·rintro v13_4 _ ⟨S13_4,hl_v13_4,rfl⟩
     refine T.ef rfl rfl rfl (wanted_none rfl) (Makes.does (m_callF (xs:=_) rfl ok107 rfl rfl (fun w hw=>impl_own.ok h9 w ((fun _ hw=>hr_a0_1.sep hw) w hw) ((fun _ hw=>hr_a0_2.sep hw) w hw)))) (by rintro _ _ ⟨_,⟨v9_5,S9_5,v9_6,S9_6,rfl,hl_v9_5,hl_v9_6,rfl⟩,rfl⟩; exact upd rfl [3,4] rfl rfl) ?_ ?_
     ·rintro _ _ ⟨_,⟨v9_5,S9_5,v9_6,S9_6,rfl,hl_v9_5,hl_v9_6,rfl⟩,rfl⟩
      refine T.ef rfl rfl rfl (wanted_none rfl) (d_build1 (cells:=[.int .i64 t9_1,v9_5,v9_6]) (x0:=((t9_1,t9_2,t9_3) : Int × List (Int × Int × Int) × List Int)) (cs:=[R.sl S9_5 v9_5 (t9_2 : List (Int × Int × Int)),R.sl S9_6 v9_6 (t9_3 : List (Int))]) (rest:=[R.sl S13_4 v13_4 (List.replicate (a0_0).toNat (0 : Int) : List (Int)),R.box b2_1 88 [.slice none 0 0,.slice none 0 0],R.box b1_1 27 [.int .i64 a0_0,va0_1,va0_2]]) [0,1] [2,3,4] Tryz.underlying85 ti27 rfl rfl rfl (lf_cons rfl (lf_cons (sl_leaf hl_v9_5) (lf_cons (sl_leaf hl_v9_6) lf_nil))) rfl rfl (jn_pair (jn_int (n:=t9_1)) (jn_pair (jn_sl (S:=S9_5) (v:=v9_5) (l:=(t9_2 : List (Int × Int × Int)))) (jn_sl (S:=S9_6) (v:=v9_6) (l:=(t9_3 : List (Int))))))) (by rintro v10_5 _ ⟨S10_5,hl_v10_5,rfl⟩; exact upd rfl [2,3] rfl rfl) ?_ ?_
      ·rintro v10_5 _ ⟨S10_5,hl_v10_5,rfl⟩
       refine T.ef rfl rfl rfl (wanted_none rfl) (d_build1 (cells:=[v13_4]) (x0:=(List.replicate (a0_0).toNat (0 : Int) : List Int)) (cs:=[R.sl S13_4 v13_4 (List.replicate (a0_0).toNat (0 : Int) : List (Int))]) (rest:=[R.sl S10_5 v10_5 (([(t9_1,t9_2,t9_3)] : List (Int × List (Int × Int × Int) × List Int)) : List (Int × List (Int × Int × Int) × List Int)),R.box b2_1 88 [.slice none 0 0,.slice none 0 0],R.box b1_1 27 [.int .i64 a0_0,va0_1,va0_2]]) [1] [0,2,3] Tryz.underlying86 ti25 rfl (sl_cells hl_v13_4) rfl (lf_cons (sl_leaf hl_v13_4) lf_nil) rfl rfl (jn_sl (S:=S13_4) (v:=v13_4) (l:=(List.replicate (a0_0).toNat (0 : Int) : List (Int))))) (by rintro v14_5 _ ⟨S14_5,hl_v14_5,rfl⟩; exact upd rfl [2,3] rfl rfl) ?_ ?_
       ·rintro v14_5 _ ⟨S14_5,hl_v14_5,rfl⟩
        refine T.nil ?_
        refine F.qn rfl (r_build (pl:=[(0,1),(1,1)]) (qs:=[(0,[v10_5]),(1,[v14_5])]) (cs:=[v10_5,v14_5]) (by kernel_rfl) ti88 rfl (.cons (sl_cells hl_v10_5) rfl (Nat.le_of_ble_eq_true rfl) (.cons (sl_cells hl_v14_5) rfl (Nat.le_of_ble_eq_true rfl) .nil)) rfl rfl) ?_
        refine F.ef0 rfl rfl (wanted_none rfl) (d_storeG0 (i:=2) (cs2:=[v10_5,v14_5]) ti88 rfl rfl rfl rfl rfl (Nat.le_of_ble_eq_true rfl) (lf_cons (sl_leaf hl_v10_5) (lf_cons (sl_leaf hl_v14_5) lf_nil))) ?_
        rintro _ _ ⟨rfl,rfl⟩
        refine F.qn rfl (r_assign rfl) (F.nil ?_)
        cases hE_1
        refine Nrm.only [2,3] rfl ?_
        refine Nrm.pick [2,1,0] rfl rfl ?_
        exact hj_1 _ _ ⟨v10_5,S10_5,v14_5,S14_5,hl_v10_5,hl_v14_5,rfl,rfl⟩
       exact T.stop
      ·refine T.ef rfl rfl rfl (wanted_none rfl) (d_build1 (cells:=[v13_4]) (x0:=(List.replicate (a0_0).toNat (0 : Int) : List Int)) (cs:=[R.sl S13_4 v13_4 (List.replicate (a0_0).toNat (0 : Int) : List (Int))]) (rest:=[R.sl S9_5 v9_5 (t9_2 : List (Int × Int × Int)),R.sl S9_6 v9_6 (t9_3 : List (Int)),R.box b2_1 88 [.slice none 0 0,.slice none 0 0],R.box b1_1 27 [.int .i64 a0_0,va0_1,va0_2]]) [2] [0,1,3,4] Tryz.underlying86 ti25 rfl (sl_cells hl_v13_4) rfl (lf_cons (sl_leaf hl_v13_4) lf_nil) rfl rfl (jn_sl (S:=S13_4) (v:=v13_4) (l:=(List.replicate (a0_0).toNat (0 : Int) : List (Int))))) (by rintro v14_6 _ ⟨S14_6,hl_v14_6,rfl⟩; exact upd rfl [3,4] rfl rfl) ?_ ?_
       ·rintro v14_6 _ ⟨S14_6,hl_v14_6,rfl⟩
        refine T.ef rfl rfl rfl (wanted_none rfl) (d_build1 (cells:=[.int .i64 t9_1,v9_5,v9_6]) (x0:=((t9_1,t9_2,t9_3) : Int × List (Int × Int × Int) × List Int)) (cs:=[R.sl S9_5 v9_5 (t9_2 : List (Int × Int × Int)),R.sl S9_6 v9_6 (t9_3 : List (Int))]) (rest:=[R.sl S14_6 v14_6 (([List.replicate (a0_0).toNat (0 : Int)] : List (List Int)) : List (List Int)),R.box b2_1 88 [.slice none 0 0,.slice none 0 0],R.box b1_1 27 [.int .i64 a0_0,va0_1,va0_2]]) [1,2] [0,3,4] Tryz.underlying85 ti27 rfl rfl rfl (lf_cons rfl (lf_cons (sl_leaf hl_v9_5) (lf_cons (sl_leaf hl_v9_6) lf_nil))) rfl rfl (jn_pair (jn_int (n:=t9_1)) (jn_pair (jn_sl (S:=S9_5) (v:=v9_5) (l:=(t9_2 : List (Int × Int × Int)))) (jn_sl (S:=S9_6) (v:=v9_6) (l:=(t9_3 : List (Int))))))) (by rintro v10_6 _ ⟨S10_6,hl_v10_6,rfl⟩; exact upd rfl [2,3] rfl rfl) ?_ ?_
        ·rintro v10_6 _ ⟨S10_6,hl_v10_6,rfl⟩
         refine T.nil ?_
         refine F.qn rfl (r_build (pl:=[(0,1),(1,1)]) (qs:=[(0,[v10_6]),(1,[v14_6])]) (cs:=[v10_6,v14_6]) (by kernel_rfl) ti88 rfl (.cons (sl_cells hl_v10_6) rfl (Nat.le_of_ble_eq_true rfl) (.cons (sl_cells hl_v14_6) rfl (Nat.le_of_ble_eq_true rfl) .nil)) rfl rfl) ?_
         refine F.ef0 rfl rfl (wanted_none rfl) (d_storeG0 (i:=2) (cs2:=[v10_6,v14_6]) ti88 rfl rfl rfl rfl rfl (Nat.le_of_ble_eq_true rfl) (lf_cons (sl_leaf hl_v10_6) (lf_cons (sl_leaf hl_v14_6) lf_nil))) ?_
         rintro _ _ ⟨rfl,rfl⟩
         refine F.qn rfl (r_assign rfl) (F.nil ?_)
         cases hE_1
         refine Nrm.only [2,3] rfl ?_
         refine Nrm.pick [2,0,1] rfl rfl ?_
         exact hj_1 _ _ ⟨v10_6,S10_6,v14_6,S14_6,hl_v10_6,hl_v14_6,rfl,rfl⟩
        exact T.stop
       exact T.stop
     ·refine T.ef rfl rfl rfl (wanted_none rfl) (d_build1 (cells:=[v13_4]) (x0:=(List.replicate (a0_0).toNat (0 : Int) : List Int)) (cs:=[R.sl S13_4 v13_4 (List.replicate (a0_0).toNat (0 : Int) : List (Int))]) (rest:=[R.box b2_1 88 [.slice none 0 0,.slice none 0 0],R.box b1_1 27 [.int .i64 a0_0,va0_1,va0_2]]) [0] [1,2] Tryz.underlying86 ti25 rfl (sl_cells hl_v13_4) rfl (lf_cons (sl_leaf hl_v13_4) lf_nil) rfl rfl (jn_sl (S:=S13_4) (v:=v13_4) (l:=(List.replicate (a0_0).toNat (0 : Int) : List (Int))))) (by rintro v14_7 _ ⟨S14_7,hl_v14_7,rfl⟩; exact upd rfl [1,2] rfl rfl) ?_ ?_
      ·rintro v14_7 _ ⟨S14_7,hl_v14_7,rfl⟩
       refine T.ef rfl rfl rfl (wanted_none rfl) (Makes.does (m_callF (xs:=_) rfl ok107 rfl rfl (fun w hw=>impl_own.ok h9 w ((fun _ hw=>hr_a0_1.sep hw) w hw) ((fun _ hw=>hr_a0_2.sep hw) w hw)))) (by rintro _ _ ⟨_,⟨v9_7,S9_7,v9_8,S9_8,rfl,hl_v9_7,hl_v9_8,rfl⟩,rfl⟩; exact upd rfl [3,4] rfl rfl) ?_ ?_
       ·rintro _ _ ⟨_,⟨v9_7,S9_7,v9_8,S9_8,rfl,hl_v9_7,hl_v9_8,rfl⟩,rfl⟩
        refine T.ef rfl rfl rfl (wanted_none rfl) (d_build1 (cells:=[.int .i64 t9_1,v9_7,v9_8]) (x0:=((t9_1,t9_2,t9_3) : Int × List (Int × Int × Int) × List Int)) (cs:=[R.sl S9_7 v9_7 (t9_2 : List (Int × Int × Int)),R.sl S9_8 v9_8 (t9_3 : List (Int))]) (rest:=[R.sl S14_7 v14_7 (([List.replicate (a0_0).toNat (0 : Int)] : List (List Int)) : List (List Int)),R.box b2_1 88 [.slice none 0 0,.slice none 0 0],R.box b1_1 27 [.int .i64 a0_0,va0_1,va0_2]]) [0,1] [2,3,4] Tryz.underlying85 ti27 rfl rfl rfl (lf_cons rfl (lf_cons (sl_leaf hl_v9_7) (lf_cons (sl_leaf hl_v9_8) lf_nil))) rfl rfl (jn_pair (jn_int (n:=t9_1)) (jn_pair (jn_sl (S:=S9_7) (v:=v9_7) (l:=(t9_2 : List (Int × Int × Int)))) (jn_sl (S:=S9_8) (v:=v9_8) (l:=(t9_3 : List (Int))))))) (by rintro v10_7 _ ⟨S10_7,hl_v10_7,rfl⟩; exact upd rfl [2,3] rfl rfl) ?_ ?_
        ·rintro v10_7 _ ⟨S10_7,hl_v10_7,rfl⟩
         refine T.nil ?_
         refine F.qn rfl (r_build (pl:=[(0,1),(1,1)]) (qs:=[(0,[v10_7]),(1,[v14_7])]) (cs:=[v10_7,v14_7]) (by kernel_rfl) ti88 rfl (.cons (sl_cells hl_v10_7) rfl (Nat.le_of_ble_eq_true rfl) (.cons (sl_cells hl_v14_7) rfl (Nat.le_of_ble_eq_true rfl) .nil)) rfl rfl) ?_
         refine F.ef0 rfl rfl (wanted_none rfl) (d_storeG0 (i:=2) (cs2:=[v10_7,v14_7]) ti88 rfl rfl rfl rfl rfl (Nat.le_of_ble_eq_true rfl) (lf_cons (sl_leaf hl_v10_7) (lf_cons (sl_leaf hl_v14_7) lf_nil))) ?_
         rintro _ _ ⟨rfl,rfl⟩
         refine F.qn rfl (r_assign rfl) (F.nil ?_)
         cases hE_1
         refine Nrm.only [2,3] rfl ?_
         refine Nrm.pick [2,0,1] rfl rfl ?_
         exact hj_1 _ _ ⟨v10_7,S10_7,v14_7,S14_7,hl_v10_7,hl_v14_7,rfl,rfl⟩
        exact T.stop
       exact T.stop
      exact T.stop
    exact T.stop


def spec_AloneWorlds.f (k : Nat) (a0_0 : Int) (a0_1 : List (Int × Int × Int)) (a0_2 : List Int) : Option ((List (Int × List (Int × Int × Int) × List Int)) × (List (List Int)) × Bool) := (spec_l2Maze.f k a0_0 a0_1 a0_2).bind fun t5 => (if (!t5) = true then some ([], [], false) else ((spec_l2Own.f k a0_0 a0_1 a0_2).bind fun (t9_1, t9_2, t9_3) => if 0 ≤ a0_0 ∧ a0_0 < 1099511627776 then some (true, ([(t9_1, t9_2, t9_3)] : List (Int × List (Int × Int × Int) × List Int)), ([List.replicate (a0_0).toNat (0 : Int)] : List (List Int))) else none).bind fun (y3, yb2_1_0, yb2_1_1) => some (yb2_1_0, yb2_1_1, y3))

theorem spec_AloneWorlds.ok {k : Nat}  {a0_0 : Int} {a0_1 : List (Int × Int × Int)} {a0_2 : List Int} {r0 : List (Int × List (Int × Int × Int) × List Int)} {r1 : List (List Int)} {r2 : Bool} (h : spec_AloneWorlds.f k a0_0 a0_1 a0_2 = some (r0, r1, r2)) (w : World) {va0_1 : Value} {va0_2 : Value} (hr_a0_1 : Rd w va0_1 a0_1) (hr_a0_2 : Rd w va0_2 a0_2) :
  Calls Tryz.prog 76 ([.agg ([.int .i64 a0_0,va0_1,va0_2].toArray)] : List Value).toArray w (Post (fun u ns=>∃ (ur0 : Value) (Sr0 : Nat → Prop) (ur1 : Value) (Sr1 : Nat → Prop),u = .tuple #[.agg [ur0,ur1].toArray,.bool r2]∧SlLen ur0 r0.length∧SlLen ur1 r1.length∧ns = [R.sl Sr0 ur0 r0,R.sl Sr1 ur1 r1]) w):=by
 unfold spec_AloneWorlds.f at h
 have hl_va0_1:=hr_a0_1.len
 have hl_va0_2:=hr_a0_2.len
 refine Calls.of_tri (N:=16) Tryz.func76 rfl rfl rfl (Sep.nil (M:=noM)) ?_
 refine Tri.seq (Tri.reg (l:=[0,1,2]) rfl ?_)
 refine F.mn rfl (m_boxG rfl rfl) ?_
 rintro _ _ ⟨b1_1,rfl,rfl⟩
 refine F.mn rfl (m_alloc ti88) ?_
 rintro _ _ ⟨b2_1,rfl,rfl⟩
 refine F.qn rfl (r_assign rfl) (F.nil (Nrm.seq (Tri.seq (Tri.seq ?_))))
 obtain ⟨t5,h5,h⟩:=bind_some h
 refine Tri.reg (l:=[0,1,2]) rfl ?_
 refine F.qn rfl (r_loadA ta27 ti27 rfl rfl (fun w hw=>(box_cells (i:=1) rfl w hw))) ?_
 refine F.qcn rfl (q_callF (xs:=_) rfl ok108 rfl rfl (fun w hw=>spec_l2Maze.ok h5 w ((fun _ hw=>hr_a0_1.sep hw) w hw) ((fun _ hw=>hr_a0_2.sep hw) w hw))) ?_
 refine F.qn rfl (r_not rfl) (F.nil (Nrm.seq (Tri.cond (b:=!t5) rfl (fun g_1=>?_) (fun g_1=>?_))))
 ·replace h:=if_tt g_1 h
  refine Tri.seq (Tri.reg (l:=[0,1,2]) rfl ?_)
  refine F.qn rfl (r_build (pl:=[(0,1),(1,1)]) (qs:=[]) (cs:=[.slice none 0 0,.slice none 0 0]) (by kernel_rfl) ti88 rfl .nil rfl rfl) ?_
  refine F.ef0 rfl rfl (wanted_none rfl) (d_storeG0 (i:=0) (cs2:=[.slice none 0 0,.slice none 0 0]) ti88 rfl rfl rfl rfl rfl (Nat.le_of_ble_eq_true rfl) (lf_cons rfl (lf_cons rfl lf_nil))) ?_
  rintro _ _ ⟨rfl,rfl⟩
  refine F.qn rfl (r_assign rfl) (F.nil (Nrm.seq (Tri.ret ?_)))
  refine Rtn.then ?_
  cases h
  exact Rtn.body (.cell rfl ta88 ti88 rfl (fun _ hw=>box_cells (i:=0) rfl _ hw) (.tmp rfl .nil)) (fun w hw=>⟨_,_,rfl,⟨.slice none 0 0,fun _=>False,.slice none 0 0,fun _=>False,rfl,len_nil,len_nil,rfl⟩,Sep.pick (is:=[0,1]) rfl rfl hw.pushNil.pushNil⟩)
 ·replace h:=if_ff g_1 h
  refine Tri.skip (Nrm.seq (Tri.seq ?_))
  obtain ⟨⟨y3,yb2_1_0,yb2_1_1⟩,hE_1,h⟩:=bind_some h
  refine Tri.cut (fun e' C'=>∃ (vb2_1_0_1 : Value) (Sb2_1_0_1 : Nat → Prop) (vb2_1_1_1 : Value) (Sb2_1_1_1 : Nat → Prop),SlLen vb2_1_0_1 (yb2_1_0).length∧SlLen vb2_1_1_1 (yb2_1_1).length∧e' = [(2,.pointer (some ⟨b2_1,0,none⟩)),(3,.bool y3)]∧C' = Sep w noM [R.box b2_1 88 [vb2_1_0_1,vb2_1_1_1],R.sl Sb2_1_0_1 vb2_1_0_1 (yb2_1_0 : List (Int × List (Int × Int × Int) × List Int)),R.sl Sb2_1_1_1 vb2_1_1_1 (yb2_1_1 : List (List Int))]) ?_ (fun hj_1=>?_)
  ·rintro _ _ ⟨vb2_1_0_1,Sb2_1_0_1,vb2_1_1_1,Sb2_1_1_1,hl_vb2_1_0_1,hl_vb2_1_1_1,rfl,rfl⟩
   refine Nrm.seq (Tri.ret ?_)
   cases h
   exact Rtn.body (.cell rfl ta88 ti88 rfl (fun _ hw=>box_cells (i:=0) rfl _ hw) (.tmp rfl .nil)) (fun w hw=>⟨_,_,rfl,⟨vb2_1_0_1,Sb2_1_0_1,vb2_1_1_1,Sb2_1_1_1,rfl,hl_vb2_1_0_1,hl_vb2_1_1_1,rfl⟩,Sep.pick (is:=[1,2]) rfl rfl hw⟩)
  ·obtain ⟨⟨t9_1,t9_2,t9_3⟩,h9,hE_1⟩:=bind_some hE_1
   obtain ⟨hm13,hE_1⟩:=ck hE_1
   refine Tri.drawT mixedT Sep.up [0,3,4,1,2,5,6] [7,8,9] (.q 0 (.q 3 (.q 4 (.alt 1 (.alt 2 (.alt 5 (.alt 6 .nil .stop) .stop) (.alt 5 (.alt 2 (.alt 6 .nil .stop) (.alt 6 (.alt 2 .nil .stop) .stop)) .stop)) (.alt 5 (.alt 1 (.alt 2 (.alt 6 .nil .stop) (.alt 6 (.alt 2 .nil .stop) .stop)) (.alt 6 (.alt 1 (.alt 2 .nil .stop) .stop) .stop)) .stop))))) (by kernel_rfl) ?_
   refine T.q rfl rfl rfl (wanted_none rfl) (r_loadA ta27 ti27 rfl rfl (fun w hw=>(box_cells (i:=1) rfl w hw))) ?_
   refine T.q rfl rfl rfl (wanted_none rfl) (r_fieldAddr tf27_0 rfl) ?_
   refine T.q rfl rfl rfl (wanted_none rfl) (r_load ta3 rfl (fun w hw=>cell_1 (box_cells (i:=1) rfl w hw) rfl)) ?_
   refine T.ef rfl rfl rfl (wanted_none rfl) (Makes.does (m_callF (xs:=_) rfl ok141 rfl rfl (fun w hw=>spec_l2Own.ok h9 w ((fun _ hw=>hr_a0_1.sep hw) w hw) ((fun _ hw=>hr_a0_2.sep hw) w hw)))) (by rintro _ _ ⟨_,⟨v9_3,S9_3,v9_4,S9_4,rfl,hl_v9_3,hl_v9_4,rfl⟩,rfl⟩; exact upd rfl [2,3] rfl rfl) ?_ ?_
   ·rintro _ _ ⟨_,⟨v9_3,S9_3,v9_4,S9_4,rfl,hl_v9_3,hl_v9_4,rfl⟩,rfl⟩
    refine T.ef rfl rfl rfl (wanted_none rfl) (d_build1 (cells:=[.int .i64 t9_1,v9_3,v9_4]) (x0:=((t9_1,t9_2,t9_3) : Int × List (Int × Int × Int) × List Int)) (cs:=[R.sl S9_3 v9_3 (t9_2 : List (Int × Int × Int)),R.sl S9_4 v9_4 (t9_3 : List (Int))]) (rest:=[R.box b2_1 88 [.slice none 0 0,.slice none 0 0],R.box b1_1 27 [.int .i64 a0_0,va0_1,va0_2]]) [0,1] [2,3] Tryz.underlying85 ti27 rfl rfl rfl (lf_cons rfl (lf_cons (sl_leaf hl_v9_3) (lf_cons (sl_leaf hl_v9_4) lf_nil))) rfl rfl (jn_pair (jn_int (n:=t9_1)) (jn_pair (jn_sl (S:=S9_3) (v:=v9_3) (l:=(t9_2 : List (Int × Int × Int)))) (jn_sl (S:=S9_4) (v:=v9_4) (l:=(t9_3 : List (Int))))))) (by rintro v10_2 _ ⟨S10_2,hl_v10_2,rfl⟩; exact upd rfl [1,2] rfl rfl) ?_ ?_
    ·rintro v10_2 _ ⟨S10_2,hl_v10_2,rfl⟩
     refine T.ef rfl rfl rfl (wanted_none rfl) (Makes.does (m_make (x0:=(0 : Int)) Tryz.underlying25 ti3 rfl rfl rfl hm13.1 hm13.2 (by decide))) (by rintro v13_2 _ ⟨S13_2,hl_v13_2,rfl⟩; exact upd rfl [2,3] rfl rfl) ?_ ?_
     ·rintro v13_2 _ ⟨S13_2,hl_v13_2,rfl⟩
      refine T.ef rfl rfl rfl (wanted_none rfl) (d_build1 (cells:=[v13_2]) (x0:=(List.replicate (a0_0).toNat (0 : Int) : List Int)) (cs:=[R.sl S13_2 v13_2 (List.replicate (a0_0).toNat (0 : Int) : List (Int))]) (rest:=[R.sl S10_2 v10_2 (([(t9_1,t9_2,t9_3)] : List (Int × List (Int × Int × Int) × List Int)) : List (Int × List (Int × Int × Int) × List Int)),R.box b2_1 88 [.slice none 0 0,.slice none 0 0],R.box b1_1 27 [.int .i64 a0_0,va0_1,va0_2]]) [0] [1,2,3] Tryz.underlying86 ti25 rfl (sl_cells hl_v13_2) rfl (lf_cons (sl_leaf hl_v13_2) lf_nil) rfl rfl (jn_sl (S:=S13_2) (v:=v13_2) (l:=(List.replicate (a0_0).toNat (0 : Int) : List (Int))))) (by rintro v14_2 _ ⟨S14_2,hl_v14_2,rfl⟩; exact upd rfl [2,3] rfl rfl) ?_ ?_
      ·rintro v14_2 _ ⟨S14_2,hl_v14_2,rfl⟩
       refine T.nil ?_
       refine F.qn rfl (r_build (pl:=[(0,1),(1,1)]) (qs:=[(0,[v10_2]),(1,[v14_2])]) (cs:=[v10_2,v14_2]) (by kernel_rfl) ti88 rfl (.cons (sl_cells hl_v10_2) rfl (Nat.le_of_ble_eq_true rfl) (.cons (sl_cells hl_v14_2) rfl (Nat.le_of_ble_eq_true rfl) .nil)) rfl rfl) ?_
       refine F.ef0 rfl rfl (wanted_none rfl) (d_storeG0 (i:=2) (cs2:=[v10_2,v14_2]) ti88 rfl rfl rfl rfl rfl (Nat.le_of_ble_eq_true rfl) (lf_cons (sl_leaf hl_v10_2) (lf_cons (sl_leaf hl_v14_2) lf_nil))) ?_
       rintro _ _ ⟨rfl,rfl⟩
       refine F.qn rfl (r_assign rfl) (F.nil ?_)
       cases hE_1
       refine Nrm.only [2,3] rfl ?_
       refine Nrm.pick [2,1,0] rfl rfl ?_
       exact hj_1 _ _ ⟨v10_2,S10_2,v14_2,S14_2,hl_v10_2,hl_v14_2,rfl,rfl⟩
      exact T.stop
     exact T.stop
    ·refine T.ef rfl rfl rfl (wanted_none rfl) (Makes.does (m_make (x0:=(0 : Int)) Tryz.underlying25 ti3 rfl rfl rfl hm13.1 hm13.2 (by decide))) (by rintro v13_3 _ ⟨S13_3,hl_v13_3,rfl⟩; exact upd rfl [3,4] rfl rfl) ?_ ?_
     ·rintro v13_3 _ ⟨S13_3,hl_v13_3,rfl⟩
      refine T.ef rfl rfl rfl (wanted_none rfl) (d_build1 (cells:=[.int .i64 t9_1,v9_3,v9_4]) (x0:=((t9_1,t9_2,t9_3) : Int × List (Int × Int × Int) × List Int)) (cs:=[R.sl S9_3 v9_3 (t9_2 : List (Int × Int × Int)),R.sl S9_4 v9_4 (t9_3 : List (Int))]) (rest:=[R.sl S13_3 v13_3 (List.replicate (a0_0).toNat (0 : Int) : List (Int)),R.box b2_1 88 [.slice none 0 0,.slice none 0 0],R.box b1_1 27 [.int .i64 a0_0,va0_1,va0_2]]) [1,2] [0,3,4] Tryz.underlying85 ti27 rfl rfl rfl (lf_cons rfl (lf_cons (sl_leaf hl_v9_3) (lf_cons (sl_leaf hl_v9_4) lf_nil))) rfl rfl (jn_pair (jn_int (n:=t9_1)) (jn_pair (jn_sl (S:=S9_3) (v:=v9_3) (l:=(t9_2 : List (Int × Int × Int)))) (jn_sl (S:=S9_4) (v:=v9_4) (l:=(t9_3 : List (Int))))))) (by rintro v10_3 _ ⟨S10_3,hl_v10_3,rfl⟩; exact upd rfl [2,3] rfl rfl) ?_ ?_
      ·rintro v10_3 _ ⟨S10_3,hl_v10_3,rfl⟩
       refine T.ef rfl rfl rfl (wanted_none rfl) (d_build1 (cells:=[v13_3]) (x0:=(List.replicate (a0_0).toNat (0 : Int) : List Int)) (cs:=[R.sl S13_3 v13_3 (List.replicate (a0_0).toNat (0 : Int) : List (Int))]) (rest:=[R.sl S10_3 v10_3 (([(t9_1,t9_2,t9_3)] : List (Int × List (Int × Int × Int) × List Int)) : List (Int × List (Int × Int × Int) × List Int)),R.box b2_1 88 [.slice none 0 0,.slice none 0 0],R.box b1_1 27 [.int .i64 a0_0,va0_1,va0_2]]) [1] [0,2,3] Tryz.underlying86 ti25 rfl (sl_cells hl_v13_3) rfl (lf_cons (sl_leaf hl_v13_3) lf_nil) rfl rfl (jn_sl (S:=S13_3) (v:=v13_3) (l:=(List.replicate (a0_0).toNat (0 : Int) : List (Int))))) (by rintro v14_3 _ ⟨S14_3,hl_v14_3,rfl⟩; exact upd rfl [2,3] rfl rfl) ?_ ?_
       ·rintro v14_3 _ ⟨S14_3,hl_v14_3,rfl⟩
        refine T.nil ?_
        refine F.qn rfl (r_build (pl:=[(0,1),(1,1)]) (qs:=[(0,[v10_3]),(1,[v14_3])]) (cs:=[v10_3,v14_3]) (by kernel_rfl) ti88 rfl (.cons (sl_cells hl_v10_3) rfl (Nat.le_of_ble_eq_true rfl) (.cons (sl_cells hl_v14_3) rfl (Nat.le_of_ble_eq_true rfl) .nil)) rfl rfl) ?_
        refine F.ef0 rfl rfl (wanted_none rfl) (d_storeG0 (i:=2) (cs2:=[v10_3,v14_3]) ti88 rfl rfl rfl rfl rfl (Nat.le_of_ble_eq_true rfl) (lf_cons (sl_leaf hl_v10_3) (lf_cons (sl_leaf hl_v14_3) lf_nil))) ?_
        rintro _ _ ⟨rfl,rfl⟩
        refine F.qn rfl (r_assign rfl) (F.nil ?_)
        cases hE_1
        refine Nrm.only [2,3] rfl ?_
        refine Nrm.pick [2,1,0] rfl rfl ?_
        exact hj_1 _ _ ⟨v10_3,S10_3,v14_3,S14_3,hl_v10_3,hl_v14_3,rfl,rfl⟩
       exact T.stop
      ·refine T.ef rfl rfl rfl (wanted_none rfl) (d_build1 (cells:=[v13_3]) (x0:=(List.replicate (a0_0).toNat (0 : Int) : List Int)) (cs:=[R.sl S13_3 v13_3 (List.replicate (a0_0).toNat (0 : Int) : List (Int))]) (rest:=[R.sl S9_3 v9_3 (t9_2 : List (Int × Int × Int)),R.sl S9_4 v9_4 (t9_3 : List (Int)),R.box b2_1 88 [.slice none 0 0,.slice none 0 0],R.box b1_1 27 [.int .i64 a0_0,va0_1,va0_2]]) [0] [1,2,3,4] Tryz.underlying86 ti25 rfl (sl_cells hl_v13_3) rfl (lf_cons (sl_leaf hl_v13_3) lf_nil) rfl rfl (jn_sl (S:=S13_3) (v:=v13_3) (l:=(List.replicate (a0_0).toNat (0 : Int) : List (Int))))) (by rintro v14_4 _ ⟨S14_4,hl_v14_4,rfl⟩; exact upd rfl [3,4] rfl rfl) ?_ ?_
       ·rintro v14_4 _ ⟨S14_4,hl_v14_4,rfl⟩
        refine T.ef rfl rfl rfl (wanted_none rfl) (d_build1 (cells:=[.int .i64 t9_1,v9_3,v9_4]) (x0:=((t9_1,t9_2,t9_3) : Int × List (Int × Int × Int) × List Int)) (cs:=[R.sl S9_3 v9_3 (t9_2 : List (Int × Int × Int)),R.sl S9_4 v9_4 (t9_3 : List (Int))]) (rest:=[R.sl S14_4 v14_4 (([List.replicate (a0_0).toNat (0 : Int)] : List (List Int)) : List (List Int)),R.box b2_1 88 [.slice none 0 0,.slice none 0 0],R.box b1_1 27 [.int .i64 a0_0,va0_1,va0_2]]) [1,2] [0,3,4] Tryz.underlying85 ti27 rfl rfl rfl (lf_cons rfl (lf_cons (sl_leaf hl_v9_3) (lf_cons (sl_leaf hl_v9_4) lf_nil))) rfl rfl (jn_pair (jn_int (n:=t9_1)) (jn_pair (jn_sl (S:=S9_3) (v:=v9_3) (l:=(t9_2 : List (Int × Int × Int)))) (jn_sl (S:=S9_4) (v:=v9_4) (l:=(t9_3 : List (Int))))))) (by rintro v10_4 _ ⟨S10_4,hl_v10_4,rfl⟩; exact upd rfl [2,3] rfl rfl) ?_ ?_
        ·rintro v10_4 _ ⟨S10_4,hl_v10_4,rfl⟩
         refine T.nil ?_
         refine F.qn rfl (r_build (pl:=[(0,1),(1,1)]) (qs:=[(0,[v10_4]),(1,[v14_4])]) (cs:=[v10_4,v14_4]) (by kernel_rfl) ti88 rfl (.cons (sl_cells hl_v10_4) rfl (Nat.le_of_ble_eq_true rfl) (.cons (sl_cells hl_v14_4) rfl (Nat.le_of_ble_eq_true rfl) .nil)) rfl rfl) ?_
         refine F.ef0 rfl rfl (wanted_none rfl) (d_storeG0 (i:=2) (cs2:=[v10_4,v14_4]) ti88 rfl rfl rfl rfl rfl (Nat.le_of_ble_eq_true rfl) (lf_cons (sl_leaf hl_v10_4) (lf_cons (sl_leaf hl_v14_4) lf_nil))) ?_
         rintro _ _ ⟨rfl,rfl⟩
         refine F.qn rfl (r_assign rfl) (F.nil ?_)
         cases hE_1
         refine Nrm.only [2,3] rfl ?_
         refine Nrm.pick [2,0,1] rfl rfl ?_
         exact hj_1 _ _ ⟨v10_4,S10_4,v14_4,S14_4,hl_v10_4,hl_v14_4,rfl,rfl⟩
        exact T.stop
       exact T.stop
     exact T.stop
   ·refine T.ef rfl rfl rfl (wanted_none rfl) (Makes.does (m_make (x0:=(0 : Int)) Tryz.underlying25 ti3 rfl rfl rfl hm13.1 hm13.2 (by decide))) (by rintro v13_4 _ ⟨S13_4,hl_v13_4,rfl⟩; exact upd rfl [1,2] rfl rfl) ?_ ?_
    ·rintro v13_4 _ ⟨S13_4,hl_v13_4,rfl⟩
     refine T.ef rfl rfl rfl (wanted_none rfl) (Makes.does (m_callF (xs:=_) rfl ok141 rfl rfl (fun w hw=>spec_l2Own.ok h9 w ((fun _ hw=>hr_a0_1.sep hw) w hw) ((fun _ hw=>hr_a0_2.sep hw) w hw)))) (by rintro _ _ ⟨_,⟨v9_5,S9_5,v9_6,S9_6,rfl,hl_v9_5,hl_v9_6,rfl⟩,rfl⟩; exact upd rfl [3,4] rfl rfl) ?_ ?_
     ·rintro _ _ ⟨_,⟨v9_5,S9_5,v9_6,S9_6,rfl,hl_v9_5,hl_v9_6,rfl⟩,rfl⟩
      refine T.ef rfl rfl rfl (wanted_none rfl) (d_build1 (cells:=[.int .i64 t9_1,v9_5,v9_6]) (x0:=((t9_1,t9_2,t9_3) : Int × List (Int × Int × Int) × List Int)) (cs:=[R.sl S9_5 v9_5 (t9_2 : List (Int × Int × Int)),R.sl S9_6 v9_6 (t9_3 : List (Int))]) (rest:=[R.sl S13_4 v13_4 (List.replicate (a0_0).toNat (0 : Int) : List (Int)),R.box b2_1 88 [.slice none 0 0,.slice none 0 0],R.box b1_1 27 [.int .i64 a0_0,va0_1,va0_2]]) [0,1] [2,3,4] Tryz.underlying85 ti27 rfl rfl rfl (lf_cons rfl (lf_cons (sl_leaf hl_v9_5) (lf_cons (sl_leaf hl_v9_6) lf_nil))) rfl rfl (jn_pair (jn_int (n:=t9_1)) (jn_pair (jn_sl (S:=S9_5) (v:=v9_5) (l:=(t9_2 : List (Int × Int × Int)))) (jn_sl (S:=S9_6) (v:=v9_6) (l:=(t9_3 : List (Int))))))) (by rintro v10_5 _ ⟨S10_5,hl_v10_5,rfl⟩; exact upd rfl [2,3] rfl rfl) ?_ ?_
      ·rintro v10_5 _ ⟨S10_5,hl_v10_5,rfl⟩
       refine T.ef rfl rfl rfl (wanted_none rfl) (d_build1 (cells:=[v13_4]) (x0:=(List.replicate (a0_0).toNat (0 : Int) : List Int)) (cs:=[R.sl S13_4 v13_4 (List.replicate (a0_0).toNat (0 : Int) : List (Int))]) (rest:=[R.sl S10_5 v10_5 (([(t9_1,t9_2,t9_3)] : List (Int × List (Int × Int × Int) × List Int)) : List (Int × List (Int × Int × Int) × List Int)),R.box b2_1 88 [.slice none 0 0,.slice none 0 0],R.box b1_1 27 [.int .i64 a0_0,va0_1,va0_2]]) [1] [0,2,3] Tryz.underlying86 ti25 rfl (sl_cells hl_v13_4) rfl (lf_cons (sl_leaf hl_v13_4) lf_nil) rfl rfl (jn_sl (S:=S13_4) (v:=v13_4) (l:=(List.replicate (a0_0).toNat (0 : Int) : List (Int))))) (by rintro v14_5 _ ⟨S14_5,hl_v14_5,rfl⟩; exact upd rfl [2,3] rfl rfl) ?_ ?_
       ·rintro v14_5 _ ⟨S14_5,hl_v14_5,rfl⟩
        refine T.nil ?_
        refine F.qn rfl (r_build (pl:=[(0,1),(1,1)]) (qs:=[(0,[v10_5]),(1,[v14_5])]) (cs:=[v10_5,v14_5]) (by kernel_rfl) ti88 rfl (.cons (sl_cells hl_v10_5) rfl (Nat.le_of_ble_eq_true rfl) (.cons (sl_cells hl_v14_5) rfl (Nat.le_of_ble_eq_true rfl) .nil)) rfl rfl) ?_
        refine F.ef0 rfl rfl (wanted_none rfl) (d_storeG0 (i:=2) (cs2:=[v10_5,v14_5]) ti88 rfl rfl rfl rfl rfl (Nat.le_of_ble_eq_true rfl) (lf_cons (sl_leaf hl_v10_5) (lf_cons (sl_leaf hl_v14_5) lf_nil))) ?_
        rintro _ _ ⟨rfl,rfl⟩
        refine F.qn rfl (r_assign rfl) (F.nil ?_)
        cases hE_1
        refine Nrm.only [2,3] rfl ?_
        refine Nrm.pick [2,1,0] rfl rfl ?_
        exact hj_1 _ _ ⟨v10_5,S10_5,v14_5,S14_5,hl_v10_5,hl_v14_5,rfl,rfl⟩
       exact T.stop
      ·refine T.ef rfl rfl rfl (wanted_none rfl) (d_build1 (cells:=[v13_4]) (x0:=(List.replicate (a0_0).toNat (0 : Int) : List Int)) (cs:=[R.sl S13_4 v13_4 (List.replicate (a0_0).toNat (0 : Int) : List (Int))]) (rest:=[R.sl S9_5 v9_5 (t9_2 : List (Int × Int × Int)),R.sl S9_6 v9_6 (t9_3 : List (Int)),R.box b2_1 88 [.slice none 0 0,.slice none 0 0],R.box b1_1 27 [.int .i64 a0_0,va0_1,va0_2]]) [2] [0,1,3,4] Tryz.underlying86 ti25 rfl (sl_cells hl_v13_4) rfl (lf_cons (sl_leaf hl_v13_4) lf_nil) rfl rfl (jn_sl (S:=S13_4) (v:=v13_4) (l:=(List.replicate (a0_0).toNat (0 : Int) : List (Int))))) (by rintro v14_6 _ ⟨S14_6,hl_v14_6,rfl⟩; exact upd rfl [3,4] rfl rfl) ?_ ?_
       ·rintro v14_6 _ ⟨S14_6,hl_v14_6,rfl⟩
        refine T.ef rfl rfl rfl (wanted_none rfl) (d_build1 (cells:=[.int .i64 t9_1,v9_5,v9_6]) (x0:=((t9_1,t9_2,t9_3) : Int × List (Int × Int × Int) × List Int)) (cs:=[R.sl S9_5 v9_5 (t9_2 : List (Int × Int × Int)),R.sl S9_6 v9_6 (t9_3 : List (Int))]) (rest:=[R.sl S14_6 v14_6 (([List.replicate (a0_0).toNat (0 : Int)] : List (List Int)) : List (List Int)),R.box b2_1 88 [.slice none 0 0,.slice none 0 0],R.box b1_1 27 [.int .i64 a0_0,va0_1,va0_2]]) [1,2] [0,3,4] Tryz.underlying85 ti27 rfl rfl rfl (lf_cons rfl (lf_cons (sl_leaf hl_v9_5) (lf_cons (sl_leaf hl_v9_6) lf_nil))) rfl rfl (jn_pair (jn_int (n:=t9_1)) (jn_pair (jn_sl (S:=S9_5) (v:=v9_5) (l:=(t9_2 : List (Int × Int × Int)))) (jn_sl (S:=S9_6) (v:=v9_6) (l:=(t9_3 : List (Int))))))) (by rintro v10_6 _ ⟨S10_6,hl_v10_6,rfl⟩; exact upd rfl [2,3] rfl rfl) ?_ ?_
        ·rintro v10_6 _ ⟨S10_6,hl_v10_6,rfl⟩
         refine T.nil ?_
         refine F.qn rfl (r_build (pl:=[(0,1),(1,1)]) (qs:=[(0,[v10_6]),(1,[v14_6])]) (cs:=[v10_6,v14_6]) (by kernel_rfl) ti88 rfl (.cons (sl_cells hl_v10_6) rfl (Nat.le_of_ble_eq_true rfl) (.cons (sl_cells hl_v14_6) rfl (Nat.le_of_ble_eq_true rfl) .nil)) rfl rfl) ?_
         refine F.ef0 rfl rfl (wanted_none rfl) (d_storeG0 (i:=2) (cs2:=[v10_6,v14_6]) ti88 rfl rfl rfl rfl rfl (Nat.le_of_ble_eq_true rfl) (lf_cons (sl_leaf hl_v10_6) (lf_cons (sl_leaf hl_v14_6) lf_nil))) ?_
         rintro _ _ ⟨rfl,rfl⟩
         refine F.qn rfl (r_assign rfl) (F.nil ?_)
         cases hE_1
         refine Nrm.only [2,3] rfl ?_
         refine Nrm.pick [2,0,1] rfl rfl ?_
         exact hj_1 _ _ ⟨v10_6,S10_6,v14_6,S14_6,hl_v10_6,hl_v14_6,rfl,rfl⟩
        exact T.stop
       exact T.stop
     ·refine T.ef rfl rfl rfl (wanted_none rfl) (d_build1 (cells:=[v13_4]) (x0:=(List.replicate (a0_0).toNat (0 : Int) : List Int)) (cs:=[R.sl S13_4 v13_4 (List.replicate (a0_0).toNat (0 : Int) : List (Int))]) (rest:=[R.box b2_1 88 [.slice none 0 0,.slice none 0 0],R.box b1_1 27 [.int .i64 a0_0,va0_1,va0_2]]) [0] [1,2] Tryz.underlying86 ti25 rfl (sl_cells hl_v13_4) rfl (lf_cons (sl_leaf hl_v13_4) lf_nil) rfl rfl (jn_sl (S:=S13_4) (v:=v13_4) (l:=(List.replicate (a0_0).toNat (0 : Int) : List (Int))))) (by rintro v14_7 _ ⟨S14_7,hl_v14_7,rfl⟩; exact upd rfl [1,2] rfl rfl) ?_ ?_
      ·rintro v14_7 _ ⟨S14_7,hl_v14_7,rfl⟩
       refine T.ef rfl rfl rfl (wanted_none rfl) (Makes.does (m_callF (xs:=_) rfl ok141 rfl rfl (fun w hw=>spec_l2Own.ok h9 w ((fun _ hw=>hr_a0_1.sep hw) w hw) ((fun _ hw=>hr_a0_2.sep hw) w hw)))) (by rintro _ _ ⟨_,⟨v9_7,S9_7,v9_8,S9_8,rfl,hl_v9_7,hl_v9_8,rfl⟩,rfl⟩; exact upd rfl [3,4] rfl rfl) ?_ ?_
       ·rintro _ _ ⟨_,⟨v9_7,S9_7,v9_8,S9_8,rfl,hl_v9_7,hl_v9_8,rfl⟩,rfl⟩
        refine T.ef rfl rfl rfl (wanted_none rfl) (d_build1 (cells:=[.int .i64 t9_1,v9_7,v9_8]) (x0:=((t9_1,t9_2,t9_3) : Int × List (Int × Int × Int) × List Int)) (cs:=[R.sl S9_7 v9_7 (t9_2 : List (Int × Int × Int)),R.sl S9_8 v9_8 (t9_3 : List (Int))]) (rest:=[R.sl S14_7 v14_7 (([List.replicate (a0_0).toNat (0 : Int)] : List (List Int)) : List (List Int)),R.box b2_1 88 [.slice none 0 0,.slice none 0 0],R.box b1_1 27 [.int .i64 a0_0,va0_1,va0_2]]) [0,1] [2,3,4] Tryz.underlying85 ti27 rfl rfl rfl (lf_cons rfl (lf_cons (sl_leaf hl_v9_7) (lf_cons (sl_leaf hl_v9_8) lf_nil))) rfl rfl (jn_pair (jn_int (n:=t9_1)) (jn_pair (jn_sl (S:=S9_7) (v:=v9_7) (l:=(t9_2 : List (Int × Int × Int)))) (jn_sl (S:=S9_8) (v:=v9_8) (l:=(t9_3 : List (Int))))))) (by rintro v10_7 _ ⟨S10_7,hl_v10_7,rfl⟩; exact upd rfl [2,3] rfl rfl) ?_ ?_
        ·rintro v10_7 _ ⟨S10_7,hl_v10_7,rfl⟩
         refine T.nil ?_
         refine F.qn rfl (r_build (pl:=[(0,1),(1,1)]) (qs:=[(0,[v10_7]),(1,[v14_7])]) (cs:=[v10_7,v14_7]) (by kernel_rfl) ti88 rfl (.cons (sl_cells hl_v10_7) rfl (Nat.le_of_ble_eq_true rfl) (.cons (sl_cells hl_v14_7) rfl (Nat.le_of_ble_eq_true rfl) .nil)) rfl rfl) ?_
         refine F.ef0 rfl rfl (wanted_none rfl) (d_storeG0 (i:=2) (cs2:=[v10_7,v14_7]) ti88 rfl rfl rfl rfl rfl (Nat.le_of_ble_eq_true rfl) (lf_cons (sl_leaf hl_v10_7) (lf_cons (sl_leaf hl_v14_7) lf_nil))) ?_
         rintro _ _ ⟨rfl,rfl⟩
         refine F.qn rfl (r_assign rfl) (F.nil ?_)
         cases hE_1
         refine Nrm.only [2,3] rfl ?_
         refine Nrm.pick [2,0,1] rfl rfl ?_
         exact hj_1 _ _ ⟨v10_7,S10_7,v14_7,S14_7,hl_v10_7,hl_v14_7,rfl,rfl⟩
        exact T.stop
       exact T.stop
      exact T.stop
    exact T.stop


def spec_l1Cur_world.f (k : Nat) (a0_0 : List By) (a0_1 : Int) (a0_2 : Int) (a1_0 : List (Int × List (Int × Int × Int) × List Int)) (a1_1 : List (List Int)) : Option (Int × Int × Int) := (spec_l1Cur_one.f k a0_0 a0_1 a0_2 20).bind fun (t6_1, t6_2, t6_3) => (if t6_1 = true then (spec_l1Cur_among.f k a0_0 t6_2 t6_3 ([(-1), (a1_0.length : Int), 4611686018427387904] : List (Int))).bind fun (t12_1, t12_2, t12_3) => some (t12_1, t12_2, t12_3) else (spec_l1Most.f k (a1_0.length : Int) 1).bind fun t17 => (spec_l1Cur_pick.f k a0_0 t6_2 t6_3 t17).bind fun (t18_1, t18_2, t18_3) => some (t18_1, t18_2, t18_3))

theorem spec_l1Cur_world.ok {k : Nat}  {a0_0 : List By} {a0_1 : Int} {a0_2 : Int} {a1_0 : List (Int × List (Int × Int × Int) × List Int)} {a1_1 : List (List Int)} {r0 : Int} {r1 : Int} {r2 : Int} (h : spec_l1Cur_world.f k a0_0 a0_1 a0_2 a1_0 a1_1 = some (r0, r1, r2)) (w : World) {pa0 : Nat} {va0_0 : Value} (hr_a0_0 : RdM w (footM [R.box pa0 114 [va0_0, .int .i64 a0_1, .int .u64 a0_2]]) va0_0 a0_0) {va1_0 : Value} (hr_a1_0 : RdM w (footM [R.box pa0 114 [va0_0, .int .i64 a0_1, .int .u64 a0_2]]) va1_0 a1_0) {va1_1 : Value} (hr_a1_1 : RdM w (footM [R.box pa0 114 [va0_0, .int .i64 a0_1, .int .u64 a0_2]]) va1_1 a1_1) (hw0 : Sep w (footM [R.box pa0 114 [va0_0, .int .i64 a0_1, .int .u64 a0_2]]) [R.box pa0 114 [va0_0, .int .i64 a0_1, .int .u64 a0_2]] w) :
  Calls Tryz.prog 163 ([.pointer (some ⟨pa0,0,none⟩),.agg ([va1_0,va1_1].toArray)] : List Value).toArray w (PostM (footM [R.box pa0 114 [va0_0,.int .i64 a0_1,.int .u64 a0_2]]) (fun u ns=>u = .int .i64 r0∧ns = [R.box pa0 114 [va0_0,.int .i64 r1,.int .u64 r2]]) w):=by
 unfold spec_l1Cur_world.f at h
 have hl_va0_0:=hr_a0_0.len
 have hl_va1_0:=hr_a1_0.len
 have hl_va1_1:=hr_a1_1.len
 refine Calls.of_tri (N:=19) Tryz.func163 rfl rfl rfl hw0 ?_
 refine Tri.seq (Tri.reg (l:=[0,1]) rfl ?_)
 refine F.mn rfl (m_boxG rfl rfl) ?_
 rintro _ _ ⟨b3_1,rfl,rfl⟩
 refine F.qn rfl (r_assign rfl) (F.nil (Nrm.seq (Tri.seq (Tri.seq ?_))))
 obtain ⟨⟨t6_1,t6_2,t6_3⟩,h6,h⟩:=bind_some h
 refine Tri.reg (l:=[0,1]) rfl ?_
 refine F.qn rfl (r_move rfl) ?_
 refine F.efn rfl (d_callM (xs:=_) (cs:=[R.box pa0 114 [va0_0,.int .i64 a0_1,.int .u64 a0_2]]) (rest:=[R.box b3_1 88 [va1_0,va1_1]]) [1] [0] rfl ok200 rfl rfl rfl rfl (fun w hw=>spec_l1Cur_one.ok h6 w (hr_a0_0.down hw) (Sep.sub hw))) ?_
 rintro _ _ ⟨_,⟨rfl,rfl⟩,rfl⟩
 refine F.nil (Nrm.seq (Tri.cond (b:=t6_1) rfl (fun g_1=>?_) (fun g_1=>?_)))
 ·replace h:=if_tt g_1 h
  refine Tri.seq ?_
  obtain ⟨⟨t12_1,t12_2,t12_3⟩,h12,h⟩:=bind_some h
  refine Tri.reg (l:=[0,1,2,3,4,5,6]) rfl ?_
  refine F.qn rfl (r_move rfl) (F.qn rfl (r_fieldAddr tf88_0 rfl) (F.qn rfl (r_load ta85 rfl (fun w hw=>cell_1 (box_cells (i:=1) rfl w hw) rfl)) (F.qn rfl (r_len Tryz.underlying85 rfl hl_va1_0) ?_)))
  refine F.mn rfl (m_buildF (l:=([(-1),(a1_0.length : Int),4611686018427387904] : List (Int))) Tryz.underlying25 ti3 rfl rfl rfl rfl rfl) ?_
  rintro v11_1 _ ⟨S11_1,hl_v11_1,rfl⟩
  refine F.efn rfl (d_callM (xs:=_) (cs:=[R.box pa0 114 [va0_0,.int .i64 t6_2,.int .u64 t6_3]]) (rest:=[R.sl S11_1 v11_1 (([(-1),(a1_0.length : Int),4611686018427387904] : List (Int)) : List (Int)),R.box b3_1 88 [va1_0,va1_1]]) [1] [0,2] rfl ok194 rfl rfl rfl rfl (fun w hw=>spec_l1Cur_among.ok h12 w (hr_a0_0.down hw) (rdm_sl (i:=0) rfl hw) (Sep.sub hw))) ?_
  rintro _ _ ⟨_,⟨rfl,rfl⟩,rfl⟩
  refine F.qn rfl (r_assign rfl) (F.nil (Nrm.seq (Tri.ret ?_)))
  refine Rtn.then ?_
  cases h
  exact Rtn.body (.tmp rfl .nil) (fun w hw=>⟨_,_,rfl,⟨rfl,rfl⟩,Sep.pick (is:=[0]) rfl rfl hw⟩)
 ·replace h:=if_ff g_1 h
  refine Tri.skip (Nrm.seq (Tri.seq ?_))
  obtain ⟨t17,h17,h⟩:=bind_some h
  obtain ⟨⟨t18_1,t18_2,t18_3⟩,h18,h⟩:=bind_some h
  refine Tri.reg (l:=[0,1,2,3,4,5,6]) rfl ?_
  refine F.qn rfl (r_move rfl) (F.qn rfl (r_fieldAddr tf88_0 rfl) (F.qn rfl (r_load ta85 rfl (fun w hw=>cell_1 (box_cells (i:=1) rfl w hw) rfl)) (F.qn rfl (r_len Tryz.underlying85 rfl hl_va1_0) ?_)))
  refine F.qcn rfl (q_callF (xs:=_) rfl ok198 rfl rfl (fun w hw=>spec_l1Most.ok h17 w)) ?_
  refine F.efn rfl (d_callM (xs:=_) (cs:=[R.box pa0 114 [va0_0,.int .i64 t6_2,.int .u64 t6_3]]) (rest:=[R.box b3_1 88 [va1_0,va1_1]]) [0] [1] rfl ok115 rfl rfl rfl rfl (fun w hw=>spec_l1Cur_pick.ok h18 w (hr_a0_0.down hw) (Sep.sub hw))) ?_
  rintro _ _ ⟨_,⟨rfl,rfl⟩,rfl⟩
  refine F.qn rfl (r_assign rfl) (F.nil (Nrm.seq (Tri.ret ?_)))
  cases h
  exact Rtn.body (.tmp rfl .nil) (fun w hw=>⟨_,_,rfl,⟨rfl,rfl⟩,Sep.pick (is:=[0]) rfl rfl hw⟩)


def spec_DrawGiveKeys.f (k : Nat) (a0 : List By) : Option ((List (Int × List (Int × Int × Int) × List Int)) × (List (List Int)) × Int × Int × Int) := (spec_l1Cur_worlds.f k a0 0 0).bind fun (t12_1, t12_2, t12_3, t12_4) => ((spec_l1Cur_world.f k a0 t12_3 t12_4 t12_1 t12_2).bind fun (t16_1, t16_2, t16_3) => (spec_l1Cur_pick.f k a0 t16_2 t16_3 7).bind fun (t18_1, t18_2, t18_3) => (spec_l1Cur_pick.f k a0 t18_2 t18_3 24).bind fun (t20_1, t20_2, t20_3) => (spec_l1Cur_world.f k a0 t20_2 t20_3 t12_1 t12_2).bind fun (t25_1, t25_2, t25_3) => some (t16_1, w64 (t18_1 - (quo t20_1 23)), t25_1)).bind fun (y3, y4, y5) => some (t12_1, t12_2, y3, y4, y5)

theorem spec_DrawGiveKeys.ok {k : Nat}  {a0 : List By} {r0 : List (Int × List (Int × Int × Int) × List Int)} {r1 : List (List Int)} {r2 : Int} {r3 : Int} {r4 : Int} (h : spec_DrawGiveKeys.f k a0 = some (r0, r1, r2, r3, r4)) (w : World) {va0 : Value} (hr_a0 : Rd w va0 a0) :
  Calls Tryz.prog 77 ([va0] : List Value).toArray w (Post (fun u ns=>∃ (ur0 : Value) (Sr0 : Nat → Prop) (ur1 : Value) (Sr1 : Nat → Prop),u = .tuple #[.agg [ur0,ur1].toArray,.int .i64 r2,.int .i64 r3,.int .i64 r4]∧SlLen ur0 r0.length∧SlLen ur1 r1.length∧ns = [R.sl Sr0 ur0 r0,R.sl Sr1 ur1 r1]) w):=by
 unfold spec_DrawGiveKeys.f at h
 have hl_va0:=hr_a0.len
 refine Calls.of_tri (N:=26) Tryz.func77 rfl rfl rfl (Sep.nil (M:=noM)) ?_
 refine Tri.seq (Tri.reg (l:=[0,1,2,3]) rfl ?_)
 refine F.mn rfl (m_alloc ti88) ?_
 rintro _ _ ⟨b2_1,rfl,rfl⟩
 iterate 3 refine F.qn rfl (r_assign rfl) ?_
 refine F.nil (Nrm.seq (Tri.seq (Tri.reg (l:=[0,1,2,3]) rfl ?_)))
 refine F.qn rfl (r_move rfl) (F.qn rfl (r_build (pl:=[(0,1),(1,1),(2,1)]) (qs:=[(0,[va0])]) (cs:=[va0,.int .i64 0,.int .u64 0]) (by kernel_rfl) ti114 rfl (.cons (sl_cells hl_va0) rfl (Nat.le_of_ble_eq_true rfl) .nil) rfl rfl) ?_)
 refine F.mn rfl (m_boxG rfl rfl) ?_
 rintro _ _ ⟨b10_1,rfl,rfl⟩
 refine F.qn rfl (r_assign rfl) (F.nil (Nrm.seq (Tri.seq ?_)))
 obtain ⟨⟨t12_1,t12_2,t12_3,t12_4⟩,h12,h⟩:=bind_some h
 refine Tri.reg (l:=[0,1,2,3]) rfl ?_
 refine F.qn rfl (r_move rfl) ?_
 refine F.efn rfl (d_callM (xs:=_) (cs:=[R.box b10_1 114 [va0,.int .i64 0,.int .u64 0]]) (rest:=[R.box b2_1 88 [.slice none 0 0,.slice none 0 0]]) [0] [1] rfl ok154 rfl rfl rfl rfl (fun w hw=>spec_l1Cur_worlds.ok h12 w (hr_a0.down hw) (Sep.sub hw))) ?_
 rintro _ _ ⟨_,⟨v12_1,S12_1,v12_2,S12_2,rfl,hl_v12_1,hl_v12_2,rfl⟩,rfl⟩
 refine F.mn rfl (m_alloc ti88) ?_
 rintro _ _ ⟨b7_1,rfl,rfl⟩
 refine F.ef0 rfl rfl (wanted_none rfl) (d_storeG0 (i:=0) (cs2:=[v12_1,v12_2]) ti88 rfl rfl rfl rfl rfl (Nat.le_of_ble_eq_true rfl) (lf_cons (sl_leaf hl_v12_1) (lf_cons (sl_leaf hl_v12_2) lf_nil))) ?_
 rintro _ _ ⟨rfl,rfl⟩
 refine F.nil (Nrm.seq (Tri.seq ?_))
 obtain ⟨⟨y3,y4,y5⟩,hE_1,h⟩:=bind_some h
 refine Tri.cut (fun e' C'=>e' = [(2,.pointer (some ⟨b2_1,0,none⟩)),(3,.int .i64 y3),(4,.int .i64 y4),(5,.int .i64 y5)]∧C' = Sep w noM [R.box b2_1 88 [v12_1,v12_2],R.sl S12_1 v12_1 (t12_1 : List (Int × List (Int × Int × Int) × List Int)),R.sl S12_2 v12_2 (t12_2 : List (List Int))]) ?_ (fun hj_1=>?_)
 ·rintro _ _ ⟨rfl,rfl⟩
  refine Nrm.seq (Tri.ret ?_)
  cases h
  exact Rtn.body (.cell rfl ta88 ti88 rfl (fun _ hw=>box_cells (i:=0) rfl _ hw) (.tmp rfl (.tmp rfl (.tmp rfl .nil)))) (fun w hw=>⟨_,_,rfl,⟨v12_1,S12_1,v12_2,S12_2,rfl,hl_v12_1,hl_v12_2,rfl⟩,Sep.pick (is:=[1,2]) rfl rfl hw⟩)
 ·obtain ⟨⟨t16_1,t16_2,t16_3⟩,h16,hE_1⟩:=bind_some hE_1
  obtain ⟨⟨t18_1,t18_2,t18_3⟩,h18,hE_1⟩:=bind_some hE_1
  obtain ⟨⟨t20_1,t20_2,t20_3⟩,h20,hE_1⟩:=bind_some hE_1
  obtain ⟨⟨t25_1,t25_2,t25_3⟩,h25,hE_1⟩:=bind_some hE_1
  refine Tri.drawTK (B:=Sep w noM [R.box b7_1 88 [v12_1,v12_2],R.sl S12_1 v12_1 (t12_1 : List (Int × List (Int × Int × Int) × List Int)),R.sl S12_2 v12_2 (t12_2 : List (List Int))]) mixedT Sep.up [0,1,2,4,6,10,11,3,5,7,8,9,12,13,14] [15,16] (.q 0 (.q 1 (.q 2 (.q 4 (.q 6 (.q 10 (.q 11 (.alt 3 (.alt 5 (.alt 7 (.q 8 (.q 9 (.alt 12 (.alt 13 (.q 14 .nil) .stop) .stop))) .stop) .stop) .stop)))))))) (by kernel_rfl) ?_
  refine TK.q [0,1,2] rfl rfl rfl rfl rfl (wanted_none rfl) (r_loadA ta88 ti88 rfl rfl (fun w hw=>(box_cells (i:=0) rfl w hw))) ?_
  refine TK.q [0,1,2] rfl rfl rfl rfl rfl (wanted_none rfl) (r_move rfl) ?_
  refine TK.q [0,1,2] rfl rfl rfl rfl rfl (wanted_none rfl) (r_loadA ta88 ti88 rfl rfl (fun w hw=>(box_cells (i:=0) rfl w hw))) ?_
  iterate 3 refine TK.q [0,1,2] rfl rfl rfl rfl rfl (wanted_none rfl) (r_move rfl) ?_
  refine TK.q [0,1,2] rfl rfl rfl rfl rfl (wanted_none rfl) (r_loadA ta88 ti88 rfl rfl (fun w hw=>(box_cells (i:=0) rfl w hw))) ?_
  refine T.ef rfl rfl rfl (wanted_none rfl) (d_callM (xs:=_) (cs:=[R.box b10_1 114 [va0,.int .i64 t12_3,.int .u64 t12_4]]) (rest:=[R.box b7_1 88 [v12_1,v12_2],R.sl S12_1 v12_1 (t12_1 : List (Int × List (Int × Int × Int) × List Int)),R.sl S12_2 v12_2 (t12_2 : List (List Int)),R.box b2_1 88 [.slice none 0 0,.slice none 0 0]]) [3] [0,1,2,4] rfl ok163 rfl rfl rfl rfl (fun w hw=>spec_l1Cur_world.ok h16 w (hr_a0.down hw) (rdm_sl (i:=1) rfl hw) (rdm_sl (i:=2) rfl hw) (Sep.sub hw))) (by rintro _ _ ⟨_,⟨rfl,rfl⟩,rfl⟩; exact upd rfl [1,2,3] rfl rfl) ?_ ?_
  ·rintro _ _ ⟨_,⟨rfl,rfl⟩,rfl⟩
   refine T.ef rfl rfl rfl (wanted_none rfl) (d_callM (xs:=_) (cs:=[R.box b10_1 114 [va0,.int .i64 t16_2,.int .u64 t16_3]]) (rest:=[R.box b7_1 88 [v12_1,v12_2],R.sl S12_1 v12_1 (t12_1 : List (Int × List (Int × Int × Int) × List Int)),R.sl S12_2 v12_2 (t12_2 : List (List Int)),R.box b2_1 88 [.slice none 0 0,.slice none 0 0]]) [0] [1,2,3,4] rfl ok115 rfl rfl rfl rfl (fun w hw=>spec_l1Cur_pick.ok h18 w (hr_a0.down hw) (Sep.sub hw))) (by rintro _ _ ⟨_,⟨rfl,rfl⟩,rfl⟩; exact upd rfl [1,2,3] rfl rfl) ?_ ?_
   ·rintro _ _ ⟨_,⟨rfl,rfl⟩,rfl⟩
    refine T.ef rfl rfl rfl (wanted_none rfl) (d_callM (xs:=_) (cs:=[R.box b10_1 114 [va0,.int .i64 t18_2,.int .u64 t18_3]]) (rest:=[R.box b7_1 88 [v12_1,v12_2],R.sl S12_1 v12_1 (t12_1 : List (Int × List (Int × Int × Int) × List Int)),R.sl S12_2 v12_2 (t12_2 : List (List Int)),R.box b2_1 88 [.slice none 0 0,.slice none 0 0]]) [0] [1,2,3,4] rfl ok115 rfl rfl rfl rfl (fun w hw=>spec_l1Cur_pick.ok h20 w (hr_a0.down hw) (Sep.sub hw))) (by rintro _ _ ⟨_,⟨rfl,rfl⟩,rfl⟩; exact upd rfl [1,2,3] rfl rfl) ?_ ?_
    ·rintro _ _ ⟨_,⟨rfl,rfl⟩,rfl⟩
     refine TK.q [1,2,3] rfl rfl rfl rfl rfl (wanted_none rfl) (r_quo rfl rfl (by decide)) ?_
     refine TK.q [1,2,3] rfl rfl rfl rfl rfl (wanted_none rfl) (r_sub rfl rfl) ?_
     refine T.ef rfl rfl rfl (wanted_none rfl) (d_callM (xs:=_) (cs:=[R.box b10_1 114 [va0,.int .i64 t20_2,.int .u64 t20_3]]) (rest:=[R.box b7_1 88 [v12_1,v12_2],R.sl S12_1 v12_1 (t12_1 : List (Int × List (Int × Int × Int) × List Int)),R.sl S12_2 v12_2 (t12_2 : List (List Int)),R.box b2_1 88 [.slice none 0 0,.slice none 0 0]]) [0] [1,2,3,4] rfl ok163 rfl rfl rfl rfl (fun w hw=>spec_l1Cur_world.ok h25 w (hr_a0.down hw) (rdm_sl (i:=1) rfl hw) (rdm_sl (i:=2) rfl hw) (Sep.sub hw))) (by rintro _ _ ⟨_,⟨rfl,rfl⟩,rfl⟩; exact upd rfl [1,2,3] rfl rfl) ?_ ?_
     ·rintro _ _ ⟨_,⟨rfl,rfl⟩,rfl⟩
      refine T.ef0 rfl rfl (wanted_none rfl) (d_storeG0 (i:=4) (cs2:=[v12_1,v12_2]) ti88 rfl rfl rfl rfl rfl (Nat.le_of_ble_eq_true rfl) (lf_cons (sl_leaf hl_v12_1) (lf_cons (sl_leaf hl_v12_2) lf_nil))) (by rintro _ _ ⟨rfl,rfl⟩; exact upd rfl [1,2,3] rfl rfl) ?_ ?_
      ·rintro _ _ ⟨rfl,rfl⟩
       refine TK.q [1,2,3] rfl rfl rfl rfl rfl (wanted_none rfl) (r_assign rfl) ?_
       refine T.nil ?_
       refine F.qn rfl (r_assign rfl) (F.qn rfl (r_assign rfl) (F.nil ?_))
       cases hE_1
       refine Nrm.only [2,3,4,5] rfl ?_
       refine Nrm.pick [4,2,3] rfl rfl ?_
       exact hj_1 _ _ ⟨rfl,rfl⟩
      exact T.stop
     exact T.stop
    exact T.stop
   exact T.stop
  exact T.stop


def impl_isNode_1.f (k : Nat) (a0 : Int) (c0_0 : Int) (c0_1 : List (Int × Int × Int)) (c0_2 : List Int) : Option (Bool) := (impl_within.f k a0 0 (w64 (c0_0 - 1))).bind fun t8 => some (!t8)

theorem impl_isNode_1.ok {k : Nat} {pc0 : Addr} {a0 : Int} {c0_0 : Int} {c0_1 : List (Int × Int × Int)} {c0_2 : List Int} {r0 : Bool} (h : impl_isNode_1.f k a0 c0_0 c0_1 c0_2 = some r0) (w : World) {vc0_1 : Value} {vc0_2 : Value} (hb_c0 : CellsAt w pc0 [.int .i64 c0_0, vc0_1, vc0_2]) (hr_c0_1 : Rd w vc0_1 c0_1) (hr_c0_2 : Rd w vc0_2 c0_2) :
  Calls Tryz.prog 180 ([.int .i64 a0,.pointer (some pc0)] : List Value).toArray w (fun e w'=>e = .returned (.bool r0)∧Ext w w'):=by
 unfold impl_isNode_1.f at h
 have hl_vc0_1:=hr_c0_1.len
 have hl_vc0_2:=hr_c0_2.len
 refine Calls.of_tri (N:=10) Tryz.func180 rfl rfl rfl (Sep.nil (M:=noM)) ?_
 refine Tri.seq (Tri.reg (l:=[0]) rfl ?_)
 refine F.qn rfl (r_assign rfl) (F.nil (Nrm.seq (Tri.seq ?_)))
 obtain ⟨t8,h8,h⟩:=bind_some h
 refine Tri.reg (l:=[0,1,2,3,4,5,6]) rfl ?_
 refine F.qn rfl (r_move rfl) (F.qn rfl (r_fieldAddr tf27_0 rfl) (F.qn rfl (r_load ta3 rfl (fun w hw=>cell_1 (hb_c0.sep hw) rfl)) (F.qn rfl (r_sub rfl rfl) ?_)))
 refine F.qcn rfl (q_callF (xs:=_) rfl ok103 rfl rfl (fun w hw=>impl_within.ok h8 w)) ?_
 refine F.qn rfl (r_not rfl) (F.qn rfl (r_assign rfl) (F.nil (Nrm.seq (Tri.ret ?_))))
 cases h
 exact Rtn.body (.tmp rfl .nil) (fun w hw=>⟨rfl,hw.ext⟩)


def impl_isNode.f (k : Nat) (a0_0 : Int) (a0_1 : List (Int × Int × Int)) (a0_2 : List Int) (a1 : List Int) : Option (Bool) := ((impl_IsMaze.f k a0_0 a0_1 a0_2).bind fun t6 => (if t6 = true then (slices_ContainsFunc_int_int.f k a1 (fun z0 => impl_isNode_1.f k z0 a0_0 a0_1 a0_2)).bind fun t10 => some (!t10) else some false)).bind fun y4 => some y4

theorem impl_isNode.ok {k : Nat}  {a0_0 : Int} {a0_1 : List (Int × Int × Int)} {a0_2 : List Int} {a1 : List Int} {r0 : Bool} (h : impl_isNode.f k a0_0 a0_1 a0_2 a1 = some r0) (w : World) {va0_1 : Value} {va0_2 : Value} {va1 : Value} (hr_a0_1 : Rd w va0_1 a0_1) (hr_a0_2 : Rd w va0_2 a0_2) (hr_a1 : Rd w va1 a1) :
  Calls Tryz.prog 98 ([.agg ([.int .i64 a0_0,va0_1,va0_2].toArray),va1] : List Value).toArray w (fun e w'=>e = .returned (.bool r0)∧Ext w w'):=by
 unfold impl_isNode.f at h
 have hl_va0_1:=hr_a0_1.len
 have hl_va0_2:=hr_a0_2.len
 have hl_va1:=hr_a1.len
 refine Calls.of_tri (N:=13) Tryz.func98 rfl rfl rfl (Sep.nil (M:=noM)) ?_
 refine Tri.seq (Tri.reg (l:=[0,1]) rfl ?_)
 refine F.mn rfl (m_boxG rfl rfl) ?_
 rintro _ _ ⟨b2_1,rfl,rfl⟩
 refine F.qn rfl (r_assign rfl) (F.nil (Nrm.seq (Tri.seq ?_)))
 obtain ⟨y4,hE_1,h⟩:=bind_some h
 refine Tri.cut (fun e' C'=>e' = [(4,.bool y4)]∧C' = Sep w noM []) ?_ (fun hj_1=>?_)
 ·rintro _ _ ⟨rfl,rfl⟩
  refine Nrm.seq (Tri.ret ?_)
  cases h
  exact Rtn.body (.tmp rfl .nil) (fun w hw=>⟨rfl,hw.ext⟩)
 ·obtain ⟨t6,h6,hE_1⟩:=bind_some hE_1
  rcases Bool.eq_false_or_eq_true (t6) with g7 | g7
  ·replace hE_1:=if_tt g7 hE_1
   obtain ⟨t10,h10,hE_1⟩:=bind_some hE_1
   refine Tri.reg (l:=[0,1,2,3,4,5,6,7,8]) rfl ?_
   refine F.qn rfl (r_loadA ta27 ti27 rfl rfl (fun w hw=>(box_cells (i:=0) rfl w hw))) ?_
   refine F.qcn rfl (q_callF (xs:=_) rfl ok102 rfl rfl (fun w hw=>impl_IsMaze.ok h6 w ((fun _ hw=>hr_a0_1.sep hw) w hw) ((fun _ hw=>hr_a0_2.sep hw) w hw))) ?_
   refine F.qn rfl (r_move rfl) (F.qg rfl g7 (r_move rfl) (F.qg rfl g7 (r_makeFunc rfl) ?_))
   refine F.qc rfl rfl rfl (wg rfl rfl rfl g7) (q_callF (xs:=_) rfl ok179 rfl rfl (fun w hw=>slices_ContainsFunc_int_int.ok h10 w ((fun _ hw=>hr_a1.sep hw) w hw) ok180 (fun w2 he2 z0 y2 hy2=>impl_isNode_1.ok hy2 w2 ((box_cells (i:=0) rfl w hw).ext he2) (((fun _ hw=>hr_a0_1.sep hw) w hw).ext he2) (((fun _ hw=>hr_a0_2.sep hw) w hw).ext he2)))) ?_
   refine F.qg rfl g7 (r_not rfl) (F.qn rfl (r_pick rfl rfl g7) (F.qn rfl (r_assign rfl) (F.nil ?_)))
   cases hE_1
   refine Nrm.only [4] rfl ?_
   refine Nrm.pick [] rfl rfl ?_
   exact hj_1 _ _ ⟨rfl,rfl⟩
  ·replace hE_1:=if_ff g7 hE_1
   refine Tri.reg (l:=[0,1,2,3,4,5,6,7,8]) rfl ?_
   refine F.qn rfl (r_loadA ta27 ti27 rfl rfl (fun w hw=>(box_cells (i:=0) rfl w hw))) ?_
   refine F.qcn rfl (q_callF (xs:=_) rfl ok102 rfl rfl (fun w hw=>impl_IsMaze.ok h6 w ((fun _ hw=>hr_a0_1.sep hw) w hw) ((fun _ hw=>hr_a0_2.sep hw) w hw))) ?_
   refine F.qn rfl (r_move rfl) ?_
   iterate 4 refine F.skf rfl g7 ?_
   refine F.qn rfl (r_pickf rfl rfl g7) (F.qn rfl (r_assign rfl) (F.nil ?_))
   cases hE_1
   refine Nrm.only [4] rfl ?_
   refine Nrm.pick [] rfl rfl ?_
   exact hj_1 _ _ ⟨rfl,rfl⟩


def impl_isWorld.f (k : Nat) (a0_0 : List (Int × List (Int × Int × Int) × List Int)) (a0_1 : List (List Int)) (a1 : Int) : Option (Bool) := ((impl_IsWorlds.f k a0_0 a0_1).bind fun t6 => (if t6 = true then (impl_within.f k a1 0 (w64 ((a0_0.length : Int) - 1))).bind fun t13 => some t13 else some false)).bind fun y4 => some y4

theorem impl_isWorld.ok {k : Nat}  {a0_0 : List (Int × List (Int × Int × Int) × List Int)} {a0_1 : List (List Int)} {a1 : Int} {r0 : Bool} (h : impl_isWorld.f k a0_0 a0_1 a1 = some r0) (w : World) {va0_0 : Value} {va0_1 : Value} (hr_a0_0 : Rd w va0_0 a0_0) (hr_a0_1 : Rd w va0_1 a0_1) :
  Calls Tryz.prog 164 ([.agg ([va0_0,va0_1].toArray),.int .i64 a1] : List Value).toArray w (fun e w'=>e = .returned (.bool r0)∧Ext w w'):=by
 unfold impl_isWorld.f at h
 have hl_va0_0:=hr_a0_0.len
 have hl_va0_1:=hr_a0_1.len
 refine Calls.of_tri (N:=15) Tryz.func164 rfl rfl rfl (Sep.nil (M:=noM)) ?_
 refine Tri.seq (Tri.reg (l:=[0,1]) rfl ?_)
 refine F.mn rfl (m_boxG rfl rfl) ?_
 rintro _ _ ⟨b2_1,rfl,rfl⟩
 refine F.qn rfl (r_assign rfl) (F.nil (Nrm.seq (Tri.seq ?_)))
 obtain ⟨y4,hE_1,h⟩:=bind_some h
 refine Tri.cut (fun e' C'=>e' = [(4,.bool y4)]∧C' = Sep w noM []) ?_ (fun hj_1=>?_)
 ·rintro _ _ ⟨rfl,rfl⟩
  refine Nrm.seq (Tri.ret ?_)
  cases h
  exact Rtn.body (.tmp rfl .nil) (fun w hw=>⟨rfl,hw.ext⟩)
 ·obtain ⟨t6,h6,hE_1⟩:=bind_some hE_1
  rcases Bool.eq_false_or_eq_true (t6) with g7 | g7
  ·replace hE_1:=if_tt g7 hE_1
   obtain ⟨t13,h13,hE_1⟩:=bind_some hE_1
   refine Tri.reg (l:=[0,1,2,3,4,5,6,7,8,9,10]) rfl ?_
   refine F.qn rfl (r_loadA ta88 ti88 rfl rfl (fun w hw=>(box_cells (i:=0) rfl w hw))) ?_
   refine F.qcn rfl (q_callF (xs:=_) rfl ok156 rfl rfl (fun w hw=>impl_IsWorlds.ok h6 w ((fun _ hw=>hr_a0_0.sep hw) w hw) ((fun _ hw=>hr_a0_1.sep hw) w hw))) ?_
   refine F.qn rfl (r_move rfl) (F.qg rfl g7 (r_move rfl) (F.qg rfl g7 (r_fieldAddr tf88_0 rfl) (F.qg rfl g7 (r_load ta85 rfl (fun w hw=>cell_1 (box_cells (i:=0) rfl w hw) rfl)) (F.qg rfl g7 (r_len Tryz.underlying85 rfl hl_va0_0) (F.qg rfl g7 (r_sub rfl rfl) ?_)))))
   refine F.qc rfl rfl rfl (wg rfl rfl rfl g7) (q_callF (xs:=_) rfl ok103 rfl rfl (fun w hw=>impl_within.ok h13 w)) ?_
   refine F.qn rfl (r_pick rfl rfl g7) (F.qn rfl (r_assign rfl) (F.nil ?_))
   cases hE_1
   refine Nrm.only [4] rfl ?_
   refine Nrm.pick [] rfl rfl ?_
   exact hj_1 _ _ ⟨rfl,rfl⟩
  ·replace hE_1:=if_ff g7 hE_1
   refine Tri.reg (l:=[0,1,2,3,4,5,6,7,8,9,10]) rfl ?_
   refine F.qn rfl (r_loadA ta88 ti88 rfl rfl (fun w hw=>(box_cells (i:=0) rfl w hw))) ?_
   refine F.qcn rfl (q_callF (xs:=_) rfl ok156 rfl rfl (fun w hw=>impl_IsWorlds.ok h6 w ((fun _ hw=>hr_a0_0.sep hw) w hw) ((fun _ hw=>hr_a0_1.sep hw) w hw))) ?_
   refine F.qn rfl (r_move rfl) ?_
   iterate 6 refine F.skf rfl g7 ?_
   refine F.qn rfl (r_pickf rfl rfl g7) (F.qn rfl (r_assign rfl) (F.nil ?_))
   cases hE_1
   refine Nrm.only [4] rfl ?_
   refine Nrm.pick [] rfl rfl ?_
   exact hj_1 _ _ ⟨rfl,rfl⟩


def impl_GiveKeys.l0 (k : Nat) (a0_0 : List (Int × List (Int × Int × Int) × List Int)) (a0_1 : List (List Int)) : Nat → Int → (List (Int × List (Int × Int × Int) × List Int)) → (List (List Int)) → Option ((List (Int × List (Int × Int × Int) × List Int)) × (List (List Int)))
 | 0,_,_,_=>none
 | n + 1,x39,xq10_1_0,xq10_1_1=>(if (decide (x39 < (a0_0.length : Int))) = true then (rdl a0_0 x39).bind fun t42=>(impl_own.f k t42.1 t42.2.1 t42.2.2).bind fun (t47_1,t47_2,t47_3)=>if ((xq10_1_0 : List (Int × List (Int × Int × Int) × List Int)) ++ ([(t47_1,t47_2,t47_3)] : List (Int × List (Int × Int × Int) × List Int))).length < 1099511627776 then (rdl a0_1 x39).bind fun t56=>(slices_Clone_int_int.f k t56).bind fun t58=>if ((xq10_1_1 : List (List Int)) ++ ([t58] : List (List Int))).length < 1099511627776 then impl_GiveKeys.l0 k a0_0 a0_1 n (w64 (x39 + 1)) ((xq10_1_0 : List (Int × List (Int × Int × Int) × List Int)) ++ ([(t47_1,t47_2,t47_3)] : List (Int × List (Int × Int × Int) × List Int))) ((xq10_1_1 : List (List Int)) ++ ([t58] : List (List Int))) else none else none else some (xq10_1_0,xq10_1_1))

def impl_GiveKeys.f (k : Nat) (a0_0 : List (Int × List (Int × Int × Int) × List Int)) (a0_1 : List (List Int)) (a1 : Int) (a2 : Int) (a3 : Int) : Option ((List (Int × List (Int × Int × Int) × List Int)) × (List (List Int)) × Bool) := ((impl_isWorld.f k a0_0 a0_1 a1).bind fun t15 => (if (!t15) = true then some true else (impl_isWorld.f k a0_0 a0_1 a3).bind fun t20 => (if (!t20) = true then some true else (rdl a0_0 a1).bind fun t27 => (impl_isNode.f k t27.1 t27.2.1 t27.2.2 ([a2] : List (Int))).bind fun t31 => some (!t31)))).bind fun y33 => (if y33 = true then some ([], [], false) else (impl_GiveKeys.l0 k a0_0 a0_1 k 0 ([] : List (Int × List (Int × Int × Int) × List Int)) ([] : List (List Int))).bind fun (xq10_1_0, xq10_1_1) => (rdl (xq10_1_1 : List (List Int)) a1).bind fun t66 => (rdl t66 a2).bind fun t70 => some (xq10_1_0, (xq10_1_1 : List (List Int)).set (a1 : Int).toNat (t66.set a2.toNat a3), true))

theorem impl_GiveKeys.ok {k : Nat}  {a0_0 : List (Int × List (Int × Int × Int) × List Int)} {a0_1 : List (List Int)} {a1 : Int} {a2 : Int} {a3 : Int} {r0 : List (Int × List (Int × Int × Int) × List Int)} {r1 : List (List Int)} {r2 : Bool} (h : impl_GiveKeys.f k a0_0 a0_1 a1 a2 a3 = some (r0, r1, r2)) (w : World) {va0_0 : Value} {va0_1 : Value} (hr_a0_0 : Rd w va0_0 a0_0) (hr_a0_1 : Rd w va0_1 a0_1) :
  Calls Tryz.prog 78 ([.agg ([va0_0,va0_1].toArray),.int .i64 a1,.int .i64 a2,.int .i64 a3] : List Value).toArray w (Post (fun u ns=>∃ (ur0 : Value) (Sr0 : Nat → Prop) (ur1 : Value) (Sr1 : Nat → Prop),u = .tuple #[.agg [ur0,ur1].toArray,.bool r2]∧SlLen ur0 r0.length∧SlLen ur1 r1.length∧ns = [R.sl Sr0 ur0 r0,R.sl Sr1 ur1 r1]) w):=by
 unfold impl_GiveKeys.f at h
 have hl_va0_0:=hr_a0_0.len
 have hl_va0_1:=hr_a0_1.len
 refine Calls.of_tri (N:=72) Tryz.func78 rfl rfl rfl (Sep.nil (M:=noM)) ?_
 refine Tri.seq (Tri.reg (l:=[0,1,2]) rfl ?_)
 refine F.mn rfl (m_boxG rfl rfl) ?_
 rintro _ _ ⟨b4_1,rfl,rfl⟩
 refine F.mn rfl (m_alloc ti88) ?_
 rintro _ _ ⟨b8_1,rfl,rfl⟩
 refine F.qn rfl (r_assign rfl) (F.nil (Nrm.seq (Tri.seq (Tri.seq ?_))))
 obtain ⟨y33,hE_1,h⟩:=bind_some h
 refine Tri.cut (fun e' C'=>e' = [(1,.int .i64 a1),(2,.int .i64 a2),(3,.int .i64 a3),(4,.pointer (some ⟨b4_1,0,none⟩)),(8,.pointer (some ⟨b8_1,0,none⟩)),(33,.bool y33)]∧C' = Sep w noM [R.box b8_1 88 [.slice none 0 0,.slice none 0 0],R.box b4_1 88 [va0_0,va0_1]]) ?_ (fun hj_1=>?_)
 ·rintro _ _ ⟨rfl,rfl⟩
  refine Nrm.seq (Tri.cond (b:=y33) rfl (fun g_1=>?_) (fun g_1=>?_))
  ·replace h:=if_tt g_1 h
   refine Tri.seq (Tri.reg (l:=[0,1,2]) rfl ?_)
   refine F.qn rfl (r_build (pl:=[(0,1),(1,1)]) (qs:=[]) (cs:=[.slice none 0 0,.slice none 0 0]) (by kernel_rfl) ti88 rfl .nil rfl rfl) ?_
   refine F.ef0 rfl rfl (wanted_none rfl) (d_storeG0 (i:=0) (cs2:=[.slice none 0 0,.slice none 0 0]) ti88 rfl rfl rfl rfl rfl (Nat.le_of_ble_eq_true rfl) (lf_cons rfl (lf_cons rfl lf_nil))) ?_
   rintro _ _ ⟨rfl,rfl⟩
   refine F.qn rfl (r_assign rfl) (F.nil (Nrm.seq (Tri.ret ?_)))
   refine Rtn.then ?_
   cases h
   exact Rtn.body (.cell rfl ta88 ti88 rfl (fun _ hw=>box_cells (i:=0) rfl _ hw) (.tmp rfl .nil)) (fun w hw=>⟨_,_,rfl,⟨.slice none 0 0,fun _=>False,.slice none 0 0,fun _=>False,rfl,len_nil,len_nil,rfl⟩,Sep.pick (is:=[0,1]) rfl rfl hw.pushNil.pushNil⟩)
  ·replace h:=if_ff g_1 h
   refine Tri.skip (Nrm.seq (Tri.seq (Tri.reg (l:=[0,1,2]) rfl ?_)))
   refine F.qn rfl (r_build (pl:=[(0,1),(1,1)]) (qs:=[]) (cs:=[.slice none 0 0,.slice none 0 0]) (by kernel_rfl) ti88 rfl .nil rfl rfl) ?_
   refine F.mn rfl (m_alloc ti88) ?_
   rintro _ _ ⟨b10_1,rfl,rfl⟩
   refine F.ef0 rfl rfl (wanted_none rfl) (d_storeG0 (i:=0) (cs2:=[.slice none 0 0,.slice none 0 0]) ti88 rfl rfl rfl rfl rfl (Nat.le_of_ble_eq_true rfl) (lf_cons rfl (lf_cons rfl lf_nil))) ?_
   rintro _ _ ⟨rfl,rfl⟩
   refine F.nil (Nrm.seq (Tri.seq (Tri.seq (Tri.reg (l:=[0,1,2,3]) rfl ?_))))
   refine F.qn rfl (r_fieldAddr tf88_0 rfl) (F.qn rfl (r_load ta85 rfl (fun w hw=>cell_1 (box_cells (i:=2) rfl w hw) rfl)) (F.qn rfl (r_len Tryz.underlying85 rfl hl_va0_0) (F.qn rfl (r_move rfl) (F.nil (Nrm.seq ?_)))))
   obtain ⟨⟨xq10_1_0,xq10_1_1⟩,hE_2,h⟩:=bind_some h
   refine Tri.imp (fun w hw=>hw.pushNil (α:=Int × List (Int × Int × Int) × List Int)) ?_
   refine Tri.imp (fun w hw=>hw.pushNil (α:=List Int)) ?_
   refine Tri.block ?_
   refine Tri.only [1,2,3,4,8,10,37,38,39] rfl ?_
   refine Tri.pick [2,3,4,0,1] rfl rfl ?_
   refine Tri.rounds (fun n e' C'=>∃ (x39' : Int) (xq10_1_0' : List (Int × List (Int × Int × Int) × List Int)) (xq10_1_1' : List (List Int)) (wq10_1_0 : Value) (Tq10_1_0 : Nat → Prop) (wq10_1_1 : Value) (Tq10_1_1 : Nat → Prop),impl_GiveKeys.l0 k a0_0 a0_1 n x39' xq10_1_0' xq10_1_1' = some (xq10_1_0,xq10_1_1)∧SlLen wq10_1_0 (xq10_1_0').length∧SlLen wq10_1_1 (xq10_1_1').length∧e' = [(1,.int .i64 a1),(2,.int .i64 a2),(3,.int .i64 a3),(4,.pointer (some ⟨b4_1,0,none⟩)),(8,.pointer (some ⟨b8_1,0,none⟩)),(10,.pointer (some ⟨b10_1,0,none⟩)),(37,va0_0),(38,.int .i64 (a0_0.length : Int)),(39,.int .i64 x39')]∧C' = Sep w noM [R.box b10_1 88 [wq10_1_0,wq10_1_1],R.box b8_1 88 [.slice none 0 0,.slice none 0 0],R.box b4_1 88 [va0_0,va0_1],R.sl Tq10_1_1 wq10_1_1 (xq10_1_1' : List (List Int)),R.sl Tq10_1_0 wq10_1_0 (xq10_1_0' : List (Int × List (Int × Int × Int) × List Int))]) k ?_ ?_ ?_
   ·exact ⟨0,([] : List (Int × List (Int × Int × Int) × List Int)),([] : List (List Int)),(nilv 0),(fun _=>False),(nilv 1),(fun _=>False),hE_2,len_nil,len_nil,rfl,rfl⟩
   ·rintro _ _ ⟨_,_,_,_,_,_,_,hE_2,_⟩
    rw [impl_GiveKeys.l0.eq_1] at hE_2; cases hE_2
   ·rintro n_1 _ _ ⟨x39,xq10_1_0,xq10_1_1,wq10_1_0,Tq10_1_0,wq10_1_1,Tq10_1_1,hE_2,hl_wq10_1_0,hl_wq10_1_1,rfl,rfl⟩ ih_1
    rw [impl_GiveKeys.l0.eq_2] at hE_2
    refine Tri.seq (Tri.reg (l:=[0]) rfl ?_)
    refine F.qn rfl (r_lss rfl rfl) (F.nil (Nrm.seq (Tri.seq (Tri.cond (b:=decide (x39 < (a0_0.length : Int))) rfl (fun g_2=>?_) (fun g_2=>?_)))))
    ·replace hE_2:=if_tt g_2 hE_2
     refine Tri.skip (Nrm.seq (Tri.seq (Tri.block ?_)))
     refine Tri.seq ?_
     obtain ⟨t42,h42,hE_2⟩:=bind_some hE_2
     obtain ⟨_,hc42,hp42⟩:=Rd.elem hr_a0_0 (rdl_some h42).2.2
     obtain ⟨v42_1,v42_2,rfl,hr_v42_1,hr_v42_2⟩:=op27 hp42
     have hl_v42_1:=hr_v42_1.len
     have hl_v42_2:=hr_v42_2.len
     refine Tri.reg (l:=[0,1,2,3,4,5]) rfl ?_
     refine F.qn rfl (r_move rfl) (F.qn rfl (r_indexAddrS Tryz.underlying85 ti27 rfl hl_va0_0 rfl (rdl_some h42).1 (rdl_some h42).2.1) (F.qn rfl (r_loadA ta27 ti27 rfl rfl (fun w hw=>(hc42.sep hw))) ?_))
     refine F.mn rfl (m_alloc ti27) ?_
     rintro _ _ ⟨b12_1,rfl,rfl⟩
     refine F.qn rfl (r_assign rfl) ?_
     refine F.ef0 rfl rfl (wanted_none rfl) (d_storeG0 (i:=0) (cs2:=[.int .i64 t42.1,v42_1,v42_2]) ti27 rfl rfl rfl rfl rfl (Nat.le_of_ble_eq_true rfl) (lf_cons rfl (lf_cons (sl_leaf hl_v42_1) (lf_cons (sl_leaf hl_v42_2) lf_nil)))) ?_
     rintro _ _ ⟨rfl,rfl⟩
     refine F.nil (Nrm.seq (Tri.seq ?_))
     obtain ⟨⟨t47_1,t47_2,t47_3⟩,h47,hE_2⟩:=bind_some hE_2
     obtain ⟨hs49,hE_2⟩:=ck hE_2
     refine Tri.drawB mixedT Sep.up [(0,true),(1,true),(2,true),(3,false),(4,false)] [5,6,7] (by kernel_rfl) ?_
     refine B.q rfl rfl rfl (wanted_none rfl) (r_fieldAddr tf88_0 rfl) ?_
     refine B.q rfl rfl rfl (wanted_none rfl) (r_load ta85 rfl (fun w hw=>cell_1 (box_cells (i:=1) rfl w hw) rfl)) ?_
     refine B.q rfl rfl rfl (wanted_none rfl) (r_loadA ta27 ti27 rfl rfl (fun w hw=>(box_cells (i:=0) rfl w hw))) ?_
     refine B.ef rfl rfl rfl (wanted_none rfl) (Makes.does (m_callF (xs:=_) rfl ok107 rfl rfl (fun w hw=>impl_own.ok h47 w ((fun _ hw=>hr_v42_1.sep hw) w hw) ((fun _ hw=>hr_v42_2.sep hw) w hw)))) (by rintro _ _ ⟨_,⟨v47_3,S47_3,v47_4,S47_4,rfl,hl_v47_3,hl_v47_4,rfl⟩,rfl⟩; exact upd rfl [2,3,4,5,6,7] rfl rfl) ?_
     rintro _ _ ⟨_,⟨v47_3,S47_3,v47_4,S47_4,rfl,hl_v47_3,hl_v47_4,rfl⟩,rfl⟩
     refine B.ef rfl rfl rfl (wanted_none rfl) (d_build1 (cells:=[.int .i64 t47_1,v47_3,v47_4]) (x0:=((t47_1,t47_2,t47_3) : Int × List (Int × Int × Int) × List Int)) (cs:=[R.sl S47_3 v47_3 (t47_2 : List (Int × Int × Int)),R.sl S47_4 v47_4 (t47_3 : List (Int))]) (rest:=[R.box b12_1 27 [.int .i64 t42.1,v42_1,v42_2],R.box b10_1 88 [wq10_1_0,wq10_1_1],R.box b8_1 88 [.slice none 0 0,.slice none 0 0],R.box b4_1 88 [va0_0,va0_1],R.sl Tq10_1_1 wq10_1_1 (xq10_1_1 : List (List Int)),R.sl Tq10_1_0 wq10_1_0 (xq10_1_0 : List (Int × List (Int × Int × Int) × List Int))]) [0,1] [2,3,4,5,6,7] Tryz.underlying85 ti27 rfl rfl rfl (lf_cons rfl (lf_cons (sl_leaf hl_v47_3) (lf_cons (sl_leaf hl_v47_4) lf_nil))) rfl rfl (jn_pair (jn_int (n:=t47_1)) (jn_pair (jn_sl (S:=S47_3) (v:=v47_3) (l:=(t47_2 : List (Int × Int × Int)))) (jn_sl (S:=S47_4) (v:=v47_4) (l:=(t47_3 : List (Int))))))) (by rintro v48_2 _ ⟨S48_2,hl_v48_2,rfl⟩; exact upd rfl [1,2,3,4,5,6] rfl rfl) ?_
     rintro v48_2 _ ⟨S48_2,hl_v48_2,rfl⟩
     refine B.nil ?_
     refine F.efn rfl (d_appendN (rest:=[R.box b12_1 27 [.int .i64 t42.1,v42_1,v42_2],R.box b10_1 88 [wq10_1_0,wq10_1_1],R.box b8_1 88 [.slice none 0 0,.slice none 0 0],R.box b4_1 88 [va0_0,va0_1],R.sl Tq10_1_1 wq10_1_1 (xq10_1_1 : List (List Int))]) 6 0 [1,2,3,4,5] Tryz.underlying85 Tryz.underlying85 ti27 rfl (by decide) rfl rfl rfl rfl hs49) ?_
     rintro v49_2 _ ⟨S49_2,hl_v49_2,rfl⟩
     refine F.qn rfl (r_fieldAddr tf88_0 rfl) ?_
     refine F.ef0 rfl rfl (wanted_none rfl) (d_storeG1 (i:=2) (cs2:=[v49_2]) ti85 rfl rfl rfl (sl_cells hl_v49_2) rfl (Nat.le_of_ble_eq_true rfl) (lf_cons (sl_leaf hl_v49_2) lf_nil)) ?_
     rintro _ _ ⟨rfl,rfl⟩
     refine F.nil (Nrm.seq ?_)
     obtain ⟨t56,h56,hE_2⟩:=bind_some hE_2
     obtain ⟨_,hc56,hp56⟩:=Rd.elem hr_a0_1 (rdl_some h56).2.2
     obtain ⟨v56_0,rfl,hr_v56_0⟩:=op25 hp56
     have hl_v56_0:=hr_v56_0.len
     obtain ⟨t58,h58,hE_2⟩:=bind_some hE_2
     obtain ⟨hs60,hE_2⟩:=ck hE_2
     refine Tri.drawB mixedT Sep.up [(0,true),(1,true),(2,true),(3,true),(4,true),(5,true),(6,true),(7,false),(8,false)] [9,10,11] (by kernel_rfl) ?_
     refine B.q rfl rfl rfl (wanted_none rfl) (r_fieldAddr tf88_1 rfl) ?_
     refine B.q rfl rfl rfl (wanted_none rfl) (r_load ta86 rfl (fun w hw=>cell_1 (box_cells (i:=2) rfl w hw) rfl)) ?_
     refine B.q rfl rfl rfl (wanted_none rfl) (r_fieldAddr tf88_1 rfl) ?_
     refine B.q rfl rfl rfl (wanted_none rfl) (r_load ta86 rfl (fun w hw=>cell_1 (box_cells (i:=4) rfl w hw) rfl)) ?_
     refine B.q rfl rfl rfl (wanted_none rfl) (r_move rfl) ?_
     refine B.q rfl rfl rfl (wanted_none rfl) (r_indexAddrS Tryz.underlying86 ti25 rfl hl_va0_1 rfl (rdl_some h56).1 (rdl_some h56).2.1) ?_
     refine B.q rfl rfl rfl (wanted_none rfl) (r_load ta25 rfl (fun w hw=>cell_0 (hc56.sep hw) rfl)) ?_
     refine B.ef rfl rfl rfl (wanted_none rfl) (Makes.does (m_callF (xs:=_) rfl ok144 rfl rfl (fun w hw=>slices_Clone_int_int.ok h58 w ((fun _ hw=>hr_v56_0.sep hw) w hw)))) (by rintro v58_2 _ ⟨_,⟨S58_2,hl_v58_2,rfl⟩,rfl⟩; exact upd rfl [1,2,3,4,5,6] rfl rfl) ?_
     rintro v58_2 _ ⟨_,⟨S58_2,hl_v58_2,rfl⟩,rfl⟩
     refine B.ef rfl rfl rfl (wanted_none rfl) (d_build1 (cells:=[v58_2]) (x0:=(t58 : List Int)) (cs:=[R.sl S58_2 v58_2 (t58 : List (Int))]) (rest:=[R.sl S49_2 v49_2 ((xq10_1_0 : List (Int × List (Int × Int × Int) × List Int)) ++ ([(t47_1,t47_2,t47_3)] : List (Int × List (Int × Int × Int) × List Int)) : List (Int × List (Int × Int × Int) × List Int)),R.box b12_1 27 [.int .i64 t42.1,v42_1,v42_2],R.box b10_1 88 [v49_2,wq10_1_1],R.box b8_1 88 [.slice none 0 0,.slice none 0 0],R.box b4_1 88 [va0_0,va0_1],R.sl Tq10_1_1 wq10_1_1 (xq10_1_1 : List (List Int))]) [0] [1,2,3,4,5,6] Tryz.underlying86 ti25 rfl (sl_cells hl_v58_2) rfl (lf_cons (sl_leaf hl_v58_2) lf_nil) rfl rfl (jn_sl (S:=S58_2) (v:=v58_2) (l:=(t58 : List (Int))))) (by rintro v59_2 _ ⟨S59_2,hl_v59_2,rfl⟩; exact upd rfl [1,2,3,4,5,6] rfl rfl) ?_
     rintro v59_2 _ ⟨S59_2,hl_v59_2,rfl⟩
     refine B.nil ?_
     refine F.efn rfl (d_appendN (rest:=[R.sl S49_2 v49_2 ((xq10_1_0 : List (Int × List (Int × Int × Int) × List Int)) ++ ([(t47_1,t47_2,t47_3)] : List (Int × List (Int × Int × Int) × List Int)) : List (Int × List (Int × Int × Int) × List Int)),R.box b12_1 27 [.int .i64 t42.1,v42_1,v42_2],R.box b10_1 88 [v49_2,wq10_1_1],R.box b8_1 88 [.slice none 0 0,.slice none 0 0],R.box b4_1 88 [va0_0,va0_1]]) 6 0 [1,2,3,4,5] Tryz.underlying86 Tryz.underlying86 ti25 rfl (by decide) rfl rfl rfl rfl hs60) ?_
     rintro v60_2 _ ⟨S60_2,hl_v60_2,rfl⟩
     refine F.qn rfl (r_fieldAddr tf88_1 rfl) ?_
     refine F.ef0 rfl rfl (wanted_none rfl) (d_storeG1 (i:=3) (cs2:=[v60_2]) ti86 rfl rfl rfl (sl_cells hl_v60_2) rfl (Nat.le_of_ble_eq_true rfl) (lf_cons (sl_leaf hl_v60_2) lf_nil)) ?_
     rintro _ _ ⟨rfl,rfl⟩
     refine F.nil (Nrm.block ?_)
     refine Nrm.seq (Tri.reg (l:=[0,1]) rfl ?_)
     refine F.qn rfl (r_add rfl rfl) (F.qn rfl (r_move rfl) (F.nil (Nrm.round ?_)))
     refine Rnd.only [1,2,3,4,8,10,37,38,39] rfl ?_
     refine Rnd.pick [3,4,5,0,1] rfl rfl ?_
     exact ih_1 _ _ ⟨w64 (x39 + 1),(xq10_1_0 : List (Int × List (Int × Int × Int) × List Int)) ++ ([(t47_1,t47_2,t47_3)] : List (Int × List (Int × Int × Int) × List Int)),(xq10_1_1 : List (List Int)) ++ ([t58] : List (List Int)),v49_2,S49_2,v60_2,S60_2,hE_2,hl_v49_2,hl_v60_2,rfl,rfl⟩
    ·replace hE_2:=if_ff g_2 hE_2
     refine Tri.exit ?_
     refine Exi.then ?_
     refine Exi.then ?_
     refine Exi.same ?_
     cases hE_2
     refine Nrm.seq (Tri.seq ?_)
     obtain ⟨t66,h66,h⟩:=bind_some h
     obtain ⟨t70,h70,h⟩:=bind_some h
     refine Tri.ex (on25 [3] [0,1,2,4] rfl rfl (rdl_some h66).2.2) ?_
     rintro _ ⟨v66_0_1,S66_0_1,Sr66_1,hl_v66_0_1,hS66_1,rfl⟩
     refine Tri.reg (l:=[0,1,2,3,4,5,6,7,8]) rfl ?_
     refine F.qn rfl (r_fieldAddr tf88_1 rfl) (F.qn rfl (r_load ta86 rfl (fun w hw=>cell_1 (box_cells (i:=2) rfl w hw) rfl)) ?_)
     refine F.qn rfl (r_move rfl) (F.qn rfl (r_indexAddrS Tryz.underlying86 ti25 rfl hl_wq10_1_1 rfl (rdl_some h66).1 (rdl_some h66).2.1) (F.qn rfl (r_load ta25 rfl (fun w hw=>cell_0 (hole_cells (p:=1) rfl w hw) rfl)) (F.qn rfl (r_move rfl) (F.qn rfl (r_move rfl) (F.qn rfl (r_indexAddrS Tryz.underlying25 ti3 rfl hl_v66_0_1 rfl (rdl_some h70).1 (rdl_some h70).2.1) ?_)))))
     refine F.ef0 rfl rfl (wanted_none rfl) (d_storeE (i:=0) (x1:=a3) ti3 rfl rfl rfl (rdl_some h70) rfl) ?_
     rintro _ _ ⟨rfl,rfl⟩
     refine F.nil (Nrm.imp (cloS1 (cs:=[R.sl S66_0_1 v66_0_1 (t66.set a2.toNat a3 : List (Int))]) (rest:=[R.box b10_1 88 [wq10_1_0,wq10_1_1],R.box b8_1 88 [.slice none 0 0,.slice none 0 0],R.box b4_1 88 [va0_0,va0_1],R.sl Tq10_1_0 wq10_1_0 (xq10_1_0 : List (Int × List (Int × Int × Int) × List Int))]) [0,1] [2,3,4,5] rfl rfl (jn_sl (S:=S66_0_1) (v:=v66_0_1) (l:=(t66.set a2.toNat a3 : List (Int)))) hS66_1) ?_)
     refine Nrm.seq (Tri.seq (Tri.reg (l:=[0,1,2]) rfl ?_))
     refine F.qn rfl (r_loadA ta88 ti88 rfl rfl (fun w hw=>(box_cells (i:=1) rfl w hw))) ?_
     refine F.ef0 rfl rfl (wanted_none rfl) (d_storeG0 (i:=2) (cs2:=[wq10_1_0,wq10_1_1]) ti88 rfl rfl rfl rfl rfl (Nat.le_of_ble_eq_true rfl) (lf_cons (sl_leaf hl_wq10_1_0) (lf_cons (sl_leaf hl_wq10_1_1) lf_nil))) ?_
     rintro _ _ ⟨rfl,rfl⟩
     refine F.qn rfl (r_assign rfl) (F.nil (Nrm.seq (Tri.ret ?_)))
     cases h
     exact Rtn.body (.cell rfl ta88 ti88 rfl (fun _ hw=>box_cells (i:=2) rfl _ hw) (.tmp rfl .nil)) (fun w hw=>⟨_,_,rfl,⟨wq10_1_0,Tq10_1_0,wq10_1_1,Tq10_1_1,rfl,hl_wq10_1_0,(len_set hl_wq10_1_1),rfl⟩,Sep.pick (is:=[4,0]) rfl rfl hw⟩)
 ·obtain ⟨t15,h15,hE_1⟩:=bind_some hE_1
  rcases Bool.eq_false_or_eq_true (!t15) with g17 | g17
  ·replace hE_1:=if_tt g17 hE_1
   refine Tri.reg (l:=List.range 21) rfl ?_
   refine F.qn rfl (r_loadA ta88 ti88 rfl rfl (fun w hw=>(box_cells (i:=1) rfl w hw))) (F.qn rfl (r_move rfl) ?_)
   refine F.qcn rfl (q_callF (xs:=_) rfl ok164 rfl rfl (fun w hw=>impl_isWorld.ok h15 w ((fun _ hw=>hr_a0_0.sep hw) w hw) ((fun _ hw=>hr_a0_1.sep hw) w hw))) ?_
   refine F.qn rfl (r_not rfl) (F.qn rfl (r_move rfl) ?_)
   iterate 4 refine F.skf rfl g17 ?_
   refine F.qn rfl (r_pick rfl rfl g17) (F.qn rfl (r_move rfl) ?_)
   iterate 9 refine F.skf rfl rfl ?_
   refine F.qn rfl (r_pick rfl rfl rfl) (F.nil ?_)
   cases hE_1
   refine Nrm.only [1,2,3,4,8,33] rfl ?_
   refine Nrm.pick [0,1] rfl rfl ?_
   exact hj_1 _ _ ⟨rfl,rfl⟩
  ·replace hE_1:=if_ff g17 hE_1
   obtain ⟨t20,h20,hE_1⟩:=bind_some hE_1
   rcases Bool.eq_false_or_eq_true (!t20) with g23 | g23
   ·replace hE_1:=if_tt g23 hE_1
    refine Tri.reg (l:=List.range 21) rfl ?_
    refine F.qn rfl (r_loadA ta88 ti88 rfl rfl (fun w hw=>(box_cells (i:=1) rfl w hw))) (F.qn rfl (r_move rfl) ?_)
    refine F.qcn rfl (q_callF (xs:=_) rfl ok164 rfl rfl (fun w hw=>impl_isWorld.ok h15 w ((fun _ hw=>hr_a0_0.sep hw) w hw) ((fun _ hw=>hr_a0_1.sep hw) w hw))) ?_
    refine F.qn rfl (r_not rfl) (F.qn rfl (r_move rfl) (F.qg rfl g17 (r_loadA ta88 ti88 rfl rfl (fun w hw=>(box_cells (i:=1) rfl w hw))) (F.qg rfl g17 (r_move rfl) ?_)))
    refine F.qc rfl rfl rfl (wg rfl rfl rfl g17) (q_callF (xs:=_) rfl ok164 rfl rfl (fun w hw=>impl_isWorld.ok h20 w ((fun _ hw=>hr_a0_0.sep hw) w hw) ((fun _ hw=>hr_a0_1.sep hw) w hw))) ?_
    refine F.qg rfl g17 (r_not rfl) (F.qn rfl (r_pickf rfl rfl g17) (F.qn rfl (r_move rfl) ?_))
    iterate 9 refine F.skf rfl g23 ?_
    refine F.qn rfl (r_pick rfl rfl g23) (F.nil ?_)
    cases hE_1
    refine Nrm.only [1,2,3,4,8,33] rfl ?_
    refine Nrm.pick [0,1] rfl rfl ?_
    exact hj_1 _ _ ⟨rfl,rfl⟩
   ·replace hE_1:=if_ff g23 hE_1
    obtain ⟨t27,h27,hE_1⟩:=bind_some hE_1
    obtain ⟨_,hc27,hp27⟩:=Rd.elem hr_a0_0 (rdl_some h27).2.2
    obtain ⟨v27_1,v27_2,rfl,hr_v27_1,hr_v27_2⟩:=op27 hp27
    have hl_v27_1:=hr_v27_1.len
    have hl_v27_2:=hr_v27_2.len
    obtain ⟨t31,h31,hE_1⟩:=bind_some hE_1
    refine Tri.reg (l:=List.range 21) rfl ?_
    refine F.qn rfl (r_loadA ta88 ti88 rfl rfl (fun w hw=>(box_cells (i:=1) rfl w hw))) (F.qn rfl (r_move rfl) ?_)
    refine F.qcn rfl (q_callF (xs:=_) rfl ok164 rfl rfl (fun w hw=>impl_isWorld.ok h15 w ((fun _ hw=>hr_a0_0.sep hw) w hw) ((fun _ hw=>hr_a0_1.sep hw) w hw))) ?_
    refine F.qn rfl (r_not rfl) (F.qn rfl (r_move rfl) (F.qg rfl g17 (r_loadA ta88 ti88 rfl rfl (fun w hw=>(box_cells (i:=1) rfl w hw))) (F.qg rfl g17 (r_move rfl) ?_)))
    refine F.qc rfl rfl rfl (wg rfl rfl rfl g17) (q_callF (xs:=_) rfl ok164 rfl rfl (fun w hw=>impl_isWorld.ok h20 w ((fun _ hw=>hr_a0_0.sep hw) w hw) ((fun _ hw=>hr_a0_1.sep hw) w hw))) ?_
    refine F.qg rfl g17 (r_not rfl) (F.qn rfl (r_pickf rfl rfl g17) (F.qn rfl (r_move rfl) ?_))
    refine F.qg rfl g23 (r_fieldAddr tf88_0 rfl) (F.qg rfl g23 (r_load ta85 rfl (fun w hw=>cell_1 (box_cells (i:=1) rfl w hw) rfl)) (F.qg rfl g23 (r_move rfl) (F.qg rfl g23 (r_indexAddrS Tryz.underlying85 ti27 rfl hl_va0_0 rfl (rdl_some h27).1 (rdl_some h27).2.1) (F.qg rfl g23 (r_loadA ta27 ti27 rfl rfl (fun w hw=>(hc27.sep hw))) (F.qg rfl g23 (r_move rfl) ?_)))))
    refine F.m rfl rfl rfl (wg rfl rfl rfl g23) (m_buildF (l:=([a2] : List (Int))) Tryz.underlying25 ti3 rfl rfl rfl rfl rfl) ?_
    rintro v30_1 _ ⟨S30_1,hl_v30_1,rfl⟩
    refine F.qc rfl rfl rfl (wg rfl rfl rfl g23) (q_callF (xs:=_) rfl ok98 rfl rfl (fun w hw=>impl_isNode.ok h31 w ((fun _ hw=>hr_v27_1.sep hw) w hw) ((fun _ hw=>hr_v27_2.sep hw) w hw) ((rd_sl (i:=0) rfl) w hw))) ?_
    refine F.qg rfl g23 (r_not rfl) (F.qn rfl (r_pickf rfl rfl g23) (F.nil ?_))
    cases hE_1
    refine Nrm.only [1,2,3,4,8,33] rfl ?_
    refine Nrm.pick [1,2] rfl rfl ?_
    exact hj_1 _ _ ⟨rfl,rfl⟩

end Go.Proofs
