/- A part of the proof of FnTraps: what the functions of the program compute, walked on the model. No condition. -/
import Derived.Test.YtebbaacgalipaaaGreatFnTrapsC
import Derived.Test.YtebbaacgalipaaaGreatFnTrapsD
import Derived.Test.YtebbaacgalipaaaGreatFnTrapsE
import Derived.Test.YtebbaacgalipaaaGreatFnTrapsF
set_option linter.unusedSimpArgs false
/- loop.example/g01158/laws.FnTraps -/
namespace Go.Proofs
open Go Go.Ga
set_option linter.unusedVariables false
set_option maxRecDepth 100000
set_option maxHeartbeats 4000000
def laws_FnTraps.l1 (k : Nat) (t141_1 : List (Int × Int)) (t351_1 : Int) (t351_2 : Int) : Nat → Bool → Int → Option (Bool)
 | 0,_,_=>none
 | n + 1,x51,x52=>(if (decide (x52 < (t141_1.length : Int))) = true then ((if x51 = true then some true else (rdl t141_1 x52).bind fun t374=>some (decide ((t374.1,t374.2) = (t351_1,t351_2))))).bind fun y51=>laws_FnTraps.l1 k t141_1 t351_1 t351_2 n y51 (w64 (x52 + 1)) else some x51)

def laws_FnTraps.l2 (k : Nat) (t141_1 : List (Int × Int)) (t351_1 : Int) (t351_2 : Int) : Nat → Bool → Int → Option (Bool)
 | 0,_,_=>none
 | n + 1,x51r,x52r=>(if (decide (x52r < (t141_1.length : Int))) = true then ((if x51r = true then some true else (rdl t141_1 x52r).bind fun t374=>some (decide ((t374.1,t374.2) = (t351_1,t351_2))))).bind fun y51r=>laws_FnTraps.l2 k t141_1 t351_1 t351_2 n y51r (w64 (x52r + 1)) else some x51r)

def laws_FnTraps.l3 (k : Nat) (t141_1 : List (Int × Int)) (t351_1 : Int) (t351_2 : Int) : Nat → Bool → Int → Option (Bool)
 | 0,_,_=>none
 | n + 1,x51rr,x52rr=>(if (decide (x52rr < (t141_1.length : Int))) = true then ((if x51rr = true then some true else (rdl t141_1 x52rr).bind fun t374=>some (decide ((t374.1,t374.2) = (t351_1,t351_2))))).bind fun y51rr=>laws_FnTraps.l3 k t141_1 t351_1 t351_2 n y51rr (w64 (x52rr + 1)) else some x51rr)

def laws_FnTraps.l4 (k : Nat) (t141_1 : List (Int × Int)) (t351_1 : Int) (t351_2 : Int) : Nat → Bool → Int → Option (Bool)
 | 0,_,_=>none
 | n + 1,x51rrr,x52rrr=>(if (decide (x52rrr < (t141_1.length : Int))) = true then ((if x51rrr = true then some true else (rdl t141_1 x52rrr).bind fun t374=>some (decide ((t374.1,t374.2) = (t351_1,t351_2))))).bind fun y51rrr=>laws_FnTraps.l4 k t141_1 t351_1 t351_2 n y51rrr (w64 (x52rrr + 1)) else some x51rrr)

def laws_FnTraps.l0 (k : Nat) (t56_1 : Int) (t56_2 : List (Int × Int × Int)) (t56_3 : List Int) (t56_4 : List Int) (t141_1 : List (Int × Int)) (t146_1 : List (Int × Int)) : Nat → Int → Option ((Unit) ⊕ (Bool))
 | 0,_=>none
 | n + 1,x22=>(if (decide (x22 < (t141_1.length : Int))) = true then (rdl t141_1 x22).bind fun t178=>(rdl t146_1 x22).bind fun t182=>(if (!decide ((t178.1,t178.2) = (t182.1,t182.2))) = true then some (Sum.inr false) else (rdl t141_1 x22).bind fun t189=>(rdl t141_1 x22).bind fun t194=>(impl_IsGood.f k t56_1 t56_2 t56_3 t56_4 t189.1 t194.2).bind fun (t197_1,t197_2)=>((if (!t197_2) = true then some true else some t197_1)).bind fun y204=>(if y204 = true then some (Sum.inr false) else laws_FnTraps.l0 k t56_1 t56_2 t56_3 t56_4 t141_1 t146_1 n (w64 (x22 + 1)))) else some (Sum.inl ()))

def laws_FnTraps.f (k : Nat) (a0 : List By) : Option (Bool) := (laws_rBig.f k a0).bind fun t54 => (if t54 = true then some true else (spec_DrawFirstToLose.f k a0).bind fun (t56_1, t56_2, t56_3, t56_4) => (impl_FirstToLose.f k t56_1 t56_2 t56_3 t56_4).bind fun (t59_1, t59_2) => (spec_FirstToLose.f k t56_1 t56_2 t56_3 t56_4).bind fun (t64_1, t64_2) => ((if (t59_2 != t64_2) = true then some true else (laws_rInts.f k t59_1 t64_1).bind fun t73 => some (!t73))).bind fun y75 => (if y75 = true then some false else (impl_FewestToLose.f k t56_1 t56_2 t56_3 t56_4).bind fun (t78_1, t78_2) => (spec_FewestToLose.f k t56_1 t56_2 t56_3 t56_4).bind fun (t83_1, t83_2) => ((if (t78_1 != t83_1) = true then some true else (if (t78_2 != t83_2) = true then some true else some (t78_2 != t59_2)))).bind fun y98 => (if y98 = true then some false else (impl_CountMet.f k t56_1 t56_2 t56_3 t56_4).bind fun (t101_1, t101_2, t101_3) => (spec_CountMet.f k t56_1 t56_2 t56_3 t56_4).bind fun (t107_1, t107_2, t107_3) => ((if (t101_1 != t107_1) = true then some true else (if (t101_2 != t107_2) = true then some true else (if (t101_3 != t107_3) = true then some true else (impl_IsTrap.f k t56_1 t56_2 t56_3 t56_4).bind fun t127 => (if (t101_3 != t127) = true then some true else (if t101_3 = true then some (t59_2 != (decide (t101_2 > 0))) else some (t59_2 != false))))))).bind fun y138 => (if y138 = true then some false else (impl_LostStates.f k t56_1 t56_2 t56_3 t56_4).bind fun (t141_1, t141_2) => (spec_LostStates.f k t56_1 t56_2 t56_3 t56_4).bind fun (t146_1, t146_2) => ((if (t141_2 != t146_2) = true then some true else (if (t141_2 != t101_3) = true then some true else (if ((t141_1.length : Int) != (t146_1.length : Int)) = true then some true else some ((t141_1.length : Int) != t101_2))))).bind fun y169 => (if y169 = true then some false else (laws_FnTraps.l0 k t56_1 t56_2 t56_3 t56_4 t141_1 t146_1 k 0).bind fun s => Lr s some fun _ => (impl_FewestToWin.f k t56_1 t56_2 t56_3 t56_4).bind fun (t207_1, t207_2) => (spec_FewestToWin.f k t56_1 t56_2 t56_3 t56_4).bind fun (t212_1, t212_2) => ((if (t207_1 != t212_1) = true then some true else some (t207_2 != t212_2))).bind fun y222 => (if y222 = true then some false else (impl_BothWays.f k t56_1 t56_2 t56_3 t56_4).bind fun (t225_1, t225_2, t225_3, t225_4, t225_5) => (spec_BothWays.f k t56_1 t56_2 t56_3 t56_4).bind fun (t230_1, t230_2, t230_3, t230_4, t230_5) => ((if (t225_5 != t230_5) = true then some true else (if (t225_5 != t101_3) = true then some true else (laws_rTrap.f k t225_1 t225_2 t225_3 t225_4 t230_1 t230_2 t230_3 t230_4).bind fun t244 => some (!t244)))).bind fun y246 => (if y246 = true then some false else (spec_DrawTurnDoor.f k a0).bind fun (t249_1, t249_2, t249_3, t249_4, t249_5) => (impl_TurnDoor.f k t249_1 t249_2 t249_3 t249_4 t249_5).bind fun (t255_1, t255_2, t255_3, t255_4, t255_5) => (spec_TurnDoor.f k t249_1 t249_2 t249_3 t249_4 t249_5).bind fun (t261_1, t261_2, t261_3, t261_4, t261_5) => ((if (t255_5 != t261_5) = true then some true else (laws_rTrap.f k t255_1 t255_2 t255_3 t255_4 t261_1 t261_2 t261_3 t261_4).bind fun t270 => some (!t270))).bind fun y272 => (if y272 = true then some false else (if t255_5 = true then (impl_TurnDoor.f k t255_1 t255_2 t255_3 t255_4 t249_5).bind fun (t277_1, t277_2, t277_3, t277_4, t277_5) => ((if (!t277_5) = true then some true else (laws_rTrap.f k t277_1 t277_2 t277_3 t277_4 t249_1 t249_2 t249_3 t249_4).bind fun t285 => some (!t285))).bind fun y287 => (if y287 = true then some false else (if t101_3 = true then (impl_CountMet.f k t225_1 t225_2 t225_3 t225_4).bind fun (t291_1, t291_2, t291_3) => (impl_FewestSteps.f k t56_1 t56_2 t56_3).bind fun (t298_1, t298_2) => ((if (!t291_3) = true then some true else (if (t291_2 != 0) = true then (if (t291_2 != t291_1) = true then some true else (if t207_2 = true then (if (!t298_2) = true then some true else (if (decide (t207_1 < t298_1)) = true then some true else some (decide (t101_1 > t291_1)))) else some (decide (t101_1 > t291_1)))) else (if t207_2 = true then (if (!t298_2) = true then some true else (if (decide (t207_1 < t298_1)) = true then some true else some (decide (t101_1 > t291_1)))) else some (decide (t101_1 > t291_1)))))).bind fun y328 => (if y328 = true then some false else (rdl t56_3 0).bind fun t334 => (impl_IsGood.f k t56_1 t56_2 t56_3 t56_4 0 t334).bind fun (t336_1, t336_2) => ((if (!t336_2) = true then some true else some (t336_1 != t207_2))).bind fun y345 => (if y345 = true then some false else (if (!t59_2) = true then some true else (impl_StateBehind.f k t56_1 t56_2 t56_3 t56_4 t59_1).bind fun (t351_1, t351_2, t351_3) => ((if (!t351_3) = true then some true else some ((t59_1.length : Int) != (w64 (t78_1 + 1))))).bind fun y363 => (if y363 = true then some false else (laws_FnTraps.l1 k t141_1 t351_1 t351_2 k false 0).bind fun x51 => some x51)))) else (if (!t59_2) = true then some true else (impl_StateBehind.f k t56_1 t56_2 t56_3 t56_4 t59_1).bind fun (t351_1, t351_2, t351_3) => ((if (!t351_3) = true then some true else some ((t59_1.length : Int) != (w64 (t78_1 + 1))))).bind fun y363r => (if y363r = true then some false else (laws_FnTraps.l2 k t141_1 t351_1 t351_2 k false 0).bind fun x51r => some x51r)))) else (if t101_3 = true then (impl_CountMet.f k t225_1 t225_2 t225_3 t225_4).bind fun (t291_1, t291_2, t291_3) => (impl_FewestSteps.f k t56_1 t56_2 t56_3).bind fun (t298_1, t298_2) => ((if (!t291_3) = true then some true else (if (t291_2 != 0) = true then (if (t291_2 != t291_1) = true then some true else (if t207_2 = true then (if (!t298_2) = true then some true else (if (decide (t207_1 < t298_1)) = true then some true else some (decide (t101_1 > t291_1)))) else some (decide (t101_1 > t291_1)))) else (if t207_2 = true then (if (!t298_2) = true then some true else (if (decide (t207_1 < t298_1)) = true then some true else some (decide (t101_1 > t291_1)))) else some (decide (t101_1 > t291_1)))))).bind fun y328r => (if y328r = true then some false else (rdl t56_3 0).bind fun t334 => (impl_IsGood.f k t56_1 t56_2 t56_3 t56_4 0 t334).bind fun (t336_1, t336_2) => ((if (!t336_2) = true then some true else some (t336_1 != t207_2))).bind fun y345r => (if y345r = true then some false else (if (!t59_2) = true then some true else (impl_StateBehind.f k t56_1 t56_2 t56_3 t56_4 t59_1).bind fun (t351_1, t351_2, t351_3) => ((if (!t351_3) = true then some true else some ((t59_1.length : Int) != (w64 (t78_1 + 1))))).bind fun y363rr => (if y363rr = true then some false else (laws_FnTraps.l3 k t141_1 t351_1 t351_2 k false 0).bind fun x51rr => some x51rr)))) else (if (!t59_2) = true then some true else (impl_StateBehind.f k t56_1 t56_2 t56_3 t56_4 t59_1).bind fun (t351_1, t351_2, t351_3) => ((if (!t351_3) = true then some true else some ((t59_1.length : Int) != (w64 (t78_1 + 1))))).bind fun y363rrr => (if y363rrr = true then some false else (laws_FnTraps.l4 k t141_1 t351_1 t351_2 k false 0).bind fun x51rrr => some x51rrr))))))))))))

theorem laws_FnTraps.ok {k : Nat}  {a0 : List By} {r0 : Bool} (h : laws_FnTraps.f k a0 = some r0) (w : World) {va0 : Value} (hr_a0 : Rd w va0 a0) :
  Calls Tryz.prog 5 ([va0] : List Value).toArray w (fun e w'=>e = .returned (.bool r0)∧Ext w w'):=by
 unfold laws_FnTraps.f at h
 have hl_va0:=hr_a0.len
 refine Calls.of_tri (N:=382) Tryz.func5 rfl rfl rfl (Sep.nil (M:=noM)) ?_
 refine Tri.seq (Tri.reg (l:=[0]) rfl ?_)
 refine F.qn rfl (r_assign rfl) (F.nil (Nrm.seq (Tri.seq (Tri.seq ?_))))
 obtain ⟨t54,h54,h⟩:=bind_some h
 refine Tri.reg (l:=[0,1]) rfl ?_
 refine F.qn rfl (r_move rfl) ?_
 refine F.qcn rfl (q_callF (xs:=_) rfl ok47 rfl rfl (fun w hw=>laws_rBig.ok h54 w ((fun _ hw=>hr_a0.sep hw) w hw))) ?_
 refine F.nil (Nrm.seq (Tri.cond (b:=t54) rfl (fun g_1=>?_) (fun g_1=>?_)))
 ·replace h:=if_tt g_1 h
  refine Tri.seq (Tri.reg (l:=[0]) rfl ?_)
  refine F.qn rfl (r_assign rfl) (F.nil (Nrm.seq (Tri.ret ?_)))
  refine Rtn.then ?_
  cases h
  exact Rtn.body (.tmp rfl .nil) (fun w hw=>⟨rfl,hw.ext⟩)
 ·replace h:=if_ff g_1 h
  refine Tri.skip (Nrm.seq (Tri.seq ?_))
  obtain ⟨⟨t56_1,t56_2,t56_3,t56_4⟩,h56,h⟩:=bind_some h
  refine Tri.reg (l:=[0,1,2,3]) rfl ?_
  refine F.qn rfl (r_move rfl) ?_
  refine F.mn rfl (m_callF (xs:=_) rfl ok48 rfl rfl (fun w hw=>spec_DrawFirstToLose.ok h56 w ((fun _ hw=>hr_a0.sep hw) w hw))) ?_
  rintro _ _ ⟨_,⟨v56_1,S56_1,v56_2,S56_2,v56_3,S56_3,rfl,hl_v56_1,hl_v56_2,hl_v56_3,rfl⟩,rfl⟩
  refine F.mn rfl (m_alloc ti65) ?_
  rintro _ _ ⟨b3_1,rfl,rfl⟩
  refine F.ef0 rfl rfl (wanted_none rfl) (d_storeG0 (i:=0) (cs2:=[.int .i64 t56_1,v56_1,v56_2,v56_3]) ti65 rfl rfl rfl rfl rfl (Nat.le_of_ble_eq_true rfl) (lf_cons rfl (lf_cons (sl_leaf hl_v56_1) (lf_cons (sl_leaf hl_v56_2) (lf_cons (sl_leaf hl_v56_3) lf_nil))))) ?_
  rintro _ _ ⟨rfl,rfl⟩
  refine F.nil (Nrm.seq (Tri.seq ?_))
  obtain ⟨⟨t59_1,t59_2⟩,h59,h⟩:=bind_some h
  refine Tri.reg (l:=[0,1,2,3,4,5,6]) rfl ?_
  refine F.qn rfl (r_loadA ta65 ti65 rfl rfl (fun w hw=>(box_cells (i:=0) rfl w hw))) ?_
  refine F.mn rfl (m_callF (xs:=_) rfl ok49 rfl rfl (fun w hw=>impl_FirstToLose.ok h59 w ((rd_sl (i:=1) rfl) w hw) ((rd_sl (i:=2) rfl) w hw) ((rd_sl (i:=3) rfl) w hw))) ?_
  rintro _ _ ⟨_,⟨v59_1,S59_1,rfl,hl_v59_1,rfl⟩,rfl⟩
  refine F.qn rfl (r_move rfl) (F.qn rfl (r_extract rfl rfl) (F.qn rfl (r_extract rfl rfl) (F.qn rfl (r_assign rfl) (F.qn rfl (r_assign rfl) (F.nil (Nrm.seq (Tri.seq (Tri.seq ?_))))))))
  obtain ⟨⟨t64_1,t64_2⟩,h64,h⟩:=bind_some h
  refine Tri.reg (l:=[0,1,2,3,4,5,6]) rfl ?_
  refine F.qn rfl (r_loadA ta65 ti65 rfl rfl (fun w hw=>(box_cells (i:=1) rfl w hw))) ?_
  refine F.mn rfl (m_callF (xs:=_) rfl ok50 rfl rfl (fun w hw=>spec_FirstToLose.ok h64 w ((rd_sl (i:=2) rfl) w hw) ((rd_sl (i:=3) rfl) w hw) ((rd_sl (i:=4) rfl) w hw))) ?_
  rintro _ _ ⟨_,⟨v64_1,S64_1,rfl,hl_v64_1,rfl⟩,rfl⟩
  refine F.qn rfl (r_move rfl) (F.qn rfl (r_extract rfl rfl) (F.qn rfl (r_extract rfl rfl) (F.qn rfl (r_assign rfl) (F.qn rfl (r_assign rfl) (F.nil (Nrm.seq (Tri.seq ?_)))))))
  obtain ⟨y75,hE_1,h⟩:=bind_some h
  refine Tri.cut (fun e' C'=>e' = [(0,va0),(3,.pointer (some ⟨b3_1,0,none⟩)),(4,v59_1),(5,.bool t59_2),(75,.bool y75)]∧C' = Sep w noM [R.box b3_1 65 [.int .i64 t56_1,v56_1,v56_2,v56_3],R.sl S56_1 v56_1 (t56_2 : List (Int × Int × Int)),R.sl S56_2 v56_2 (t56_3 : List (Int)),R.sl S56_3 v56_3 (t56_4 : List (Int)),R.sl S59_1 v59_1 (t59_1 : List (Int))]) ?_ (fun hj_1=>?_)
  ·rintro _ _ ⟨rfl,rfl⟩
   refine Nrm.seq (Tri.cond (b:=y75) rfl (fun g_2=>?_) (fun g_2=>?_))
   ·replace h:=if_tt g_2 h
    refine Tri.seq (Tri.reg (l:=[0]) rfl ?_)
    refine F.qn rfl (r_assign rfl) (F.nil (Nrm.seq (Tri.ret ?_)))
    refine Rtn.then ?_
    cases h
    exact Rtn.body (.tmp rfl .nil) (fun w hw=>⟨rfl,hw.ext⟩)
   ·replace h:=if_ff g_2 h
    refine Tri.skip (Nrm.seq (Tri.seq ?_))
    obtain ⟨⟨t78_1,t78_2⟩,h78,h⟩:=bind_some h
    refine Tri.reg (l:=[0,1,2,3,4,5,6]) rfl ?_
    refine F.qn rfl (r_loadA ta65 ti65 rfl rfl (fun w hw=>(box_cells (i:=0) rfl w hw))) ?_
    refine F.qcn rfl (q_callF (xs:=_) rfl ok52 rfl rfl (fun w hw=>impl_FewestToLose.ok h78 w ((rd_sl (i:=1) rfl) w hw) ((rd_sl (i:=2) rfl) w hw) ((rd_sl (i:=3) rfl) w hw))) ?_
    refine F.qn rfl (r_move rfl) (F.qn rfl (r_extract rfl rfl) (F.qn rfl (r_extract rfl rfl) (F.qn rfl (r_assign rfl) (F.qn rfl (r_assign rfl) (F.nil (Nrm.seq (Tri.seq (Tri.seq ?_))))))))
    obtain ⟨⟨t83_1,t83_2⟩,h83,h⟩:=bind_some h
    refine Tri.reg (l:=[0,1,2,3,4,5,6]) rfl ?_
    refine F.qn rfl (r_loadA ta65 ti65 rfl rfl (fun w hw=>(box_cells (i:=0) rfl w hw))) ?_
    refine F.qcn rfl (q_callF (xs:=_) rfl ok53 rfl rfl (fun w hw=>spec_FewestToLose.ok h83 w ((rd_sl (i:=1) rfl) w hw) ((rd_sl (i:=2) rfl) w hw) ((rd_sl (i:=3) rfl) w hw))) ?_
    refine F.qn rfl (r_move rfl) (F.qn rfl (r_extract rfl rfl) (F.qn rfl (r_extract rfl rfl) (F.qn rfl (r_assign rfl) (F.qn rfl (r_assign rfl) (F.nil (Nrm.seq (Tri.seq ?_)))))))
    obtain ⟨y98,hE_2,h⟩:=bind_some h
    refine Tri.cut (fun e' C'=>e' = [(0,va0),(3,.pointer (some ⟨b3_1,0,none⟩)),(4,v59_1),(5,.bool t59_2),(8,.int .i64 t78_1),(98,.bool y98)]∧C' = Sep w noM [R.box b3_1 65 [.int .i64 t56_1,v56_1,v56_2,v56_3],R.sl S56_1 v56_1 (t56_2 : List (Int × Int × Int)),R.sl S56_2 v56_2 (t56_3 : List (Int)),R.sl S56_3 v56_3 (t56_4 : List (Int)),R.sl S59_1 v59_1 (t59_1 : List (Int))]) ?_ (fun hj_2=>?_)
    ·rintro _ _ ⟨rfl,rfl⟩
     refine Nrm.seq (Tri.cond (b:=y98) rfl (fun g_3=>?_) (fun g_3=>?_))
     ·replace h:=if_tt g_3 h
      refine Tri.seq (Tri.reg (l:=[0]) rfl ?_)
      refine F.qn rfl (r_assign rfl) (F.nil (Nrm.seq (Tri.ret ?_)))
      refine Rtn.then ?_
      cases h
      exact Rtn.body (.tmp rfl .nil) (fun w hw=>⟨rfl,hw.ext⟩)
     ·replace h:=if_ff g_3 h
      refine Tri.skip (Nrm.seq (Tri.seq ?_))
      obtain ⟨⟨t101_1,t101_2,t101_3⟩,h101,h⟩:=bind_some h
      refine Tri.reg (l:=[0,1,2,3,4,5,6,7,8]) rfl ?_
      refine F.qn rfl (r_loadA ta65 ti65 rfl rfl (fun w hw=>(box_cells (i:=0) rfl w hw))) ?_
      refine F.qcn rfl (q_callF (xs:=_) rfl ok54 rfl rfl (fun w hw=>impl_CountMet.ok h101 w ((rd_sl (i:=1) rfl) w hw) ((rd_sl (i:=2) rfl) w hw) ((rd_sl (i:=3) rfl) w hw))) ?_
      refine F.qn rfl (r_move rfl) ?_
      iterate 3 refine F.qn rfl (r_extract rfl rfl) ?_
      iterate 3 refine F.qn rfl (r_assign rfl) ?_
      refine F.nil (Nrm.seq (Tri.seq (Tri.seq ?_)))
      obtain ⟨⟨t107_1,t107_2,t107_3⟩,h107,h⟩:=bind_some h
      refine Tri.reg (l:=[0,1,2,3,4,5,6,7,8]) rfl ?_
      refine F.qn rfl (r_loadA ta65 ti65 rfl rfl (fun w hw=>(box_cells (i:=0) rfl w hw))) ?_
      refine F.qcn rfl (q_callF (xs:=_) rfl ok55 rfl rfl (fun w hw=>spec_CountMet.ok h107 w ((rd_sl (i:=1) rfl) w hw) ((rd_sl (i:=2) rfl) w hw) ((rd_sl (i:=3) rfl) w hw))) ?_
      refine F.qn rfl (r_move rfl) ?_
      iterate 3 refine F.qn rfl (r_extract rfl rfl) ?_
      iterate 3 refine F.qn rfl (r_assign rfl) ?_
      refine F.nil (Nrm.seq (Tri.seq ?_))
      obtain ⟨y138,hE_3,h⟩:=bind_some h
      refine Tri.cut (fun e' C'=>e' = [(0,va0),(3,.pointer (some ⟨b3_1,0,none⟩)),(4,v59_1),(5,.bool t59_2),(8,.int .i64 t78_1),(12,.int .i64 t101_1),(13,.int .i64 t101_2),(14,.bool t101_3),(138,.bool y138)]∧C' = Sep w noM [R.box b3_1 65 [.int .i64 t56_1,v56_1,v56_2,v56_3],R.sl S56_1 v56_1 (t56_2 : List (Int × Int × Int)),R.sl S56_2 v56_2 (t56_3 : List (Int)),R.sl S56_3 v56_3 (t56_4 : List (Int)),R.sl S59_1 v59_1 (t59_1 : List (Int))]) ?_ (fun hj_3=>?_)
      ·rintro _ _ ⟨rfl,rfl⟩
       refine Nrm.seq (Tri.cond (b:=y138) rfl (fun g_4=>?_) (fun g_4=>?_))
       ·replace h:=if_tt g_4 h
        refine Tri.seq (Tri.reg (l:=[0]) rfl ?_)
        refine F.qn rfl (r_assign rfl) (F.nil (Nrm.seq (Tri.ret ?_)))
        refine Rtn.then ?_
        cases h
        exact Rtn.body (.tmp rfl .nil) (fun w hw=>⟨rfl,hw.ext⟩)
       ·replace h:=if_ff g_4 h
        refine Tri.skip (Nrm.seq (Tri.seq ?_))
        obtain ⟨⟨t141_1,t141_2⟩,h141,h⟩:=bind_some h
        refine Tri.reg (l:=[0,1,2,3,4,5,6]) rfl ?_
        refine F.qn rfl (r_loadA ta65 ti65 rfl rfl (fun w hw=>(box_cells (i:=0) rfl w hw))) ?_
        refine F.mn rfl (m_callF (xs:=_) rfl ok57 rfl rfl (fun w hw=>impl_LostStates.ok h141 w ((rd_sl (i:=1) rfl) w hw) ((rd_sl (i:=2) rfl) w hw) ((rd_sl (i:=3) rfl) w hw))) ?_
        rintro _ _ ⟨_,⟨v141_1,S141_1,rfl,hl_v141_1,rfl⟩,rfl⟩
        refine F.qn rfl (r_move rfl) (F.qn rfl (r_extract rfl rfl) (F.qn rfl (r_extract rfl rfl) (F.qn rfl (r_assign rfl) (F.qn rfl (r_assign rfl) (F.nil (Nrm.seq (Tri.seq ?_)))))))
        obtain ⟨⟨t146_1,t146_2⟩,h146,h⟩:=bind_some h
        refine Tri.reg (l:=[0,1,2,3,4,5,6]) rfl ?_
        refine F.qn rfl (r_loadA ta65 ti65 rfl rfl (fun w hw=>(box_cells (i:=1) rfl w hw))) ?_
        refine F.mn rfl (m_callF (xs:=_) rfl ok58 rfl rfl (fun w hw=>spec_LostStates.ok h146 w ((rd_sl (i:=2) rfl) w hw) ((rd_sl (i:=3) rfl) w hw) ((rd_sl (i:=4) rfl) w hw))) ?_
        rintro _ _ ⟨_,⟨v146_1,S146_1,rfl,hl_v146_1,rfl⟩,rfl⟩
        refine F.qn rfl (r_move rfl) (F.qn rfl (r_extract rfl rfl) (F.qn rfl (r_extract rfl rfl) (F.qn rfl (r_assign rfl) (F.qn rfl (r_assign rfl) (F.nil (Nrm.seq (Tri.seq (Tri.seq ?_))))))))
        obtain ⟨y169,hE_4,h⟩:=bind_some h
        refine Tri.cut (fun e' C'=>e' = [(0,va0),(3,.pointer (some ⟨b3_1,0,none⟩)),(4,v59_1),(5,.bool t59_2),(8,.int .i64 t78_1),(12,.int .i64 t101_1),(14,.bool t101_3),(18,v141_1),(20,v146_1),(169,.bool y169)]∧C' = Sep w noM [R.box b3_1 65 [.int .i64 t56_1,v56_1,v56_2,v56_3],R.sl S141_1 v141_1 (t141_1 : List (Int × Int)),R.sl S146_1 v146_1 (t146_1 : List (Int × Int)),R.sl S56_1 v56_1 (t56_2 : List (Int × Int × Int)),R.sl S56_2 v56_2 (t56_3 : List (Int)),R.sl S56_3 v56_3 (t56_4 : List (Int)),R.sl S59_1 v59_1 (t59_1 : List (Int))]) ?_ (fun hj_4=>?_)
        ·rintro _ _ ⟨rfl,rfl⟩
         refine Nrm.seq (Tri.cond (b:=y169) rfl (fun g_5=>?_) (fun g_5=>?_))
         ·replace h:=if_tt g_5 h
          refine Tri.seq (Tri.reg (l:=[0]) rfl ?_)
          refine F.qn rfl (r_assign rfl) (F.nil (Nrm.seq (Tri.ret ?_)))
          refine Rtn.then ?_
          cases h
          exact Rtn.body (.tmp rfl .nil) (fun w hw=>⟨rfl,hw.ext⟩)
         ·replace h:=if_ff g_5 h
          refine Tri.skip (Nrm.seq (Tri.seq (Tri.seq (Tri.reg (l:=[0]) rfl ?_))))
          refine F.qn rfl (r_assign rfl) (F.nil (Nrm.seq ?_))
          obtain ⟨s0,hE_5,h⟩:=bind_some h
          refine Tri.block ?_
          refine Tri.only [0,3,4,5,8,12,14,18,20,22] rfl ?_
          refine Tri.pick [0,1,2,3,4,5,6] rfl rfl ?_
          refine Tri.rounds (fun n e' C'=>∃ (x22' : Int),laws_FnTraps.l0 k t56_1 t56_2 t56_3 t56_4 t141_1 t146_1 n x22' = some s0∧e' = [(0,va0),(3,.pointer (some ⟨b3_1,0,none⟩)),(4,v59_1),(5,.bool t59_2),(8,.int .i64 t78_1),(12,.int .i64 t101_1),(14,.bool t101_3),(18,v141_1),(20,v146_1),(22,.int .i64 x22')]∧C' = Sep w noM [R.box b3_1 65 [.int .i64 t56_1,v56_1,v56_2,v56_3],R.sl S141_1 v141_1 (t141_1 : List (Int × Int)),R.sl S146_1 v146_1 (t146_1 : List (Int × Int)),R.sl S56_1 v56_1 (t56_2 : List (Int × Int × Int)),R.sl S56_2 v56_2 (t56_3 : List (Int)),R.sl S56_3 v56_3 (t56_4 : List (Int)),R.sl S59_1 v59_1 (t59_1 : List (Int))]) k ?_ ?_ ?_
          ·exact ⟨0,hE_5,rfl,rfl⟩
          ·rintro _ _ ⟨_,hE_5,_⟩
           rw [laws_FnTraps.l0.eq_1] at hE_5; cases hE_5
          ·rintro n_1 _ _ ⟨x22,hE_5,rfl,rfl⟩ ih_1
           rw [laws_FnTraps.l0.eq_2] at hE_5
           refine Tri.seq (Tri.seq (Tri.reg (l:=[0,1,2,3]) rfl ?_))
           refine F.qn rfl (r_move rfl) (F.qn rfl (r_move rfl) (F.qn rfl (r_len Tryz.underlying72 rfl hl_v141_1) (F.qn rfl (r_lss rfl rfl) (F.nil (Nrm.seq (Tri.cond (b:=decide (x22 < (t141_1.length : Int))) rfl (fun g_6=>?_) (fun g_6=>?_)))))))
           ·replace hE_5:=if_tt g_6 hE_5
            refine Tri.skip (Nrm.seq (Tri.seq (Tri.block ?_)))
            refine Tri.seq (Tri.seq ?_)
            obtain ⟨t178,h178,hE_5⟩:=bind_some hE_5
            obtain ⟨t182,h182,hE_5⟩:=bind_some hE_5
            refine Tri.drawA mixedT Sep.up [(0,true),(1,true),(2,true),(3,true),(4,true),(5,true),(6,true),(7,true),(8,true)] [] (by kernel_rfl) ?_
            refine S.qn rfl (r_move rfl) (S.qn rfl (r_move rfl) (S.qn rfl (r_indexAddrS Tryz.underlying72 ti75 rfl hl_v141_1 rfl (rdl_some h178).1 (rdl_some h178).2.1) ?_))
            refine S.qn rfl (r_loadA ta75 ti75 rfl rfl (fun w hw=>(Rd.flat ((rd_sl (i:=1) rfl) w hw) (rdl_some h178).2.2))) (S.qn rfl (r_move rfl) (S.qn rfl (r_move rfl) (S.qn rfl (r_indexAddrS Tryz.underlying72 ti75 rfl hl_v146_1 rfl (rdl_some h182).1 (rdl_some h182).2.1) (S.qn rfl (r_loadA ta75 ti75 rfl rfl (fun w hw=>(Rd.flat ((rd_sl (i:=2) rfl) w hw) (rdl_some h182).2.2))) (S.qn rfl (r_neqA2 Tryz.underlying75 Tryz.underlying3 ti3 ta3 rfl rfl eg75) (S.nil (F.nil (Nrm.seq (Tri.cond (b:=!decide ((t178.1,t178.2) = (t182.1,t182.2))) rfl (fun g_7=>?_) (fun g_7=>?_))))))))))
            ·replace hE_5:=if_tt g_7 hE_5
             refine Tri.seq (Tri.reg (l:=[0]) rfl ?_)
             refine F.qn rfl (r_assign rfl) (F.nil (Nrm.seq (Tri.ret ?_)))
             refine Rtn.then ?_
             refine Rtn.block ?_
             refine Rtn.then ?_
             refine Rtn.then ?_
             refine Rtn.block ?_
             refine Rtn.then ?_
             cases hE_5
             replace h:=Lr_inr h
             cases h
             exact Rtn.body (.tmp rfl .nil) (fun w hw=>⟨rfl,hw.ext⟩)
            ·replace hE_5:=if_ff g_7 hE_5
             refine Tri.skip (Nrm.seq (Tri.seq ?_))
             obtain ⟨t189,h189,hE_5⟩:=bind_some hE_5
             obtain ⟨t194,h194,hE_5⟩:=bind_some hE_5
             obtain ⟨⟨t197_1,t197_2⟩,h197,hE_5⟩:=bind_some hE_5
             refine Tri.drawA mixedT Sep.up [(0,true),(1,true),(2,true),(3,true),(4,true),(5,true),(6,true),(7,true),(8,true),(9,true),(10,true),(11,true),(12,true),(13,true),(14,true),(15,true),(16,true)] [] (by kernel_rfl) ?_
             refine S.qn rfl (r_loadA ta65 ti65 rfl rfl (fun w hw=>(box_cells (i:=0) rfl w hw))) (S.qn rfl (r_move rfl) (S.qn rfl (r_move rfl) (S.qn rfl (r_indexAddrS Tryz.underlying72 ti75 rfl hl_v141_1 rfl (rdl_some h189).1 (rdl_some h189).2.1) (S.qn rfl (r_indexAddrA Tryz.underlying75 ti3 rfl rfl (by decide) (by decide)) ?_))))
             refine S.qn rfl (r_load ta3 rfl (fun w hw=>cell_1 (Rd.flat ((rd_sl (i:=1) rfl) w hw) (rdl_some h189).2.2) rfl)) (S.qn rfl (r_move rfl) (S.qn rfl (r_move rfl) (S.qn rfl (r_indexAddrS Tryz.underlying72 ti75 rfl hl_v141_1 rfl (rdl_some h194).1 (rdl_some h194).2.1) (S.qn rfl (r_indexAddrA Tryz.underlying75 ti3 rfl rfl (by decide) (by decide)) (S.qn rfl (r_load ta3 rfl (fun w hw=>cell_1 (Rd.flat ((rd_sl (i:=1) rfl) w hw) (rdl_some h194).2.2) rfl)) ?_)))))
             refine S.qcn rfl (q_callF (xs:=_) rfl ok59 rfl rfl (fun w hw=>impl_IsGood.ok h197 w ((rd_sl (i:=3) rfl) w hw) ((rd_sl (i:=4) rfl) w hw) ((rd_sl (i:=5) rfl) w hw))) ?_
             refine S.qn rfl (r_move rfl) (S.qn rfl (r_extract rfl rfl) (S.qn rfl (r_extract rfl rfl) (S.qn rfl (r_assign rfl) (S.qn rfl (r_assign rfl) (S.nil (F.nil (Nrm.seq (Tri.seq ?_))))))))
             obtain ⟨y204,hE_6,hE_5⟩:=bind_some hE_5
             refine Tri.cut (fun e' C'=>e' = [(0,va0),(3,.pointer (some ⟨b3_1,0,none⟩)),(4,v59_1),(5,.bool t59_2),(8,.int .i64 t78_1),(12,.int .i64 t101_1),(14,.bool t101_3),(18,v141_1),(20,v146_1),(22,.int .i64 x22),(204,.bool y204)]∧C' = Sep w noM [R.box b3_1 65 [.int .i64 t56_1,v56_1,v56_2,v56_3],R.sl S141_1 v141_1 (t141_1 : List (Int × Int)),R.sl S146_1 v146_1 (t146_1 : List (Int × Int)),R.sl S56_1 v56_1 (t56_2 : List (Int × Int × Int)),R.sl S56_2 v56_2 (t56_3 : List (Int)),R.sl S56_3 v56_3 (t56_4 : List (Int)),R.sl S59_1 v59_1 (t59_1 : List (Int))]) ?_ (fun hj_5=>?_)
             ·rintro _ _ ⟨rfl,rfl⟩
              refine Nrm.seq (Tri.cond (b:=y204) rfl (fun g_8=>?_) (fun g_8=>?_))
              ·replace hE_5:=if_tt g_8 hE_5
               refine Tri.seq (Tri.reg (l:=[0]) rfl ?_)
               refine F.qn rfl (r_assign rfl) (F.nil (Nrm.seq (Tri.ret ?_)))
               refine Rtn.block ?_
               refine Rtn.then ?_
               refine Rtn.then ?_
               refine Rtn.block ?_
               refine Rtn.then ?_
               cases hE_5
               replace h:=Lr_inr h
               cases h
               exact Rtn.body (.tmp rfl .nil) (fun w hw=>⟨rfl,hw.ext⟩)
              ·replace hE_5:=if_ff g_8 hE_5
               refine Tri.skip (Nrm.block ?_)
               refine Nrm.seq (Tri.reg (l:=[0,1,2]) rfl ?_)
               refine F.qn rfl (r_move rfl) (F.qn rfl (r_add rfl rfl) (F.qn rfl (r_assign rfl) (F.nil (Nrm.round ?_))))
               refine Rnd.only [0,3,4,5,8,12,14,18,20,22] rfl ?_
               refine Rnd.pick [0,1,2,3,4,5,6] rfl rfl ?_
               exact ih_1 _ _ ⟨w64 (x22 + 1),hE_5,rfl,rfl⟩
             ·rcases Bool.eq_false_or_eq_true (!t197_2) with g202 | g202
              ·replace hE_6:=if_tt g202 hE_6
               refine Tri.reg (l:=[0,1,2,3,4]) rfl ?_
               refine F.qn rfl (r_move rfl) (F.qn rfl (r_not rfl) (F.qn rfl (r_move rfl) (F.skf rfl g202 (F.qn rfl (r_pick rfl rfl g202) (F.nil ?_)))))
               cases hE_6
               refine Nrm.only [0,3,4,5,8,12,14,18,20,22,204] rfl ?_
               refine Nrm.pick [0,1,2,3,4,5,6] rfl rfl ?_
               exact hj_5 _ _ ⟨rfl,rfl⟩
              ·replace hE_6:=if_ff g202 hE_6
               refine Tri.reg (l:=[0,1,2,3,4]) rfl ?_
               refine F.qn rfl (r_move rfl) (F.qn rfl (r_not rfl) (F.qn rfl (r_move rfl) (F.qg rfl g202 (r_move rfl) (F.qn rfl (r_pickf rfl rfl g202) (F.nil ?_)))))
               cases hE_6
               refine Nrm.only [0,3,4,5,8,12,14,18,20,22,204] rfl ?_
               refine Nrm.pick [0,1,2,3,4,5,6] rfl rfl ?_
               exact hj_5 _ _ ⟨rfl,rfl⟩
           ·replace hE_5:=if_ff g_6 hE_5
            refine Tri.exit ?_
            refine Exi.then ?_
            refine Exi.then ?_
            refine Exi.same ?_
            cases hE_5
            replace h:=Lr_inl h
            refine Nrm.seq (Tri.seq ?_)
            obtain ⟨⟨t207_1,t207_2⟩,h207,h⟩:=bind_some h
            refine Tri.reg (l:=[0,1,2,3,4,5,6]) rfl ?_
            refine F.qn rfl (r_loadA ta65 ti65 rfl rfl (fun w hw=>(box_cells (i:=0) rfl w hw))) ?_
            refine F.qcn rfl (q_callF (xs:=_) rfl ok60 rfl rfl (fun w hw=>impl_FewestToWin.ok h207 w ((rd_sl (i:=3) rfl) w hw) ((rd_sl (i:=4) rfl) w hw) ((rd_sl (i:=5) rfl) w hw))) ?_
            refine F.qn rfl (r_move rfl) (F.qn rfl (r_extract rfl rfl) (F.qn rfl (r_extract rfl rfl) (F.qn rfl (r_assign rfl) (F.qn rfl (r_assign rfl) (F.nil (Nrm.seq (Tri.seq (Tri.seq ?_))))))))
            obtain ⟨⟨t212_1,t212_2⟩,h212,h⟩:=bind_some h
            refine Tri.reg (l:=[0,1,2,3,4,5,6]) rfl ?_
            refine F.qn rfl (r_loadA ta65 ti65 rfl rfl (fun w hw=>(box_cells (i:=0) rfl w hw))) ?_
            refine F.qcn rfl (q_callF (xs:=_) rfl ok61 rfl rfl (fun w hw=>spec_FewestToWin.ok h212 w ((rd_sl (i:=3) rfl) w hw) ((rd_sl (i:=4) rfl) w hw) ((rd_sl (i:=5) rfl) w hw))) ?_
            refine F.qn rfl (r_move rfl) (F.qn rfl (r_extract rfl rfl) (F.qn rfl (r_extract rfl rfl) (F.qn rfl (r_assign rfl) (F.qn rfl (r_assign rfl) (F.nil (Nrm.seq (Tri.seq ?_)))))))
            obtain ⟨y222,hE_7,h⟩:=bind_some h
            refine Tri.cut (fun e' C'=>e' = [(0,va0),(3,.pointer (some ⟨b3_1,0,none⟩)),(4,v59_1),(5,.bool t59_2),(8,.int .i64 t78_1),(12,.int .i64 t101_1),(14,.bool t101_3),(18,v141_1),(25,.int .i64 t207_1),(26,.bool t207_2),(222,.bool y222)]∧C' = Sep w noM [R.box b3_1 65 [.int .i64 t56_1,v56_1,v56_2,v56_3],R.sl S141_1 v141_1 (t141_1 : List (Int × Int)),R.sl S56_1 v56_1 (t56_2 : List (Int × Int × Int)),R.sl S56_2 v56_2 (t56_3 : List (Int)),R.sl S56_3 v56_3 (t56_4 : List (Int)),R.sl S59_1 v59_1 (t59_1 : List (Int))]) ?_ (fun hj_6=>?_)
            ·rintro _ _ ⟨rfl,rfl⟩
             refine Nrm.seq (Tri.cond (b:=y222) rfl (fun g_9=>?_) (fun g_9=>?_))
             ·replace h:=if_tt g_9 h
              refine Tri.seq (Tri.reg (l:=[0]) rfl ?_)
              refine F.qn rfl (r_assign rfl) (F.nil (Nrm.seq (Tri.ret ?_)))
              refine Rtn.then ?_
              cases h
              exact Rtn.body (.tmp rfl .nil) (fun w hw=>⟨rfl,hw.ext⟩)
             ·replace h:=if_ff g_9 h
              refine Tri.skip (Nrm.seq (Tri.seq ?_))
              obtain ⟨⟨t225_1,t225_2,t225_3,t225_4,t225_5⟩,h225,h⟩:=bind_some h
              refine Tri.reg (l:=[0,1,2,3,4,5,6,7]) rfl ?_
              refine F.qn rfl (r_loadA ta65 ti65 rfl rfl (fun w hw=>(box_cells (i:=0) rfl w hw))) ?_
              refine F.mn rfl (m_callF (xs:=_) rfl ok62 rfl rfl (fun w hw=>impl_BothWays.ok h225 w ((rd_sl (i:=2) rfl) w hw) ((rd_sl (i:=3) rfl) w hw) ((rd_sl (i:=4) rfl) w hw))) ?_
              rintro _ _ ⟨_,⟨v225_1,S225_1,v225_2,S225_2,v225_3,S225_3,rfl,hl_v225_1,hl_v225_2,hl_v225_3,rfl⟩,rfl⟩
              refine F.qn rfl (r_move rfl) (F.qn rfl (r_extract rfl rfl) (F.qn rfl (r_extract rfl rfl) ?_))
              refine F.mn rfl (m_alloc ti65) ?_
              rintro _ _ ⟨b29_1,rfl,rfl⟩
              refine F.ef0 rfl rfl (wanted_none rfl) (d_storeG0 (i:=0) (cs2:=[.int .i64 t225_1,v225_1,v225_2,v225_3]) ti65 rfl rfl rfl rfl rfl (Nat.le_of_ble_eq_true rfl) (lf_cons rfl (lf_cons (sl_leaf hl_v225_1) (lf_cons (sl_leaf hl_v225_2) (lf_cons (sl_leaf hl_v225_3) lf_nil))))) ?_
              rintro _ _ ⟨rfl,rfl⟩
              refine F.qn rfl (r_assign rfl) (F.nil (Nrm.seq (Tri.seq (Tri.seq ?_))))
              obtain ⟨⟨t230_1,t230_2,t230_3,t230_4,t230_5⟩,h230,h⟩:=bind_some h
              refine Tri.reg (l:=[0,1,2,3,4,5,6,7]) rfl ?_
              refine F.qn rfl (r_loadA ta65 ti65 rfl rfl (fun w hw=>(box_cells (i:=4) rfl w hw))) ?_
              refine F.mn rfl (m_callF (xs:=_) rfl ok63 rfl rfl (fun w hw=>spec_BothWays.ok h230 w ((rd_sl (i:=6) rfl) w hw) ((rd_sl (i:=7) rfl) w hw) ((rd_sl (i:=8) rfl) w hw))) ?_
              rintro _ _ ⟨_,⟨v230_1,S230_1,v230_2,S230_2,v230_3,S230_3,rfl,hl_v230_1,hl_v230_2,hl_v230_3,rfl⟩,rfl⟩
              refine F.qn rfl (r_move rfl) (F.qn rfl (r_extract rfl rfl) (F.qn rfl (r_extract rfl rfl) ?_))
              refine F.mn rfl (m_alloc ti65) ?_
              rintro _ _ ⟨b31_1,rfl,rfl⟩
              refine F.ef0 rfl rfl (wanted_none rfl) (d_storeG0 (i:=0) (cs2:=[.int .i64 t230_1,v230_1,v230_2,v230_3]) ti65 rfl rfl rfl rfl rfl (Nat.le_of_ble_eq_true rfl) (lf_cons rfl (lf_cons (sl_leaf hl_v230_1) (lf_cons (sl_leaf hl_v230_2) (lf_cons (sl_leaf hl_v230_3) lf_nil))))) ?_
              rintro _ _ ⟨rfl,rfl⟩
              refine F.qn rfl (r_assign rfl) (F.nil (Nrm.seq (Tri.seq ?_)))
              obtain ⟨y246,hE_8,h⟩:=bind_some h
              refine Tri.cut (fun e' C'=>e' = [(0,va0),(3,.pointer (some ⟨b3_1,0,none⟩)),(4,v59_1),(5,.bool t59_2),(8,.int .i64 t78_1),(12,.int .i64 t101_1),(14,.bool t101_3),(18,v141_1),(25,.int .i64 t207_1),(26,.bool t207_2),(29,.pointer (some ⟨b29_1,0,none⟩)),(246,.bool y246)]∧C' = Sep w noM [R.box b29_1 65 [.int .i64 t225_1,v225_1,v225_2,v225_3],R.box b3_1 65 [.int .i64 t56_1,v56_1,v56_2,v56_3],R.sl S141_1 v141_1 (t141_1 : List (Int × Int)),R.sl S225_1 v225_1 (t225_2 : List (Int × Int × Int)),R.sl S225_2 v225_2 (t225_3 : List (Int)),R.sl S225_3 v225_3 (t225_4 : List (Int)),R.sl S56_1 v56_1 (t56_2 : List (Int × Int × Int)),R.sl S56_2 v56_2 (t56_3 : List (Int)),R.sl S56_3 v56_3 (t56_4 : List (Int)),R.sl S59_1 v59_1 (t59_1 : List (Int))]) ?_ (fun hj_7=>?_)
              ·rintro _ _ ⟨rfl,rfl⟩
               refine Nrm.seq (Tri.cond (b:=y246) rfl (fun g_10=>?_) (fun g_10=>?_))
               ·replace h:=if_tt g_10 h
                refine Tri.seq (Tri.reg (l:=[0]) rfl ?_)
                refine F.qn rfl (r_assign rfl) (F.nil (Nrm.seq (Tri.ret ?_)))
                refine Rtn.then ?_
                cases h
                exact Rtn.body (.tmp rfl .nil) (fun w hw=>⟨rfl,hw.ext⟩)
               ·replace h:=if_ff g_10 h
                refine Tri.skip (Nrm.seq (Tri.seq ?_))
                obtain ⟨⟨t249_1,t249_2,t249_3,t249_4,t249_5⟩,h249,h⟩:=bind_some h
                refine Tri.reg (l:=[0,1,2,3,4,5,6,7]) rfl ?_
                refine F.qn rfl (r_move rfl) ?_
                refine F.mn rfl (m_callF (xs:=_) rfl ok65 rfl rfl (fun w hw=>spec_DrawTurnDoor.ok h249 w ((fun _ hw=>hr_a0.sep hw) w hw))) ?_
                rintro _ _ ⟨_,⟨v249_1,S249_1,v249_2,S249_2,v249_3,S249_3,rfl,hl_v249_1,hl_v249_2,hl_v249_3,rfl⟩,rfl⟩
                refine F.qn rfl (r_move rfl) (F.qn rfl (r_extract rfl rfl) (F.qn rfl (r_extract rfl rfl) ?_))
                refine F.mn rfl (m_alloc ti65) ?_
                rintro _ _ ⟨b33_1,rfl,rfl⟩
                refine F.ef0 rfl rfl (wanted_none rfl) (d_storeG0 (i:=0) (cs2:=[.int .i64 t249_1,v249_1,v249_2,v249_3]) ti65 rfl rfl rfl rfl rfl (Nat.le_of_ble_eq_true rfl) (lf_cons rfl (lf_cons (sl_leaf hl_v249_1) (lf_cons (sl_leaf hl_v249_2) (lf_cons (sl_leaf hl_v249_3) lf_nil))))) ?_
                rintro _ _ ⟨rfl,rfl⟩
                refine F.qn rfl (r_assign rfl) (F.nil (Nrm.seq (Tri.seq ?_)))
                obtain ⟨⟨t255_1,t255_2,t255_3,t255_4,t255_5⟩,h255,h⟩:=bind_some h
                refine Tri.reg (l:=[0,1,2,3,4,5,6,7,8]) rfl ?_
                refine F.qn rfl (r_loadA ta65 ti65 rfl rfl (fun w hw=>(box_cells (i:=0) rfl w hw))) (F.qn rfl (r_move rfl) ?_)
                refine F.mn rfl (m_callF (xs:=_) rfl ok66 rfl rfl (fun w hw=>impl_TurnDoor.ok h255 w ((rd_sl (i:=1) rfl) w hw) ((rd_sl (i:=2) rfl) w hw) ((rd_sl (i:=3) rfl) w hw))) ?_
                rintro _ _ ⟨_,⟨v255_1,S255_1,v255_2,S255_2,v255_3,S255_3,rfl,hl_v255_1,hl_v255_2,hl_v255_3,rfl⟩,rfl⟩
                refine F.qn rfl (r_move rfl) (F.qn rfl (r_extract rfl rfl) (F.qn rfl (r_extract rfl rfl) ?_))
                refine F.mn rfl (m_alloc ti65) ?_
                rintro _ _ ⟨b35_1,rfl,rfl⟩
                refine F.ef0 rfl rfl (wanted_none rfl) (d_storeG0 (i:=0) (cs2:=[.int .i64 t255_1,v255_1,v255_2,v255_3]) ti65 rfl rfl rfl rfl rfl (Nat.le_of_ble_eq_true rfl) (lf_cons rfl (lf_cons (sl_leaf hl_v255_1) (lf_cons (sl_leaf hl_v255_2) (lf_cons (sl_leaf hl_v255_3) lf_nil))))) ?_
                rintro _ _ ⟨rfl,rfl⟩
                refine F.qn rfl (r_assign rfl) (F.nil (Nrm.seq (Tri.seq (Tri.seq ?_))))
                obtain ⟨⟨t261_1,t261_2,t261_3,t261_4,t261_5⟩,h261,h⟩:=bind_some h
                refine Tri.reg (l:=[0,1,2,3,4,5,6,7,8]) rfl ?_
                refine F.qn rfl (r_loadA ta65 ti65 rfl rfl (fun w hw=>(box_cells (i:=4) rfl w hw))) (F.qn rfl (r_move rfl) ?_)
                refine F.mn rfl (m_callF (xs:=_) rfl ok67 rfl rfl (fun w hw=>spec_TurnDoor.ok h261 w ((rd_sl (i:=5) rfl) w hw) ((rd_sl (i:=6) rfl) w hw) ((rd_sl (i:=7) rfl) w hw))) ?_
                rintro _ _ ⟨_,⟨v261_1,S261_1,v261_2,S261_2,v261_3,S261_3,rfl,hl_v261_1,hl_v261_2,hl_v261_3,rfl⟩,rfl⟩
                refine F.qn rfl (r_move rfl) (F.qn rfl (r_extract rfl rfl) (F.qn rfl (r_extract rfl rfl) ?_))
                refine F.mn rfl (m_alloc ti65) ?_
                rintro _ _ ⟨b37_1,rfl,rfl⟩
                refine F.ef0 rfl rfl (wanted_none rfl) (d_storeG0 (i:=0) (cs2:=[.int .i64 t261_1,v261_1,v261_2,v261_3]) ti65 rfl rfl rfl rfl rfl (Nat.le_of_ble_eq_true rfl) (lf_cons rfl (lf_cons (sl_leaf hl_v261_1) (lf_cons (sl_leaf hl_v261_2) (lf_cons (sl_leaf hl_v261_3) lf_nil))))) ?_
                rintro _ _ ⟨rfl,rfl⟩
                refine F.qn rfl (r_assign rfl) (F.nil (Nrm.seq (Tri.seq ?_)))
                obtain ⟨y272,hE_9,h⟩:=bind_some h
                refine Tri.cut (fun e' C'=>e' = [(3,.pointer (some ⟨b3_1,0,none⟩)),(4,v59_1),(5,.bool t59_2),(8,.int .i64 t78_1),(12,.int .i64 t101_1),(14,.bool t101_3),(18,v141_1),(25,.int .i64 t207_1),(26,.bool t207_2),(29,.pointer (some ⟨b29_1,0,none⟩)),(33,.pointer (some ⟨b33_1,0,none⟩)),(34,.int .i64 t249_5),(35,.pointer (some ⟨b35_1,0,none⟩)),(36,.bool t255_5),(272,.bool y272)]∧C' = Sep w noM [R.box b35_1 65 [.int .i64 t255_1,v255_1,v255_2,v255_3],R.box b33_1 65 [.int .i64 t249_1,v249_1,v249_2,v249_3],R.box b29_1 65 [.int .i64 t225_1,v225_1,v225_2,v225_3],R.box b3_1 65 [.int .i64 t56_1,v56_1,v56_2,v56_3],R.sl S141_1 v141_1 (t141_1 : List (Int × Int)),R.sl S225_1 v225_1 (t225_2 : List (Int × Int × Int)),R.sl S225_2 v225_2 (t225_3 : List (Int)),R.sl S225_3 v225_3 (t225_4 : List (Int)),R.sl S249_1 v249_1 (t249_2 : List (Int × Int × Int)),R.sl S249_2 v249_2 (t249_3 : List (Int)),R.sl S249_3 v249_3 (t249_4 : List (Int)),R.sl S255_1 v255_1 (t255_2 : List (Int × Int × Int)),R.sl S255_2 v255_2 (t255_3 : List (Int)),R.sl S255_3 v255_3 (t255_4 : List (Int)),R.sl S56_1 v56_1 (t56_2 : List (Int × Int × Int)),R.sl S56_2 v56_2 (t56_3 : List (Int)),R.sl S56_3 v56_3 (t56_4 : List (Int)),R.sl S59_1 v59_1 (t59_1 : List (Int))]) ?_ (fun hj_8=>?_)
                ·rintro _ _ ⟨rfl,rfl⟩
                 refine Nrm.seq (Tri.cond (b:=y272) rfl (fun g_11=>?_) (fun g_11=>?_))
                 ·replace h:=if_tt g_11 h
                  refine Tri.seq (Tri.reg (l:=[0]) rfl ?_)
                  refine F.qn rfl (r_assign rfl) (F.nil (Nrm.seq (Tri.ret ?_)))
                  refine Rtn.then ?_
                  cases h
                  exact Rtn.body (.tmp rfl .nil) (fun w hw=>⟨rfl,hw.ext⟩)
                 ·replace h:=if_ff g_11 h
                  refine Tri.skip (Nrm.seq (Tri.seq (Tri.seq (Tri.reg (l:=[0]) rfl ?_))))
                  refine F.qn rfl (r_move rfl) (F.nil (Nrm.seq (Tri.cond (b:=t255_5) rfl (fun g_12=>?_) (fun g_12=>?_))))
                  ·replace h:=if_tt g_12 h
                   refine Tri.seq ?_
                   obtain ⟨⟨t277_1,t277_2,t277_3,t277_4,t277_5⟩,h277,h⟩:=bind_some h
                   refine Tri.reg (l:=[0,1,2,3,4,5,6,7,8]) rfl ?_
                   refine F.qn rfl (r_loadA ta65 ti65 rfl rfl (fun w hw=>(box_cells (i:=0) rfl w hw))) (F.qn rfl (r_move rfl) ?_)
                   refine F.mn rfl (m_callF (xs:=_) rfl ok66 rfl rfl (fun w hw=>impl_TurnDoor.ok h277 w ((rd_sl (i:=11) rfl) w hw) ((rd_sl (i:=12) rfl) w hw) ((rd_sl (i:=13) rfl) w hw))) ?_
                   rintro _ _ ⟨_,⟨v277_1,S277_1,v277_2,S277_2,v277_3,S277_3,rfl,hl_v277_1,hl_v277_2,hl_v277_3,rfl⟩,rfl⟩
                   refine F.qn rfl (r_move rfl) (F.qn rfl (r_extract rfl rfl) (F.qn rfl (r_extract rfl rfl) ?_))
                   refine F.mn rfl (m_alloc ti65) ?_
                   rintro _ _ ⟨b39_1,rfl,rfl⟩
                   refine F.ef0 rfl rfl (wanted_none rfl) (d_storeG0 (i:=0) (cs2:=[.int .i64 t277_1,v277_1,v277_2,v277_3]) ti65 rfl rfl rfl rfl rfl (Nat.le_of_ble_eq_true rfl) (lf_cons rfl (lf_cons (sl_leaf hl_v277_1) (lf_cons (sl_leaf hl_v277_2) (lf_cons (sl_leaf hl_v277_3) lf_nil))))) ?_
                   rintro _ _ ⟨rfl,rfl⟩
                   refine F.qn rfl (r_assign rfl) (F.nil (Nrm.seq (Tri.seq ?_)))
                   obtain ⟨y287,hE_10,h⟩:=bind_some h
                   refine Tri.cut (fun e' C'=>e' = [(3,.pointer (some ⟨b3_1,0,none⟩)),(4,v59_1),(5,.bool t59_2),(8,.int .i64 t78_1),(12,.int .i64 t101_1),(14,.bool t101_3),(18,v141_1),(25,.int .i64 t207_1),(26,.bool t207_2),(29,.pointer (some ⟨b29_1,0,none⟩)),(287,.bool y287)]∧C' = Sep w noM [R.box b29_1 65 [.int .i64 t225_1,v225_1,v225_2,v225_3],R.box b3_1 65 [.int .i64 t56_1,v56_1,v56_2,v56_3],R.sl S141_1 v141_1 (t141_1 : List (Int × Int)),R.sl S225_1 v225_1 (t225_2 : List (Int × Int × Int)),R.sl S225_2 v225_2 (t225_3 : List (Int)),R.sl S225_3 v225_3 (t225_4 : List (Int)),R.sl S56_1 v56_1 (t56_2 : List (Int × Int × Int)),R.sl S56_2 v56_2 (t56_3 : List (Int)),R.sl S56_3 v56_3 (t56_4 : List (Int)),R.sl S59_1 v59_1 (t59_1 : List (Int))]) ?_ (fun hj_9=>?_)
                   ·rintro _ _ ⟨rfl,rfl⟩
                    refine Nrm.seq (Tri.cond (b:=y287) rfl (fun g_13=>?_) (fun g_13=>?_))
                    ·replace h:=if_tt g_13 h
                     refine Tri.seq (Tri.reg (l:=[0]) rfl ?_)
                     refine F.qn rfl (r_assign rfl) (F.nil (Nrm.seq (Tri.ret ?_)))
                     refine Rtn.then ?_
                     cases h
                     exact Rtn.body (.tmp rfl .nil) (fun w hw=>⟨rfl,hw.ext⟩)
                    ·replace h:=if_ff g_13 h
                     refine Tri.skip (Nrm.seq (Tri.seq (Tri.seq (Tri.reg (l:=[0]) rfl ?_))))
                     refine F.qn rfl (r_move rfl) (F.nil (Nrm.seq (Tri.cond (b:=t101_3) rfl (fun g_14=>?_) (fun g_14=>?_))))
                     ·replace h:=if_tt g_14 h
                      refine Tri.seq ?_
                      obtain ⟨⟨t291_1,t291_2,t291_3⟩,h291,h⟩:=bind_some h
                      refine Tri.reg (l:=[0,1,2,3,4,5,6,7,8]) rfl ?_
                      refine F.qn rfl (r_loadA ta65 ti65 rfl rfl (fun w hw=>(box_cells (i:=0) rfl w hw))) ?_
                      refine F.qcn rfl (q_callF (xs:=_) rfl ok54 rfl rfl (fun w hw=>impl_CountMet.ok h291 w ((rd_sl (i:=3) rfl) w hw) ((rd_sl (i:=4) rfl) w hw) ((rd_sl (i:=5) rfl) w hw))) ?_
                      refine F.qn rfl (r_move rfl) ?_
                      iterate 3 refine F.qn rfl (r_extract rfl rfl) ?_
                      iterate 3 refine F.qn rfl (r_assign rfl) ?_
                      refine F.nil (Nrm.seq (Tri.seq ?_))
                      obtain ⟨⟨t298_1,t298_2⟩,h298,h⟩:=bind_some h
                      refine Tri.reg (l:=[0,1,2,3,4,5,6,7]) rfl ?_
                      refine F.qn rfl (r_fieldAddr tf65_0 rfl) (F.qn rfl (r_loadA ta27 ti27 rfl rfl (fun w hw=>cells_1 (cs':=[.int .i64 t56_1,v56_1,v56_2]) (box_cells (i:=1) rfl w hw) rfl)) ?_)
                      refine F.qcn rfl (q_callF (xs:=_) rfl ok68 rfl rfl (fun w hw=>impl_FewestSteps.ok h298 w ((rd_sl (i:=6) rfl) w hw) ((rd_sl (i:=7) rfl) w hw))) ?_
                      refine F.qn rfl (r_move rfl) (F.qn rfl (r_extract rfl rfl) (F.qn rfl (r_extract rfl rfl) (F.qn rfl (r_assign rfl) (F.qn rfl (r_assign rfl) (F.nil (Nrm.seq (Tri.seq (Tri.seq ?_))))))))
                      obtain ⟨y328,hE_11,h⟩:=bind_some h
                      refine Tri.cut (fun e' C'=>e' = [(3,.pointer (some ⟨b3_1,0,none⟩)),(4,v59_1),(5,.bool t59_2),(8,.int .i64 t78_1),(18,v141_1),(26,.bool t207_2),(328,.bool y328)]∧C' = Sep w noM [R.box b3_1 65 [.int .i64 t56_1,v56_1,v56_2,v56_3],R.sl S141_1 v141_1 (t141_1 : List (Int × Int)),R.sl S56_1 v56_1 (t56_2 : List (Int × Int × Int)),R.sl S56_2 v56_2 (t56_3 : List (Int)),R.sl S56_3 v56_3 (t56_4 : List (Int)),R.sl S59_1 v59_1 (t59_1 : List (Int))]) ?_ (fun hj_10=>?_)
                      ·rintro _ _ ⟨rfl,rfl⟩
                       refine Nrm.seq (Tri.cond (b:=y328) rfl (fun g_15=>?_) (fun g_15=>?_))
                       ·replace h:=if_tt g_15 h
                        refine Tri.seq (Tri.reg (l:=[0]) rfl ?_)
                        refine F.qn rfl (r_assign rfl) (F.nil (Nrm.seq (Tri.ret ?_)))
                        refine Rtn.then ?_
                        refine Rtn.then ?_
                        cases h
                        exact Rtn.body (.tmp rfl .nil) (fun w hw=>⟨rfl,hw.ext⟩)
                       ·replace h:=if_ff g_15 h
                        refine Tri.skip (Nrm.seq (Tri.seq ?_))
                        obtain ⟨t334,h334,h⟩:=bind_some h
                        obtain ⟨⟨t336_1,t336_2⟩,h336,h⟩:=bind_some h
                        refine Tri.drawA mixedT Sep.up [(0,true),(1,true),(2,true),(3,true),(4,true),(5,true),(6,true),(7,true),(8,true),(9,true),(10,true),(11,true)] [] (by kernel_rfl) ?_
                        refine S.qn rfl (r_loadA ta65 ti65 rfl rfl (fun w hw=>(box_cells (i:=0) rfl w hw))) (S.qn rfl (r_fieldAddr tf65_0 rfl) (S.qn rfl (r_fieldAddr tf27_2 rfl) (S.qn rfl (r_load ta25 rfl (fun w hw=>cell_2 (box_cells (i:=0) rfl w hw) rfl)) (S.qn rfl (r_indexAddrS Tryz.underlying25 ti3 rfl hl_v56_2 rfl (rdl_some h334).1 (rdl_some h334).2.1) (S.qn rfl (r_load ta3 rfl (fun w hw=>cell_0 (Rd.flat ((rd_sl (i:=3) rfl) w hw) (rdl_some h334).2.2) rfl)) ?_)))))
                        refine S.qcn rfl (q_callF (xs:=_) rfl ok59 rfl rfl (fun w hw=>impl_IsGood.ok h336 w ((rd_sl (i:=2) rfl) w hw) ((rd_sl (i:=3) rfl) w hw) ((rd_sl (i:=4) rfl) w hw))) ?_
                        refine S.qn rfl (r_move rfl) (S.qn rfl (r_extract rfl rfl) (S.qn rfl (r_extract rfl rfl) (S.qn rfl (r_assign rfl) (S.qn rfl (r_assign rfl) (S.nil (F.nil (Nrm.seq (Tri.seq ?_))))))))
                        obtain ⟨y345,hE_12,h⟩:=bind_some h
                        refine Tri.cut (fun e' C'=>e' = [(3,.pointer (some ⟨b3_1,0,none⟩)),(4,v59_1),(5,.bool t59_2),(8,.int .i64 t78_1),(18,v141_1),(345,.bool y345)]∧C' = Sep w noM [R.box b3_1 65 [.int .i64 t56_1,v56_1,v56_2,v56_3],R.sl S141_1 v141_1 (t141_1 : List (Int × Int)),R.sl S56_1 v56_1 (t56_2 : List (Int × Int × Int)),R.sl S56_2 v56_2 (t56_3 : List (Int)),R.sl S56_3 v56_3 (t56_4 : List (Int)),R.sl S59_1 v59_1 (t59_1 : List (Int))]) ?_ (fun hj_11=>?_)
                        ·rintro _ _ ⟨rfl,rfl⟩
                         refine Nrm.seq (Tri.cond (b:=y345) rfl (fun g_16=>?_) (fun g_16=>?_))
                         ·replace h:=if_tt g_16 h
                          refine Tri.seq (Tri.reg (l:=[0]) rfl ?_)
                          refine F.qn rfl (r_assign rfl) (F.nil (Nrm.seq (Tri.ret ?_)))
                          refine Rtn.then ?_
                          cases h
                          exact Rtn.body (.tmp rfl .nil) (fun w hw=>⟨rfl,hw.ext⟩)
                         ·replace h:=if_ff g_16 h
                          refine Tri.skip (Nrm.seq (Tri.seq (Tri.seq (Tri.reg (l:=[0,1]) rfl ?_))))
                          refine F.qn rfl (r_move rfl) (F.qn rfl (r_not rfl) (F.nil (Nrm.seq (Tri.cond (b:=!t59_2) rfl (fun g_17=>?_) (fun g_17=>?_)))))
                          ·replace h:=if_tt g_17 h
                           refine Tri.seq (Tri.reg (l:=[0]) rfl ?_)
                           refine F.qn rfl (r_assign rfl) (F.nil (Nrm.seq (Tri.ret ?_)))
                           refine Rtn.then ?_
                           cases h
                           exact Rtn.body (.tmp rfl .nil) (fun w hw=>⟨rfl,hw.ext⟩)
                          ·replace h:=if_ff g_17 h
                           refine Tri.skip (Nrm.seq (Tri.seq ?_))
                           obtain ⟨⟨t351_1,t351_2,t351_3⟩,h351,h⟩:=bind_some h
                           refine Tri.reg (l:=[0,1,2,3,4,5,6,7,8,9]) rfl ?_
                           refine F.qn rfl (r_loadA ta65 ti65 rfl rfl (fun w hw=>(box_cells (i:=0) rfl w hw))) (F.qn rfl (r_move rfl) ?_)
                           refine F.qcn rfl (q_callF (xs:=_) rfl ok69 rfl rfl (fun w hw=>impl_StateBehind.ok h351 w ((rd_sl (i:=2) rfl) w hw) ((rd_sl (i:=3) rfl) w hw) ((rd_sl (i:=4) rfl) w hw) ((rd_sl (i:=5) rfl) w hw))) ?_
                           refine F.qn rfl (r_move rfl) ?_
                           iterate 3 refine F.qn rfl (r_extract rfl rfl) ?_
                           iterate 3 refine F.qn rfl (r_assign rfl) ?_
                           refine F.nil (Nrm.seq (Tri.seq (Tri.seq ?_)))
                           obtain ⟨y363,hE_13,h⟩:=bind_some h
                           refine Tri.cut (fun e' C'=>e' = [(18,v141_1),(48,.int .i64 t351_1),(49,.int .i64 t351_2),(363,.bool y363)]∧C' = Sep w noM [R.sl S141_1 v141_1 (t141_1 : List (Int × Int))]) ?_ (fun hj_12=>?_)
                           ·rintro _ _ ⟨rfl,rfl⟩
                            refine Nrm.seq (Tri.cond (b:=y363) rfl (fun g_18=>?_) (fun g_18=>?_))
                            ·replace h:=if_tt g_18 h
                             refine Tri.seq (Tri.reg (l:=[0]) rfl ?_)
                             refine F.qn rfl (r_assign rfl) (F.nil (Nrm.seq (Tri.ret ?_)))
                             refine Rtn.then ?_
                             cases h
                             exact Rtn.body (.tmp rfl .nil) (fun w hw=>⟨rfl,hw.ext⟩)
                            ·replace h:=if_ff g_18 h
                             refine Tri.skip (Nrm.seq (Tri.seq (Tri.reg (l:=[0]) rfl ?_)))
                             refine F.qn rfl (r_assign rfl) (F.nil (Nrm.seq (Tri.seq (Tri.seq (Tri.reg (l:=[0]) rfl ?_)))))
                             refine F.qn rfl (r_assign rfl) (F.nil (Nrm.seq ?_))
                             obtain ⟨x51,hE_14,h⟩:=bind_some h
                             refine Tri.block ?_
                             refine Tri.only [18,48,49,51,52] rfl ?_
                             refine Tri.pick [0] rfl rfl ?_
                             refine Tri.rounds (fun n e' C'=>∃ (x51' : Bool) (x52' : Int),laws_FnTraps.l1 k t141_1 t351_1 t351_2 n x51' x52' = some x51∧e' = [(18,v141_1),(48,.int .i64 t351_1),(49,.int .i64 t351_2),(51,.bool x51'),(52,.int .i64 x52')]∧C' = Sep w noM [R.sl S141_1 v141_1 (t141_1 : List (Int × Int))]) k ?_ ?_ ?_
                             ·exact ⟨false,0,hE_14,rfl,rfl⟩
                             ·rintro _ _ ⟨_,_,hE_14,_⟩
                              rw [laws_FnTraps.l1.eq_1] at hE_14; cases hE_14
                             ·rintro n_2 _ _ ⟨x51,x52,hE_14,rfl,rfl⟩ ih_2
                              rw [laws_FnTraps.l1.eq_2] at hE_14
                              refine Tri.seq (Tri.seq (Tri.reg (l:=[0,1,2,3]) rfl ?_))
                              refine F.qn rfl (r_move rfl) (F.qn rfl (r_move rfl) (F.qn rfl (r_len Tryz.underlying72 rfl hl_v141_1) (F.qn rfl (r_lss rfl rfl) (F.nil (Nrm.seq (Tri.cond (b:=decide (x52 < (t141_1.length : Int))) rfl (fun g_19=>?_) (fun g_19=>?_)))))))
                              ·replace hE_14:=if_tt g_19 hE_14
                               refine Tri.skip (Nrm.seq (Tri.seq (Tri.block ?_)))
                               obtain ⟨y51,hE_15,hE_14⟩:=bind_some hE_14
                               refine Tri.cut (fun e' C'=>e' = [(18,v141_1),(48,.int .i64 t351_1),(49,.int .i64 t351_2),(51,.bool y51),(52,.int .i64 x52)]∧C' = Sep w noM [R.sl S141_1 v141_1 (t141_1 : List (Int × Int))]) ?_ (fun hj_13=>?_)
                               ·rintro _ _ ⟨rfl,rfl⟩
                                refine Nrm.block ?_
                                refine Nrm.seq (Tri.reg (l:=[0,1,2]) rfl ?_)
                                refine F.qn rfl (r_move rfl) (F.qn rfl (r_add rfl rfl) (F.qn rfl (r_assign rfl) (F.nil (Nrm.round ?_))))
                                refine Rnd.only [18,48,49,51,52] rfl ?_
                                refine Rnd.pick [0] rfl rfl ?_
                                exact ih_2 _ _ ⟨y51,w64 (x52 + 1),hE_14,rfl,rfl⟩
                               ·rcases Bool.eq_false_or_eq_true (x51) with g371 | g371
                                ·replace hE_15:=if_tt g371 hE_15
                                 refine Tri.reg (l:=List.range 12) rfl ?_
                                 refine F.qn rfl (r_move rfl) (F.qn rfl (r_move rfl) ?_)
                                 iterate 8 refine F.skf rfl g371 ?_
                                 refine F.qn rfl (r_pick rfl rfl g371) (F.qn rfl (r_assign rfl) (F.nil ?_))
                                 cases hE_15
                                 refine Nrm.only [18,48,49,51,52] rfl ?_
                                 refine Nrm.pick [0] rfl rfl ?_
                                 exact hj_13 _ _ ⟨rfl,rfl⟩
                                ·replace hE_15:=if_ff g371 hE_15
                                 obtain ⟨t374,h374,hE_15⟩:=bind_some hE_15
                                 refine Tri.reg (l:=List.range 12) rfl ?_
                                 refine F.qn rfl (r_move rfl) (F.qn rfl (r_move rfl) (F.qg rfl g371 (r_move rfl) (F.qg rfl g371 (r_move rfl) (F.qg rfl g371 (r_indexAddrS Tryz.underlying72 ti75 rfl hl_v141_1 rfl (rdl_some h374).1 (rdl_some h374).2.1) (F.qg rfl g371 (r_loadA ta75 ti75 rfl rfl (fun w hw=>(Rd.flat ((rd_sl (i:=0) rfl) w hw) (rdl_some h374).2.2))) ?_)))))
                                 refine F.qg rfl g371 (r_move rfl) (F.qg rfl g371 (r_move rfl) (F.qg rfl g371 (r_buildA (qs:=[(0,[.int .i64 t351_1]),(1,[.int .i64 t351_2])]) (cs:=[.int .i64 t351_1,.int .i64 t351_2]) Tryz.underlying75 ti3 ti75 rfl (.cons rfl rfl (Nat.le_of_ble_eq_true rfl) (.cons rfl rfl (Nat.le_of_ble_eq_true rfl) .nil)) rfl rfl) (F.qg rfl g371 (r_eqlA2 Tryz.underlying75 Tryz.underlying3 ti3 ta3 rfl rfl eg75) (F.qn rfl (r_pickf rfl rfl g371) (F.qn rfl (r_assign rfl) (F.nil ?_))))))
                                 cases hE_15
                                 refine Nrm.only [18,48,49,51,52] rfl ?_
                                 refine Nrm.pick [0] rfl rfl ?_
                                 exact hj_13 _ _ ⟨rfl,rfl⟩
                              ·replace hE_14:=if_ff g_19 hE_14
                               refine Tri.exit ?_
                               refine Exi.then ?_
                               refine Exi.then ?_
                               refine Exi.same ?_
                               cases hE_14
                               refine Nrm.seq (Tri.seq (Tri.reg (l:=[0,1]) rfl ?_))
                               refine F.qn rfl (r_move rfl) (F.qn rfl (r_assign rfl) (F.nil (Nrm.seq (Tri.ret ?_))))
                               cases h
                               exact Rtn.body (.tmp rfl .nil) (fun w hw=>⟨rfl,hw.ext⟩)
                           ·rcases Bool.eq_false_or_eq_true (!t351_3) with g357 | g357
                            ·replace hE_13:=if_tt g357 hE_13
                             refine Tri.reg (l:=[0,1,2,3,4,5,6,7,8]) rfl ?_
                             refine F.qn rfl (r_move rfl) (F.qn rfl (r_not rfl) (F.qn rfl (r_move rfl) ?_))
                             iterate 5 refine F.skf rfl g357 ?_
                             refine F.qn rfl (r_pick rfl rfl g357) (F.nil ?_)
                             cases hE_13
                             refine Nrm.only [18,48,49,363] rfl ?_
                             refine Nrm.pick [1] rfl rfl ?_
                             exact hj_12 _ _ ⟨rfl,rfl⟩
                            ·replace hE_13:=if_ff g357 hE_13
                             refine Tri.reg (l:=[0,1,2,3,4,5,6,7,8]) rfl ?_
                             refine F.qn rfl (r_move rfl) (F.qn rfl (r_not rfl) (F.qn rfl (r_move rfl) ?_))
                             refine F.qg rfl g357 (r_move rfl) (F.qg rfl g357 (r_len Tryz.underlying25 rfl hl_v59_1) (F.qg rfl g357 (r_move rfl) (F.qg rfl g357 (r_add rfl rfl) (F.qg rfl g357 (r_neq rfl rfl) (F.qn rfl (r_pickf rfl rfl g357) (F.nil ?_))))))
                             cases hE_13
                             refine Nrm.only [18,48,49,363] rfl ?_
                             refine Nrm.pick [1] rfl rfl ?_
                             exact hj_12 _ _ ⟨rfl,rfl⟩
                        ·rcases Bool.eq_false_or_eq_true (!t336_2) with g341 | g341
                         ·replace hE_12:=if_tt g341 hE_12
                          refine Tri.reg (l:=[0,1,2,3,4,5,6]) rfl ?_
                          refine F.qn rfl (r_move rfl) (F.qn rfl (r_not rfl) (F.qn rfl (r_move rfl) ?_))
                          iterate 3 refine F.skf rfl g341 ?_
                          refine F.qn rfl (r_pick rfl rfl g341) (F.nil ?_)
                          cases hE_12
                          refine Nrm.only [3,4,5,8,18,345] rfl ?_
                          refine Nrm.pick [0,1,2,3,4,5] rfl rfl ?_
                          exact hj_11 _ _ ⟨rfl,rfl⟩
                         ·replace hE_12:=if_ff g341 hE_12
                          refine Tri.reg (l:=[0,1,2,3,4,5,6]) rfl ?_
                          refine F.qn rfl (r_move rfl) ?_
                          refine F.qn rfl (r_not rfl) (F.qn rfl (r_move rfl) (F.qg rfl g341 (r_move rfl) (F.qg rfl g341 (r_move rfl) (F.qg rfl g341 (r_neqB Tryz.underlying4 rfl rfl) (F.qn rfl (r_pickf rfl rfl g341) (F.nil ?_))))))
                          cases hE_12
                          refine Nrm.only [3,4,5,8,18,345] rfl ?_
                          refine Nrm.pick [0,1,2,3,4,5] rfl rfl ?_
                          exact hj_11 _ _ ⟨rfl,rfl⟩
                      ·rcases Bool.eq_false_or_eq_true (!t291_3) with g303 | g303
                       ·replace hE_11:=if_tt g303 hE_11
                        refine Tri.reg (l:=List.range 28) rfl ?_
                        refine F.qn rfl (r_move rfl) (F.qn rfl (r_not rfl) (F.qn rfl (r_move rfl) ?_))
                        iterate 3 refine F.skf rfl g303 ?_
                        iterate 3 refine F.sk rfl rfl rfl (wanted_undef rfl rfl rfl) ?_
                        refine F.skf rfl g303 (F.qn rfl (r_pick rfl rfl g303) (F.qn rfl (r_move rfl) (F.skf rfl rfl (F.skf rfl rfl ?_))))
                        iterate 7 refine F.sk rfl rfl rfl (wanted_undef rfl rfl rfl) ?_
                        refine F.skf rfl rfl (F.qn rfl (r_pick rfl rfl rfl) (F.qn rfl (r_move rfl) ?_))
                        iterate 3 refine F.skf rfl rfl ?_
                        refine F.qn rfl (r_pick rfl rfl rfl) (F.nil ?_)
                        cases hE_11
                        refine Nrm.only [3,4,5,8,18,26,328] rfl ?_
                        refine Nrm.pick [1,2,6,7,8,9] rfl rfl ?_
                        exact hj_10 _ _ ⟨rfl,rfl⟩
                       ·replace hE_11:=if_ff g303 hE_11
                        rcases Bool.eq_false_or_eq_true (t291_2 != 0) with g306 | g306
                        ·replace hE_11:=if_tt g306 hE_11
                         rcases Bool.eq_false_or_eq_true (t291_2 != t291_1) with g312 | g312
                         ·replace hE_11:=if_tt g312 hE_11
                          refine Tri.reg (l:=List.range 28) rfl ?_
                          refine F.qn rfl (r_move rfl) (F.qn rfl (r_not rfl) ?_)
                          refine F.qn rfl (r_move rfl) (F.qg rfl g303 (r_move rfl) (F.qg rfl g303 (r_neq rfl rfl) (F.qg rfl g303 (r_move rfl) (F.qg rfl g306 (r_move rfl) (F.qg rfl g306 (r_move rfl) ?_)))))
                          refine F.qg rfl g306 (r_neq rfl rfl) (F.qg rfl g303 (r_pick rfl rfl g306) (F.qn rfl (r_pickf rfl rfl g303) (F.qn rfl (r_move rfl) (F.skf rfl g312 (F.skf rfl g312 ?_)))))
                          iterate 7 refine F.sk rfl rfl rfl (wanted_undef rfl rfl rfl) ?_
                          refine F.skf rfl g312 (F.qn rfl (r_pick rfl rfl g312) (F.qn rfl (r_move rfl) ?_))
                          iterate 3 refine F.skf rfl rfl ?_
                          refine F.qn rfl (r_pick rfl rfl rfl) (F.nil ?_)
                          cases hE_11
                          refine Nrm.only [3,4,5,8,18,26,328] rfl ?_
                          refine Nrm.pick [1,2,6,7,8,9] rfl rfl ?_
                          exact hj_10 _ _ ⟨rfl,rfl⟩
                         ·replace hE_11:=if_ff g312 hE_11
                          rcases Bool.eq_false_or_eq_true (t207_2) with g314 | g314
                          ·replace hE_11:=if_tt g314 hE_11
                           rcases Bool.eq_false_or_eq_true (!t298_2) with g317 | g317
                           ·replace hE_11:=if_tt g317 hE_11
                            refine Tri.reg (l:=List.range 28) rfl ?_
                            refine F.qn rfl (r_move rfl) (F.qn rfl (r_not rfl) (F.qn rfl (r_move rfl) (F.qg rfl g303 (r_move rfl) (F.qg rfl g303 (r_neq rfl rfl) ?_))))
                            refine F.qg rfl g303 (r_move rfl) (F.qg rfl g306 (r_move rfl) (F.qg rfl g306 (r_move rfl) (F.qg rfl g306 (r_neq rfl rfl) (F.qg rfl g303 (r_pick rfl rfl g306) (F.qn rfl (r_pickf rfl rfl g303) ?_)))))
                            refine F.qn rfl (r_move rfl) (F.qg rfl g312 (r_move rfl) (F.qg rfl g312 (r_move rfl) (F.qg rfl g314 (r_move rfl) (F.qg rfl g314 (r_not rfl) (F.qg rfl g314 (r_move rfl) ?_)))))
                            iterate 3 refine F.skf rfl g317 ?_
                            refine F.qg rfl g314 (r_pick rfl rfl g317) (F.qg rfl g312 (r_pick rfl rfl g314) (F.qn rfl (r_pickf rfl rfl g312) (F.qn rfl (r_move rfl) ?_)))
                            iterate 3 refine F.skf rfl rfl ?_
                            refine F.qn rfl (r_pick rfl rfl rfl) (F.nil ?_)
                            cases hE_11
                            refine Nrm.only [3,4,5,8,18,26,328] rfl ?_
                            refine Nrm.pick [1,2,6,7,8,9] rfl rfl ?_
                            exact hj_10 _ _ ⟨rfl,rfl⟩
                           ·replace hE_11:=if_ff g317 hE_11
                            rcases Bool.eq_false_or_eq_true (decide (t207_1 < t298_1)) with g324 | g324
                            ·replace hE_11:=if_tt g324 hE_11
                             refine Tri.reg (l:=List.range 28) rfl ?_
                             refine F.qn rfl (r_move rfl) (F.qn rfl (r_not rfl) (F.qn rfl (r_move rfl) (F.qg rfl g303 (r_move rfl) (F.qg rfl g303 (r_neq rfl rfl) (F.qg rfl g303 (r_move rfl) ?_)))))
                             refine F.qg rfl g306 (r_move rfl) (F.qg rfl g306 (r_move rfl) (F.qg rfl g306 (r_neq rfl rfl) (F.qg rfl g303 (r_pick rfl rfl g306) (F.qn rfl (r_pickf rfl rfl g303) (F.qn rfl (r_move rfl) ?_)))))
                             refine F.qg rfl g312 (r_move rfl) (F.qg rfl g312 (r_move rfl) (F.qg rfl g314 (r_move rfl) (F.qg rfl g314 (r_not rfl) (F.qg rfl g314 (r_move rfl) (F.qg rfl g317 (r_move rfl) ?_)))))
                             refine F.qg rfl g317 (r_move rfl) (F.qg rfl g317 (r_lss rfl rfl) (F.qg rfl g314 (r_pickf rfl rfl g317) (F.qg rfl g312 (r_pick rfl rfl g314) (F.qn rfl (r_pickf rfl rfl g312) (F.qn rfl (r_move rfl) ?_)))))
                             iterate 3 refine F.skf rfl g324 ?_
                             refine F.qn rfl (r_pick rfl rfl g324) (F.nil ?_)
                             cases hE_11
                             refine Nrm.only [3,4,5,8,18,26,328] rfl ?_
                             refine Nrm.pick [1,2,6,7,8,9] rfl rfl ?_
                             exact hj_10 _ _ ⟨rfl,rfl⟩
                            ·replace hE_11:=if_ff g324 hE_11
                             refine Tri.reg (l:=List.range 28) rfl ?_
                             refine F.qn rfl (r_move rfl) (F.qn rfl (r_not rfl) (F.qn rfl (r_move rfl) (F.qg rfl g303 (r_move rfl) ?_)))
                             refine F.qg rfl g303 (r_neq rfl rfl) (F.qg rfl g303 (r_move rfl) (F.qg rfl g306 (r_move rfl) (F.qg rfl g306 (r_move rfl) (F.qg rfl g306 (r_neq rfl rfl) (F.qg rfl g303 (r_pick rfl rfl g306) ?_)))))
                             refine F.qn rfl (r_pickf rfl rfl g303) (F.qn rfl (r_move rfl) (F.qg rfl g312 (r_move rfl) (F.qg rfl g312 (r_move rfl) (F.qg rfl g314 (r_move rfl) (F.qg rfl g314 (r_not rfl) ?_)))))
                             refine F.qg rfl g314 (r_move rfl) (F.qg rfl g317 (r_move rfl) (F.qg rfl g317 (r_move rfl) (F.qg rfl g317 (r_lss rfl rfl) (F.qg rfl g314 (r_pickf rfl rfl g317) (F.qg rfl g312 (r_pick rfl rfl g314) ?_)))))
                             refine F.qn rfl (r_pickf rfl rfl g312) (F.qn rfl (r_move rfl) (F.qg rfl g324 (r_move rfl) (F.qg rfl g324 (r_move rfl) (F.qg rfl g324 (r_gtr rfl rfl) (F.qn rfl (r_pickf rfl rfl g324) (F.nil ?_))))))
                             cases hE_11
                             refine Nrm.only [3,4,5,8,18,26,328] rfl ?_
                             refine Nrm.pick [1,2,6,7,8,9] rfl rfl ?_
                             exact hj_10 _ _ ⟨rfl,rfl⟩
                          ·replace hE_11:=if_ff g314 hE_11
                           refine Tri.reg (l:=List.range 28) rfl ?_
                           refine F.qn rfl (r_move rfl) (F.qn rfl (r_not rfl) ?_)
                           refine F.qn rfl (r_move rfl) (F.qg rfl g303 (r_move rfl) (F.qg rfl g303 (r_neq rfl rfl) (F.qg rfl g303 (r_move rfl) (F.qg rfl g306 (r_move rfl) (F.qg rfl g306 (r_move rfl) ?_)))))
                           refine F.qg rfl g306 (r_neq rfl rfl) (F.qg rfl g303 (r_pick rfl rfl g306) (F.qn rfl (r_pickf rfl rfl g303) (F.qn rfl (r_move rfl) (F.qg rfl g312 (r_move rfl) (F.qg rfl g312 (r_move rfl) ?_)))))
                           iterate 3 refine F.skf rfl g314 ?_
                           iterate 3 refine F.sk rfl rfl rfl (wanted_undef rfl rfl rfl) ?_
                           refine F.skf rfl g314 (F.qg rfl g312 (r_pickf rfl rfl g314) ?_)
                           refine F.qn rfl (r_pickf rfl rfl g312) (F.qn rfl (r_move rfl) (F.qg rfl rfl (r_move rfl) (F.qg rfl rfl (r_move rfl) (F.qg rfl rfl (r_gtr rfl rfl) (F.qn rfl (r_pickf rfl rfl rfl) (F.nil ?_))))))
                           cases hE_11
                           refine Nrm.only [3,4,5,8,18,26,328] rfl ?_
                           refine Nrm.pick [1,2,6,7,8,9] rfl rfl ?_
                           exact hj_10 _ _ ⟨rfl,rfl⟩
                        ·replace hE_11:=if_ff g306 hE_11
                         rcases Bool.eq_false_or_eq_true (t207_2) with g314 | g314
                         ·replace hE_11:=if_tt g314 hE_11
                          rcases Bool.eq_false_or_eq_true (!t298_2) with g317 | g317
                          ·replace hE_11:=if_tt g317 hE_11
                           refine Tri.reg (l:=List.range 28) rfl ?_
                           refine F.qn rfl (r_move rfl) (F.qn rfl (r_not rfl) (F.qn rfl (r_move rfl) (F.qg rfl g303 (r_move rfl) (F.qg rfl g303 (r_neq rfl rfl) (F.qg rfl g303 (r_move rfl) ?_)))))
                           iterate 3 refine F.skf rfl g306 ?_
                           refine F.qg rfl g303 (r_pickf rfl rfl g306) (F.qn rfl (r_pickf rfl rfl g303) ?_)
                           refine F.qn rfl (r_move rfl) (F.qg rfl rfl (r_move rfl) (F.qg rfl rfl (r_move rfl) (F.qg rfl g314 (r_move rfl) (F.qg rfl g314 (r_not rfl) (F.qg rfl g314 (r_move rfl) ?_)))))
                           iterate 3 refine F.skf rfl g317 ?_
                           refine F.qg rfl g314 (r_pick rfl rfl g317) (F.qg rfl rfl (r_pick rfl rfl g314) (F.qn rfl (r_pickf rfl rfl rfl) (F.qn rfl (r_move rfl) ?_)))
                           iterate 3 refine F.skf rfl rfl ?_
                           refine F.qn rfl (r_pick rfl rfl rfl) (F.nil ?_)
                           cases hE_11
                           refine Nrm.only [3,4,5,8,18,26,328] rfl ?_
                           refine Nrm.pick [1,2,6,7,8,9] rfl rfl ?_
                           exact hj_10 _ _ ⟨rfl,rfl⟩
                          ·replace hE_11:=if_ff g317 hE_11
                           rcases Bool.eq_false_or_eq_true (decide (t207_1 < t298_1)) with g324 | g324
                           ·replace hE_11:=if_tt g324 hE_11
                            refine Tri.reg (l:=List.range 28) rfl ?_
                            refine F.qn rfl (r_move rfl) (F.qn rfl (r_not rfl) (F.qn rfl (r_move rfl) (F.qg rfl g303 (r_move rfl) (F.qg rfl g303 (r_neq rfl rfl) (F.qg rfl g303 (r_move rfl) ?_)))))
                            iterate 3 refine F.skf rfl g306 ?_
                            refine F.qg rfl g303 (r_pickf rfl rfl g306) (F.qn rfl (r_pickf rfl rfl g303) (F.qn rfl (r_move rfl) ?_))
                            refine F.qg rfl rfl (r_move rfl) (F.qg rfl rfl (r_move rfl) (F.qg rfl g314 (r_move rfl) (F.qg rfl g314 (r_not rfl) (F.qg rfl g314 (r_move rfl) (F.qg rfl g317 (r_move rfl) ?_)))))
                            refine F.qg rfl g317 (r_move rfl) (F.qg rfl g317 (r_lss rfl rfl) (F.qg rfl g314 (r_pickf rfl rfl g317) (F.qg rfl rfl (r_pick rfl rfl g314) (F.qn rfl (r_pickf rfl rfl rfl) (F.qn rfl (r_move rfl) ?_)))))
                            iterate 3 refine F.skf rfl g324 ?_
                            refine F.qn rfl (r_pick rfl rfl g324) (F.nil ?_)
                            cases hE_11
                            refine Nrm.only [3,4,5,8,18,26,328] rfl ?_
                            refine Nrm.pick [1,2,6,7,8,9] rfl rfl ?_
                            exact hj_10 _ _ ⟨rfl,rfl⟩
                           ·replace hE_11:=if_ff g324 hE_11
                            refine Tri.reg (l:=List.range 28) rfl ?_
                            refine F.qn rfl (r_move rfl) (F.qn rfl (r_not rfl) (F.qn rfl (r_move rfl) (F.qg rfl g303 (r_move rfl) (F.qg rfl g303 (r_neq rfl rfl) (F.qg rfl g303 (r_move rfl) ?_)))))
                            iterate 3 refine F.skf rfl g306 ?_
                            refine F.qg rfl g303 (r_pickf rfl rfl g306) ?_
                            refine F.qn rfl (r_pickf rfl rfl g303) (F.qn rfl (r_move rfl) (F.qg rfl rfl (r_move rfl) (F.qg rfl rfl (r_move rfl) (F.qg rfl g314 (r_move rfl) (F.qg rfl g314 (r_not rfl) ?_)))))
                            refine F.qg rfl g314 (r_move rfl) (F.qg rfl g317 (r_move rfl) (F.qg rfl g317 (r_move rfl) (F.qg rfl g317 (r_lss rfl rfl) (F.qg rfl g314 (r_pickf rfl rfl g317) (F.qg rfl rfl (r_pick rfl rfl g314) ?_)))))
                            refine F.qn rfl (r_pickf rfl rfl rfl) (F.qn rfl (r_move rfl) (F.qg rfl g324 (r_move rfl) (F.qg rfl g324 (r_move rfl) (F.qg rfl g324 (r_gtr rfl rfl) (F.qn rfl (r_pickf rfl rfl g324) (F.nil ?_))))))
                            cases hE_11
                            refine Nrm.only [3,4,5,8,18,26,328] rfl ?_
                            refine Nrm.pick [1,2,6,7,8,9] rfl rfl ?_
                            exact hj_10 _ _ ⟨rfl,rfl⟩
                         ·replace hE_11:=if_ff g314 hE_11
                          refine Tri.reg (l:=List.range 28) rfl ?_
                          refine F.qn rfl (r_move rfl) (F.qn rfl (r_not rfl) (F.qn rfl (r_move rfl) (F.qg rfl g303 (r_move rfl) (F.qg rfl g303 (r_neq rfl rfl) (F.qg rfl g303 (r_move rfl) ?_)))))
                          iterate 3 refine F.skf rfl g306 ?_
                          refine F.qg rfl g303 (r_pickf rfl rfl g306) (F.qn rfl (r_pickf rfl rfl g303) (F.qn rfl (r_move rfl) (F.qg rfl rfl (r_move rfl) (F.qg rfl rfl (r_move rfl) ?_))))
                          iterate 3 refine F.skf rfl g314 ?_
                          iterate 3 refine F.sk rfl rfl rfl (wanted_undef rfl rfl rfl) ?_
                          refine F.skf rfl g314 (F.qg rfl rfl (r_pickf rfl rfl g314) ?_)
                          refine F.qn rfl (r_pickf rfl rfl rfl) (F.qn rfl (r_move rfl) (F.qg rfl rfl (r_move rfl) (F.qg rfl rfl (r_move rfl) (F.qg rfl rfl (r_gtr rfl rfl) (F.qn rfl (r_pickf rfl rfl rfl) (F.nil ?_))))))
                          cases hE_11
                          refine Nrm.only [3,4,5,8,18,26,328] rfl ?_
                          refine Nrm.pick [1,2,6,7,8,9] rfl rfl ?_
                          exact hj_10 _ _ ⟨rfl,rfl⟩
                     ·replace h:=if_ff g_14 h
                      refine Tri.skip (Nrm.seq (Tri.seq (Tri.seq (Tri.reg (l:=[0,1]) rfl ?_))))
                      refine F.qn rfl (r_move rfl) (F.qn rfl (r_not rfl) (F.nil (Nrm.seq (Tri.cond (b:=!t59_2) rfl (fun g_20=>?_) (fun g_20=>?_)))))
                      ·replace h:=if_tt g_20 h
                       refine Tri.seq (Tri.reg (l:=[0]) rfl ?_)
                       refine F.qn rfl (r_assign rfl) (F.nil (Nrm.seq (Tri.ret ?_)))
                       refine Rtn.then ?_
                       cases h
                       exact Rtn.body (.tmp rfl .nil) (fun w hw=>⟨rfl,hw.ext⟩)
                      ·replace h:=if_ff g_20 h
                       refine Tri.skip (Nrm.seq (Tri.seq ?_))
                       obtain ⟨⟨t351_1,t351_2,t351_3⟩,h351,h⟩:=bind_some h
                       refine Tri.reg (l:=[0,1,2,3,4,5,6,7,8,9]) rfl ?_
                       refine F.qn rfl (r_loadA ta65 ti65 rfl rfl (fun w hw=>(box_cells (i:=1) rfl w hw))) (F.qn rfl (r_move rfl) ?_)
                       refine F.qcn rfl (q_callF (xs:=_) rfl ok69 rfl rfl (fun w hw=>impl_StateBehind.ok h351 w ((rd_sl (i:=6) rfl) w hw) ((rd_sl (i:=7) rfl) w hw) ((rd_sl (i:=8) rfl) w hw) ((rd_sl (i:=9) rfl) w hw))) ?_
                       refine F.qn rfl (r_move rfl) ?_
                       iterate 3 refine F.qn rfl (r_extract rfl rfl) ?_
                       iterate 3 refine F.qn rfl (r_assign rfl) ?_
                       refine F.nil (Nrm.seq (Tri.seq (Tri.seq ?_)))
                       obtain ⟨y363r,hE_16,h⟩:=bind_some h
                       refine Tri.cut (fun e' C'=>e' = [(18,v141_1),(48,.int .i64 t351_1),(49,.int .i64 t351_2),(363,.bool y363r)]∧C' = Sep w noM [R.sl S141_1 v141_1 (t141_1 : List (Int × Int))]) ?_ (fun hj_14=>?_)
                       ·rintro _ _ ⟨rfl,rfl⟩
                        refine Nrm.seq (Tri.cond (b:=y363r) rfl (fun g_21=>?_) (fun g_21=>?_))
                        ·replace h:=if_tt g_21 h
                         refine Tri.seq (Tri.reg (l:=[0]) rfl ?_)
                         refine F.qn rfl (r_assign rfl) (F.nil (Nrm.seq (Tri.ret ?_)))
                         refine Rtn.then ?_
                         cases h
                         exact Rtn.body (.tmp rfl .nil) (fun w hw=>⟨rfl,hw.ext⟩)
                        ·replace h:=if_ff g_21 h
                         refine Tri.skip (Nrm.seq (Tri.seq (Tri.reg (l:=[0]) rfl ?_)))
                         refine F.qn rfl (r_assign rfl) (F.nil (Nrm.seq (Tri.seq (Tri.seq (Tri.reg (l:=[0]) rfl ?_)))))
                         refine F.qn rfl (r_assign rfl) (F.nil (Nrm.seq ?_))
                         obtain ⟨x51r,hE_17,h⟩:=bind_some h
                         refine Tri.block ?_
                         refine Tri.only [18,48,49,51,52] rfl ?_
                         refine Tri.pick [0] rfl rfl ?_
                         refine Tri.rounds (fun n e' C'=>∃ (x51r' : Bool) (x52r' : Int),laws_FnTraps.l2 k t141_1 t351_1 t351_2 n x51r' x52r' = some x51r∧e' = [(18,v141_1),(48,.int .i64 t351_1),(49,.int .i64 t351_2),(51,.bool x51r'),(52,.int .i64 x52r')]∧C' = Sep w noM [R.sl S141_1 v141_1 (t141_1 : List (Int × Int))]) k ?_ ?_ ?_
                         ·exact ⟨false,0,hE_17,rfl,rfl⟩
                         ·rintro _ _ ⟨_,_,hE_17,_⟩
                          rw [laws_FnTraps.l2.eq_1] at hE_17; cases hE_17
                         ·rintro n_3 _ _ ⟨x51r,x52r,hE_17,rfl,rfl⟩ ih_3
                          rw [laws_FnTraps.l2.eq_2] at hE_17
                          refine Tri.seq (Tri.seq (Tri.reg (l:=[0,1,2,3]) rfl ?_))
                          refine F.qn rfl (r_move rfl) (F.qn rfl (r_move rfl) (F.qn rfl (r_len Tryz.underlying72 rfl hl_v141_1) (F.qn rfl (r_lss rfl rfl) (F.nil (Nrm.seq (Tri.cond (b:=decide (x52r < (t141_1.length : Int))) rfl (fun g_22=>?_) (fun g_22=>?_)))))))
                          ·replace hE_17:=if_tt g_22 hE_17
                           refine Tri.skip (Nrm.seq (Tri.seq (Tri.block ?_)))
                           obtain ⟨y51r,hE_18,hE_17⟩:=bind_some hE_17
                           refine Tri.cut (fun e' C'=>e' = [(18,v141_1),(48,.int .i64 t351_1),(49,.int .i64 t351_2),(51,.bool y51r),(52,.int .i64 x52r)]∧C' = Sep w noM [R.sl S141_1 v141_1 (t141_1 : List (Int × Int))]) ?_ (fun hj_15=>?_)
                           ·rintro _ _ ⟨rfl,rfl⟩
                            refine Nrm.block ?_
                            refine Nrm.seq (Tri.reg (l:=[0,1,2]) rfl ?_)
                            refine F.qn rfl (r_move rfl) (F.qn rfl (r_add rfl rfl) (F.qn rfl (r_assign rfl) (F.nil (Nrm.round ?_))))
                            refine Rnd.only [18,48,49,51,52] rfl ?_
                            refine Rnd.pick [0] rfl rfl ?_
                            exact ih_3 _ _ ⟨y51r,w64 (x52r + 1),hE_17,rfl,rfl⟩
                           ·rcases Bool.eq_false_or_eq_true (x51r) with g371 | g371
                            ·replace hE_18:=if_tt g371 hE_18
                             refine Tri.reg (l:=List.range 12) rfl ?_
                             refine F.qn rfl (r_move rfl) (F.qn rfl (r_move rfl) ?_)
                             iterate 8 refine F.skf rfl g371 ?_
                             refine F.qn rfl (r_pick rfl rfl g371) (F.qn rfl (r_assign rfl) (F.nil ?_))
                             cases hE_18
                             refine Nrm.only [18,48,49,51,52] rfl ?_
                             refine Nrm.pick [0] rfl rfl ?_
                             exact hj_15 _ _ ⟨rfl,rfl⟩
                            ·replace hE_18:=if_ff g371 hE_18
                             obtain ⟨t374,h374,hE_18⟩:=bind_some hE_18
                             refine Tri.reg (l:=List.range 12) rfl ?_
                             refine F.qn rfl (r_move rfl) (F.qn rfl (r_move rfl) (F.qg rfl g371 (r_move rfl) (F.qg rfl g371 (r_move rfl) (F.qg rfl g371 (r_indexAddrS Tryz.underlying72 ti75 rfl hl_v141_1 rfl (rdl_some h374).1 (rdl_some h374).2.1) (F.qg rfl g371 (r_loadA ta75 ti75 rfl rfl (fun w hw=>(Rd.flat ((rd_sl (i:=0) rfl) w hw) (rdl_some h374).2.2))) ?_)))))
                             refine F.qg rfl g371 (r_move rfl) (F.qg rfl g371 (r_move rfl) (F.qg rfl g371 (r_buildA (qs:=[(0,[.int .i64 t351_1]),(1,[.int .i64 t351_2])]) (cs:=[.int .i64 t351_1,.int .i64 t351_2]) Tryz.underlying75 ti3 ti75 rfl (.cons rfl rfl (Nat.le_of_ble_eq_true rfl) (.cons rfl rfl (Nat.le_of_ble_eq_true rfl) .nil)) rfl rfl) (F.qg rfl g371 (r_eqlA2 Tryz.underlying75 Tryz.underlying3 ti3 ta3 rfl rfl eg75) (F.qn rfl (r_pickf rfl rfl g371) (F.qn rfl (r_assign rfl) (F.nil ?_))))))
                             cases hE_18
                             refine Nrm.only [18,48,49,51,52] rfl ?_
                             refine Nrm.pick [0] rfl rfl ?_
                             exact hj_15 _ _ ⟨rfl,rfl⟩
                          ·replace hE_17:=if_ff g_22 hE_17
                           refine Tri.exit ?_
                           refine Exi.then ?_
                           refine Exi.then ?_
                           refine Exi.same ?_
                           cases hE_17
                           refine Nrm.seq (Tri.seq (Tri.reg (l:=[0,1]) rfl ?_))
                           refine F.qn rfl (r_move rfl) (F.qn rfl (r_assign rfl) (F.nil (Nrm.seq (Tri.ret ?_))))
                           cases h
                           exact Rtn.body (.tmp rfl .nil) (fun w hw=>⟨rfl,hw.ext⟩)
                       ·rcases Bool.eq_false_or_eq_true (!t351_3) with g357 | g357
                        ·replace hE_16:=if_tt g357 hE_16
                         refine Tri.reg (l:=[0,1,2,3,4,5,6,7,8]) rfl ?_
                         refine F.qn rfl (r_move rfl) (F.qn rfl (r_not rfl) (F.qn rfl (r_move rfl) ?_))
                         iterate 5 refine F.skf rfl g357 ?_
                         refine F.qn rfl (r_pick rfl rfl g357) (F.nil ?_)
                         cases hE_16
                         refine Nrm.only [18,48,49,363] rfl ?_
                         refine Nrm.pick [2] rfl rfl ?_
                         exact hj_14 _ _ ⟨rfl,rfl⟩
                        ·replace hE_16:=if_ff g357 hE_16
                         refine Tri.reg (l:=[0,1,2,3,4,5,6,7,8]) rfl ?_
                         refine F.qn rfl (r_move rfl) (F.qn rfl (r_not rfl) (F.qn rfl (r_move rfl) ?_))
                         refine F.qg rfl g357 (r_move rfl) (F.qg rfl g357 (r_len Tryz.underlying25 rfl hl_v59_1) (F.qg rfl g357 (r_move rfl) (F.qg rfl g357 (r_add rfl rfl) (F.qg rfl g357 (r_neq rfl rfl) (F.qn rfl (r_pickf rfl rfl g357) (F.nil ?_))))))
                         cases hE_16
                         refine Nrm.only [18,48,49,363] rfl ?_
                         refine Nrm.pick [2] rfl rfl ?_
                         exact hj_14 _ _ ⟨rfl,rfl⟩
                   ·rcases Bool.eq_false_or_eq_true (!t277_5) with g282 | g282
                    ·replace hE_10:=if_tt g282 hE_10
                     refine Tri.reg (l:=[0,1,2,3,4,5,6,7]) rfl ?_
                     refine F.qn rfl (r_move rfl) (F.qn rfl (r_not rfl) (F.qn rfl (r_move rfl) ?_))
                     iterate 4 refine F.skf rfl g282 ?_
                     refine F.qn rfl (r_pick rfl rfl g282) (F.nil ?_)
                     cases hE_10
                     refine Nrm.only [3,4,5,8,12,14,18,25,26,29,287] rfl ?_
                     refine Nrm.pick [6,7,8,9,10,11,18,19,20,21] rfl rfl ?_
                     exact hj_9 _ _ ⟨rfl,rfl⟩
                    ·replace hE_10:=if_ff g282 hE_10
                     obtain ⟨t285,h285,hE_10⟩:=bind_some hE_10
                     refine Tri.reg (l:=[0,1,2,3,4,5,6,7]) rfl ?_
                     refine F.qn rfl (r_move rfl) (F.qn rfl (r_not rfl) (F.qn rfl (r_move rfl) (F.qg rfl g282 (r_loadA ta65 ti65 rfl rfl (fun w hw=>(box_cells (i:=0) rfl w hw))) (F.qg rfl g282 (r_loadA ta65 ti65 rfl rfl (fun w hw=>(box_cells (i:=5) rfl w hw))) ?_))))
                     refine F.qc rfl rfl rfl (wg rfl rfl rfl g282) (q_callF (xs:=_) rfl ok64 rfl rfl (fun w hw=>laws_rTrap.ok h285 w ((rd_sl (i:=1) rfl) w hw) ((rd_sl (i:=2) rfl) w hw) ((rd_sl (i:=3) rfl) w hw) ((rd_sl (i:=12) rfl) w hw) ((rd_sl (i:=13) rfl) w hw) ((rd_sl (i:=14) rfl) w hw))) ?_
                     refine F.qg rfl g282 (r_not rfl) (F.qn rfl (r_pickf rfl rfl g282) (F.nil ?_))
                     cases hE_10
                     refine Nrm.only [3,4,5,8,12,14,18,25,26,29,287] rfl ?_
                     refine Nrm.pick [6,7,8,9,10,11,18,19,20,21] rfl rfl ?_
                     exact hj_9 _ _ ⟨rfl,rfl⟩
                  ·replace h:=if_ff g_12 h
                   refine Tri.skip (Nrm.seq (Tri.seq (Tri.seq (Tri.reg (l:=[0]) rfl ?_))))
                   refine F.qn rfl (r_move rfl) (F.nil (Nrm.seq (Tri.cond (b:=t101_3) rfl (fun g_23=>?_) (fun g_23=>?_))))
                   ·replace h:=if_tt g_23 h
                    refine Tri.seq ?_
                    obtain ⟨⟨t291_1,t291_2,t291_3⟩,h291,h⟩:=bind_some h
                    refine Tri.reg (l:=[0,1,2,3,4,5,6,7,8]) rfl ?_
                    refine F.qn rfl (r_loadA ta65 ti65 rfl rfl (fun w hw=>(box_cells (i:=2) rfl w hw))) ?_
                    refine F.qcn rfl (q_callF (xs:=_) rfl ok54 rfl rfl (fun w hw=>impl_CountMet.ok h291 w ((rd_sl (i:=5) rfl) w hw) ((rd_sl (i:=6) rfl) w hw) ((rd_sl (i:=7) rfl) w hw))) ?_
                    refine F.qn rfl (r_move rfl) ?_
                    iterate 3 refine F.qn rfl (r_extract rfl rfl) ?_
                    iterate 3 refine F.qn rfl (r_assign rfl) ?_
                    refine F.nil (Nrm.seq (Tri.seq ?_))
                    obtain ⟨⟨t298_1,t298_2⟩,h298,h⟩:=bind_some h
                    refine Tri.reg (l:=[0,1,2,3,4,5,6,7]) rfl ?_
                    refine F.qn rfl (r_fieldAddr tf65_0 rfl) (F.qn rfl (r_loadA ta27 ti27 rfl rfl (fun w hw=>cells_1 (cs':=[.int .i64 t56_1,v56_1,v56_2]) (box_cells (i:=3) rfl w hw) rfl)) ?_)
                    refine F.qcn rfl (q_callF (xs:=_) rfl ok68 rfl rfl (fun w hw=>impl_FewestSteps.ok h298 w ((rd_sl (i:=14) rfl) w hw) ((rd_sl (i:=15) rfl) w hw))) ?_
                    refine F.qn rfl (r_move rfl) (F.qn rfl (r_extract rfl rfl) (F.qn rfl (r_extract rfl rfl) (F.qn rfl (r_assign rfl) (F.qn rfl (r_assign rfl) (F.nil (Nrm.seq (Tri.seq (Tri.seq ?_))))))))
                    obtain ⟨y328r,hE_19,h⟩:=bind_some h
                    refine Tri.cut (fun e' C'=>e' = [(3,.pointer (some ⟨b3_1,0,none⟩)),(4,v59_1),(5,.bool t59_2),(8,.int .i64 t78_1),(18,v141_1),(26,.bool t207_2),(328,.bool y328r)]∧C' = Sep w noM [R.box b3_1 65 [.int .i64 t56_1,v56_1,v56_2,v56_3],R.sl S141_1 v141_1 (t141_1 : List (Int × Int)),R.sl S56_1 v56_1 (t56_2 : List (Int × Int × Int)),R.sl S56_2 v56_2 (t56_3 : List (Int)),R.sl S56_3 v56_3 (t56_4 : List (Int)),R.sl S59_1 v59_1 (t59_1 : List (Int))]) ?_ (fun hj_16=>?_)
                    ·rintro _ _ ⟨rfl,rfl⟩
                     refine Nrm.seq (Tri.cond (b:=y328r) rfl (fun g_24=>?_) (fun g_24=>?_))
                     ·replace h:=if_tt g_24 h
                      refine Tri.seq (Tri.reg (l:=[0]) rfl ?_)
                      refine F.qn rfl (r_assign rfl) (F.nil (Nrm.seq (Tri.ret ?_)))
                      refine Rtn.then ?_
                      refine Rtn.then ?_
                      cases h
                      exact Rtn.body (.tmp rfl .nil) (fun w hw=>⟨rfl,hw.ext⟩)
                     ·replace h:=if_ff g_24 h
                      refine Tri.skip (Nrm.seq (Tri.seq ?_))
                      obtain ⟨t334,h334,h⟩:=bind_some h
                      obtain ⟨⟨t336_1,t336_2⟩,h336,h⟩:=bind_some h
                      refine Tri.drawA mixedT Sep.up [(0,true),(1,true),(2,true),(3,true),(4,true),(5,true),(6,true),(7,true),(8,true),(9,true),(10,true),(11,true)] [] (by kernel_rfl) ?_
                      refine S.qn rfl (r_loadA ta65 ti65 rfl rfl (fun w hw=>(box_cells (i:=0) rfl w hw))) (S.qn rfl (r_fieldAddr tf65_0 rfl) (S.qn rfl (r_fieldAddr tf27_2 rfl) (S.qn rfl (r_load ta25 rfl (fun w hw=>cell_2 (box_cells (i:=0) rfl w hw) rfl)) (S.qn rfl (r_indexAddrS Tryz.underlying25 ti3 rfl hl_v56_2 rfl (rdl_some h334).1 (rdl_some h334).2.1) (S.qn rfl (r_load ta3 rfl (fun w hw=>cell_0 (Rd.flat ((rd_sl (i:=3) rfl) w hw) (rdl_some h334).2.2) rfl)) ?_)))))
                      refine S.qcn rfl (q_callF (xs:=_) rfl ok59 rfl rfl (fun w hw=>impl_IsGood.ok h336 w ((rd_sl (i:=2) rfl) w hw) ((rd_sl (i:=3) rfl) w hw) ((rd_sl (i:=4) rfl) w hw))) ?_
                      refine S.qn rfl (r_move rfl) (S.qn rfl (r_extract rfl rfl) (S.qn rfl (r_extract rfl rfl) (S.qn rfl (r_assign rfl) (S.qn rfl (r_assign rfl) (S.nil (F.nil (Nrm.seq (Tri.seq ?_))))))))
                      obtain ⟨y345r,hE_20,h⟩:=bind_some h
                      refine Tri.cut (fun e' C'=>e' = [(3,.pointer (some ⟨b3_1,0,none⟩)),(4,v59_1),(5,.bool t59_2),(8,.int .i64 t78_1),(18,v141_1),(345,.bool y345r)]∧C' = Sep w noM [R.box b3_1 65 [.int .i64 t56_1,v56_1,v56_2,v56_3],R.sl S141_1 v141_1 (t141_1 : List (Int × Int)),R.sl S56_1 v56_1 (t56_2 : List (Int × Int × Int)),R.sl S56_2 v56_2 (t56_3 : List (Int)),R.sl S56_3 v56_3 (t56_4 : List (Int)),R.sl S59_1 v59_1 (t59_1 : List (Int))]) ?_ (fun hj_17=>?_)
                      ·rintro _ _ ⟨rfl,rfl⟩
                       refine Nrm.seq (Tri.cond (b:=y345r) rfl (fun g_25=>?_) (fun g_25=>?_))
                       ·replace h:=if_tt g_25 h
                        refine Tri.seq (Tri.reg (l:=[0]) rfl ?_)
                        refine F.qn rfl (r_assign rfl) (F.nil (Nrm.seq (Tri.ret ?_)))
                        refine Rtn.then ?_
                        cases h
                        exact Rtn.body (.tmp rfl .nil) (fun w hw=>⟨rfl,hw.ext⟩)
                       ·replace h:=if_ff g_25 h
                        refine Tri.skip (Nrm.seq (Tri.seq (Tri.seq (Tri.reg (l:=[0,1]) rfl ?_))))
                        refine F.qn rfl (r_move rfl) (F.qn rfl (r_not rfl) (F.nil (Nrm.seq (Tri.cond (b:=!t59_2) rfl (fun g_26=>?_) (fun g_26=>?_)))))
                        ·replace h:=if_tt g_26 h
                         refine Tri.seq (Tri.reg (l:=[0]) rfl ?_)
                         refine F.qn rfl (r_assign rfl) (F.nil (Nrm.seq (Tri.ret ?_)))
                         refine Rtn.then ?_
                         cases h
                         exact Rtn.body (.tmp rfl .nil) (fun w hw=>⟨rfl,hw.ext⟩)
                        ·replace h:=if_ff g_26 h
                         refine Tri.skip (Nrm.seq (Tri.seq ?_))
                         obtain ⟨⟨t351_1,t351_2,t351_3⟩,h351,h⟩:=bind_some h
                         refine Tri.reg (l:=[0,1,2,3,4,5,6,7,8,9]) rfl ?_
                         refine F.qn rfl (r_loadA ta65 ti65 rfl rfl (fun w hw=>(box_cells (i:=0) rfl w hw))) (F.qn rfl (r_move rfl) ?_)
                         refine F.qcn rfl (q_callF (xs:=_) rfl ok69 rfl rfl (fun w hw=>impl_StateBehind.ok h351 w ((rd_sl (i:=2) rfl) w hw) ((rd_sl (i:=3) rfl) w hw) ((rd_sl (i:=4) rfl) w hw) ((rd_sl (i:=5) rfl) w hw))) ?_
                         refine F.qn rfl (r_move rfl) ?_
                         iterate 3 refine F.qn rfl (r_extract rfl rfl) ?_
                         iterate 3 refine F.qn rfl (r_assign rfl) ?_
                         refine F.nil (Nrm.seq (Tri.seq (Tri.seq ?_)))
                         obtain ⟨y363rr,hE_21,h⟩:=bind_some h
                         refine Tri.cut (fun e' C'=>e' = [(18,v141_1),(48,.int .i64 t351_1),(49,.int .i64 t351_2),(363,.bool y363rr)]∧C' = Sep w noM [R.sl S141_1 v141_1 (t141_1 : List (Int × Int))]) ?_ (fun hj_18=>?_)
                         ·rintro _ _ ⟨rfl,rfl⟩
                          refine Nrm.seq (Tri.cond (b:=y363rr) rfl (fun g_27=>?_) (fun g_27=>?_))
                          ·replace h:=if_tt g_27 h
                           refine Tri.seq (Tri.reg (l:=[0]) rfl ?_)
                           refine F.qn rfl (r_assign rfl) (F.nil (Nrm.seq (Tri.ret ?_)))
                           refine Rtn.then ?_
                           cases h
                           exact Rtn.body (.tmp rfl .nil) (fun w hw=>⟨rfl,hw.ext⟩)
                          ·replace h:=if_ff g_27 h
                           refine Tri.skip (Nrm.seq (Tri.seq (Tri.reg (l:=[0]) rfl ?_)))
                           refine F.qn rfl (r_assign rfl) (F.nil (Nrm.seq (Tri.seq (Tri.seq (Tri.reg (l:=[0]) rfl ?_)))))
                           refine F.qn rfl (r_assign rfl) (F.nil (Nrm.seq ?_))
                           obtain ⟨x51rr,hE_22,h⟩:=bind_some h
                           refine Tri.block ?_
                           refine Tri.only [18,48,49,51,52] rfl ?_
                           refine Tri.pick [0] rfl rfl ?_
                           refine Tri.rounds (fun n e' C'=>∃ (x51rr' : Bool) (x52rr' : Int),laws_FnTraps.l3 k t141_1 t351_1 t351_2 n x51rr' x52rr' = some x51rr∧e' = [(18,v141_1),(48,.int .i64 t351_1),(49,.int .i64 t351_2),(51,.bool x51rr'),(52,.int .i64 x52rr')]∧C' = Sep w noM [R.sl S141_1 v141_1 (t141_1 : List (Int × Int))]) k ?_ ?_ ?_
                           ·exact ⟨false,0,hE_22,rfl,rfl⟩
                           ·rintro _ _ ⟨_,_,hE_22,_⟩
                            rw [laws_FnTraps.l3.eq_1] at hE_22; cases hE_22
                           ·rintro n_4 _ _ ⟨x51rr,x52rr,hE_22,rfl,rfl⟩ ih_4
                            rw [laws_FnTraps.l3.eq_2] at hE_22
                            refine Tri.seq (Tri.seq (Tri.reg (l:=[0,1,2,3]) rfl ?_))
                            refine F.qn rfl (r_move rfl) (F.qn rfl (r_move rfl) (F.qn rfl (r_len Tryz.underlying72 rfl hl_v141_1) (F.qn rfl (r_lss rfl rfl) (F.nil (Nrm.seq (Tri.cond (b:=decide (x52rr < (t141_1.length : Int))) rfl (fun g_28=>?_) (fun g_28=>?_)))))))
                            ·replace hE_22:=if_tt g_28 hE_22
                             refine Tri.skip (Nrm.seq (Tri.seq (Tri.block ?_)))
                             obtain ⟨y51rr,hE_23,hE_22⟩:=bind_some hE_22
                             refine Tri.cut (fun e' C'=>e' = [(18,v141_1),(48,.int .i64 t351_1),(49,.int .i64 t351_2),(51,.bool y51rr),(52,.int .i64 x52rr)]∧C' = Sep w noM [R.sl S141_1 v141_1 (t141_1 : List (Int × Int))]) ?_ (fun hj_19=>?_)
                             ·rintro _ _ ⟨rfl,rfl⟩
                              refine Nrm.block ?_
                              refine Nrm.seq (Tri.reg (l:=[0,1,2]) rfl ?_)
                              refine F.qn rfl (r_move rfl) (F.qn rfl (r_add rfl rfl) (F.qn rfl (r_assign rfl) (F.nil (Nrm.round ?_))))
                              refine Rnd.only [18,48,49,51,52] rfl ?_
                              refine Rnd.pick [0] rfl rfl ?_
                              exact ih_4 _ _ ⟨y51rr,w64 (x52rr + 1),hE_22,rfl,rfl⟩
                             ·rcases Bool.eq_false_or_eq_true (x51rr) with g371 | g371
                              ·replace hE_23:=if_tt g371 hE_23
                               refine Tri.reg (l:=List.range 12) rfl ?_
                               refine F.qn rfl (r_move rfl) (F.qn rfl (r_move rfl) ?_)
                               iterate 8 refine F.skf rfl g371 ?_
                               refine F.qn rfl (r_pick rfl rfl g371) (F.qn rfl (r_assign rfl) (F.nil ?_))
                               cases hE_23
                               refine Nrm.only [18,48,49,51,52] rfl ?_
                               refine Nrm.pick [0] rfl rfl ?_
                               exact hj_19 _ _ ⟨rfl,rfl⟩
                              ·replace hE_23:=if_ff g371 hE_23
                               obtain ⟨t374,h374,hE_23⟩:=bind_some hE_23
                               refine Tri.reg (l:=List.range 12) rfl ?_
                               refine F.qn rfl (r_move rfl) (F.qn rfl (r_move rfl) (F.qg rfl g371 (r_move rfl) (F.qg rfl g371 (r_move rfl) (F.qg rfl g371 (r_indexAddrS Tryz.underlying72 ti75 rfl hl_v141_1 rfl (rdl_some h374).1 (rdl_some h374).2.1) (F.qg rfl g371 (r_loadA ta75 ti75 rfl rfl (fun w hw=>(Rd.flat ((rd_sl (i:=0) rfl) w hw) (rdl_some h374).2.2))) ?_)))))
                               refine F.qg rfl g371 (r_move rfl) (F.qg rfl g371 (r_move rfl) (F.qg rfl g371 (r_buildA (qs:=[(0,[.int .i64 t351_1]),(1,[.int .i64 t351_2])]) (cs:=[.int .i64 t351_1,.int .i64 t351_2]) Tryz.underlying75 ti3 ti75 rfl (.cons rfl rfl (Nat.le_of_ble_eq_true rfl) (.cons rfl rfl (Nat.le_of_ble_eq_true rfl) .nil)) rfl rfl) (F.qg rfl g371 (r_eqlA2 Tryz.underlying75 Tryz.underlying3 ti3 ta3 rfl rfl eg75) (F.qn rfl (r_pickf rfl rfl g371) (F.qn rfl (r_assign rfl) (F.nil ?_))))))
                               cases hE_23
                               refine Nrm.only [18,48,49,51,52] rfl ?_
                               refine Nrm.pick [0] rfl rfl ?_
                               exact hj_19 _ _ ⟨rfl,rfl⟩
                            ·replace hE_22:=if_ff g_28 hE_22
                             refine Tri.exit ?_
                             refine Exi.then ?_
                             refine Exi.then ?_
                             refine Exi.same ?_
                             cases hE_22
                             refine Nrm.seq (Tri.seq (Tri.reg (l:=[0,1]) rfl ?_))
                             refine F.qn rfl (r_move rfl) (F.qn rfl (r_assign rfl) (F.nil (Nrm.seq (Tri.ret ?_))))
                             cases h
                             exact Rtn.body (.tmp rfl .nil) (fun w hw=>⟨rfl,hw.ext⟩)
                         ·rcases Bool.eq_false_or_eq_true (!t351_3) with g357 | g357
                          ·replace hE_21:=if_tt g357 hE_21
                           refine Tri.reg (l:=[0,1,2,3,4,5,6,7,8]) rfl ?_
                           refine F.qn rfl (r_move rfl) (F.qn rfl (r_not rfl) (F.qn rfl (r_move rfl) ?_))
                           iterate 5 refine F.skf rfl g357 ?_
                           refine F.qn rfl (r_pick rfl rfl g357) (F.nil ?_)
                           cases hE_21
                           refine Nrm.only [18,48,49,363] rfl ?_
                           refine Nrm.pick [1] rfl rfl ?_
                           exact hj_18 _ _ ⟨rfl,rfl⟩
                          ·replace hE_21:=if_ff g357 hE_21
                           refine Tri.reg (l:=[0,1,2,3,4,5,6,7,8]) rfl ?_
                           refine F.qn rfl (r_move rfl) (F.qn rfl (r_not rfl) (F.qn rfl (r_move rfl) ?_))
                           refine F.qg rfl g357 (r_move rfl) (F.qg rfl g357 (r_len Tryz.underlying25 rfl hl_v59_1) (F.qg rfl g357 (r_move rfl) (F.qg rfl g357 (r_add rfl rfl) (F.qg rfl g357 (r_neq rfl rfl) (F.qn rfl (r_pickf rfl rfl g357) (F.nil ?_))))))
                           cases hE_21
                           refine Nrm.only [18,48,49,363] rfl ?_
                           refine Nrm.pick [1] rfl rfl ?_
                           exact hj_18 _ _ ⟨rfl,rfl⟩
                      ·rcases Bool.eq_false_or_eq_true (!t336_2) with g341 | g341
                       ·replace hE_20:=if_tt g341 hE_20
                        refine Tri.reg (l:=[0,1,2,3,4,5,6]) rfl ?_
                        refine F.qn rfl (r_move rfl) (F.qn rfl (r_not rfl) (F.qn rfl (r_move rfl) ?_))
                        iterate 3 refine F.skf rfl g341 ?_
                        refine F.qn rfl (r_pick rfl rfl g341) (F.nil ?_)
                        cases hE_20
                        refine Nrm.only [3,4,5,8,18,345] rfl ?_
                        refine Nrm.pick [0,1,2,3,4,5] rfl rfl ?_
                        exact hj_17 _ _ ⟨rfl,rfl⟩
                       ·replace hE_20:=if_ff g341 hE_20
                        refine Tri.reg (l:=[0,1,2,3,4,5,6]) rfl ?_
                        refine F.qn rfl (r_move rfl) ?_
                        refine F.qn rfl (r_not rfl) (F.qn rfl (r_move rfl) (F.qg rfl g341 (r_move rfl) (F.qg rfl g341 (r_move rfl) (F.qg rfl g341 (r_neqB Tryz.underlying4 rfl rfl) (F.qn rfl (r_pickf rfl rfl g341) (F.nil ?_))))))
                        cases hE_20
                        refine Nrm.only [3,4,5,8,18,345] rfl ?_
                        refine Nrm.pick [0,1,2,3,4,5] rfl rfl ?_
                        exact hj_17 _ _ ⟨rfl,rfl⟩
                    ·rcases Bool.eq_false_or_eq_true (!t291_3) with g303 | g303
                     ·replace hE_19:=if_tt g303 hE_19
                      refine Tri.reg (l:=List.range 28) rfl ?_
                      refine F.qn rfl (r_move rfl) (F.qn rfl (r_not rfl) (F.qn rfl (r_move rfl) ?_))
                      iterate 3 refine F.skf rfl g303 ?_
                      iterate 3 refine F.sk rfl rfl rfl (wanted_undef rfl rfl rfl) ?_
                      refine F.skf rfl g303 (F.qn rfl (r_pick rfl rfl g303) (F.qn rfl (r_move rfl) (F.skf rfl rfl (F.skf rfl rfl ?_))))
                      iterate 7 refine F.sk rfl rfl rfl (wanted_undef rfl rfl rfl) ?_
                      refine F.skf rfl rfl (F.qn rfl (r_pick rfl rfl rfl) (F.qn rfl (r_move rfl) ?_))
                      iterate 3 refine F.skf rfl rfl ?_
                      refine F.qn rfl (r_pick rfl rfl rfl) (F.nil ?_)
                      cases hE_19
                      refine Nrm.only [3,4,5,8,18,26,328] rfl ?_
                      refine Nrm.pick [3,4,14,15,16,17] rfl rfl ?_
                      exact hj_16 _ _ ⟨rfl,rfl⟩
                     ·replace hE_19:=if_ff g303 hE_19
                      rcases Bool.eq_false_or_eq_true (t291_2 != 0) with g306 | g306
                      ·replace hE_19:=if_tt g306 hE_19
                       rcases Bool.eq_false_or_eq_true (t291_2 != t291_1) with g312 | g312
                       ·replace hE_19:=if_tt g312 hE_19
                        refine Tri.reg (l:=List.range 28) rfl ?_
                        refine F.qn rfl (r_move rfl) (F.qn rfl (r_not rfl) ?_)
                        refine F.qn rfl (r_move rfl) (F.qg rfl g303 (r_move rfl) (F.qg rfl g303 (r_neq rfl rfl) (F.qg rfl g303 (r_move rfl) (F.qg rfl g306 (r_move rfl) (F.qg rfl g306 (r_move rfl) ?_)))))
                        refine F.qg rfl g306 (r_neq rfl rfl) (F.qg rfl g303 (r_pick rfl rfl g306) (F.qn rfl (r_pickf rfl rfl g303) (F.qn rfl (r_move rfl) (F.skf rfl g312 (F.skf rfl g312 ?_)))))
                        iterate 7 refine F.sk rfl rfl rfl (wanted_undef rfl rfl rfl) ?_
                        refine F.skf rfl g312 (F.qn rfl (r_pick rfl rfl g312) (F.qn rfl (r_move rfl) ?_))
                        iterate 3 refine F.skf rfl rfl ?_
                        refine F.qn rfl (r_pick rfl rfl rfl) (F.nil ?_)
                        cases hE_19
                        refine Nrm.only [3,4,5,8,18,26,328] rfl ?_
                        refine Nrm.pick [3,4,14,15,16,17] rfl rfl ?_
                        exact hj_16 _ _ ⟨rfl,rfl⟩
                       ·replace hE_19:=if_ff g312 hE_19
                        rcases Bool.eq_false_or_eq_true (t207_2) with g314 | g314
                        ·replace hE_19:=if_tt g314 hE_19
                         rcases Bool.eq_false_or_eq_true (!t298_2) with g317 | g317
                         ·replace hE_19:=if_tt g317 hE_19
                          refine Tri.reg (l:=List.range 28) rfl ?_
                          refine F.qn rfl (r_move rfl) (F.qn rfl (r_not rfl) (F.qn rfl (r_move rfl) (F.qg rfl g303 (r_move rfl) (F.qg rfl g303 (r_neq rfl rfl) ?_))))
                          refine F.qg rfl g303 (r_move rfl) (F.qg rfl g306 (r_move rfl) (F.qg rfl g306 (r_move rfl) (F.qg rfl g306 (r_neq rfl rfl) (F.qg rfl g303 (r_pick rfl rfl g306) (F.qn rfl (r_pickf rfl rfl g303) ?_)))))
                          refine F.qn rfl (r_move rfl) (F.qg rfl g312 (r_move rfl) (F.qg rfl g312 (r_move rfl) (F.qg rfl g314 (r_move rfl) (F.qg rfl g314 (r_not rfl) (F.qg rfl g314 (r_move rfl) ?_)))))
                          iterate 3 refine F.skf rfl g317 ?_
                          refine F.qg rfl g314 (r_pick rfl rfl g317) (F.qg rfl g312 (r_pick rfl rfl g314) (F.qn rfl (r_pickf rfl rfl g312) (F.qn rfl (r_move rfl) ?_)))
                          iterate 3 refine F.skf rfl rfl ?_
                          refine F.qn rfl (r_pick rfl rfl rfl) (F.nil ?_)
                          cases hE_19
                          refine Nrm.only [3,4,5,8,18,26,328] rfl ?_
                          refine Nrm.pick [3,4,14,15,16,17] rfl rfl ?_
                          exact hj_16 _ _ ⟨rfl,rfl⟩
                         ·replace hE_19:=if_ff g317 hE_19
                          rcases Bool.eq_false_or_eq_true (decide (t207_1 < t298_1)) with g324 | g324
                          ·replace hE_19:=if_tt g324 hE_19
                           refine Tri.reg (l:=List.range 28) rfl ?_
                           refine F.qn rfl (r_move rfl) (F.qn rfl (r_not rfl) (F.qn rfl (r_move rfl) (F.qg rfl g303 (r_move rfl) (F.qg rfl g303 (r_neq rfl rfl) (F.qg rfl g303 (r_move rfl) ?_)))))
                           refine F.qg rfl g306 (r_move rfl) (F.qg rfl g306 (r_move rfl) (F.qg rfl g306 (r_neq rfl rfl) (F.qg rfl g303 (r_pick rfl rfl g306) (F.qn rfl (r_pickf rfl rfl g303) (F.qn rfl (r_move rfl) ?_)))))
                           refine F.qg rfl g312 (r_move rfl) (F.qg rfl g312 (r_move rfl) (F.qg rfl g314 (r_move rfl) (F.qg rfl g314 (r_not rfl) (F.qg rfl g314 (r_move rfl) (F.qg rfl g317 (r_move rfl) ?_)))))
                           refine F.qg rfl g317 (r_move rfl) (F.qg rfl g317 (r_lss rfl rfl) (F.qg rfl g314 (r_pickf rfl rfl g317) (F.qg rfl g312 (r_pick rfl rfl g314) (F.qn rfl (r_pickf rfl rfl g312) (F.qn rfl (r_move rfl) ?_)))))
                           iterate 3 refine F.skf rfl g324 ?_
                           refine F.qn rfl (r_pick rfl rfl g324) (F.nil ?_)
                           cases hE_19
                           refine Nrm.only [3,4,5,8,18,26,328] rfl ?_
                           refine Nrm.pick [3,4,14,15,16,17] rfl rfl ?_
                           exact hj_16 _ _ ⟨rfl,rfl⟩
                          ·replace hE_19:=if_ff g324 hE_19
                           refine Tri.reg (l:=List.range 28) rfl ?_
                           refine F.qn rfl (r_move rfl) (F.qn rfl (r_not rfl) (F.qn rfl (r_move rfl) (F.qg rfl g303 (r_move rfl) ?_)))
                           refine F.qg rfl g303 (r_neq rfl rfl) (F.qg rfl g303 (r_move rfl) (F.qg rfl g306 (r_move rfl) (F.qg rfl g306 (r_move rfl) (F.qg rfl g306 (r_neq rfl rfl) (F.qg rfl g303 (r_pick rfl rfl g306) ?_)))))
                           refine F.qn rfl (r_pickf rfl rfl g303) (F.qn rfl (r_move rfl) (F.qg rfl g312 (r_move rfl) (F.qg rfl g312 (r_move rfl) (F.qg rfl g314 (r_move rfl) (F.qg rfl g314 (r_not rfl) ?_)))))
                           refine F.qg rfl g314 (r_move rfl) (F.qg rfl g317 (r_move rfl) (F.qg rfl g317 (r_move rfl) (F.qg rfl g317 (r_lss rfl rfl) (F.qg rfl g314 (r_pickf rfl rfl g317) (F.qg rfl g312 (r_pick rfl rfl g314) ?_)))))
                           refine F.qn rfl (r_pickf rfl rfl g312) (F.qn rfl (r_move rfl) (F.qg rfl g324 (r_move rfl) (F.qg rfl g324 (r_move rfl) (F.qg rfl g324 (r_gtr rfl rfl) (F.qn rfl (r_pickf rfl rfl g324) (F.nil ?_))))))
                           cases hE_19
                           refine Nrm.only [3,4,5,8,18,26,328] rfl ?_
                           refine Nrm.pick [3,4,14,15,16,17] rfl rfl ?_
                           exact hj_16 _ _ ⟨rfl,rfl⟩
                        ·replace hE_19:=if_ff g314 hE_19
                         refine Tri.reg (l:=List.range 28) rfl ?_
                         refine F.qn rfl (r_move rfl) (F.qn rfl (r_not rfl) ?_)
                         refine F.qn rfl (r_move rfl) (F.qg rfl g303 (r_move rfl) (F.qg rfl g303 (r_neq rfl rfl) (F.qg rfl g303 (r_move rfl) (F.qg rfl g306 (r_move rfl) (F.qg rfl g306 (r_move rfl) ?_)))))
                         refine F.qg rfl g306 (r_neq rfl rfl) (F.qg rfl g303 (r_pick rfl rfl g306) (F.qn rfl (r_pickf rfl rfl g303) (F.qn rfl (r_move rfl) (F.qg rfl g312 (r_move rfl) (F.qg rfl g312 (r_move rfl) ?_)))))
                         iterate 3 refine F.skf rfl g314 ?_
                         iterate 3 refine F.sk rfl rfl rfl (wanted_undef rfl rfl rfl) ?_
                         refine F.skf rfl g314 (F.qg rfl g312 (r_pickf rfl rfl g314) ?_)
                         refine F.qn rfl (r_pickf rfl rfl g312) (F.qn rfl (r_move rfl) (F.qg rfl rfl (r_move rfl) (F.qg rfl rfl (r_move rfl) (F.qg rfl rfl (r_gtr rfl rfl) (F.qn rfl (r_pickf rfl rfl rfl) (F.nil ?_))))))
                         cases hE_19
                         refine Nrm.only [3,4,5,8,18,26,328] rfl ?_
                         refine Nrm.pick [3,4,14,15,16,17] rfl rfl ?_
                         exact hj_16 _ _ ⟨rfl,rfl⟩
                      ·replace hE_19:=if_ff g306 hE_19
                       rcases Bool.eq_false_or_eq_true (t207_2) with g314 | g314
                       ·replace hE_19:=if_tt g314 hE_19
                        rcases Bool.eq_false_or_eq_true (!t298_2) with g317 | g317
                        ·replace hE_19:=if_tt g317 hE_19
                         refine Tri.reg (l:=List.range 28) rfl ?_
                         refine F.qn rfl (r_move rfl) (F.qn rfl (r_not rfl) (F.qn rfl (r_move rfl) (F.qg rfl g303 (r_move rfl) (F.qg rfl g303 (r_neq rfl rfl) (F.qg rfl g303 (r_move rfl) ?_)))))
                         iterate 3 refine F.skf rfl g306 ?_
                         refine F.qg rfl g303 (r_pickf rfl rfl g306) (F.qn rfl (r_pickf rfl rfl g303) ?_)
                         refine F.qn rfl (r_move rfl) (F.qg rfl rfl (r_move rfl) (F.qg rfl rfl (r_move rfl) (F.qg rfl g314 (r_move rfl) (F.qg rfl g314 (r_not rfl) (F.qg rfl g314 (r_move rfl) ?_)))))
                         iterate 3 refine F.skf rfl g317 ?_
                         refine F.qg rfl g314 (r_pick rfl rfl g317) (F.qg rfl rfl (r_pick rfl rfl g314) (F.qn rfl (r_pickf rfl rfl rfl) (F.qn rfl (r_move rfl) ?_)))
                         iterate 3 refine F.skf rfl rfl ?_
                         refine F.qn rfl (r_pick rfl rfl rfl) (F.nil ?_)
                         cases hE_19
                         refine Nrm.only [3,4,5,8,18,26,328] rfl ?_
                         refine Nrm.pick [3,4,14,15,16,17] rfl rfl ?_
                         exact hj_16 _ _ ⟨rfl,rfl⟩
                        ·replace hE_19:=if_ff g317 hE_19
                         rcases Bool.eq_false_or_eq_true (decide (t207_1 < t298_1)) with g324 | g324
                         ·replace hE_19:=if_tt g324 hE_19
                          refine Tri.reg (l:=List.range 28) rfl ?_
                          refine F.qn rfl (r_move rfl) (F.qn rfl (r_not rfl) (F.qn rfl (r_move rfl) (F.qg rfl g303 (r_move rfl) (F.qg rfl g303 (r_neq rfl rfl) (F.qg rfl g303 (r_move rfl) ?_)))))
                          iterate 3 refine F.skf rfl g306 ?_
                          refine F.qg rfl g303 (r_pickf rfl rfl g306) (F.qn rfl (r_pickf rfl rfl g303) (F.qn rfl (r_move rfl) ?_))
                          refine F.qg rfl rfl (r_move rfl) (F.qg rfl rfl (r_move rfl) (F.qg rfl g314 (r_move rfl) (F.qg rfl g314 (r_not rfl) (F.qg rfl g314 (r_move rfl) (F.qg rfl g317 (r_move rfl) ?_)))))
                          refine F.qg rfl g317 (r_move rfl) (F.qg rfl g317 (r_lss rfl rfl) (F.qg rfl g314 (r_pickf rfl rfl g317) (F.qg rfl rfl (r_pick rfl rfl g314) (F.qn rfl (r_pickf rfl rfl rfl) (F.qn rfl (r_move rfl) ?_)))))
                          iterate 3 refine F.skf rfl g324 ?_
                          refine F.qn rfl (r_pick rfl rfl g324) (F.nil ?_)
                          cases hE_19
                          refine Nrm.only [3,4,5,8,18,26,328] rfl ?_
                          refine Nrm.pick [3,4,14,15,16,17] rfl rfl ?_
                          exact hj_16 _ _ ⟨rfl,rfl⟩
                         ·replace hE_19:=if_ff g324 hE_19
                          refine Tri.reg (l:=List.range 28) rfl ?_
                          refine F.qn rfl (r_move rfl) (F.qn rfl (r_not rfl) (F.qn rfl (r_move rfl) (F.qg rfl g303 (r_move rfl) (F.qg rfl g303 (r_neq rfl rfl) (F.qg rfl g303 (r_move rfl) ?_)))))
                          iterate 3 refine F.skf rfl g306 ?_
                          refine F.qg rfl g303 (r_pickf rfl rfl g306) ?_
                          refine F.qn rfl (r_pickf rfl rfl g303) (F.qn rfl (r_move rfl) (F.qg rfl rfl (r_move rfl) (F.qg rfl rfl (r_move rfl) (F.qg rfl g314 (r_move rfl) (F.qg rfl g314 (r_not rfl) ?_)))))
                          refine F.qg rfl g314 (r_move rfl) (F.qg rfl g317 (r_move rfl) (F.qg rfl g317 (r_move rfl) (F.qg rfl g317 (r_lss rfl rfl) (F.qg rfl g314 (r_pickf rfl rfl g317) (F.qg rfl rfl (r_pick rfl rfl g314) ?_)))))
                          refine F.qn rfl (r_pickf rfl rfl rfl) (F.qn rfl (r_move rfl) (F.qg rfl g324 (r_move rfl) (F.qg rfl g324 (r_move rfl) (F.qg rfl g324 (r_gtr rfl rfl) (F.qn rfl (r_pickf rfl rfl g324) (F.nil ?_))))))
                          cases hE_19
                          refine Nrm.only [3,4,5,8,18,26,328] rfl ?_
                          refine Nrm.pick [3,4,14,15,16,17] rfl rfl ?_
                          exact hj_16 _ _ ⟨rfl,rfl⟩
                       ·replace hE_19:=if_ff g314 hE_19
                        refine Tri.reg (l:=List.range 28) rfl ?_
                        refine F.qn rfl (r_move rfl) (F.qn rfl (r_not rfl) (F.qn rfl (r_move rfl) (F.qg rfl g303 (r_move rfl) (F.qg rfl g303 (r_neq rfl rfl) (F.qg rfl g303 (r_move rfl) ?_)))))
                        iterate 3 refine F.skf rfl g306 ?_
                        refine F.qg rfl g303 (r_pickf rfl rfl g306) (F.qn rfl (r_pickf rfl rfl g303) (F.qn rfl (r_move rfl) (F.qg rfl rfl (r_move rfl) (F.qg rfl rfl (r_move rfl) ?_))))
                        iterate 3 refine F.skf rfl g314 ?_
                        iterate 3 refine F.sk rfl rfl rfl (wanted_undef rfl rfl rfl) ?_
                        refine F.skf rfl g314 (F.qg rfl rfl (r_pickf rfl rfl g314) ?_)
                        refine F.qn rfl (r_pickf rfl rfl rfl) (F.qn rfl (r_move rfl) (F.qg rfl rfl (r_move rfl) (F.qg rfl rfl (r_move rfl) (F.qg rfl rfl (r_gtr rfl rfl) (F.qn rfl (r_pickf rfl rfl rfl) (F.nil ?_))))))
                        cases hE_19
                        refine Nrm.only [3,4,5,8,18,26,328] rfl ?_
                        refine Nrm.pick [3,4,14,15,16,17] rfl rfl ?_
                        exact hj_16 _ _ ⟨rfl,rfl⟩
                   ·replace h:=if_ff g_23 h
                    refine Tri.skip (Nrm.seq (Tri.seq (Tri.seq (Tri.reg (l:=[0,1]) rfl ?_))))
                    refine F.qn rfl (r_move rfl) (F.qn rfl (r_not rfl) (F.nil (Nrm.seq (Tri.cond (b:=!t59_2) rfl (fun g_29=>?_) (fun g_29=>?_)))))
                    ·replace h:=if_tt g_29 h
                     refine Tri.seq (Tri.reg (l:=[0]) rfl ?_)
                     refine F.qn rfl (r_assign rfl) (F.nil (Nrm.seq (Tri.ret ?_)))
                     refine Rtn.then ?_
                     cases h
                     exact Rtn.body (.tmp rfl .nil) (fun w hw=>⟨rfl,hw.ext⟩)
                    ·replace h:=if_ff g_29 h
                     refine Tri.skip (Nrm.seq (Tri.seq ?_))
                     obtain ⟨⟨t351_1,t351_2,t351_3⟩,h351,h⟩:=bind_some h
                     refine Tri.reg (l:=[0,1,2,3,4,5,6,7,8,9]) rfl ?_
                     refine F.qn rfl (r_loadA ta65 ti65 rfl rfl (fun w hw=>(box_cells (i:=3) rfl w hw))) (F.qn rfl (r_move rfl) ?_)
                     refine F.qcn rfl (q_callF (xs:=_) rfl ok69 rfl rfl (fun w hw=>impl_StateBehind.ok h351 w ((rd_sl (i:=14) rfl) w hw) ((rd_sl (i:=15) rfl) w hw) ((rd_sl (i:=16) rfl) w hw) ((rd_sl (i:=17) rfl) w hw))) ?_
                     refine F.qn rfl (r_move rfl) ?_
                     iterate 3 refine F.qn rfl (r_extract rfl rfl) ?_
                     iterate 3 refine F.qn rfl (r_assign rfl) ?_
                     refine F.nil (Nrm.seq (Tri.seq (Tri.seq ?_)))
                     obtain ⟨y363rrr,hE_24,h⟩:=bind_some h
                     refine Tri.cut (fun e' C'=>e' = [(18,v141_1),(48,.int .i64 t351_1),(49,.int .i64 t351_2),(363,.bool y363rrr)]∧C' = Sep w noM [R.sl S141_1 v141_1 (t141_1 : List (Int × Int))]) ?_ (fun hj_20=>?_)
                     ·rintro _ _ ⟨rfl,rfl⟩
                      refine Nrm.seq (Tri.cond (b:=y363rrr) rfl (fun g_30=>?_) (fun g_30=>?_))
                      ·replace h:=if_tt g_30 h
                       refine Tri.seq (Tri.reg (l:=[0]) rfl ?_)
                       refine F.qn rfl (r_assign rfl) (F.nil (Nrm.seq (Tri.ret ?_)))
                       refine Rtn.then ?_
                       cases h
                       exact Rtn.body (.tmp rfl .nil) (fun w hw=>⟨rfl,hw.ext⟩)
                      ·replace h:=if_ff g_30 h
                       refine Tri.skip (Nrm.seq (Tri.seq (Tri.reg (l:=[0]) rfl ?_)))
                       refine F.qn rfl (r_assign rfl) (F.nil (Nrm.seq (Tri.seq (Tri.seq (Tri.reg (l:=[0]) rfl ?_)))))
                       refine F.qn rfl (r_assign rfl) (F.nil (Nrm.seq ?_))
                       obtain ⟨x51rrr,hE_25,h⟩:=bind_some h
                       refine Tri.block ?_
                       refine Tri.only [18,48,49,51,52] rfl ?_
                       refine Tri.pick [0] rfl rfl ?_
                       refine Tri.rounds (fun n e' C'=>∃ (x51rrr' : Bool) (x52rrr' : Int),laws_FnTraps.l4 k t141_1 t351_1 t351_2 n x51rrr' x52rrr' = some x51rrr∧e' = [(18,v141_1),(48,.int .i64 t351_1),(49,.int .i64 t351_2),(51,.bool x51rrr'),(52,.int .i64 x52rrr')]∧C' = Sep w noM [R.sl S141_1 v141_1 (t141_1 : List (Int × Int))]) k ?_ ?_ ?_
                       ·exact ⟨false,0,hE_25,rfl,rfl⟩
                       ·rintro _ _ ⟨_,_,hE_25,_⟩
                        rw [laws_FnTraps.l4.eq_1] at hE_25; cases hE_25
                       ·rintro n_5 _ _ ⟨x51rrr,x52rrr,hE_25,rfl,rfl⟩ ih_5
                        rw [laws_FnTraps.l4.eq_2] at hE_25
                        refine Tri.seq (Tri.seq (Tri.reg (l:=[0,1,2,3]) rfl ?_))
                        refine F.qn rfl (r_move rfl) (F.qn rfl (r_move rfl) (F.qn rfl (r_len Tryz.underlying72 rfl hl_v141_1) (F.qn rfl (r_lss rfl rfl) (F.nil (Nrm.seq (Tri.cond (b:=decide (x52rrr < (t141_1.length : Int))) rfl (fun g_31=>?_) (fun g_31=>?_)))))))
                        ·replace hE_25:=if_tt g_31 hE_25
                         refine Tri.skip (Nrm.seq (Tri.seq (Tri.block ?_)))
                         obtain ⟨y51rrr,hE_26,hE_25⟩:=bind_some hE_25
                         refine Tri.cut (fun e' C'=>e' = [(18,v141_1),(48,.int .i64 t351_1),(49,.int .i64 t351_2),(51,.bool y51rrr),(52,.int .i64 x52rrr)]∧C' = Sep w noM [R.sl S141_1 v141_1 (t141_1 : List (Int × Int))]) ?_ (fun hj_21=>?_)
                         ·rintro _ _ ⟨rfl,rfl⟩
                          refine Nrm.block ?_
                          refine Nrm.seq (Tri.reg (l:=[0,1,2]) rfl ?_)
                          refine F.qn rfl (r_move rfl) (F.qn rfl (r_add rfl rfl) (F.qn rfl (r_assign rfl) (F.nil (Nrm.round ?_))))
                          refine Rnd.only [18,48,49,51,52] rfl ?_
                          refine Rnd.pick [0] rfl rfl ?_
                          exact ih_5 _ _ ⟨y51rrr,w64 (x52rrr + 1),hE_25,rfl,rfl⟩
                         ·rcases Bool.eq_false_or_eq_true (x51rrr) with g371 | g371
                          ·replace hE_26:=if_tt g371 hE_26
                           refine Tri.reg (l:=List.range 12) rfl ?_
                           refine F.qn rfl (r_move rfl) (F.qn rfl (r_move rfl) ?_)
                           iterate 8 refine F.skf rfl g371 ?_
                           refine F.qn rfl (r_pick rfl rfl g371) (F.qn rfl (r_assign rfl) (F.nil ?_))
                           cases hE_26
                           refine Nrm.only [18,48,49,51,52] rfl ?_
                           refine Nrm.pick [0] rfl rfl ?_
                           exact hj_21 _ _ ⟨rfl,rfl⟩
                          ·replace hE_26:=if_ff g371 hE_26
                           obtain ⟨t374,h374,hE_26⟩:=bind_some hE_26
                           refine Tri.reg (l:=List.range 12) rfl ?_
                           refine F.qn rfl (r_move rfl) (F.qn rfl (r_move rfl) (F.qg rfl g371 (r_move rfl) (F.qg rfl g371 (r_move rfl) (F.qg rfl g371 (r_indexAddrS Tryz.underlying72 ti75 rfl hl_v141_1 rfl (rdl_some h374).1 (rdl_some h374).2.1) (F.qg rfl g371 (r_loadA ta75 ti75 rfl rfl (fun w hw=>(Rd.flat ((rd_sl (i:=0) rfl) w hw) (rdl_some h374).2.2))) ?_)))))
                           refine F.qg rfl g371 (r_move rfl) (F.qg rfl g371 (r_move rfl) (F.qg rfl g371 (r_buildA (qs:=[(0,[.int .i64 t351_1]),(1,[.int .i64 t351_2])]) (cs:=[.int .i64 t351_1,.int .i64 t351_2]) Tryz.underlying75 ti3 ti75 rfl (.cons rfl rfl (Nat.le_of_ble_eq_true rfl) (.cons rfl rfl (Nat.le_of_ble_eq_true rfl) .nil)) rfl rfl) (F.qg rfl g371 (r_eqlA2 Tryz.underlying75 Tryz.underlying3 ti3 ta3 rfl rfl eg75) (F.qn rfl (r_pickf rfl rfl g371) (F.qn rfl (r_assign rfl) (F.nil ?_))))))
                           cases hE_26
                           refine Nrm.only [18,48,49,51,52] rfl ?_
                           refine Nrm.pick [0] rfl rfl ?_
                           exact hj_21 _ _ ⟨rfl,rfl⟩
                        ·replace hE_25:=if_ff g_31 hE_25
                         refine Tri.exit ?_
                         refine Exi.then ?_
                         refine Exi.then ?_
                         refine Exi.same ?_
                         cases hE_25
                         refine Nrm.seq (Tri.seq (Tri.reg (l:=[0,1]) rfl ?_))
                         refine F.qn rfl (r_move rfl) (F.qn rfl (r_assign rfl) (F.nil (Nrm.seq (Tri.ret ?_))))
                         cases h
                         exact Rtn.body (.tmp rfl .nil) (fun w hw=>⟨rfl,hw.ext⟩)
                     ·rcases Bool.eq_false_or_eq_true (!t351_3) with g357 | g357
                      ·replace hE_24:=if_tt g357 hE_24
                       refine Tri.reg (l:=[0,1,2,3,4,5,6,7,8]) rfl ?_
                       refine F.qn rfl (r_move rfl) (F.qn rfl (r_not rfl) (F.qn rfl (r_move rfl) ?_))
                       iterate 5 refine F.skf rfl g357 ?_
                       refine F.qn rfl (r_pick rfl rfl g357) (F.nil ?_)
                       cases hE_24
                       refine Nrm.only [18,48,49,363] rfl ?_
                       refine Nrm.pick [4] rfl rfl ?_
                       exact hj_20 _ _ ⟨rfl,rfl⟩
                      ·replace hE_24:=if_ff g357 hE_24
                       refine Tri.reg (l:=[0,1,2,3,4,5,6,7,8]) rfl ?_
                       refine F.qn rfl (r_move rfl) (F.qn rfl (r_not rfl) (F.qn rfl (r_move rfl) ?_))
                       refine F.qg rfl g357 (r_move rfl) (F.qg rfl g357 (r_len Tryz.underlying25 rfl hl_v59_1) (F.qg rfl g357 (r_move rfl) (F.qg rfl g357 (r_add rfl rfl) (F.qg rfl g357 (r_neq rfl rfl) (F.qn rfl (r_pickf rfl rfl g357) (F.nil ?_))))))
                       cases hE_24
                       refine Nrm.only [18,48,49,363] rfl ?_
                       refine Nrm.pick [4] rfl rfl ?_
                       exact hj_20 _ _ ⟨rfl,rfl⟩
                ·rcases Bool.eq_false_or_eq_true (t255_5 != t261_5) with g267 | g267
                 ·replace hE_9:=if_tt g267 hE_9
                  refine Tri.reg (l:=[0,1,2,3,4,5,6,7,8]) rfl ?_
                  refine F.qn rfl (r_move rfl) (F.qn rfl (r_move rfl) (F.qn rfl (r_neqB Tryz.underlying4 rfl rfl) (F.qn rfl (r_move rfl) ?_)))
                  iterate 4 refine F.skf rfl g267 ?_
                  refine F.qn rfl (r_pick rfl rfl g267) (F.nil ?_)
                  cases hE_9
                  refine Nrm.only [3,4,5,8,12,14,18,25,26,29,33,34,35,36,272] rfl ?_
                  refine Nrm.pick [4,8,12,13,14,15,16,17,9,10,11,5,6,7,18,19,20,21] rfl rfl ?_
                  exact hj_8 _ _ ⟨rfl,rfl⟩
                 ·replace hE_9:=if_ff g267 hE_9
                  obtain ⟨t270,h270,hE_9⟩:=bind_some hE_9
                  refine Tri.reg (l:=[0,1,2,3,4,5,6,7,8]) rfl ?_
                  refine F.qn rfl (r_move rfl) (F.qn rfl (r_move rfl) (F.qn rfl (r_neqB Tryz.underlying4 rfl rfl) (F.qn rfl (r_move rfl) (F.qg rfl g267 (r_loadA ta65 ti65 rfl rfl (fun w hw=>(box_cells (i:=4) rfl w hw))) (F.qg rfl g267 (r_loadA ta65 ti65 rfl rfl (fun w hw=>(box_cells (i:=0) rfl w hw))) ?_)))))
                  refine F.qc rfl rfl rfl (wg rfl rfl rfl g267) (q_callF (xs:=_) rfl ok64 rfl rfl (fun w hw=>laws_rTrap.ok h270 w ((rd_sl (i:=5) rfl) w hw) ((rd_sl (i:=6) rfl) w hw) ((rd_sl (i:=7) rfl) w hw) ((rd_sl (i:=1) rfl) w hw) ((rd_sl (i:=2) rfl) w hw) ((rd_sl (i:=3) rfl) w hw))) ?_
                  refine F.qg rfl g267 (r_not rfl) (F.qn rfl (r_pickf rfl rfl g267) (F.nil ?_))
                  cases hE_9
                  refine Nrm.only [3,4,5,8,12,14,18,25,26,29,33,34,35,36,272] rfl ?_
                  refine Nrm.pick [4,8,12,13,14,15,16,17,9,10,11,5,6,7,18,19,20,21] rfl rfl ?_
                  exact hj_8 _ _ ⟨rfl,rfl⟩
              ·rcases Bool.eq_false_or_eq_true (t225_5 != t230_5) with g236 | g236
               ·replace hE_8:=if_tt g236 hE_8
                refine Tri.reg (l:=List.range 14) rfl ?_
                refine F.qn rfl (r_move rfl) (F.qn rfl (r_move rfl) (F.qn rfl (r_neqB Tryz.underlying4 rfl rfl) (F.qn rfl (r_move rfl) ?_)))
                iterate 3 refine F.skf rfl g236 ?_
                refine F.qn rfl (r_pick rfl rfl g236) (F.qn rfl (r_move rfl) ?_)
                iterate 4 refine F.skf rfl rfl ?_
                refine F.qn rfl (r_pick rfl rfl rfl) (F.nil ?_)
                cases hE_8
                refine Nrm.only [0,3,4,5,8,12,14,18,25,26,29,246] rfl ?_
                refine Nrm.pick [4,8,9,5,6,7,10,11,12,13] rfl rfl ?_
                exact hj_7 _ _ ⟨rfl,rfl⟩
               ·replace hE_8:=if_ff g236 hE_8
                rcases Bool.eq_false_or_eq_true (t225_5 != t101_3) with g241 | g241
                ·replace hE_8:=if_tt g241 hE_8
                 refine Tri.reg (l:=List.range 14) rfl ?_
                 refine F.qn rfl (r_move rfl) (F.qn rfl (r_move rfl) (F.qn rfl (r_neqB Tryz.underlying4 rfl rfl) ?_))
                 refine F.qn rfl (r_move rfl) (F.qg rfl g236 (r_move rfl) (F.qg rfl g236 (r_move rfl) (F.qg rfl g236 (r_neqB Tryz.underlying4 rfl rfl) (F.qn rfl (r_pickf rfl rfl g236) (F.qn rfl (r_move rfl) ?_)))))
                 iterate 4 refine F.skf rfl g241 ?_
                 refine F.qn rfl (r_pick rfl rfl g241) (F.nil ?_)
                 cases hE_8
                 refine Nrm.only [0,3,4,5,8,12,14,18,25,26,29,246] rfl ?_
                 refine Nrm.pick [4,8,9,5,6,7,10,11,12,13] rfl rfl ?_
                 exact hj_7 _ _ ⟨rfl,rfl⟩
                ·replace hE_8:=if_ff g241 hE_8
                 obtain ⟨t244,h244,hE_8⟩:=bind_some hE_8
                 refine Tri.reg (l:=List.range 14) rfl ?_
                 refine F.qn rfl (r_move rfl) (F.qn rfl (r_move rfl) (F.qn rfl (r_neqB Tryz.underlying4 rfl rfl) (F.qn rfl (r_move rfl) (F.qg rfl g236 (r_move rfl) ?_))))
                 refine F.qg rfl g236 (r_move rfl) (F.qg rfl g236 (r_neqB Tryz.underlying4 rfl rfl) (F.qn rfl (r_pickf rfl rfl g236) (F.qn rfl (r_move rfl) (F.qg rfl g241 (r_loadA ta65 ti65 rfl rfl (fun w hw=>(box_cells (i:=4) rfl w hw))) (F.qg rfl g241 (r_loadA ta65 ti65 rfl rfl (fun w hw=>(box_cells (i:=0) rfl w hw))) ?_)))))
                 refine F.qc rfl rfl rfl (wg rfl rfl rfl g241) (q_callF (xs:=_) rfl ok64 rfl rfl (fun w hw=>laws_rTrap.ok h244 w ((rd_sl (i:=5) rfl) w hw) ((rd_sl (i:=6) rfl) w hw) ((rd_sl (i:=7) rfl) w hw) ((rd_sl (i:=1) rfl) w hw) ((rd_sl (i:=2) rfl) w hw) ((rd_sl (i:=3) rfl) w hw))) ?_
                 refine F.qg rfl g241 (r_not rfl) (F.qn rfl (r_pickf rfl rfl g241) (F.nil ?_))
                 cases hE_8
                 refine Nrm.only [0,3,4,5,8,12,14,18,25,26,29,246] rfl ?_
                 refine Nrm.pick [4,8,9,5,6,7,10,11,12,13] rfl rfl ?_
                 exact hj_7 _ _ ⟨rfl,rfl⟩
            ·rcases Bool.eq_false_or_eq_true (t207_1 != t212_1) with g218 | g218
             ·replace hE_7:=if_tt g218 hE_7
              refine Tri.reg (l:=[0,1,2,3,4,5,6,7]) rfl ?_
              refine F.qn rfl (r_move rfl) (F.qn rfl (r_move rfl) (F.qn rfl (r_neq rfl rfl) (F.qn rfl (r_move rfl) ?_)))
              iterate 3 refine F.skf rfl g218 ?_
              refine F.qn rfl (r_pick rfl rfl g218) (F.nil ?_)
              cases hE_7
              refine Nrm.only [0,3,4,5,8,12,14,18,25,26,222] rfl ?_
              refine Nrm.pick [0,1,3,4,5,6] rfl rfl ?_
              exact hj_6 _ _ ⟨rfl,rfl⟩
             ·replace hE_7:=if_ff g218 hE_7
              refine Tri.reg (l:=[0,1,2,3,4,5,6,7]) rfl ?_
              refine F.qn rfl (r_move rfl) (F.qn rfl (r_move rfl) ?_)
              refine F.qn rfl (r_neq rfl rfl) (F.qn rfl (r_move rfl) (F.qg rfl g218 (r_move rfl) (F.qg rfl g218 (r_move rfl) (F.qg rfl g218 (r_neqB Tryz.underlying4 rfl rfl) (F.qn rfl (r_pickf rfl rfl g218) (F.nil ?_))))))
              cases hE_7
              refine Nrm.only [0,3,4,5,8,12,14,18,25,26,222] rfl ?_
              refine Nrm.pick [0,1,3,4,5,6] rfl rfl ?_
              exact hj_6 _ _ ⟨rfl,rfl⟩
        ·rcases Bool.eq_false_or_eq_true (t141_2 != t146_2) with g152 | g152
         ·replace hE_4:=if_tt g152 hE_4
          refine Tri.reg (l:=List.range 21) rfl ?_
          refine F.qn rfl (r_move rfl) (F.qn rfl (r_move rfl) (F.qn rfl (r_neqB Tryz.underlying4 rfl rfl) (F.qn rfl (r_move rfl) ?_)))
          iterate 3 refine F.skf rfl g152 ?_
          refine F.qn rfl (r_pick rfl rfl g152) (F.qn rfl (r_move rfl) ?_)
          iterate 5 refine F.skf rfl rfl ?_
          refine F.qn rfl (r_pick rfl rfl rfl) (F.qn rfl (r_move rfl) ?_)
          iterate 4 refine F.skf rfl rfl ?_
          refine F.qn rfl (r_pick rfl rfl rfl) (F.nil ?_)
          cases hE_4
          refine Nrm.only [0,3,4,5,8,12,14,18,20,169] rfl ?_
          refine Nrm.pick [2,1,0,3,4,5,6] rfl rfl ?_
          exact hj_4 _ _ ⟨rfl,rfl⟩
         ·replace hE_4:=if_ff g152 hE_4
          rcases Bool.eq_false_or_eq_true (t141_2 != t101_3) with g157 | g157
          ·replace hE_4:=if_tt g157 hE_4
           refine Tri.reg (l:=List.range 21) rfl ?_
           refine F.qn rfl (r_move rfl) (F.qn rfl (r_move rfl) (F.qn rfl (r_neqB Tryz.underlying4 rfl rfl) ?_))
           refine F.qn rfl (r_move rfl) (F.qg rfl g152 (r_move rfl) (F.qg rfl g152 (r_move rfl) (F.qg rfl g152 (r_neqB Tryz.underlying4 rfl rfl) (F.qn rfl (r_pickf rfl rfl g152) (F.qn rfl (r_move rfl) ?_)))))
           iterate 5 refine F.skf rfl g157 ?_
           refine F.qn rfl (r_pick rfl rfl g157) (F.qn rfl (r_move rfl) ?_)
           iterate 4 refine F.skf rfl rfl ?_
           refine F.qn rfl (r_pick rfl rfl rfl) (F.nil ?_)
           cases hE_4
           refine Nrm.only [0,3,4,5,8,12,14,18,20,169] rfl ?_
           refine Nrm.pick [2,1,0,3,4,5,6] rfl rfl ?_
           exact hj_4 _ _ ⟨rfl,rfl⟩
          ·replace hE_4:=if_ff g157 hE_4
           rcases Bool.eq_false_or_eq_true ((t141_1.length : Int) != (t146_1.length : Int)) with g164 | g164
           ·replace hE_4:=if_tt g164 hE_4
            refine Tri.reg (l:=List.range 21) rfl ?_
            refine F.qn rfl (r_move rfl) (F.qn rfl (r_move rfl) (F.qn rfl (r_neqB Tryz.underlying4 rfl rfl) (F.qn rfl (r_move rfl) ?_)))
            refine F.qg rfl g152 (r_move rfl) (F.qg rfl g152 (r_move rfl) (F.qg rfl g152 (r_neqB Tryz.underlying4 rfl rfl) (F.qn rfl (r_pickf rfl rfl g152) (F.qn rfl (r_move rfl) (F.qg rfl g157 (r_move rfl) ?_)))))
            refine F.qg rfl g157 (r_len Tryz.underlying72 rfl hl_v141_1) (F.qg rfl g157 (r_move rfl) (F.qg rfl g157 (r_len Tryz.underlying72 rfl hl_v146_1) (F.qg rfl g157 (r_neq rfl rfl) (F.qn rfl (r_pickf rfl rfl g157) (F.qn rfl (r_move rfl) ?_)))))
            iterate 4 refine F.skf rfl g164 ?_
            refine F.qn rfl (r_pick rfl rfl g164) (F.nil ?_)
            cases hE_4
            refine Nrm.only [0,3,4,5,8,12,14,18,20,169] rfl ?_
            refine Nrm.pick [2,1,0,3,4,5,6] rfl rfl ?_
            exact hj_4 _ _ ⟨rfl,rfl⟩
           ·replace hE_4:=if_ff g164 hE_4
            refine Tri.reg (l:=List.range 21) rfl ?_
            refine F.qn rfl (r_move rfl) (F.qn rfl (r_move rfl) (F.qn rfl (r_neqB Tryz.underlying4 rfl rfl) ?_))
            refine F.qn rfl (r_move rfl) (F.qg rfl g152 (r_move rfl) (F.qg rfl g152 (r_move rfl) (F.qg rfl g152 (r_neqB Tryz.underlying4 rfl rfl) (F.qn rfl (r_pickf rfl rfl g152) (F.qn rfl (r_move rfl) ?_)))))
            refine F.qg rfl g157 (r_move rfl) (F.qg rfl g157 (r_len Tryz.underlying72 rfl hl_v141_1) (F.qg rfl g157 (r_move rfl) (F.qg rfl g157 (r_len Tryz.underlying72 rfl hl_v146_1) (F.qg rfl g157 (r_neq rfl rfl) (F.qn rfl (r_pickf rfl rfl g157) ?_)))))
            refine F.qn rfl (r_move rfl) (F.qg rfl g164 (r_move rfl) (F.qg rfl g164 (r_len Tryz.underlying72 rfl hl_v141_1) (F.qg rfl g164 (r_move rfl) (F.qg rfl g164 (r_neq rfl rfl) (F.qn rfl (r_pickf rfl rfl g164) (F.nil ?_))))))
            cases hE_4
            refine Nrm.only [0,3,4,5,8,12,14,18,20,169] rfl ?_
            refine Nrm.pick [2,1,0,3,4,5,6] rfl rfl ?_
            exact hj_4 _ _ ⟨rfl,rfl⟩
      ·rcases Bool.eq_false_or_eq_true (t101_1 != t107_1) with g114 | g114
       ·replace hE_3:=if_tt g114 hE_3
        refine Tri.reg (l:=List.range 28) rfl ?_
        refine F.qn rfl (r_move rfl) (F.qn rfl (r_move rfl) (F.qn rfl (r_neq rfl rfl) (F.qn rfl (r_move rfl) ?_)))
        iterate 3 refine F.skf rfl g114 ?_
        refine F.qn rfl (r_pick rfl rfl g114) (F.qn rfl (r_move rfl) ?_)
        iterate 3 refine F.skf rfl rfl ?_
        refine F.qn rfl (r_pick rfl rfl rfl) (F.qn rfl (r_move rfl) ?_)
        iterate 4 refine F.skf rfl rfl ?_
        refine F.qn rfl (r_pick rfl rfl rfl) (F.qn rfl (r_move rfl) ?_)
        iterate 3 refine F.skf rfl rfl ?_
        refine F.sk rfl rfl rfl (wanted_undef rfl rfl rfl) ?_
        refine F.sk rfl rfl rfl (wanted_undef rfl rfl rfl) ?_
        refine F.skf rfl rfl (F.skf rfl rfl (F.qn rfl (r_pick rfl rfl rfl) (F.nil ?_)))
        cases hE_3
        refine Nrm.only [0,3,4,5,8,12,13,14,138] rfl ?_
        refine Nrm.pick [0,1,2,3,4] rfl rfl ?_
        exact hj_3 _ _ ⟨rfl,rfl⟩
       ·replace hE_3:=if_ff g114 hE_3
        rcases Bool.eq_false_or_eq_true (t101_2 != t107_2) with g119 | g119
        ·replace hE_3:=if_tt g119 hE_3
         refine Tri.reg (l:=List.range 28) rfl ?_
         refine F.qn rfl (r_move rfl) (F.qn rfl (r_move rfl) (F.qn rfl (r_neq rfl rfl) ?_))
         refine F.qn rfl (r_move rfl) (F.qg rfl g114 (r_move rfl) (F.qg rfl g114 (r_move rfl) (F.qg rfl g114 (r_neq rfl rfl) (F.qn rfl (r_pickf rfl rfl g114) (F.qn rfl (r_move rfl) ?_)))))
         iterate 3 refine F.skf rfl g119 ?_
         refine F.qn rfl (r_pick rfl rfl g119) (F.qn rfl (r_move rfl) ?_)
         iterate 4 refine F.skf rfl rfl ?_
         refine F.qn rfl (r_pick rfl rfl rfl) (F.qn rfl (r_move rfl) ?_)
         iterate 3 refine F.skf rfl rfl ?_
         refine F.sk rfl rfl rfl (wanted_undef rfl rfl rfl) ?_
         refine F.sk rfl rfl rfl (wanted_undef rfl rfl rfl) ?_
         refine F.skf rfl rfl (F.skf rfl rfl (F.qn rfl (r_pick rfl rfl rfl) (F.nil ?_)))
         cases hE_3
         refine Nrm.only [0,3,4,5,8,12,13,14,138] rfl ?_
         refine Nrm.pick [0,1,2,3,4] rfl rfl ?_
         exact hj_3 _ _ ⟨rfl,rfl⟩
        ·replace hE_3:=if_ff g119 hE_3
         rcases Bool.eq_false_or_eq_true (t101_3 != t107_3) with g124 | g124
         ·replace hE_3:=if_tt g124 hE_3
          refine Tri.reg (l:=List.range 28) rfl ?_
          refine F.qn rfl (r_move rfl) (F.qn rfl (r_move rfl) ?_)
          refine F.qn rfl (r_neq rfl rfl) (F.qn rfl (r_move rfl) (F.qg rfl g114 (r_move rfl) (F.qg rfl g114 (r_move rfl) (F.qg rfl g114 (r_neq rfl rfl) (F.qn rfl (r_pickf rfl rfl g114) ?_)))))
          refine F.qn rfl (r_move rfl) (F.qg rfl g119 (r_move rfl) (F.qg rfl g119 (r_move rfl) (F.qg rfl g119 (r_neqB Tryz.underlying4 rfl rfl) (F.qn rfl (r_pickf rfl rfl g119) (F.qn rfl (r_move rfl) ?_)))))
          iterate 4 refine F.skf rfl g124 ?_
          refine F.qn rfl (r_pick rfl rfl g124) (F.qn rfl (r_move rfl) ?_)
          iterate 3 refine F.skf rfl rfl ?_
          refine F.sk rfl rfl rfl (wanted_undef rfl rfl rfl) ?_
          refine F.sk rfl rfl rfl (wanted_undef rfl rfl rfl) ?_
          refine F.skf rfl rfl (F.skf rfl rfl (F.qn rfl (r_pick rfl rfl rfl) (F.nil ?_)))
          cases hE_3
          refine Nrm.only [0,3,4,5,8,12,13,14,138] rfl ?_
          refine Nrm.pick [0,1,2,3,4] rfl rfl ?_
          exact hj_3 _ _ ⟨rfl,rfl⟩
         ·replace hE_3:=if_ff g124 hE_3
          obtain ⟨t127,h127,hE_3⟩:=bind_some hE_3
          rcases Bool.eq_false_or_eq_true (t101_3 != t127) with g130 | g130
          ·replace hE_3:=if_tt g130 hE_3
           refine Tri.reg (l:=List.range 28) rfl ?_
           refine F.qn rfl (r_move rfl) (F.qn rfl (r_move rfl) (F.qn rfl (r_neq rfl rfl) (F.qn rfl (r_move rfl) ?_)))
           refine F.qg rfl g114 (r_move rfl) (F.qg rfl g114 (r_move rfl) (F.qg rfl g114 (r_neq rfl rfl) (F.qn rfl (r_pickf rfl rfl g114) (F.qn rfl (r_move rfl) (F.qg rfl g119 (r_move rfl) ?_)))))
           refine F.qg rfl g119 (r_move rfl) (F.qg rfl g119 (r_neqB Tryz.underlying4 rfl rfl) (F.qn rfl (r_pickf rfl rfl g119) (F.qn rfl (r_move rfl) (F.qg rfl g124 (r_move rfl) (F.qg rfl g124 (r_loadA ta65 ti65 rfl rfl (fun w hw=>(box_cells (i:=0) rfl w hw))) ?_)))))
           refine F.qc rfl rfl rfl (wg rfl rfl rfl g124) (q_callF (xs:=_) rfl ok56 rfl rfl (fun w hw=>impl_IsTrap.ok h127 w ((rd_sl (i:=1) rfl) w hw) ((rd_sl (i:=2) rfl) w hw) ((rd_sl (i:=3) rfl) w hw))) ?_
           refine F.qg rfl g124 (r_neqB Tryz.underlying4 rfl rfl) (F.qn rfl (r_pickf rfl rfl g124) (F.qn rfl (r_move rfl) ?_))
           iterate 3 refine F.skf rfl g130 ?_
           refine F.sk rfl rfl rfl (wanted_undef rfl rfl rfl) ?_
           refine F.sk rfl rfl rfl (wanted_undef rfl rfl rfl) ?_
           refine F.skf rfl g130 (F.skf rfl g130 (F.qn rfl (r_pick rfl rfl g130) (F.nil ?_)))
           cases hE_3
           refine Nrm.only [0,3,4,5,8,12,13,14,138] rfl ?_
           refine Nrm.pick [0,1,2,3,4] rfl rfl ?_
           exact hj_3 _ _ ⟨rfl,rfl⟩
          ·replace hE_3:=if_ff g130 hE_3
           rcases Bool.eq_false_or_eq_true (t101_3) with g133 | g133
           ·replace hE_3:=if_tt g133 hE_3
            refine Tri.reg (l:=List.range 28) rfl ?_
            refine F.qn rfl (r_move rfl) (F.qn rfl (r_move rfl) (F.qn rfl (r_neq rfl rfl) (F.qn rfl (r_move rfl) ?_)))
            refine F.qg rfl g114 (r_move rfl) (F.qg rfl g114 (r_move rfl) (F.qg rfl g114 (r_neq rfl rfl) (F.qn rfl (r_pickf rfl rfl g114) (F.qn rfl (r_move rfl) (F.qg rfl g119 (r_move rfl) ?_)))))
            refine F.qg rfl g119 (r_move rfl) (F.qg rfl g119 (r_neqB Tryz.underlying4 rfl rfl) (F.qn rfl (r_pickf rfl rfl g119) (F.qn rfl (r_move rfl) (F.qg rfl g124 (r_move rfl) (F.qg rfl g124 (r_loadA ta65 ti65 rfl rfl (fun w hw=>(box_cells (i:=0) rfl w hw))) ?_)))))
            refine F.qc rfl rfl rfl (wg rfl rfl rfl g124) (q_callF (xs:=_) rfl ok56 rfl rfl (fun w hw=>impl_IsTrap.ok h127 w ((rd_sl (i:=1) rfl) w hw) ((rd_sl (i:=2) rfl) w hw) ((rd_sl (i:=3) rfl) w hw))) ?_
            refine F.qg rfl g124 (r_neqB Tryz.underlying4 rfl rfl) (F.qn rfl (r_pickf rfl rfl g124) (F.qn rfl (r_move rfl) ?_))
            iterate 3 refine F.qg rfl g130 (r_move rfl) ?_
            refine F.qg rfl g133 (r_move rfl) (F.qg rfl g133 (r_gtr rfl rfl) (F.qg rfl g130 (r_pick rfl rfl g133) (F.qg rfl g130 (r_neqB Tryz.underlying4 rfl rfl) (F.qn rfl (r_pickf rfl rfl g130) (F.nil ?_)))))
            cases hE_3
            refine Nrm.only [0,3,4,5,8,12,13,14,138] rfl ?_
            refine Nrm.pick [0,1,2,3,4] rfl rfl ?_
            exact hj_3 _ _ ⟨rfl,rfl⟩
           ·replace hE_3:=if_ff g133 hE_3
            refine Tri.reg (l:=List.range 28) rfl ?_
            refine F.qn rfl (r_move rfl) (F.qn rfl (r_move rfl) (F.qn rfl (r_neq rfl rfl) (F.qn rfl (r_move rfl) ?_)))
            refine F.qg rfl g114 (r_move rfl) (F.qg rfl g114 (r_move rfl) (F.qg rfl g114 (r_neq rfl rfl) (F.qn rfl (r_pickf rfl rfl g114) (F.qn rfl (r_move rfl) (F.qg rfl g119 (r_move rfl) ?_)))))
            refine F.qg rfl g119 (r_move rfl) (F.qg rfl g119 (r_neqB Tryz.underlying4 rfl rfl) (F.qn rfl (r_pickf rfl rfl g119) (F.qn rfl (r_move rfl) (F.qg rfl g124 (r_move rfl) (F.qg rfl g124 (r_loadA ta65 ti65 rfl rfl (fun w hw=>(box_cells (i:=0) rfl w hw))) ?_)))))
            refine F.qc rfl rfl rfl (wg rfl rfl rfl g124) (q_callF (xs:=_) rfl ok56 rfl rfl (fun w hw=>impl_IsTrap.ok h127 w ((rd_sl (i:=1) rfl) w hw) ((rd_sl (i:=2) rfl) w hw) ((rd_sl (i:=3) rfl) w hw))) ?_
            refine F.qg rfl g124 (r_neqB Tryz.underlying4 rfl rfl) (F.qn rfl (r_pickf rfl rfl g124) (F.qn rfl (r_move rfl) ?_))
            iterate 3 refine F.qg rfl g130 (r_move rfl) ?_
            refine F.skf rfl g133 (F.skf rfl g133 (F.qg rfl g130 (r_pickf rfl rfl g133) (F.qg rfl g130 (r_neqB Tryz.underlying4 rfl rfl) (F.qn rfl (r_pickf rfl rfl g130) (F.nil ?_)))))
            cases hE_3
            refine Nrm.only [0,3,4,5,8,12,13,14,138] rfl ?_
            refine Nrm.pick [0,1,2,3,4] rfl rfl ?_
            exact hj_3 _ _ ⟨rfl,rfl⟩
    ·rcases Bool.eq_false_or_eq_true (t78_1 != t83_1) with g89 | g89
     ·replace hE_2:=if_tt g89 hE_2
      refine Tri.reg (l:=List.range 13) rfl ?_
      refine F.qn rfl (r_move rfl) (F.qn rfl (r_move rfl) (F.qn rfl (r_neq rfl rfl) (F.qn rfl (r_move rfl) ?_)))
      iterate 3 refine F.skf rfl g89 ?_
      refine F.qn rfl (r_pick rfl rfl g89) (F.qn rfl (r_move rfl) ?_)
      iterate 3 refine F.skf rfl rfl ?_
      refine F.qn rfl (r_pick rfl rfl rfl) (F.nil ?_)
      cases hE_2
      refine Nrm.only [0,3,4,5,8,98] rfl ?_
      refine Nrm.pick [0,1,2,3,4] rfl rfl ?_
      exact hj_2 _ _ ⟨rfl,rfl⟩
     ·replace hE_2:=if_ff g89 hE_2
      rcases Bool.eq_false_or_eq_true (t78_2 != t83_2) with g94 | g94
      ·replace hE_2:=if_tt g94 hE_2
       refine Tri.reg (l:=List.range 13) rfl ?_
       refine F.qn rfl (r_move rfl) (F.qn rfl (r_move rfl) (F.qn rfl (r_neq rfl rfl) ?_))
       refine F.qn rfl (r_move rfl) (F.qg rfl g89 (r_move rfl) (F.qg rfl g89 (r_move rfl) (F.qg rfl g89 (r_neqB Tryz.underlying4 rfl rfl) (F.qn rfl (r_pickf rfl rfl g89) (F.qn rfl (r_move rfl) ?_)))))
       iterate 3 refine F.skf rfl g94 ?_
       refine F.qn rfl (r_pick rfl rfl g94) (F.nil ?_)
       cases hE_2
       refine Nrm.only [0,3,4,5,8,98] rfl ?_
       refine Nrm.pick [0,1,2,3,4] rfl rfl ?_
       exact hj_2 _ _ ⟨rfl,rfl⟩
      ·replace hE_2:=if_ff g94 hE_2
       refine Tri.reg (l:=List.range 13) rfl ?_
       refine F.qn rfl (r_move rfl) ?_
       refine F.qn rfl (r_move rfl) (F.qn rfl (r_neq rfl rfl) (F.qn rfl (r_move rfl) (F.qg rfl g89 (r_move rfl) (F.qg rfl g89 (r_move rfl) (F.qg rfl g89 (r_neqB Tryz.underlying4 rfl rfl) ?_)))))
       refine F.qn rfl (r_pickf rfl rfl g89) (F.qn rfl (r_move rfl) (F.qg rfl g94 (r_move rfl) (F.qg rfl g94 (r_move rfl) (F.qg rfl g94 (r_neqB Tryz.underlying4 rfl rfl) (F.qn rfl (r_pickf rfl rfl g94) (F.nil ?_))))))
       cases hE_2
       refine Nrm.only [0,3,4,5,8,98] rfl ?_
       refine Nrm.pick [0,1,2,3,4] rfl rfl ?_
       exact hj_2 _ _ ⟨rfl,rfl⟩
  ·rcases Bool.eq_false_or_eq_true (t59_2 != t64_2) with g70 | g70
   ·replace hE_1:=if_tt g70 hE_1
    refine Tri.reg (l:=[0,1,2,3,4,5,6,7,8]) rfl ?_
    refine F.qn rfl (r_move rfl) (F.qn rfl (r_move rfl) (F.qn rfl (r_neqB Tryz.underlying4 rfl rfl) (F.qn rfl (r_move rfl) ?_)))
    iterate 4 refine F.skf rfl g70 ?_
    refine F.qn rfl (r_pick rfl rfl g70) (F.nil ?_)
    cases hE_1
    refine Nrm.only [0,3,4,5,75] rfl ?_
    refine Nrm.pick [2,3,4,5,1] rfl rfl ?_
    exact hj_1 _ _ ⟨rfl,rfl⟩
   ·replace hE_1:=if_ff g70 hE_1
    obtain ⟨t73,h73,hE_1⟩:=bind_some hE_1
    refine Tri.reg (l:=[0,1,2,3,4,5,6,7,8]) rfl ?_
    refine F.qn rfl (r_move rfl) (F.qn rfl (r_move rfl) (F.qn rfl (r_neqB Tryz.underlying4 rfl rfl) (F.qn rfl (r_move rfl) (F.qg rfl g70 (r_move rfl) (F.qg rfl g70 (r_move rfl) ?_)))))
    refine F.qc rfl rfl rfl (wg rfl rfl rfl g70) (q_callF (xs:=_) rfl ok51 rfl rfl (fun w hw=>laws_rInts.ok h73 w ((rd_sl (i:=1) rfl) w hw) ((rd_sl (i:=0) rfl) w hw))) ?_
    refine F.qg rfl g70 (r_not rfl) (F.qn rfl (r_pickf rfl rfl g70) (F.nil ?_))
    cases hE_1
    refine Nrm.only [0,3,4,5,75] rfl ?_
    refine Nrm.pick [2,3,4,5,1] rfl rfl ?_
    exact hj_1 _ _ ⟨rfl,rfl⟩


def slices_Index__3int__3int.l0 (k : Nat) (a0 : List (Int × Int × Int)) (a1_0 : Int) (a1_1 : Int) (a1_2 : Int) : Nat → Int → Option ((Unit) ⊕ (Int))
 | 0,_=>none
 | n + 1,x8=>(if (decide (x8 < (a0.length : Int))) = true then (rdl a0 x8).bind fun t14=>(if (decide ((a1_0,a1_1,a1_2) = (t14.1,t14.2.1,t14.2.2))) = true then some (Sum.inr x8) else slices_Index__3int__3int.l0 k a0 a1_0 a1_1 a1_2 n (w64 (x8 + 1))) else some (Sum.inl ()))

def slices_Index__3int__3int.f (k : Nat) (a0 : List (Int × Int × Int)) (a1_0 : Int) (a1_1 : Int) (a1_2 : Int) : Option (Int) := (slices_Index__3int__3int.l0 k a0 a1_0 a1_1 a1_2 k 0).bind fun s => Lr s some fun _ => some (-1)


def slices_Contains__3int__3int.f (k : Nat) (a0 : List (Int × Int × Int)) (a1_0 : Int) (a1_1 : Int) (a1_2 : Int) : Option (Bool) := (slices_Index__3int__3int.f k a0 a1_0 a1_1 a1_2).bind fun t7 => some (decide (t7 ≥ 0))


def laws_vInts.l0 (k : Nat) (a0 : List Int) (a1 : List Int) : Nat → Int → Option ((Unit) ⊕ (Bool))
 | 0,_=>none
 | n + 1,x5=>(if (decide (x5 < (a0.length : Int))) = true then (rdl a0 x5).bind fun t19=>(rdl a1 x5).bind fun t23=>(if (t19 != t23) = true then some (Sum.inr false) else laws_vInts.l0 k a0 a1 n (w64 (x5 + 1))) else some (Sum.inl ()))

def laws_vInts.f (k : Nat) (a0 : List Int) (a1 : List Int) : Option (Bool) := (if ((a0.length : Int) != (a1.length : Int)) = true then some false else (laws_vInts.l0 k a0 a1 k 0).bind fun s => Lr s some fun _ => some true)


def impl_IsWorlds_1.f (k : Nat) (a0 : Int) (c0_0 : List (Int × List (Int × Int × Int) × List Int)) (c0_1 : List (List Int)) : Option (Bool) := (impl_within.f k a0 0 (w64 ((c0_0.length : Int) - 1))).bind fun t9 => some (!t9)


def impl_IsWorlds.l0 (k : Nat) (a0_0 : List (Int × List (Int × Int × Int) × List Int)) (a0_1 : List (List Int)) : Nat → Int → Option ((Unit) ⊕ (Bool))
 | 0,_=>none
 | n + 1,x22=>(if (decide (x22 < (a0_0.length : Int))) = true then (rdl a0_0 x22).bind fun t25=>((impl_IsMaze.f k t25.1 t25.2.1 t25.2.2).bind fun t28=>(if (!t28) = true then some true else (rdl a0_1 x22).bind fun t34=>some ((t34.length : Int) != t25.1))).bind fun y40=>(if y40 = true then some (Sum.inr false) else (rdl a0_1 x22).bind fun t44=>(slices_ContainsFunc_int_int.f k t44 (fun z0=>impl_IsWorlds_1.f k z0 a0_0 a0_1)).bind fun t47=>(if t47 = true then some (Sum.inr false) else impl_IsWorlds.l0 k a0_0 a0_1 n (w64 (x22 + 1)))) else some (Sum.inl ()))

def impl_IsWorlds.f (k : Nat) (a0_0 : List (Int × List (Int × Int × Int) × List Int)) (a0_1 : List (List Int)) : Option (Bool) := ((impl_within.f k (a0_0.length : Int) 1 3).bind fun t8 => (if (!t8) = true then some true else some ((a0_1.length : Int) != (a0_0.length : Int)))).bind fun y18 => (if y18 = true then some false else (impl_IsWorlds.l0 k a0_0 a0_1 k 0).bind fun s => Lr s some fun _ => some true)


def impl_reach.l0 (k : Nat) (a0_0 : Int) (a0_1 : List (Int × Int × Int)) (a0_2 : List Int) (a2 : Int) : Nat → Int → (List (Int)) → Option (Int)
 | 0,_,_=>none
 | n + 1,x7,x8=>(if (decide ((x8.length : Int) > 0)) = true then (rdl x8 0).bind fun t19=>(impl_steps.f k a0_0 a0_1 a0_2 t19 a2).bind fun t22=>(slc x8 1 (x8.length : Int)).bind fun t29=>(impl_members.f k (bclr t22 x7)).bind fun t31=>if (t29 ++ t31).length < 1099511627776 then impl_reach.l0 k a0_0 a0_1 a0_2 a2 n (bor x7 (bclr t22 x7)) (t29 ++ t31) else none else some x7)

def impl_reach.f (k : Nat) (a0_0 : Int) (a0_1 : List (Int × Int × Int)) (a0_2 : List Int) (a1 : Int) (a2 : Int) : Option (Int) := if ¬ a1 < 0 then (impl_reach.l0 k a0_0 a0_1 a0_2 a2 k (shl 1 a1) ([a1] : List (Int))).bind fun x7 => some x7 else none


def impl_allNodes.f (k : Nat) (a0_0 : Int) (a0_1 : List (Int × Int × Int)) (a0_2 : List Int) : Option (Int) := if ¬ a0_0 < 0 then some (w64 ((shl 1 a0_0) - 1)) else none


def slices_Equal_int_int.l0 (k : Nat) (a0 : List Int) (a1 : List Int) : Nat → Int → Option ((Unit) ⊕ (Bool))
 | 0,_=>none
 | n + 1,x13=>(if (decide (x13 < (a0.length : Int))) = true then (rdl a0 x13).bind fun t18=>(rdl a1 x13).bind fun t22=>(if (t18 != t22) = true then some (Sum.inr false) else slices_Equal_int_int.l0 k a0 a1 n (w64 (x13 + 1))) else some (Sum.inl ()))

def slices_Equal_int_int.f (k : Nat) (a0 : List Int) (a1 : List Int) : Option (Bool) := (if ((a0.length : Int) != (a1.length : Int)) = true then some false else (slices_Equal_int_int.l0 k a0 a1 k 0).bind fun s => Lr s some fun _ => some true)


def bits_Mul64.f (k : Nat) (a0 : Int) (a1 : Int) : Option (Int × Int) := some (wU ((wU ((wU ((shr a0 32) * (shr a1 32))) + (shr (wU ((wU ((shr a0 32) * (uand a1 4294967295))) + (shr (wU ((uand a0 4294967295) * (uand a1 4294967295))) 32))) 32))) + (shr (wU ((uand (wU ((wU ((shr a0 32) * (uand a1 4294967295))) + (shr (wU ((uand a0 4294967295) * (uand a1 4294967295))) 32))) 4294967295) + (wU ((uand a0 4294967295) * (shr a1 32))))) 32)), wU (a0 * a1))


def bits_Mul.f (k : Nat) (a0 : Int) (a1 : Int) : Option (Int × Int) := (bits_Mul64.f k a0 a1).bind fun (t25_1, t25_2) => some (t25_1, t25_2)


def slices_Repeat_int_int.l0 (k : Nat) : Nat → (List (Int)) → Int → Option ((List (Int)))
 | 0,_,_=>none
 | n + 1,x7,x8=>(if (decide (x8 < (x7.length : Int))) = true then (slc x7 x8 (x7.length : Int)).bind fun t41=>(slc x7 0 x8).bind fun t44=>slices_Repeat_int_int.l0 k n (cpl x7 t44 (x8 : Int).toNat ((x7.length : Int) : Int).toNat) (w64 (x8 + ((min t44.length (((x7.length : Int) : Int).toNat - (x8 : Int).toNat) : Nat) : Int))) else some x7)

def slices_Repeat_int_int.f (k : Nat) (a0 : List Int) (a1 : Int) : Option ((List Int)) := (if (decide (a1 < 0)) = true then none else (bits_Mul.f k (IntKind.u64.wrap (a0.length : Int)) (IntKind.u64.wrap a1)).bind fun (t18_1, t18_2) => ((if (decide (t18_1 > 0)) = true then some true else some (decide (t18_2 > 9223372036854775807)))).bind fun y26 => (if y26 = true then none else if 0 ≤ IntKind.i64.wrap t18_2 ∧ IntKind.i64.wrap t18_2 < 1099511627776 then (slices_Repeat_int_int.l0 k k (cpl (List.replicate (IntKind.i64.wrap t18_2).toNat (0 : Int)) a0 0 (List.replicate (IntKind.i64.wrap t18_2).toNat (0 : Int)).length) ((min a0.length ((List.replicate (IntKind.i64.wrap t18_2).toNat (0 : Int)).length - 0) : Nat) : Int)).bind fun x7 => some x7 else none))


def impl_play.l4 (k : Nat) (a0_1 : List (List Int)) (x47 : Int) (t50 : Int × List (Int × Int × Int) × List Int) (t96 : List Int) : Nat → (List (Int)) → Int → Option ((List (Int)))
 | 0,_,_=>none
 | n + 1,x10r,x98=>(if (decide (x98 < (t96.length : Int))) = true then (rdl t96 x98).bind fun t100=>(rdl a0_1 x47).bind fun t106=>(rdl t106 t100).bind fun t109=>(rdl x10r t109).bind fun t111=>(rdl t50.2.2 t100).bind fun t116=>(rdl x10r t109).bind fun t119=>impl_play.l4 k a0_1 x47 t50 t96 n (x10r.set t109.toNat (bor t111 t116)) (w64 (x98 + 1)) else some x10r)

def impl_play.l3 (k : Nat) (x9 : Int) (x47 : Int) (t59 : List Int) : Nat → Int → (List (List Int)) → Option ((List (List Int)))
 | 0,_,_=>none
 | n + 1,x61,xq5_2_1rrr=>(if (decide (x61 < (t59.length : Int))) = true then (rdl t59 x61).bind fun t63=>(rdl (xq5_2_1rrr : List (List Int)) x47).bind fun t68=>(rdl t68 t63).bind fun t71=>((if (decide (t71 < 0)) = true then (rdl ((xq5_2_1rrr : List (List Int)).set (x47 : Int).toNat t68 : List (List Int)) x47).bind fun t77=>(rdl t77 t63).bind fun t81=>some (((xq5_2_1rrr : List (List Int)).set (x47 : Int).toNat t68 : List (List Int)).set (x47 : Int).toNat (t77.set t63.toNat x9)) else some ((xq5_2_1rrr : List (List Int)).set (x47 : Int).toNat t68))).bind fun yb5_2_1=>impl_play.l3 k x9 x47 t59 n (w64 (x61 + 1)) yb5_2_1 else some xq5_2_1rrr)

def impl_play.l2 (k : Nat) (a0_0 : List (Int × List (Int × Int × Int) × List Int)) (a0_1 : List (List Int)) (a1 : Bool) (x6 : List (Int)) (x9 : Int) : Nat → (List (Int)) → Int → (List (List Int)) → Option ((List (List Int)) × (List (Int)))
 | 0,_,_,_=>none
 | n + 1,x10,x47,xq5_2_1rr=>(if (decide (x47 < (a0_0.length : Int))) = true then (rdl a0_0 x47).bind fun t50=>(rdl x6 x47).bind fun t55=>(impl_reach.f k t50.1 t50.2.1 t50.2.2 0 t55).bind fun t57=>(impl_members.f k t57).bind fun t59=>(impl_play.l3 k x9 x47 t59 k 0 xq5_2_1rr).bind fun xq5_2_1rrr=>((if a1 = true then if ¬ (w64 (t50.1 - 1)) < 0 then some ((band (shr t57 (w64 (t50.1 - 1))) 1) == 1) else none else some false)).bind fun y92=>((if y92 = true then (impl_allNodes.f k t50.1 t50.2.1 t50.2.2).bind fun t94=>some t94 else some t57)).bind fun y13=>(impl_members.f k y13).bind fun t96=>(impl_play.l4 k a0_1 x47 t50 t96 k x10 0).bind fun x10r=>impl_play.l2 k a0_0 a0_1 a1 x6 x9 n x10r (w64 (x47 + 1)) xq5_2_1rrr else some (xq5_2_1rr,x10))

def impl_play.l1 (k : Nat) (a0_0 : List (Int × List (Int × Int × Int) × List Int)) (a0_1 : List (List Int)) (a1 : Bool) : Nat → (List (Int)) → Int → (List (List Int)) → (List (List Int)) → Option ((Unit) ⊕ ((List (List Int)) × (List (List Int))))
 | 0,_,_,_,_=>none
 | n + 1,x6,x9,xq5_2_0,xq5_2_1r=>(slices_Clone_int_int.f k x6).bind fun t43=>(impl_play.l2 k a0_0 a0_1 a1 x6 x9 k t43 0 xq5_2_1r).bind fun (xq5_2_1rr,x10)=>(slices_Clone_int_int.f k x6).bind fun t125=>if ((xq5_2_0 : List (List Int)) ++ ([t125] : List (List Int))).length < 1099511627776 then (slices_Equal_int_int.f k x10 x6).bind fun t131=>(if t131 = true then some (Sum.inr ((xq5_2_0 : List (List Int)) ++ ([t125] : List (List Int)),xq5_2_1rr)) else impl_play.l1 k a0_0 a0_1 a1 n x10 (w64 (x9 + 1)) ((xq5_2_0 : List (List Int)) ++ ([t125] : List (List Int))) xq5_2_1rr) else none

def impl_play.l0 (k : Nat) (a0_0 : List (Int × List (Int × Int × Int) × List Int)) : Nat → Int → (List (List Int)) → Option ((List (List Int)))
 | 0,_,_=>none
 | n + 1,x26,xq5_2_1=>(if (decide (x26 < (a0_0.length : Int))) = true then (rdl a0_0 x26).bind fun t28=>(slices_Repeat_int_int.f k ([(-1)] : List (Int)) t28.1).bind fun t35=>if ((xq5_2_1 : List (List Int)) ++ ([t35] : List (List Int))).length < 1099511627776 then impl_play.l0 k a0_0 n (w64 (x26 + 1)) ((xq5_2_1 : List (List Int)) ++ ([t35] : List (List Int))) else none else some xq5_2_1)

def impl_play.f (k : Nat) (a0_0 : List (Int × List (Int × Int × Int) × List Int)) (a0_1 : List (List Int)) (a1 : Bool) : Option ((List (List Int)) × (List (List Int))) := (if 0 ≤ (a0_0.length : Int) ∧ (a0_0.length : Int) < 1099511627776 then some (List.replicate ((a0_0.length : Int)).toNat (0 : Int)) else none).bind fun y6 => (impl_play.l0 k a0_0 k 0 ([] : List (List Int))).bind fun xq5_2_1 => (impl_play.l1 k a0_0 a0_1 a1 k y6 0 ([] : List (List Int)) xq5_2_1).bind fun s => Lr s some fun _ => none


def impl_played_won.l0 (k : Nat) (a0_1 : List (List Int)) : Nat → (List (Int)) → Int → Option ((List (Int)))
 | 0,_,_=>none
 | n + 1,x3,x10=>(if (decide (x10 < (a0_1.length : Int))) = true then (rdl a0_1 x10).bind fun t12=>(rdl t12 (w64 ((t12.length : Int) - 1))).bind fun t19=>if (x3 ++ ([t19] : List (Int))).length < 1099511627776 then impl_played_won.l0 k a0_1 n (x3 ++ ([t19] : List (Int))) (w64 (x10 + 1)) else none else some x3)

def impl_played_won.f (k : Nat) (a0_0 : List (List Int)) (a0_1 : List (List Int)) : Option ((List Int)) := (impl_played_won.l0 k a0_1 k ([] : List (Int)) 0).bind fun x3 => some x3


def impl_AllWon.f (k : Nat) (a0_0 : List (Int × List (Int × Int × Int) × List Int)) (a0_1 : List (List Int)) : Option (Bool × Bool) := (impl_IsWorlds.f k a0_0 a0_1).bind fun t5 => (if (!t5) = true then some (false, false) else (impl_play.f k a0_0 a0_1 false).bind fun (t8_1, t8_2) => (impl_played_won.f k t8_1 t8_2).bind fun t9 => (slices_Contains_int_int.f k t9 (-1)).bind fun t10 => some (!t10, true))

end Go.Proofs

/- definitions of implReleaseRounds -/
namespace Go.Proofs
open Go Go.Ga
set_option maxRecDepth 100000
def impl_ReleaseRounds.f (k : Nat) (a0_0 : List (Int × List (Int × Int × Int) × List Int)) (a0_1 : List (List Int)) : Option ((List Int) × Bool) := (impl_IsWorlds.f k a0_0 a0_1).bind fun t5 => (if (!t5) = true then some ([], false) else (impl_play.f k a0_0 a0_1 true).bind fun (t8_1, t8_2) => (impl_played_won.f k t8_1 t8_2).bind fun t9 => some (t9, true))


def impl_ReleaseSets.f (k : Nat) (a0_0 : List (Int × List (Int × Int × Int) × List Int)) (a0_1 : List (List Int)) : Option ((List (List Int)) × Bool) := (impl_IsWorlds.f k a0_0 a0_1).bind fun t5 => (if (!t5) = true then some ([], false) else (impl_play.f k a0_0 a0_1 true).bind fun (t8_1, t8_2) => some (t8_1, true))


def impl_RoundSets.f (k : Nat) (a0_0 : List (Int × List (Int × Int × Int) × List Int)) (a0_1 : List (List Int)) : Option ((List (List Int)) × Bool) := (impl_IsWorlds.f k a0_0 a0_1).bind fun t5 => (if (!t5) = true then some ([], false) else (impl_play.f k a0_0 a0_1 false).bind fun (t8_1, t8_2) => some (t8_1, true))

end Go.Proofs

/- loop.example/g01158/impl.WonRounds -/
namespace Go.Proofs
open Go Go.Ga
set_option linter.unusedVariables false
set_option maxRecDepth 100000
set_option maxHeartbeats 4000000
def impl_WonRounds.f (k : Nat) (a0_0 : List (Int × List (Int × Int × Int) × List Int)) (a0_1 : List (List Int)) : Option ((List Int) × Bool) := (impl_IsWorlds.f k a0_0 a0_1).bind fun t5 => (if (!t5) = true then some ([], false) else (impl_play.f k a0_0 a0_1 false).bind fun (t8_1, t8_2) => (impl_played_won.f k t8_1 t8_2).bind fun t9 => some (t9, true))


def spec_l10Worlds.l1 (k : Nat) (a0_0 : List (Int × List (Int × Int × Int) × List Int)) (a0_1 : List (List Int)) (x3 : Int) : Nat → Int → Option ((Unit) ⊕ (Bool))
 | 0,_=>none
 | n + 1,x4=>(rdl a0_1 x3).bind fun t52=>(if (decide (x4 < (t52.length : Int))) = true then (rdl a0_1 x3).bind fun t61=>(rdl t61 x4).bind fun t64=>(spec_l1In.f k t64 0 (w64 ((a0_0.length : Int) - 1))).bind fun t70=>(if (!t70) = true then some (Sum.inr false) else spec_l10Worlds.l1 k a0_0 a0_1 x3 n (w64 (x4 + 1))) else some (Sum.inl ()))

def spec_l10Worlds.l0 (k : Nat) (a0_0 : List (Int × List (Int × Int × Int) × List Int)) (a0_1 : List (List Int)) : Nat → Int → Option ((Unit) ⊕ (Bool))
 | 0,_=>none
 | n + 1,x3=>(if (decide (x3 < (a0_0.length : Int))) = true then ((rdl a0_0 x3).bind fun t29=>(spec_l2Maze.f k t29.1 t29.2.1 t29.2.2).bind fun t31=>(if (!t31) = true then some true else (rdl a0_1 x3).bind fun t37=>(rdl a0_0 x3).bind fun t43=>some ((t37.length : Int) != t43.1))).bind fun y47=>(if y47 = true then some (Sum.inr false) else (spec_l10Worlds.l1 k a0_0 a0_1 x3 k 0).bind fun s=>Lr s (fun r=>some (Sum.inr r)) fun _=>spec_l10Worlds.l0 k a0_0 a0_1 n (w64 (x3 + 1))) else some (Sum.inl ()))

def spec_l10Worlds.f (k : Nat) (a0_0 : List (Int × List (Int × Int × Int) × List Int)) (a0_1 : List (List Int)) : Option (Bool) := ((spec_l1In.f k (a0_0.length : Int) 1 3).bind fun t8 => (if (!t8) = true then some true else some ((a0_1.length : Int) != (a0_0.length : Int)))).bind fun y18 => (if y18 = true then some false else (spec_l10Worlds.l0 k a0_0 a0_1 k 0).bind fun s => Lr s some fun _ => some true)


def spec_l1Put.l0 (k : Nat) (a0 : List Int) (a1 : Int) : Nat → Int → Option (Int)
 | 0,_=>none
 | n + 1,x5=>((if (decide (x5 < (a0.length : Int))) = true then (rdl a0 x5).bind fun t13=>some (decide (t13 < a1)) else some false)).bind fun y17=>(if y17 = true then spec_l1Put.l0 k a0 a1 n (w64 (x5 + 1)) else some x5)

def spec_l1Put.f (k : Nat) (a0 : List Int) (a1 : Int) : Option ((List Int)) := (spec_l1Put.l0 k a0 a1 k 0).bind fun x5 => ((if (decide (x5 < (a0.length : Int))) = true then (rdl a0 x5).bind fun t27 => some (t27 == a1) else some false)).bind fun y31 => (if y31 = true then some a0 else ((slc a0 0 x5).bind fun t36 => (slc a0 x5 (a0.length : Int)).bind fun t43 => if (([] : List (Int)) ++ t36).length < 1099511627776 then if ((([] : List (Int)) ++ t36) ++ ([a1] : List (Int))).length < 1099511627776 then if (((([] : List (Int)) ++ t36) ++ ([a1] : List (Int))) ++ t43).length < 1099511627776 then some (((([] : List (Int)) ++ t36) ++ ([a1] : List (Int))) ++ t43) else none else none else none).bind fun y4 => some y4)


def spec_l2Reach.l1 (k : Nat) (a0_1 : List (Int × Int × Int)) (a2 : Int) (x9 : Int) : Nat → (List (Int)) → (List (Int)) → Int → Option ((List (Int)) × (List (Int)))
 | 0,_,_,_=>none
 | n + 1,x7r,x8r,x10=>(if (decide (x10 < (a0_1.length : Int))) = true then ((rdl a0_1 x10).bind fun t33=>((spec_l2Has.f k a2 t33.2.2).bind fun t38=>(if (!t38) = true then some true else (rdl x8r x9).bind fun t45=>(if (t33.1 != t45) = true then (rdl x8r x9).bind fun t53=>some (t33.2.1 != t53) else some false))).bind fun y57=>(if y57 = true then some (x7r,x8r) else (rdl x8r x9).bind fun t65=>(spec_l1Has.f k x7r (w64 ((w64 (t33.1 + t33.2.1)) - t65))).bind fun t70=>((if (!t70) = true then (spec_l1Put.f k x7r (w64 ((w64 (t33.1 + t33.2.1)) - t65))).bind fun t74=>if (x8r ++ ([w64 ((w64 (t33.1 + t33.2.1)) - t65)] : List (Int))).length < 1099511627776 then some (t74,x8r ++ ([w64 ((w64 (t33.1 + t33.2.1)) - t65)] : List (Int))) else none else some (x7r,x8r))).bind fun (y7,y8)=>some (y7,y8))).bind fun (y7,y8)=>spec_l2Reach.l1 k a0_1 a2 x9 n y7 y8 (w64 (x10 + 1)) else some (x7r,x8r))

def spec_l2Reach.l0 (k : Nat) (a0_1 : List (Int × Int × Int)) (a2 : Int) : Nat → (List (Int)) → (List (Int)) → Int → Option ((List (Int)))
 | 0,_,_,_=>none
 | n + 1,x7,x8,x9=>(if (decide (x9 < (x8.length : Int))) = true then (spec_l2Reach.l1 k a0_1 a2 x9 k x7 x8 0).bind fun (x7r,x8r)=>spec_l2Reach.l0 k a0_1 a2 n x7r x8r (w64 (x9 + 1)) else some x7)

def spec_l2Reach.f (k : Nat) (a0_0 : Int) (a0_1 : List (Int × Int × Int)) (a0_2 : List Int) (a1 : Int) (a2 : Int) : Option ((List Int)) := (spec_l2Reach.l0 k a0_1 a2 k ([a1] : List (Int)) ([a1] : List (Int)) 0).bind fun x7 => some x7

end Go.Proofs

/- definitions of specl1Same -/
namespace Go.Proofs
open Go Go.Ga
set_option maxRecDepth 100000
def spec_l1Same.l0 (k : Nat) (a0 : List Int) (a1 : List Int) : Nat → Int → Option ((Unit) ⊕ (Bool))
 | 0,_=>none
 | n + 1,x5=>(if (decide (x5 < (a0.length : Int))) = true then (rdl a0 x5).bind fun t19=>(rdl a1 x5).bind fun t23=>(if (t19 != t23) = true then some (Sum.inr false) else spec_l1Same.l0 k a0 a1 n (w64 (x5 + 1))) else some (Sum.inl ()))

def spec_l1Same.f (k : Nat) (a0 : List Int) (a1 : List Int) : Option (Bool) := (if ((a0.length : Int) != (a1.length : Int)) = true then some false else (spec_l1Same.l0 k a0 a1 k 0).bind fun s => Lr s some fun _ => some true)


def spec_l10Rounds.l3 (k : Nat) (a0_1 : List (List Int)) (a1 : Bool) (x8 : Int) (x11 : Int) (t61 : Int × List (Int × Int × Int) × List Int) (t68 : List Int) (t73 : Bool) : Nat → (List (Int)) → Int → (List (List Int)) → Option ((List (List Int)) × (List (Int)))
 | 0,_,_,_=>none
 | n + 1,x10r,x15,xq6_2_2rrr=>(if (decide (x15 < t61.1)) = true then ((spec_l1Has.f k t68 x15).bind fun t82=>(if t82 = true then (rdl (xq6_2_2rrr : List (List Int)) x11).bind fun t87=>(rdl t87 x15).bind fun t90=>some (decide (t90 < 0),(xq6_2_2rrr : List (List Int)).set (x11 : Int).toNat t87) else some (false,xq6_2_2rrr))).bind fun (y93,yb6_2_2r)=>((if y93 = true then (rdl (yb6_2_2r : List (List Int)) x11).bind fun t97=>(rdl t97 x15).bind fun t101=>some ((yb6_2_2r : List (List Int)).set (x11 : Int).toNat (t97.set x15.toNat x8)) else some yb6_2_2r)).bind fun yb6_2_2rr=>((spec_l1Has.f k t68 x15).bind fun t104=>(if t104 = true then some true else (if a1 = true then some t73 else some false))).bind fun y110=>((if y110 = true then (rdl a0_1 x11).bind fun t114=>(rdl t114 x15).bind fun t117=>(rdl x10r t117).bind fun t123=>(rdl t61.2.2 x15).bind fun t128=>(rdl x10r t117).bind fun t131=>some (x10r.set t117.toNat (bor t123 t128)) else some x10r)).bind fun y10=>spec_l10Rounds.l3 k a0_1 a1 x8 x11 t61 t68 t73 n y10 (w64 (x15 + 1)) yb6_2_2rr else some (xq6_2_2rrr,x10r))

def spec_l10Rounds.l2 (k : Nat) (a0_0 : List (Int × List (Int × Int × Int) × List Int)) (a0_1 : List (List Int)) (a1 : Bool) (x8 : Int) (t49 : List Int) : Nat → (List (Int)) → Int → (List (Int)) → (List (List Int)) → Option ((List (Int)) × (List (List Int)) × (List (Int)))
 | 0,_,_,_,_=>none
 | n + 1,x10,x11,xq6_2_1r,xq6_2_2rr=>(if (decide (x11 < (a0_0.length : Int))) = true then (rdl a0_0 x11).bind fun t61=>(rdl t49 x11).bind fun t66=>(spec_l2Reach.f k t61.1 t61.2.1 t61.2.2 0 t66).bind fun t68=>(spec_l1Has.f k t68 (w64 (t61.1 - 1))).bind fun t73=>(spec_l10Rounds.l3 k a0_1 a1 x8 x11 t61 t68 t73 k x10 0 xq6_2_2rr).bind fun (xq6_2_2rrr,x10r)=>((if t73 = true then (rdl xq6_2_1r x11).bind fun t137=>some (decide (t137 < 0)) else some false)).bind fun y140=>((if y140 = true then (rdl xq6_2_1r x11).bind fun t145=>some (xq6_2_1r.set x11.toNat x8) else some xq6_2_1r)).bind fun yb6_2_1r=>spec_l10Rounds.l2 k a0_0 a0_1 a1 x8 t49 n x10r (w64 (x11 + 1)) yb6_2_1r xq6_2_2rrr else some (xq6_2_1r,xq6_2_2rr,x10))

def spec_l10Rounds.l1 (k : Nat) (a0_0 : List (Int × List (Int × Int × Int) × List Int)) (a0_1 : List (List Int)) (a1 : Bool) : Nat → Int → (List (List Int)) → (List (Int)) → (List (List Int)) → Option ((Unit) ⊕ ((List (List Int)) × (List Int) × (List (List Int))))
 | 0,_,_,_,_=>none
 | n + 1,x8,xq6_2_0,xq6_2_1,xq6_2_2r=>(rdl (xq6_2_0 : List (List Int)) x8).bind fun t49=>(spec_l1Own.f k t49).bind fun t52=>(spec_l10Rounds.l2 k a0_0 a0_1 a1 x8 t49 k t52 0 xq6_2_1 xq6_2_2r).bind fun (xq6_2_1r,xq6_2_2rr,x10)=>(spec_l1Same.f k x10 t49).bind fun t148=>(if t148 = true then some (Sum.inr ((xq6_2_0 : List (List Int)).set (x8 : Int).toNat t49,xq6_2_1r,xq6_2_2rr)) else if (((xq6_2_0 : List (List Int)).set (x8 : Int).toNat t49 : List (List Int)) ++ ([x10] : List (List Int))).length < 1099511627776 then spec_l10Rounds.l1 k a0_0 a0_1 a1 n (w64 (x8 + 1)) (((xq6_2_0 : List (List Int)).set (x8 : Int).toNat t49 : List (List Int)) ++ ([x10] : List (List Int))) xq6_2_1r xq6_2_2rr else none)

def spec_l10Rounds.l0 (k : Nat) (a0_0 : List (Int × List (Int × Int × Int) × List Int)) : Nat → Int → (List (List Int)) → Option ((List (List Int)))
 | 0,_,_=>none
 | n + 1,x7,xq6_2_2=>(if (decide (x7 < (a0_0.length : Int))) = true then (rdl a0_0 x7).bind fun t37=>(spec_l10None.f k t37.1).bind fun t40=>if ((xq6_2_2 : List (List Int)) ++ ([t40] : List (List Int))).length < 1099511627776 then spec_l10Rounds.l0 k a0_0 n (w64 (x7 + 1)) ((xq6_2_2 : List (List Int)) ++ ([t40] : List (List Int))) else none else some xq6_2_2)

def spec_l10Rounds.f (k : Nat) (a0_0 : List (Int × List (Int × Int × Int) × List Int)) (a0_1 : List (List Int)) (a1 : Bool) : Option ((List (List Int)) × (List Int) × (List (List Int))) := (if 0 ≤ (a0_0.length : Int) ∧ (a0_0.length : Int) < 1099511627776 then (spec_l10None.f k (a0_0.length : Int)).bind fun t24 => some (([List.replicate ((a0_0.length : Int)).toNat (0 : Int)] : List (List Int)), t24, ([] : List (List Int))) else none).bind fun (yb6_2_0, yb6_2_1, yb6_2_2) => (spec_l10Rounds.l0 k a0_0 k 0 yb6_2_2).bind fun xq6_2_2 => (spec_l10Rounds.l1 k a0_0 a0_1 a1 k 0 yb6_2_0 yb6_2_1 xq6_2_2).bind fun s => Lr s some fun _ => none


def spec_AllWon.f (k : Nat) (a0_0 : List (Int × List (Int × Int × Int) × List Int)) (a0_1 : List (List Int)) : Option (Bool × Bool) := (spec_l10Worlds.f k a0_0 a0_1).bind fun t5 => (if (!t5) = true then some (false, false) else (spec_l10Rounds.f k a0_0 a0_1 false).bind fun (t8_1, t8_2, t8_3) => (spec_l1Has.f k t8_2 (-1)).bind fun t10 => some (!t10, true))


def spec_ReleaseRounds.f (k : Nat) (a0_0 : List (Int × List (Int × Int × Int) × List Int)) (a0_1 : List (List Int)) : Option ((List Int) × Bool) := (spec_l10Worlds.f k a0_0 a0_1).bind fun t5 => (if (!t5) = true then some (([] : List (Int)), false) else (spec_l10Rounds.f k a0_0 a0_1 true).bind fun (t9_1, t9_2, t9_3) => some (t9_2, true))


def spec_ReleaseSets.f (k : Nat) (a0_0 : List (Int × List (Int × Int × Int) × List Int)) (a0_1 : List (List Int)) : Option ((List (List Int)) × Bool) := (spec_l10Worlds.f k a0_0 a0_1).bind fun t5 => (if (!t5) = true then some (([] : List (List Int)), false) else (spec_l10Rounds.f k a0_0 a0_1 true).bind fun (t9_1, t9_2, t9_3) => some (t9_1, true))


def spec_RoundSets.f (k : Nat) (a0_0 : List (Int × List (Int × Int × Int) × List Int)) (a0_1 : List (List Int)) : Option ((List (List Int)) × Bool) := (spec_l10Worlds.f k a0_0 a0_1).bind fun t5 => (if (!t5) = true then some (([] : List (List Int)), false) else (spec_l10Rounds.f k a0_0 a0_1 false).bind fun (t9_1, t9_2, t9_3) => some (t9_1, true))


def spec_WonRounds.f (k : Nat) (a0_0 : List (Int × List (Int × Int × Int) × List Int)) (a0_1 : List (List Int)) : Option ((List Int) × Bool) := (spec_l10Worlds.f k a0_0 a0_1).bind fun t5 => (if (!t5) = true then some (([] : List (Int)), false) else (spec_l10Rounds.f k a0_0 a0_1 false).bind fun (t9_1, t9_2, t9_3) => some (t9_2, true))

end Go.Proofs
