/- A part of the proof of FnWorldForms: what the functions of the program compute, walked on the model. No condition. -/
import Derived.Test.YtebbaacgalipaaaGreatFnWorldFormsC
import Derived.Test.YtebbaacgalipaaaGreatFnWorldFormsD
import Derived.Test.YtebbaacgalipaaaGreatFnWorldFormsE
import Derived.Test.YtebbaacgalipaaaGreatFnWorldFormsF
set_option linter.unusedSimpArgs false
/- loop.example/g01158/laws.FnWorldForms -/
namespace Go.Proofs
open Go Go.Ga
set_option linter.unusedVariables false
set_option maxRecDepth 100000
set_option maxHeartbeats 4000000
def laws_FnWorldForms.l0 (k : Nat) (t39_3 : List Int) (t176_1 : List Int) (t181_1 : List Int) : Nat → Int → Option ((Unit) ⊕ (Bool))
 | 0,_=>none
 | n + 1,x34=>(if (decide (x34 < (t39_3.length : Int))) = true then (rdl t181_1 x34).bind fun t205=>(rdl t39_3 x34).bind fun t210=>(rdl t176_1 t210).bind fun t212=>(if (t205 != t212) = true then some (Sum.inr false) else laws_FnWorldForms.l0 k t39_3 t176_1 t181_1 n (w64 (x34 + 1))) else some (Sum.inl ()))

def laws_FnWorldForms.l1 (k : Nat) (t39_3 : List Int) (t176_1 : List Int) (t181_1 : List Int) : Nat → Int → Option ((Unit) ⊕ (Bool))
 | 0,_=>none
 | n + 1,x34r=>(if (decide (x34r < (t39_3.length : Int))) = true then (rdl t181_1 x34r).bind fun t205=>(rdl t39_3 x34r).bind fun t210=>(rdl t176_1 t210).bind fun t212=>(if (t205 != t212) = true then some (Sum.inr false) else laws_FnWorldForms.l1 k t39_3 t176_1 t181_1 n (w64 (x34r + 1))) else some (Sum.inl ()))

def laws_FnWorldForms.l2 (k : Nat) (t39_3 : List Int) (t176_1 : List Int) (t181_1 : List Int) : Nat → Int → Option ((Unit) ⊕ (Bool))
 | 0,_=>none
 | n + 1,x34rr=>(if (decide (x34rr < (t39_3.length : Int))) = true then (rdl t181_1 x34rr).bind fun t205=>(rdl t39_3 x34rr).bind fun t210=>(rdl t176_1 t210).bind fun t212=>(if (t205 != t212) = true then some (Sum.inr false) else laws_FnWorldForms.l2 k t39_3 t176_1 t181_1 n (w64 (x34rr + 1))) else some (Sum.inl ()))

def laws_FnWorldForms.l3 (k : Nat) (t39_3 : List Int) (t176_1 : List Int) (t181_1 : List Int) : Nat → Int → Option ((Unit) ⊕ (Bool))
 | 0,_=>none
 | n + 1,x34rrr=>(if (decide (x34rrr < (t39_3.length : Int))) = true then (rdl t181_1 x34rrr).bind fun t205=>(rdl t39_3 x34rrr).bind fun t210=>(rdl t176_1 t210).bind fun t212=>(if (t205 != t212) = true then some (Sum.inr false) else laws_FnWorldForms.l3 k t39_3 t176_1 t181_1 n (w64 (x34rrr + 1))) else some (Sum.inl ()))

def laws_FnWorldForms.f (k : Nat) (a0 : List By) : Option (Bool) := (laws_rBig.f k a0).bind fun t36 => (if t36 = true then some true else (spec_DrawOrderWorlds.f k a0).bind fun (t39_1, t39_2, t39_3) => (impl_OrderWorlds.f k t39_1 t39_2 t39_3).bind fun (t45_1, t45_2, t45_3) => (spec_OrderWorlds.f k t39_1 t39_2 t39_3).bind fun (t51_1, t51_2, t51_3) => ((if (t45_3 != t51_3) = true then some true else (laws_rWorlds.f k t45_1 t45_2 t51_1 t51_2).bind fun t60 => some (!t60))).bind fun y62 => (if y62 = true then some false else (spec_DrawAloneWorlds.f k a0).bind fun (t64_1, t64_2, t64_3) => (impl_AloneWorlds.f k t64_1 t64_2 t64_3).bind fun (t67_1, t67_2, t67_3) => (spec_AloneWorlds.f k t64_1 t64_2 t64_3).bind fun (t72_1, t72_2, t72_3) => ((if (t67_3 != t72_3) = true then some true else (laws_rWorlds.f k t67_1 t67_2 t72_1 t72_2).bind fun t81 => some (!t81))).bind fun y83 => (if y83 = true then some false else (spec_DrawGiveKeys.f k a0).bind fun (t86_1, t86_2, t86_3, t86_4, t86_5) => (impl_GiveKeys.f k t86_1 t86_2 t86_3 t86_4 t86_5).bind fun (t96_1, t96_2, t96_3) => (spec_GiveKeys.f k t86_1 t86_2 t86_3 t86_4 t86_5).bind fun (t104_1, t104_2, t104_3) => ((if (t96_3 != t104_3) = true then some true else (laws_rWorlds.f k t96_1 t96_2 t104_1 t104_2).bind fun t113 => some (!t113))).bind fun y115 => (if y115 = true then some false else (if t67_3 = true then (impl_AllWon.f k t67_1 t67_2).bind fun (t119_1, t119_2) => (impl_FewestSteps.f k t64_1 t64_2 t64_3).bind fun (t124_1, t124_2) => (impl_LeansOn.f k t67_1 t67_2 0).bind fun (t129_1, t129_2) => ((if (!t119_2) = true then some true else (if (!t129_2) = true then some true else (if (t119_1 != t124_2) = true then some true else some ((t129_1.length : Int) != 0))))).bind fun y147 => (if y147 = true then some false else (if t96_3 = true then ((rdl (t86_2 : List (List Int)) t86_3).bind fun t156 => (rdl t156 t86_4).bind fun t159 => (impl_GiveKeys.f k t96_1 t96_2 t86_3 t86_4 t159).bind fun (t161_1, t161_2, t161_3) => some (t161_3, (t86_2 : List (List Int)).set (t86_3 : Int).toNat t156, t161_1, t161_2)).bind fun (y29, yb14_1_1, yb28_2_0, yb28_2_1) => ((if (!y29) = true then some true else (laws_rWorlds.f k yb28_2_0 yb28_2_1 t86_1 yb14_1_1).bind fun t169 => some (!t169))).bind fun y171 => (if y171 = true then some false else (if (!t45_3) = true then some true else (impl_WonRounds.f k t39_1 t39_2).bind fun (t176_1, t176_2) => (impl_WonRounds.f k t45_1 t45_2).bind fun (t181_1, t181_2) => ((if (!t176_2) = true then some true else (if (!t181_2) = true then some true else some ((t176_1.length : Int) != (t181_1.length : Int))))).bind fun y196 => (if y196 = true then some false else (laws_FnWorldForms.l0 k t39_3 t176_1 t181_1 k 0).bind fun s => Lr s some fun _ => some true))) else (if (!t45_3) = true then some true else (impl_WonRounds.f k t39_1 t39_2).bind fun (t176_1, t176_2) => (impl_WonRounds.f k t45_1 t45_2).bind fun (t181_1, t181_2) => ((if (!t176_2) = true then some true else (if (!t181_2) = true then some true else some ((t176_1.length : Int) != (t181_1.length : Int))))).bind fun y196r => (if y196r = true then some false else (laws_FnWorldForms.l1 k t39_3 t176_1 t181_1 k 0).bind fun s => Lr s some fun _ => some true)))) else (if t96_3 = true then ((rdl (t86_2 : List (List Int)) t86_3).bind fun t156 => (rdl t156 t86_4).bind fun t159 => (impl_GiveKeys.f k t96_1 t96_2 t86_3 t86_4 t159).bind fun (t161_1, t161_2, t161_3) => some (t161_3, (t86_2 : List (List Int)).set (t86_3 : Int).toNat t156, t161_1, t161_2)).bind fun (y29r, yb14_1_1r, yb28_11_0, yb28_11_1) => ((if (!y29r) = true then some true else (laws_rWorlds.f k yb28_11_0 yb28_11_1 t86_1 yb14_1_1r).bind fun t169 => some (!t169))).bind fun y171r => (if y171r = true then some false else (if (!t45_3) = true then some true else (impl_WonRounds.f k t39_1 t39_2).bind fun (t176_1, t176_2) => (impl_WonRounds.f k t45_1 t45_2).bind fun (t181_1, t181_2) => ((if (!t176_2) = true then some true else (if (!t181_2) = true then some true else some ((t176_1.length : Int) != (t181_1.length : Int))))).bind fun y196rr => (if y196rr = true then some false else (laws_FnWorldForms.l2 k t39_3 t176_1 t181_1 k 0).bind fun s => Lr s some fun _ => some true))) else (if (!t45_3) = true then some true else (impl_WonRounds.f k t39_1 t39_2).bind fun (t176_1, t176_2) => (impl_WonRounds.f k t45_1 t45_2).bind fun (t181_1, t181_2) => ((if (!t176_2) = true then some true else (if (!t181_2) = true then some true else some ((t176_1.length : Int) != (t181_1.length : Int))))).bind fun y196rrr => (if y196rrr = true then some false else (laws_FnWorldForms.l3 k t39_3 t176_1 t181_1 k 0).bind fun s => Lr s some fun _ => some true))))))))

theorem laws_FnWorldForms.ok {k : Nat}  {a0 : List By} {r0 : Bool} (h : laws_FnWorldForms.f k a0 = some r0) (w : World) {va0 : Value} (hr_a0 : Rd w va0 a0) :
  Calls Tryz.prog 6 ([va0] : List Value).toArray w (fun e w'=>e = .returned (.bool r0)∧Ext w w'):=by
 unfold laws_FnWorldForms.f at h
 have hl_va0:=hr_a0.len
 refine Calls.of_tri (N:=215) Tryz.func6 rfl rfl rfl (Sep.nil (M:=noM)) ?_
 refine Tri.seq (Tri.reg (l:=[0]) rfl ?_)
 refine F.qn rfl (r_assign rfl) (F.nil (Nrm.seq (Tri.seq (Tri.seq ?_))))
 obtain ⟨t36,h36,h⟩:=bind_some h
 refine Tri.reg (l:=[0,1]) rfl ?_
 refine F.qn rfl (r_move rfl) ?_
 refine F.qcn rfl (q_callF (xs:=_) rfl ok47 rfl rfl (fun w hw=>laws_rBig.ok h36 w ((fun _ hw=>hr_a0.sep hw) w hw))) ?_
 refine F.nil (Nrm.seq (Tri.cond (b:=t36) rfl (fun g_1=>?_) (fun g_1=>?_)))
 ·replace h:=if_tt g_1 h
  refine Tri.seq (Tri.reg (l:=[0]) rfl ?_)
  refine F.qn rfl (r_assign rfl) (F.nil (Nrm.seq (Tri.ret ?_)))
  refine Rtn.then ?_
  cases h
  exact Rtn.body (.tmp rfl .nil) (fun w hw=>⟨rfl,hw.ext⟩)
 ·replace h:=if_ff g_1 h
  refine Tri.skip (Nrm.seq (Tri.seq ?_))
  obtain ⟨⟨t39_1,t39_2,t39_3⟩,h39,h⟩:=bind_some h
  refine Tri.reg (l:=[0,1,2,3,4,5,6,7]) rfl ?_
  refine F.qn rfl (r_move rfl) ?_
  refine F.mn rfl (m_callF (xs:=_) rfl ok70 rfl rfl (fun w hw=>spec_DrawOrderWorlds.ok h39 w ((fun _ hw=>hr_a0.sep hw) w hw))) ?_
  rintro _ _ ⟨_,⟨v39_1,S39_1,v39_2,S39_2,v39_3,S39_3,rfl,hl_v39_1,hl_v39_2,hl_v39_3,rfl⟩,rfl⟩
  refine F.qn rfl (r_move rfl) (F.qn rfl (r_extract rfl rfl) (F.qn rfl (r_extract rfl rfl) ?_))
  refine F.mn rfl (m_alloc ti88) ?_
  rintro _ _ ⟨b3_1,rfl,rfl⟩
  refine F.ef0 rfl rfl (wanted_none rfl) (d_storeG0 (i:=0) (cs2:=[v39_1,v39_2]) ti88 rfl rfl rfl rfl rfl (Nat.le_of_ble_eq_true rfl) (lf_cons (sl_leaf hl_v39_1) (lf_cons (sl_leaf hl_v39_2) lf_nil))) ?_
  rintro _ _ ⟨rfl,rfl⟩
  refine F.qn rfl (r_assign rfl) (F.nil (Nrm.seq (Tri.seq ?_)))
  obtain ⟨⟨t45_1,t45_2,t45_3⟩,h45,h⟩:=bind_some h
  refine Tri.reg (l:=[0,1,2,3,4,5,6,7,8]) rfl ?_
  refine F.qn rfl (r_loadA ta88 ti88 rfl rfl (fun w hw=>(box_cells (i:=0) rfl w hw))) (F.qn rfl (r_move rfl) ?_)
  refine F.mn rfl (m_callF (xs:=_) rfl ok71 rfl rfl (fun w hw=>impl_OrderWorlds.ok h45 w ((rd_sl (i:=1) rfl) w hw) ((rd_sl (i:=2) rfl) w hw) ((rd_sl (i:=3) rfl) w hw))) ?_
  rintro _ _ ⟨_,⟨v45_1,S45_1,v45_2,S45_2,rfl,hl_v45_1,hl_v45_2,rfl⟩,rfl⟩
  refine F.qn rfl (r_move rfl) (F.qn rfl (r_extract rfl rfl) (F.qn rfl (r_extract rfl rfl) ?_))
  refine F.mn rfl (m_alloc ti88) ?_
  rintro _ _ ⟨b5_1,rfl,rfl⟩
  refine F.ef0 rfl rfl (wanted_none rfl) (d_storeG0 (i:=0) (cs2:=[v45_1,v45_2]) ti88 rfl rfl rfl rfl rfl (Nat.le_of_ble_eq_true rfl) (lf_cons (sl_leaf hl_v45_1) (lf_cons (sl_leaf hl_v45_2) lf_nil))) ?_
  rintro _ _ ⟨rfl,rfl⟩
  refine F.qn rfl (r_assign rfl) (F.nil (Nrm.seq (Tri.seq (Tri.seq ?_))))
  obtain ⟨⟨t51_1,t51_2,t51_3⟩,h51,h⟩:=bind_some h
  refine Tri.reg (l:=[0,1,2,3,4,5,6,7,8]) rfl ?_
  refine F.qn rfl (r_loadA ta88 ti88 rfl rfl (fun w hw=>(box_cells (i:=3) rfl w hw))) (F.qn rfl (r_move rfl) ?_)
  refine F.mn rfl (m_callF (xs:=_) rfl ok72 rfl rfl (fun w hw=>spec_OrderWorlds.ok h51 w ((rd_sl (i:=4) rfl) w hw) ((rd_sl (i:=5) rfl) w hw) ((rd_sl (i:=6) rfl) w hw))) ?_
  rintro _ _ ⟨_,⟨v51_1,S51_1,v51_2,S51_2,rfl,hl_v51_1,hl_v51_2,rfl⟩,rfl⟩
  refine F.qn rfl (r_move rfl) (F.qn rfl (r_extract rfl rfl) (F.qn rfl (r_extract rfl rfl) ?_))
  refine F.mn rfl (m_alloc ti88) ?_
  rintro _ _ ⟨b7_1,rfl,rfl⟩
  refine F.ef0 rfl rfl (wanted_none rfl) (d_storeG0 (i:=0) (cs2:=[v51_1,v51_2]) ti88 rfl rfl rfl rfl rfl (Nat.le_of_ble_eq_true rfl) (lf_cons (sl_leaf hl_v51_1) (lf_cons (sl_leaf hl_v51_2) lf_nil))) ?_
  rintro _ _ ⟨rfl,rfl⟩
  refine F.qn rfl (r_assign rfl) (F.nil (Nrm.seq (Tri.seq ?_)))
  obtain ⟨y62,hE_1,h⟩:=bind_some h
  refine Tri.cut (fun e' C'=>e' = [(0,va0),(3,.pointer (some ⟨b3_1,0,none⟩)),(4,v39_3),(5,.pointer (some ⟨b5_1,0,none⟩)),(6,.bool t45_3),(62,.bool y62)]∧C' = Sep w noM [R.box b5_1 88 [v45_1,v45_2],R.box b3_1 88 [v39_1,v39_2],R.sl S39_1 v39_1 (t39_1 : List (Int × List (Int × Int × Int) × List Int)),R.sl S39_2 v39_2 (t39_2 : List (List Int)),R.sl S39_3 v39_3 (t39_3 : List (Int)),R.sl S45_1 v45_1 (t45_1 : List (Int × List (Int × Int × Int) × List Int)),R.sl S45_2 v45_2 (t45_2 : List (List Int))]) ?_ (fun hj_1=>?_)
  ·rintro _ _ ⟨rfl,rfl⟩
   refine Nrm.seq (Tri.cond (b:=y62) rfl (fun g_2=>?_) (fun g_2=>?_))
   ·replace h:=if_tt g_2 h
    refine Tri.seq (Tri.reg (l:=[0]) rfl ?_)
    refine F.qn rfl (r_assign rfl) (F.nil (Nrm.seq (Tri.ret ?_)))
    refine Rtn.then ?_
    cases h
    exact Rtn.body (.tmp rfl .nil) (fun w hw=>⟨rfl,hw.ext⟩)
   ·replace h:=if_ff g_2 h
    refine Tri.skip (Nrm.seq (Tri.seq ?_))
    obtain ⟨⟨t64_1,t64_2,t64_3⟩,h64,h⟩:=bind_some h
    refine Tri.reg (l:=[0,1,2,3]) rfl ?_
    refine F.qn rfl (r_move rfl) ?_
    refine F.mn rfl (m_callF (xs:=_) rfl ok74 rfl rfl (fun w hw=>spec_DrawAloneWorlds.ok h64 w ((fun _ hw=>hr_a0.sep hw) w hw))) ?_
    rintro _ _ ⟨_,⟨v64_1,S64_1,v64_2,S64_2,rfl,hl_v64_1,hl_v64_2,rfl⟩,rfl⟩
    refine F.mn rfl (m_alloc ti27) ?_
    rintro _ _ ⟨b9_1,rfl,rfl⟩
    refine F.ef0 rfl rfl (wanted_none rfl) (d_storeG0 (i:=0) (cs2:=[.int .i64 t64_1,v64_1,v64_2]) ti27 rfl rfl rfl rfl rfl (Nat.le_of_ble_eq_true rfl) (lf_cons rfl (lf_cons (sl_leaf hl_v64_1) (lf_cons (sl_leaf hl_v64_2) lf_nil)))) ?_
    rintro _ _ ⟨rfl,rfl⟩
    refine F.nil (Nrm.seq (Tri.seq ?_))
    obtain ⟨⟨t67_1,t67_2,t67_3⟩,h67,h⟩:=bind_some h
    refine Tri.reg (l:=[0,1,2,3,4,5,6,7]) rfl ?_
    refine F.qn rfl (r_loadA ta27 ti27 rfl rfl (fun w hw=>(box_cells (i:=0) rfl w hw))) ?_
    refine F.mn rfl (m_callF (xs:=_) rfl ok75 rfl rfl (fun w hw=>impl_AloneWorlds.ok h67 w ((rd_sl (i:=1) rfl) w hw) ((rd_sl (i:=2) rfl) w hw))) ?_
    rintro _ _ ⟨_,⟨v67_1,S67_1,v67_2,S67_2,rfl,hl_v67_1,hl_v67_2,rfl⟩,rfl⟩
    refine F.qn rfl (r_move rfl) (F.qn rfl (r_extract rfl rfl) (F.qn rfl (r_extract rfl rfl) ?_))
    refine F.mn rfl (m_alloc ti88) ?_
    rintro _ _ ⟨b10_1,rfl,rfl⟩
    refine F.ef0 rfl rfl (wanted_none rfl) (d_storeG0 (i:=0) (cs2:=[v67_1,v67_2]) ti88 rfl rfl rfl rfl rfl (Nat.le_of_ble_eq_true rfl) (lf_cons (sl_leaf hl_v67_1) (lf_cons (sl_leaf hl_v67_2) lf_nil))) ?_
    rintro _ _ ⟨rfl,rfl⟩
    refine F.qn rfl (r_assign rfl) (F.nil (Nrm.seq (Tri.seq (Tri.seq ?_))))
    obtain ⟨⟨t72_1,t72_2,t72_3⟩,h72,h⟩:=bind_some h
    refine Tri.reg (l:=[0,1,2,3,4,5,6,7]) rfl ?_
    refine F.qn rfl (r_loadA ta27 ti27 rfl rfl (fun w hw=>(box_cells (i:=3) rfl w hw))) ?_
    refine F.mn rfl (m_callF (xs:=_) rfl ok76 rfl rfl (fun w hw=>spec_AloneWorlds.ok h72 w ((rd_sl (i:=4) rfl) w hw) ((rd_sl (i:=5) rfl) w hw))) ?_
    rintro _ _ ⟨_,⟨v72_1,S72_1,v72_2,S72_2,rfl,hl_v72_1,hl_v72_2,rfl⟩,rfl⟩
    refine F.qn rfl (r_move rfl) (F.qn rfl (r_extract rfl rfl) (F.qn rfl (r_extract rfl rfl) ?_))
    refine F.mn rfl (m_alloc ti88) ?_
    rintro _ _ ⟨b12_1,rfl,rfl⟩
    refine F.ef0 rfl rfl (wanted_none rfl) (d_storeG0 (i:=0) (cs2:=[v72_1,v72_2]) ti88 rfl rfl rfl rfl rfl (Nat.le_of_ble_eq_true rfl) (lf_cons (sl_leaf hl_v72_1) (lf_cons (sl_leaf hl_v72_2) lf_nil))) ?_
    rintro _ _ ⟨rfl,rfl⟩
    refine F.qn rfl (r_assign rfl) (F.nil (Nrm.seq (Tri.seq ?_)))
    obtain ⟨y83,hE_2,h⟩:=bind_some h
    refine Tri.cut (fun e' C'=>e' = [(0,va0),(3,.pointer (some ⟨b3_1,0,none⟩)),(4,v39_3),(5,.pointer (some ⟨b5_1,0,none⟩)),(6,.bool t45_3),(9,.pointer (some ⟨b9_1,0,none⟩)),(10,.pointer (some ⟨b10_1,0,none⟩)),(11,.bool t67_3),(83,.bool y83)]∧C' = Sep w noM [R.box b10_1 88 [v67_1,v67_2],R.box b9_1 27 [.int .i64 t64_1,v64_1,v64_2],R.box b5_1 88 [v45_1,v45_2],R.box b3_1 88 [v39_1,v39_2],R.sl S39_1 v39_1 (t39_1 : List (Int × List (Int × Int × Int) × List Int)),R.sl S39_2 v39_2 (t39_2 : List (List Int)),R.sl S39_3 v39_3 (t39_3 : List (Int)),R.sl S45_1 v45_1 (t45_1 : List (Int × List (Int × Int × Int) × List Int)),R.sl S45_2 v45_2 (t45_2 : List (List Int)),R.sl S64_1 v64_1 (t64_2 : List (Int × Int × Int)),R.sl S64_2 v64_2 (t64_3 : List (Int)),R.sl S67_1 v67_1 (t67_1 : List (Int × List (Int × Int × Int) × List Int)),R.sl S67_2 v67_2 (t67_2 : List (List Int))]) ?_ (fun hj_2=>?_)
    ·rintro _ _ ⟨rfl,rfl⟩
     refine Nrm.seq (Tri.cond (b:=y83) rfl (fun g_3=>?_) (fun g_3=>?_))
     ·replace h:=if_tt g_3 h
      refine Tri.seq (Tri.reg (l:=[0]) rfl ?_)
      refine F.qn rfl (r_assign rfl) (F.nil (Nrm.seq (Tri.ret ?_)))
      refine Rtn.then ?_
      cases h
      exact Rtn.body (.tmp rfl .nil) (fun w hw=>⟨rfl,hw.ext⟩)
     ·replace h:=if_ff g_3 h
      refine Tri.skip (Nrm.seq (Tri.seq ?_))
      obtain ⟨⟨t86_1,t86_2,t86_3,t86_4,t86_5⟩,h86,h⟩:=bind_some h
      refine Tri.reg (l:=List.range 12) rfl ?_
      refine F.qn rfl (r_move rfl) ?_
      refine F.mn rfl (m_callF (xs:=_) rfl ok77 rfl rfl (fun w hw=>spec_DrawGiveKeys.ok h86 w ((fun _ hw=>hr_a0.sep hw) w hw))) ?_
      rintro _ _ ⟨_,⟨v86_1,S86_1,v86_2,S86_2,rfl,hl_v86_1,hl_v86_2,rfl⟩,rfl⟩
      refine F.qn rfl (r_move rfl) ?_
      iterate 4 refine F.qn rfl (r_extract rfl rfl) ?_
      refine F.mn rfl (m_alloc ti88) ?_
      rintro _ _ ⟨b14_1,rfl,rfl⟩
      refine F.ef0 rfl rfl (wanted_none rfl) (d_storeG0 (i:=0) (cs2:=[v86_1,v86_2]) ti88 rfl rfl rfl rfl rfl (Nat.le_of_ble_eq_true rfl) (lf_cons (sl_leaf hl_v86_1) (lf_cons (sl_leaf hl_v86_2) lf_nil))) ?_
      rintro _ _ ⟨rfl,rfl⟩
      iterate 3 refine F.qn rfl (r_assign rfl) ?_
      refine F.nil (Nrm.seq (Tri.seq ?_))
      obtain ⟨⟨t96_1,t96_2,t96_3⟩,h96,h⟩:=bind_some h
      refine Tri.reg (l:=[0,1,2,3,4,5,6,7,8,9,10]) rfl ?_
      refine F.qn rfl (r_loadA ta88 ti88 rfl rfl (fun w hw=>(box_cells (i:=0) rfl w hw))) ?_
      iterate 3 refine F.qn rfl (r_move rfl) ?_
      refine F.mn rfl (m_callF (xs:=_) rfl ok78 rfl rfl (fun w hw=>impl_GiveKeys.ok h96 w ((rd_sl (i:=1) rfl) w hw) ((rd_sl (i:=2) rfl) w hw))) ?_
      rintro _ _ ⟨_,⟨v96_1,S96_1,v96_2,S96_2,rfl,hl_v96_1,hl_v96_2,rfl⟩,rfl⟩
      refine F.qn rfl (r_move rfl) (F.qn rfl (r_extract rfl rfl) (F.qn rfl (r_extract rfl rfl) ?_))
      refine F.mn rfl (m_alloc ti88) ?_
      rintro _ _ ⟨b18_1,rfl,rfl⟩
      refine F.ef0 rfl rfl (wanted_none rfl) (d_storeG0 (i:=0) (cs2:=[v96_1,v96_2]) ti88 rfl rfl rfl rfl rfl (Nat.le_of_ble_eq_true rfl) (lf_cons (sl_leaf hl_v96_1) (lf_cons (sl_leaf hl_v96_2) lf_nil))) ?_
      rintro _ _ ⟨rfl,rfl⟩
      refine F.qn rfl (r_assign rfl) (F.nil (Nrm.seq (Tri.seq (Tri.seq ?_))))
      obtain ⟨⟨t104_1,t104_2,t104_3⟩,h104,h⟩:=bind_some h
      refine Tri.reg (l:=[0,1,2,3,4,5,6,7,8,9,10]) rfl ?_
      refine F.qn rfl (r_loadA ta88 ti88 rfl rfl (fun w hw=>(box_cells (i:=3) rfl w hw))) ?_
      iterate 3 refine F.qn rfl (r_move rfl) ?_
      refine F.mn rfl (m_callF (xs:=_) rfl ok79 rfl rfl (fun w hw=>spec_GiveKeys.ok h104 w ((rd_sl (i:=4) rfl) w hw) ((rd_sl (i:=5) rfl) w hw))) ?_
      rintro _ _ ⟨_,⟨v104_1,S104_1,v104_2,S104_2,rfl,hl_v104_1,hl_v104_2,rfl⟩,rfl⟩
      refine F.qn rfl (r_move rfl) (F.qn rfl (r_extract rfl rfl) (F.qn rfl (r_extract rfl rfl) ?_))
      refine F.mn rfl (m_alloc ti88) ?_
      rintro _ _ ⟨b20_1,rfl,rfl⟩
      refine F.ef0 rfl rfl (wanted_none rfl) (d_storeG0 (i:=0) (cs2:=[v104_1,v104_2]) ti88 rfl rfl rfl rfl rfl (Nat.le_of_ble_eq_true rfl) (lf_cons (sl_leaf hl_v104_1) (lf_cons (sl_leaf hl_v104_2) lf_nil))) ?_
      rintro _ _ ⟨rfl,rfl⟩
      refine F.qn rfl (r_assign rfl) (F.nil (Nrm.seq (Tri.seq ?_)))
      obtain ⟨y115,hE_3,h⟩:=bind_some h
      refine Tri.cut (fun e' C'=>e' = [(3,.pointer (some ⟨b3_1,0,none⟩)),(4,v39_3),(5,.pointer (some ⟨b5_1,0,none⟩)),(6,.bool t45_3),(9,.pointer (some ⟨b9_1,0,none⟩)),(10,.pointer (some ⟨b10_1,0,none⟩)),(11,.bool t67_3),(14,.pointer (some ⟨b14_1,0,none⟩)),(15,.int .i64 t86_3),(16,.int .i64 t86_4),(18,.pointer (some ⟨b18_1,0,none⟩)),(19,.bool t96_3),(115,.bool y115)]∧C' = Sep w noM [R.box b18_1 88 [v96_1,v96_2],R.box b14_1 88 [v86_1,v86_2],R.box b10_1 88 [v67_1,v67_2],R.box b9_1 27 [.int .i64 t64_1,v64_1,v64_2],R.box b5_1 88 [v45_1,v45_2],R.box b3_1 88 [v39_1,v39_2],R.sl S39_1 v39_1 (t39_1 : List (Int × List (Int × Int × Int) × List Int)),R.sl S39_2 v39_2 (t39_2 : List (List Int)),R.sl S39_3 v39_3 (t39_3 : List (Int)),R.sl S45_1 v45_1 (t45_1 : List (Int × List (Int × Int × Int) × List Int)),R.sl S45_2 v45_2 (t45_2 : List (List Int)),R.sl S64_1 v64_1 (t64_2 : List (Int × Int × Int)),R.sl S64_2 v64_2 (t64_3 : List (Int)),R.sl S67_1 v67_1 (t67_1 : List (Int × List (Int × Int × Int) × List Int)),R.sl S67_2 v67_2 (t67_2 : List (List Int)),R.sl S86_1 v86_1 (t86_1 : List (Int × List (Int × Int × Int) × List Int)),R.sl S86_2 v86_2 (t86_2 : List (List Int)),R.sl S96_1 v96_1 (t96_1 : List (Int × List (Int × Int × Int) × List Int)),R.sl S96_2 v96_2 (t96_2 : List (List Int))]) ?_ (fun hj_3=>?_)
      ·rintro _ _ ⟨rfl,rfl⟩
       refine Nrm.seq (Tri.cond (b:=y115) rfl (fun g_4=>?_) (fun g_4=>?_))
       ·replace h:=if_tt g_4 h
        refine Tri.seq (Tri.reg (l:=[0]) rfl ?_)
        refine F.qn rfl (r_assign rfl) (F.nil (Nrm.seq (Tri.ret ?_)))
        refine Rtn.then ?_
        cases h
        exact Rtn.body (.tmp rfl .nil) (fun w hw=>⟨rfl,hw.ext⟩)
       ·replace h:=if_ff g_4 h
        refine Tri.skip (Nrm.seq (Tri.seq (Tri.seq (Tri.reg (l:=[0]) rfl ?_))))
        refine F.qn rfl (r_move rfl) (F.nil (Nrm.seq (Tri.cond (b:=t67_3) rfl (fun g_5=>?_) (fun g_5=>?_))))
        ·replace h:=if_tt g_5 h
         refine Tri.seq ?_
         obtain ⟨⟨t119_1,t119_2⟩,h119,h⟩:=bind_some h
         refine Tri.reg (l:=[0,1,2,3,4,5,6]) rfl ?_
         refine F.qn rfl (r_loadA ta88 ti88 rfl rfl (fun w hw=>(box_cells (i:=2) rfl w hw))) ?_
         refine F.qcn rfl (q_callF (xs:=_) rfl ok80 rfl rfl (fun w hw=>impl_AllWon.ok h119 w ((rd_sl (i:=13) rfl) w hw) ((rd_sl (i:=14) rfl) w hw))) ?_
         refine F.qn rfl (r_move rfl) (F.qn rfl (r_extract rfl rfl) (F.qn rfl (r_extract rfl rfl) (F.qn rfl (r_assign rfl) (F.qn rfl (r_assign rfl) (F.nil (Nrm.seq (Tri.seq ?_)))))))
         obtain ⟨⟨t124_1,t124_2⟩,h124,h⟩:=bind_some h
         refine Tri.reg (l:=[0,1,2,3,4,5,6]) rfl ?_
         refine F.qn rfl (r_loadA ta27 ti27 rfl rfl (fun w hw=>(box_cells (i:=3) rfl w hw))) ?_
         refine F.qcn rfl (q_callF (xs:=_) rfl ok68 rfl rfl (fun w hw=>impl_FewestSteps.ok h124 w ((rd_sl (i:=11) rfl) w hw) ((rd_sl (i:=12) rfl) w hw))) ?_
         refine F.qn rfl (r_move rfl) (F.qn rfl (r_extract rfl rfl) (F.qn rfl (r_extract rfl rfl) (F.qn rfl (r_assign rfl) (F.qn rfl (r_assign rfl) (F.nil (Nrm.seq (Tri.seq ?_)))))))
         obtain ⟨⟨t129_1,t129_2⟩,h129,h⟩:=bind_some h
         refine Tri.reg (l:=[0,1,2,3,4,5,6]) rfl ?_
         refine F.qn rfl (r_loadA ta88 ti88 rfl rfl (fun w hw=>(box_cells (i:=2) rfl w hw))) ?_
         refine F.mn rfl (m_callF (xs:=_) rfl ok81 rfl rfl (fun w hw=>impl_LeansOn.ok h129 w ((rd_sl (i:=13) rfl) w hw) ((rd_sl (i:=14) rfl) w hw))) ?_
         rintro _ _ ⟨_,⟨v129_1,S129_1,rfl,hl_v129_1,rfl⟩,rfl⟩
         refine F.qn rfl (r_move rfl) (F.qn rfl (r_extract rfl rfl) (F.qn rfl (r_extract rfl rfl) (F.qn rfl (r_assign rfl) (F.qn rfl (r_assign rfl) (F.nil (Nrm.seq (Tri.seq ?_)))))))
         obtain ⟨y147,hE_4,h⟩:=bind_some h
         refine Tri.cut (fun e' C'=>e' = [(3,.pointer (some ⟨b3_1,0,none⟩)),(4,v39_3),(5,.pointer (some ⟨b5_1,0,none⟩)),(6,.bool t45_3),(14,.pointer (some ⟨b14_1,0,none⟩)),(15,.int .i64 t86_3),(16,.int .i64 t86_4),(18,.pointer (some ⟨b18_1,0,none⟩)),(19,.bool t96_3),(147,.bool y147)]∧C' = Sep w noM [R.box b18_1 88 [v96_1,v96_2],R.box b14_1 88 [v86_1,v86_2],R.box b5_1 88 [v45_1,v45_2],R.box b3_1 88 [v39_1,v39_2],R.sl S39_1 v39_1 (t39_1 : List (Int × List (Int × Int × Int) × List Int)),R.sl S39_2 v39_2 (t39_2 : List (List Int)),R.sl S39_3 v39_3 (t39_3 : List (Int)),R.sl S45_1 v45_1 (t45_1 : List (Int × List (Int × Int × Int) × List Int)),R.sl S45_2 v45_2 (t45_2 : List (List Int)),R.sl S86_1 v86_1 (t86_1 : List (Int × List (Int × Int × Int) × List Int)),R.sl S86_2 v86_2 (t86_2 : List (List Int)),R.sl S96_1 v96_1 (t96_1 : List (Int × List (Int × Int × Int) × List Int)),R.sl S96_2 v96_2 (t96_2 : List (List Int))]) ?_ (fun hj_4=>?_)
         ·rintro _ _ ⟨rfl,rfl⟩
          refine Nrm.seq (Tri.cond (b:=y147) rfl (fun g_6=>?_) (fun g_6=>?_))
          ·replace h:=if_tt g_6 h
           refine Tri.seq (Tri.reg (l:=[0]) rfl ?_)
           refine F.qn rfl (r_assign rfl) (F.nil (Nrm.seq (Tri.ret ?_)))
           refine Rtn.then ?_
           cases h
           exact Rtn.body (.tmp rfl .nil) (fun w hw=>⟨rfl,hw.ext⟩)
          ·replace h:=if_ff g_6 h
           refine Tri.skip (Nrm.seq (Tri.seq (Tri.seq (Tri.reg (l:=[0]) rfl ?_))))
           refine F.qn rfl (r_move rfl) (F.nil (Nrm.seq (Tri.cond (b:=t96_3) rfl (fun g_7=>?_) (fun g_7=>?_))))
           ·replace h:=if_tt g_7 h
            refine Tri.seq ?_
            obtain ⟨⟨y29,yb14_1_1,yb28_2_0,yb28_2_1⟩,hE_5,h⟩:=bind_some h
            refine Tri.cut (fun e' C'=>∃ (vb14_1_1_1 : Value) (Sb14_1_1_1 : Nat → Prop) (vb28_2_0_1 : Value) (Sb28_2_0_1 : Nat → Prop) (vb28_2_1_1 : Value) (Sb28_2_1_1 : Nat → Prop) (b28_2 : Nat),SlLen vb14_1_1_1 (yb14_1_1).length∧SlLen vb28_2_0_1 (yb28_2_0).length∧SlLen vb28_2_1_1 (yb28_2_1).length∧e' = [(3,.pointer (some ⟨b3_1,0,none⟩)),(4,v39_3),(5,.pointer (some ⟨b5_1,0,none⟩)),(6,.bool t45_3),(14,.pointer (some ⟨b14_1,0,none⟩)),(28,.pointer (some ⟨b28_2,0,none⟩)),(29,.bool y29)]∧C' = Sep w noM [R.box b14_1 88 [v86_1,vb14_1_1_1],R.box b5_1 88 [v45_1,v45_2],R.box b3_1 88 [v39_1,v39_2],R.box b28_2 88 [vb28_2_0_1,vb28_2_1_1],R.sl Sb14_1_1_1 vb14_1_1_1 (yb14_1_1 : List (List Int)),R.sl Sb28_2_0_1 vb28_2_0_1 (yb28_2_0 : List (Int × List (Int × Int × Int) × List Int)),R.sl Sb28_2_1_1 vb28_2_1_1 (yb28_2_1 : List (List Int)),R.sl S39_1 v39_1 (t39_1 : List (Int × List (Int × Int × Int) × List Int)),R.sl S39_2 v39_2 (t39_2 : List (List Int)),R.sl S39_3 v39_3 (t39_3 : List (Int)),R.sl S45_1 v45_1 (t45_1 : List (Int × List (Int × Int × Int) × List Int)),R.sl S45_2 v45_2 (t45_2 : List (List Int)),R.sl S86_1 v86_1 (t86_1 : List (Int × List (Int × Int × Int) × List Int))]) ?_ (fun hj_5=>?_)
            ·rintro _ _ ⟨vb14_1_1_1,Sb14_1_1_1,vb28_2_0_1,Sb28_2_0_1,vb28_2_1_1,Sb28_2_1_1,b28_2,hl_vb14_1_1_1,hl_vb28_2_0_1,hl_vb28_2_1_1,rfl,rfl⟩
             refine Nrm.seq (Tri.seq ?_)
             obtain ⟨y171,hE_6,h⟩:=bind_some h
             refine Tri.cut (fun e' C'=>e' = [(3,.pointer (some ⟨b3_1,0,none⟩)),(4,v39_3),(5,.pointer (some ⟨b5_1,0,none⟩)),(6,.bool t45_3),(171,.bool y171)]∧C' = Sep w noM [R.box b5_1 88 [v45_1,v45_2],R.box b3_1 88 [v39_1,v39_2],R.sl S39_1 v39_1 (t39_1 : List (Int × List (Int × Int × Int) × List Int)),R.sl S39_2 v39_2 (t39_2 : List (List Int)),R.sl S39_3 v39_3 (t39_3 : List (Int)),R.sl S45_1 v45_1 (t45_1 : List (Int × List (Int × Int × Int) × List Int)),R.sl S45_2 v45_2 (t45_2 : List (List Int))]) ?_ (fun hj_6=>?_)
             ·rintro _ _ ⟨rfl,rfl⟩
              refine Nrm.seq (Tri.cond (b:=y171) rfl (fun g_8=>?_) (fun g_8=>?_))
              ·replace h:=if_tt g_8 h
               refine Tri.seq (Tri.reg (l:=[0]) rfl ?_)
               refine F.qn rfl (r_assign rfl) (F.nil (Nrm.seq (Tri.ret ?_)))
               refine Rtn.then ?_
               cases h
               exact Rtn.body (.tmp rfl .nil) (fun w hw=>⟨rfl,hw.ext⟩)
              ·replace h:=if_ff g_8 h
               refine Tri.skip (Nrm.seq (Tri.seq (Tri.seq (Tri.reg (l:=[0,1]) rfl ?_))))
               refine F.qn rfl (r_move rfl) (F.qn rfl (r_not rfl) (F.nil (Nrm.seq (Tri.cond (b:=!t45_3) rfl (fun g_9=>?_) (fun g_9=>?_)))))
               ·replace h:=if_tt g_9 h
                refine Tri.seq (Tri.reg (l:=[0]) rfl ?_)
                refine F.qn rfl (r_assign rfl) (F.nil (Nrm.seq (Tri.ret ?_)))
                refine Rtn.then ?_
                cases h
                exact Rtn.body (.tmp rfl .nil) (fun w hw=>⟨rfl,hw.ext⟩)
               ·replace h:=if_ff g_9 h
                refine Tri.skip (Nrm.seq (Tri.seq ?_))
                obtain ⟨⟨t176_1,t176_2⟩,h176,h⟩:=bind_some h
                refine Tri.reg (l:=[0,1,2,3,4,5,6]) rfl ?_
                refine F.qn rfl (r_loadA ta88 ti88 rfl rfl (fun w hw=>(box_cells (i:=1) rfl w hw))) ?_
                refine F.mn rfl (m_callF (xs:=_) rfl ok82 rfl rfl (fun w hw=>impl_WonRounds.ok h176 w ((rd_sl (i:=2) rfl) w hw) ((rd_sl (i:=3) rfl) w hw))) ?_
                rintro _ _ ⟨_,⟨v176_1,S176_1,rfl,hl_v176_1,rfl⟩,rfl⟩
                refine F.qn rfl (r_move rfl) (F.qn rfl (r_extract rfl rfl) (F.qn rfl (r_extract rfl rfl) (F.qn rfl (r_assign rfl) (F.qn rfl (r_assign rfl) (F.nil (Nrm.seq (Tri.seq ?_)))))))
                obtain ⟨⟨t181_1,t181_2⟩,h181,h⟩:=bind_some h
                refine Tri.reg (l:=[0,1,2,3,4,5,6]) rfl ?_
                refine F.qn rfl (r_loadA ta88 ti88 rfl rfl (fun w hw=>(box_cells (i:=1) rfl w hw))) ?_
                refine F.mn rfl (m_callF (xs:=_) rfl ok82 rfl rfl (fun w hw=>impl_WonRounds.ok h181 w ((rd_sl (i:=6) rfl) w hw) ((rd_sl (i:=7) rfl) w hw))) ?_
                rintro _ _ ⟨_,⟨v181_1,S181_1,rfl,hl_v181_1,rfl⟩,rfl⟩
                refine F.qn rfl (r_move rfl) (F.qn rfl (r_extract rfl rfl) (F.qn rfl (r_extract rfl rfl) (F.qn rfl (r_assign rfl) (F.qn rfl (r_assign rfl) (F.nil (Nrm.seq (Tri.seq (Tri.seq ?_))))))))
                obtain ⟨y196,hE_7,h⟩:=bind_some h
                refine Tri.cut (fun e' C'=>e' = [(4,v39_3),(30,v176_1),(32,v181_1),(196,.bool y196)]∧C' = Sep w noM [R.sl S176_1 v176_1 (t176_1 : List (Int)),R.sl S181_1 v181_1 (t181_1 : List (Int)),R.sl S39_3 v39_3 (t39_3 : List (Int))]) ?_ (fun hj_7=>?_)
                ·rintro _ _ ⟨rfl,rfl⟩
                 refine Nrm.seq (Tri.cond (b:=y196) rfl (fun g_10=>?_) (fun g_10=>?_))
                 ·replace h:=if_tt g_10 h
                  refine Tri.seq (Tri.reg (l:=[0]) rfl ?_)
                  refine F.qn rfl (r_assign rfl) (F.nil (Nrm.seq (Tri.ret ?_)))
                  refine Rtn.then ?_
                  cases h
                  exact Rtn.body (.tmp rfl .nil) (fun w hw=>⟨rfl,hw.ext⟩)
                 ·replace h:=if_ff g_10 h
                  refine Tri.skip (Nrm.seq (Tri.seq (Tri.seq (Tri.reg (l:=[0]) rfl ?_))))
                  refine F.qn rfl (r_assign rfl) (F.nil (Nrm.seq ?_))
                  obtain ⟨s0,hE_8,h⟩:=bind_some h
                  refine Tri.block ?_
                  refine Tri.only [4,30,32,34] rfl ?_
                  refine Tri.pick [0,1,2] rfl rfl ?_
                  refine Tri.rounds (fun n e' C'=>∃ (x34' : Int),laws_FnWorldForms.l0 k t39_3 t176_1 t181_1 n x34' = some s0∧e' = [(4,v39_3),(30,v176_1),(32,v181_1),(34,.int .i64 x34')]∧C' = Sep w noM [R.sl S176_1 v176_1 (t176_1 : List (Int)),R.sl S181_1 v181_1 (t181_1 : List (Int)),R.sl S39_3 v39_3 (t39_3 : List (Int))]) k ?_ ?_ ?_
                  ·exact ⟨0,hE_8,rfl,rfl⟩
                  ·rintro _ _ ⟨_,hE_8,_⟩
                   rw [laws_FnWorldForms.l0.eq_1] at hE_8; cases hE_8
                  ·rintro n_1 _ _ ⟨x34,hE_8,rfl,rfl⟩ ih_1
                   rw [laws_FnWorldForms.l0.eq_2] at hE_8
                   refine Tri.seq (Tri.seq (Tri.reg (l:=[0,1,2,3]) rfl ?_))
                   refine F.qn rfl (r_move rfl) (F.qn rfl (r_move rfl) (F.qn rfl (r_len Tryz.underlying25 rfl hl_v39_3) (F.qn rfl (r_lss rfl rfl) (F.nil (Nrm.seq (Tri.cond (b:=decide (x34 < (t39_3.length : Int))) rfl (fun g_11=>?_) (fun g_11=>?_)))))))
                   ·replace hE_8:=if_tt g_11 hE_8
                    refine Tri.skip (Nrm.seq (Tri.seq (Tri.block ?_)))
                    refine Tri.seq ?_
                    obtain ⟨t205,h205,hE_8⟩:=bind_some hE_8
                    obtain ⟨t210,h210,hE_8⟩:=bind_some hE_8
                    obtain ⟨t212,h212,hE_8⟩:=bind_some hE_8
                    refine Tri.drawA mixedT Sep.up [(0,true),(1,true),(2,true),(3,true),(4,true),(5,true),(6,true),(7,true),(8,true),(9,true),(10,true),(11,true)] [] (by kernel_rfl) ?_
                    refine S.qn rfl (r_move rfl) (S.qn rfl (r_move rfl) (S.qn rfl (r_indexAddrS Tryz.underlying25 ti3 rfl hl_v181_1 rfl (rdl_some h205).1 (rdl_some h205).2.1) (S.qn rfl (r_load ta3 rfl (fun w hw=>cell_0 (Rd.flat ((rd_sl (i:=1) rfl) w hw) (rdl_some h205).2.2) rfl)) ?_)))
                    iterate 3 refine S.qn rfl (r_move rfl) ?_
                    refine S.qn rfl (r_indexAddrS Tryz.underlying25 ti3 rfl hl_v39_3 rfl (rdl_some h210).1 (rdl_some h210).2.1) (S.qn rfl (r_load ta3 rfl (fun w hw=>cell_0 (Rd.flat ((rd_sl (i:=2) rfl) w hw) (rdl_some h210).2.2) rfl)) (S.qn rfl (r_indexAddrS Tryz.underlying25 ti3 rfl hl_v176_1 rfl (rdl_some h212).1 (rdl_some h212).2.1) (S.qn rfl (r_load ta3 rfl (fun w hw=>cell_0 (Rd.flat ((rd_sl (i:=0) rfl) w hw) (rdl_some h212).2.2) rfl)) (S.qn rfl (r_neq rfl rfl) (S.nil (F.nil (Nrm.seq (Tri.cond (b:=t205 != t212) rfl (fun g_12=>?_) (fun g_12=>?_)))))))))
                    ·replace hE_8:=if_tt g_12 hE_8
                     refine Tri.seq (Tri.reg (l:=[0]) rfl ?_)
                     refine F.qn rfl (r_assign rfl) (F.nil (Nrm.seq (Tri.ret ?_)))
                     refine Rtn.block ?_
                     refine Rtn.then ?_
                     refine Rtn.then ?_
                     refine Rtn.block ?_
                     refine Rtn.then ?_
                     cases hE_8
                     replace h:=Lr_inr h
                     cases h
                     exact Rtn.body (.tmp rfl .nil) (fun w hw=>⟨rfl,hw.ext⟩)
                    ·replace hE_8:=if_ff g_12 hE_8
                     refine Tri.skip (Nrm.block ?_)
                     refine Nrm.seq (Tri.reg (l:=[0,1,2]) rfl ?_)
                     refine F.qn rfl (r_move rfl) (F.qn rfl (r_add rfl rfl) (F.qn rfl (r_assign rfl) (F.nil (Nrm.round ?_))))
                     refine Rnd.only [4,30,32,34] rfl ?_
                     refine Rnd.pick [0,1,2] rfl rfl ?_
                     exact ih_1 _ _ ⟨w64 (x34 + 1),hE_8,rfl,rfl⟩
                   ·replace hE_8:=if_ff g_11 hE_8
                    refine Tri.exit ?_
                    refine Exi.then ?_
                    refine Exi.then ?_
                    refine Exi.same ?_
                    cases hE_8
                    replace h:=Lr_inl h
                    refine Nrm.seq (Tri.seq (Tri.reg (l:=[0]) rfl ?_))
                    refine F.qn rfl (r_assign rfl) (F.nil (Nrm.seq (Tri.ret ?_)))
                    cases h
                    exact Rtn.body (.tmp rfl .nil) (fun w hw=>⟨rfl,hw.ext⟩)
                ·rcases Bool.eq_false_or_eq_true (!t176_2) with g186 | g186
                 ·replace hE_7:=if_tt g186 hE_7
                  refine Tri.reg (l:=List.range 13) rfl ?_
                  refine F.qn rfl (r_move rfl) ?_
                  refine F.qn rfl (r_not rfl) (F.qn rfl (r_move rfl) (F.skf rfl g186 (F.skf rfl g186 (F.qn rfl (r_pick rfl rfl g186) (F.qn rfl (r_move rfl) ?_)))))
                  iterate 5 refine F.skf rfl rfl ?_
                  refine F.qn rfl (r_pick rfl rfl rfl) (F.nil ?_)
                  cases hE_7
                  refine Nrm.only [4,30,32,196] rfl ?_
                  refine Nrm.pick [1,0,6] rfl rfl ?_
                  exact hj_7 _ _ ⟨rfl,rfl⟩
                 ·replace hE_7:=if_ff g186 hE_7
                  rcases Bool.eq_false_or_eq_true (!t181_2) with g190 | g190
                  ·replace hE_7:=if_tt g190 hE_7
                   refine Tri.reg (l:=List.range 13) rfl ?_
                   refine F.qn rfl (r_move rfl) ?_
                   refine F.qn rfl (r_not rfl) (F.qn rfl (r_move rfl) (F.qg rfl g186 (r_move rfl) (F.qg rfl g186 (r_not rfl) (F.qn rfl (r_pickf rfl rfl g186) (F.qn rfl (r_move rfl) ?_)))))
                   iterate 5 refine F.skf rfl g190 ?_
                   refine F.qn rfl (r_pick rfl rfl g190) (F.nil ?_)
                   cases hE_7
                   refine Nrm.only [4,30,32,196] rfl ?_
                   refine Nrm.pick [1,0,6] rfl rfl ?_
                   exact hj_7 _ _ ⟨rfl,rfl⟩
                  ·replace hE_7:=if_ff g190 hE_7
                   refine Tri.reg (l:=List.range 13) rfl ?_
                   refine F.qn rfl (r_move rfl) ?_
                   refine F.qn rfl (r_not rfl) (F.qn rfl (r_move rfl) (F.qg rfl g186 (r_move rfl) (F.qg rfl g186 (r_not rfl) (F.qn rfl (r_pickf rfl rfl g186) (F.qn rfl (r_move rfl) ?_)))))
                   refine F.qg rfl g190 (r_move rfl) (F.qg rfl g190 (r_len Tryz.underlying25 rfl hl_v176_1) (F.qg rfl g190 (r_move rfl) (F.qg rfl g190 (r_len Tryz.underlying25 rfl hl_v181_1) (F.qg rfl g190 (r_neq rfl rfl) (F.qn rfl (r_pickf rfl rfl g190) (F.nil ?_))))))
                   cases hE_7
                   refine Nrm.only [4,30,32,196] rfl ?_
                   refine Nrm.pick [1,0,6] rfl rfl ?_
                   exact hj_7 _ _ ⟨rfl,rfl⟩
             ·rcases Bool.eq_false_or_eq_true (!y29) with g166 | g166
              ·replace hE_6:=if_tt g166 hE_6
               refine Tri.reg (l:=[0,1,2,3,4,5,6,7]) rfl ?_
               refine F.qn rfl (r_move rfl) (F.qn rfl (r_not rfl) (F.qn rfl (r_move rfl) ?_))
               iterate 4 refine F.skf rfl g166 ?_
               refine F.qn rfl (r_pick rfl rfl g166) (F.nil ?_)
               cases hE_6
               refine Nrm.only [3,4,5,6,171] rfl ?_
               refine Nrm.pick [1,2,7,8,9,10,11] rfl rfl ?_
               exact hj_6 _ _ ⟨rfl,rfl⟩
              ·replace hE_6:=if_ff g166 hE_6
               obtain ⟨t169,h169,hE_6⟩:=bind_some hE_6
               refine Tri.reg (l:=[0,1,2,3,4,5,6,7]) rfl ?_
               refine F.qn rfl (r_move rfl) (F.qn rfl (r_not rfl) (F.qn rfl (r_move rfl) (F.qg rfl g166 (r_loadA ta88 ti88 rfl rfl (fun w hw=>(box_cells (i:=3) rfl w hw))) (F.qg rfl g166 (r_loadA ta88 ti88 rfl rfl (fun w hw=>(box_cells (i:=0) rfl w hw))) ?_))))
               refine F.qc rfl rfl rfl (wg rfl rfl rfl g166) (q_callF (xs:=_) rfl ok73 rfl rfl (fun w hw=>laws_rWorlds.ok h169 w ((rd_sl (i:=5) rfl) w hw) ((rd_sl (i:=6) rfl) w hw) ((rd_sl (i:=12) rfl) w hw) ((rd_sl (i:=4) rfl) w hw))) ?_
               refine F.qg rfl g166 (r_not rfl) (F.qn rfl (r_pickf rfl rfl g166) (F.nil ?_))
               cases hE_6
               refine Nrm.only [3,4,5,6,171] rfl ?_
               refine Nrm.pick [1,2,7,8,9,10,11] rfl rfl ?_
               exact hj_6 _ _ ⟨rfl,rfl⟩
            ·obtain ⟨t156,h156,hE_5⟩:=bind_some hE_5
             obtain ⟨t159,h159,hE_5⟩:=bind_some hE_5
             obtain ⟨⟨t161_1,t161_2,t161_3⟩,h161,hE_5⟩:=bind_some hE_5
             refine Tri.ex (on25 [10] [0,1,2,3,4,5,6,7,8,9,11,12] rfl rfl (rdl_some h156).2.2) ?_
             rintro _ ⟨v156_0_1,S156_0_1,Sr156_1,hl_v156_0_1,hS156_1,rfl⟩
             refine Tri.drawT mixedT Sep.up [0,1,2,3,4,5,6,7,8,9,10,11,12,13,14,15,16] [17] (.q 0 (.q 1 (.q 2 (.q 3 (.q 4 (.q 5 (.q 6 (.q 7 (.q 8 (.q 9 (.q 10 (.alt 11 (.alt 12 (.alt 13 (.alt 14 (.alt 15 (.alt 16 .nil .stop) .stop) (.alt 15 (.alt 14 (.alt 16 .nil .stop) (.alt 16 (.alt 14 .nil .stop) .stop)) .stop)) (.alt 14 (.alt 13 (.alt 15 (.alt 16 .nil .stop) .stop) (.alt 15 (.alt 13 (.alt 16 .nil .stop) .stop) .stop)) (.alt 15 (.alt 13 (.alt 14 (.alt 16 .nil .stop) (.alt 16 (.alt 14 .nil .stop) .stop)) (.alt 14 (.alt 13 (.alt 16 .nil .stop) .stop) .stop)) .stop))) (.alt 15 (.alt 12 (.alt 13 (.alt 14 (.alt 16 .nil .stop) (.alt 16 (.alt 14 .nil .stop) .stop)) (.alt 14 (.alt 13 (.alt 16 .nil .stop) .stop) .stop)) .stop) .stop)) (.alt 15 (.alt 11 (.alt 12 (.alt 13 (.alt 14 (.alt 16 .nil .stop) (.alt 16 (.alt 14 .nil .stop) .stop)) (.alt 14 (.alt 13 (.alt 16 .nil .stop) .stop) .stop)) .stop) .stop) .stop))))))))))))) (by kernel_rfl) ?_
             refine T.q rfl rfl rfl (wanted_none rfl) (r_loadA ta88 ti88 rfl rfl (fun w hw=>(box_cells (i:=2) rfl w hw))) ?_
             refine T.q rfl rfl rfl (wanted_none rfl) (r_move rfl) ?_
             refine T.q rfl rfl rfl (wanted_none rfl) (r_move rfl) ?_
             refine T.q rfl rfl rfl (wanted_none rfl) (r_fieldAddr tf88_1 rfl) ?_
             refine T.q rfl rfl rfl (wanted_none rfl) (r_load ta86 rfl (fun w hw=>cell_1 (box_cells (i:=3) rfl w hw) rfl)) ?_
             refine T.q rfl rfl rfl (wanted_none rfl) (r_move rfl) ?_
             refine T.q rfl rfl rfl (wanted_none rfl) (r_indexAddrS Tryz.underlying86 ti25 rfl hl_v86_2 rfl (rdl_some h156).1 (rdl_some h156).2.1) ?_
             refine T.q rfl rfl rfl (wanted_none rfl) (r_load ta25 rfl (fun w hw=>cell_0 (hole_cells (p:=1) rfl w hw) rfl)) ?_
             refine T.q rfl rfl rfl (wanted_none rfl) (r_move rfl) ?_
             refine T.q rfl rfl rfl (wanted_none rfl) (r_indexAddrS Tryz.underlying25 ti3 rfl hl_v156_0_1 rfl (rdl_some h159).1 (rdl_some h159).2.1) ?_
             refine T.q rfl rfl rfl (wanted_none rfl) (r_load ta3 rfl (fun w hw=>cell_0 (Rd.flat ((rd_sl (i:=0) rfl) w hw) (rdl_some h159).2.2) rfl)) ?_
             refine T.ef rfl rfl rfl (wanted_none rfl) (Makes.does (m_callF (xs:=_) rfl ok78 rfl rfl (fun w hw=>impl_GiveKeys.ok h161 w ((rd_sl (i:=12) rfl) w hw) ((rd_sl (i:=13) rfl) w hw)))) (by rintro _ _ ⟨_,⟨v161_3,S161_3,v161_4,S161_4,rfl,hl_v161_3,hl_v161_4,rfl⟩,rfl⟩; exact upd rfl [2,3,4,5,6,7,8,9,10,11,12,13,14,15] rfl rfl) ?_ ?_
             ·rintro _ _ ⟨_,⟨v161_3,S161_3,v161_4,S161_4,rfl,hl_v161_3,hl_v161_4,rfl⟩,rfl⟩
              refine T.ef rfl rfl rfl (wanted_none rfl) (Runs.does (r_move rfl)) (by rintro _ _ ⟨rfl,rfl⟩; exact upd rfl [2,3,4,5,6,7,8,9,10,11,12,13,14,15] rfl rfl) ?_ ?_
              ·rintro _ _ ⟨rfl,rfl⟩
               refine T.ef rfl rfl rfl (wanted_none rfl) (Runs.does (r_extract rfl rfl)) (by rintro _ _ ⟨rfl,rfl⟩; exact upd rfl [2,3,4,5,6,7,8,9,10,11,12,13,14,15] rfl rfl) ?_ ?_
               ·rintro _ _ ⟨rfl,rfl⟩
                refine T.ef rfl rfl rfl (wanted_none rfl) (Runs.does (r_extract rfl rfl)) (by rintro _ _ ⟨rfl,rfl⟩; exact upd rfl [2,3,4,5,6,7,8,9,10,11,12,13,14,15] rfl rfl) ?_ ?_
                ·rintro _ _ ⟨rfl,rfl⟩
                 refine T.ef rfl rfl rfl (wanted_none rfl) (Makes.does (m_alloc ti88)) (by rintro _ _ ⟨b28_3,rfl,rfl⟩; exact upd rfl [3,4,5,6,7,8,9,10,11,12,13,14,15,16] rfl rfl) ?_ ?_
                 ·rintro _ _ ⟨b28_3,rfl,rfl⟩
                  refine T.ef0 rfl rfl (wanted_none rfl) (d_storeG0 (i:=0) (cs2:=[v161_3,v161_4]) ti88 rfl rfl rfl rfl rfl (Nat.le_of_ble_eq_true rfl) (lf_cons (sl_leaf hl_v161_3) (lf_cons (sl_leaf hl_v161_4) lf_nil))) (by rintro _ _ ⟨rfl,rfl⟩; exact upd rfl [3,4,5,6,7,8,9,10,11,12,13,14,15,16] rfl rfl) ?_ ?_
                  ·rintro _ _ ⟨rfl,rfl⟩
                   refine T.nil ?_
                   refine F.qn rfl (r_assign rfl) ?_
                   refine F.nil (Nrm.imp (cloS1 (cs:=[R.sl S156_0_1 v156_0_1 (t156 : List (Int))]) (rest:=[R.box b28_3 88 [v161_3,v161_4],R.sl S161_3 v161_3 (t161_1 : List (Int × List (Int × Int × Int) × List Int)),R.sl S161_4 v161_4 (t161_2 : List (List Int)),R.box b18_1 88 [v96_1,v96_2],R.box b14_1 88 [v86_1,v86_2],R.box b5_1 88 [v45_1,v45_2],R.box b3_1 88 [v39_1,v39_2],R.sl S39_1 v39_1 (t39_1 : List (Int × List (Int × Int × Int) × List Int)),R.sl S39_2 v39_2 (t39_2 : List (List Int)),R.sl S39_3 v39_3 (t39_3 : List (Int)),R.sl S45_1 v45_1 (t45_1 : List (Int × List (Int × Int × Int) × List Int)),R.sl S45_2 v45_2 (t45_2 : List (List Int)),R.sl S86_1 v86_1 (t86_1 : List (Int × List (Int × Int × Int) × List Int)),R.sl S96_1 v96_1 (t96_1 : List (Int × List (Int × Int × Int) × List Int)),R.sl S96_2 v96_2 (t96_2 : List (List Int))]) [3,4] [0,1,2,5,6,7,8,9,10,11,12,13,14,15,16] rfl rfl (jn_sl (S:=S156_0_1) (v:=v156_0_1) (l:=(t156 : List (Int)))) hS156_1) ?_)
                   cases hE_5
                   refine Nrm.only [3,4,5,6,14,28,29] rfl ?_
                   refine Nrm.pick [5,6,7,1,0,2,3,8,9,10,11,12,13] rfl rfl ?_
                   exact hj_5 _ _ ⟨v86_2,S86_2,v161_3,S161_3,v161_4,S161_4,b28_3,(len_set hl_v86_2),hl_v161_3,hl_v161_4,rfl,rfl⟩
                  exact T.stop
                 exact T.stop
                ·refine T.ef rfl rfl rfl (wanted_none rfl) (Makes.does (m_alloc ti88)) (by rintro _ _ ⟨b28_4,rfl,rfl⟩; exact upd rfl [3,4,5,6,7,8,9,10,11,12,13,14,15,16] rfl rfl) ?_ ?_
                 ·rintro _ _ ⟨b28_4,rfl,rfl⟩
                  refine T.ef rfl rfl rfl (wanted_none rfl) (Runs.does (r_extract rfl rfl)) (by rintro _ _ ⟨rfl,rfl⟩; exact upd rfl [3,4,5,6,7,8,9,10,11,12,13,14,15,16] rfl rfl) ?_ ?_
                  ·rintro _ _ ⟨rfl,rfl⟩
                   refine T.ef0 rfl rfl (wanted_none rfl) (d_storeG0 (i:=0) (cs2:=[v161_3,v161_4]) ti88 rfl rfl rfl rfl rfl (Nat.le_of_ble_eq_true rfl) (lf_cons (sl_leaf hl_v161_3) (lf_cons (sl_leaf hl_v161_4) lf_nil))) (by rintro _ _ ⟨rfl,rfl⟩; exact upd rfl [3,4,5,6,7,8,9,10,11,12,13,14,15,16] rfl rfl) ?_ ?_
                   ·rintro _ _ ⟨rfl,rfl⟩
                    refine T.nil ?_
                    refine F.qn rfl (r_assign rfl) ?_
                    refine F.nil (Nrm.imp (cloS1 (cs:=[R.sl S156_0_1 v156_0_1 (t156 : List (Int))]) (rest:=[R.box b28_4 88 [v161_3,v161_4],R.sl S161_3 v161_3 (t161_1 : List (Int × List (Int × Int × Int) × List Int)),R.sl S161_4 v161_4 (t161_2 : List (List Int)),R.box b18_1 88 [v96_1,v96_2],R.box b14_1 88 [v86_1,v86_2],R.box b5_1 88 [v45_1,v45_2],R.box b3_1 88 [v39_1,v39_2],R.sl S39_1 v39_1 (t39_1 : List (Int × List (Int × Int × Int) × List Int)),R.sl S39_2 v39_2 (t39_2 : List (List Int)),R.sl S39_3 v39_3 (t39_3 : List (Int)),R.sl S45_1 v45_1 (t45_1 : List (Int × List (Int × Int × Int) × List Int)),R.sl S45_2 v45_2 (t45_2 : List (List Int)),R.sl S86_1 v86_1 (t86_1 : List (Int × List (Int × Int × Int) × List Int)),R.sl S96_1 v96_1 (t96_1 : List (Int × List (Int × Int × Int) × List Int)),R.sl S96_2 v96_2 (t96_2 : List (List Int))]) [3,4] [0,1,2,5,6,7,8,9,10,11,12,13,14,15,16] rfl rfl (jn_sl (S:=S156_0_1) (v:=v156_0_1) (l:=(t156 : List (Int)))) hS156_1) ?_)
                    cases hE_5
                    refine Nrm.only [3,4,5,6,14,28,29] rfl ?_
                    refine Nrm.pick [5,6,7,1,0,2,3,8,9,10,11,12,13] rfl rfl ?_
                    exact hj_5 _ _ ⟨v86_2,S86_2,v161_3,S161_3,v161_4,S161_4,b28_4,(len_set hl_v86_2),hl_v161_3,hl_v161_4,rfl,rfl⟩
                   exact T.stop
                  ·refine T.ef0 rfl rfl (wanted_none rfl) (d_storeG0 (i:=0) (cs2:=[v161_3,v161_4]) ti88 rfl rfl rfl rfl rfl (Nat.le_of_ble_eq_true rfl) (lf_cons (sl_leaf hl_v161_3) (lf_cons (sl_leaf hl_v161_4) lf_nil))) (by rintro _ _ ⟨rfl,rfl⟩; exact upd rfl [3,4,5,6,7,8,9,10,11,12,13,14,15,16] rfl rfl) ?_ ?_
                   ·rintro _ _ ⟨rfl,rfl⟩
                    refine T.ef rfl rfl rfl (wanted_none rfl) (Runs.does (r_extract rfl rfl)) (by rintro _ _ ⟨rfl,rfl⟩; exact upd rfl [3,4,5,6,7,8,9,10,11,12,13,14,15,16] rfl rfl) ?_ ?_
                    ·rintro _ _ ⟨rfl,rfl⟩
                     refine T.nil ?_
                     refine F.qn rfl (r_assign rfl) ?_
                     refine F.nil (Nrm.imp (cloS1 (cs:=[R.sl S156_0_1 v156_0_1 (t156 : List (Int))]) (rest:=[R.box b28_4 88 [v161_3,v161_4],R.sl S161_3 v161_3 (t161_1 : List (Int × List (Int × Int × Int) × List Int)),R.sl S161_4 v161_4 (t161_2 : List (List Int)),R.box b18_1 88 [v96_1,v96_2],R.box b14_1 88 [v86_1,v86_2],R.box b5_1 88 [v45_1,v45_2],R.box b3_1 88 [v39_1,v39_2],R.sl S39_1 v39_1 (t39_1 : List (Int × List (Int × Int × Int) × List Int)),R.sl S39_2 v39_2 (t39_2 : List (List Int)),R.sl S39_3 v39_3 (t39_3 : List (Int)),R.sl S45_1 v45_1 (t45_1 : List (Int × List (Int × Int × Int) × List Int)),R.sl S45_2 v45_2 (t45_2 : List (List Int)),R.sl S86_1 v86_1 (t86_1 : List (Int × List (Int × Int × Int) × List Int)),R.sl S96_1 v96_1 (t96_1 : List (Int × List (Int × Int × Int) × List Int)),R.sl S96_2 v96_2 (t96_2 : List (List Int))]) [3,4] [0,1,2,5,6,7,8,9,10,11,12,13,14,15,16] rfl rfl (jn_sl (S:=S156_0_1) (v:=v156_0_1) (l:=(t156 : List (Int)))) hS156_1) ?_)
                     cases hE_5
                     refine Nrm.only [3,4,5,6,14,28,29] rfl ?_
                     refine Nrm.pick [5,6,7,1,0,2,3,8,9,10,11,12,13] rfl rfl ?_
                     exact hj_5 _ _ ⟨v86_2,S86_2,v161_3,S161_3,v161_4,S161_4,b28_4,(len_set hl_v86_2),hl_v161_3,hl_v161_4,rfl,rfl⟩
                    exact T.stop
                   exact T.stop
                 exact T.stop
               ·refine T.ef rfl rfl rfl (wanted_none rfl) (Runs.does (r_extract rfl rfl)) (by rintro _ _ ⟨rfl,rfl⟩; exact upd rfl [2,3,4,5,6,7,8,9,10,11,12,13,14,15] rfl rfl) ?_ ?_
                ·rintro _ _ ⟨rfl,rfl⟩
                 refine T.ef rfl rfl rfl (wanted_none rfl) (Runs.does (r_extract rfl rfl)) (by rintro _ _ ⟨rfl,rfl⟩; exact upd rfl [2,3,4,5,6,7,8,9,10,11,12,13,14,15] rfl rfl) ?_ ?_
                 ·rintro _ _ ⟨rfl,rfl⟩
                  refine T.ef rfl rfl rfl (wanted_none rfl) (Makes.does (m_alloc ti88)) (by rintro _ _ ⟨b28_5,rfl,rfl⟩; exact upd rfl [3,4,5,6,7,8,9,10,11,12,13,14,15,16] rfl rfl) ?_ ?_
                  ·rintro _ _ ⟨b28_5,rfl,rfl⟩
                   refine T.ef0 rfl rfl (wanted_none rfl) (d_storeG0 (i:=0) (cs2:=[v161_3,v161_4]) ti88 rfl rfl rfl rfl rfl (Nat.le_of_ble_eq_true rfl) (lf_cons (sl_leaf hl_v161_3) (lf_cons (sl_leaf hl_v161_4) lf_nil))) (by rintro _ _ ⟨rfl,rfl⟩; exact upd rfl [3,4,5,6,7,8,9,10,11,12,13,14,15,16] rfl rfl) ?_ ?_
                   ·rintro _ _ ⟨rfl,rfl⟩
                    refine T.nil ?_
                    refine F.qn rfl (r_assign rfl) ?_
                    refine F.nil (Nrm.imp (cloS1 (cs:=[R.sl S156_0_1 v156_0_1 (t156 : List (Int))]) (rest:=[R.box b28_5 88 [v161_3,v161_4],R.sl S161_3 v161_3 (t161_1 : List (Int × List (Int × Int × Int) × List Int)),R.sl S161_4 v161_4 (t161_2 : List (List Int)),R.box b18_1 88 [v96_1,v96_2],R.box b14_1 88 [v86_1,v86_2],R.box b5_1 88 [v45_1,v45_2],R.box b3_1 88 [v39_1,v39_2],R.sl S39_1 v39_1 (t39_1 : List (Int × List (Int × Int × Int) × List Int)),R.sl S39_2 v39_2 (t39_2 : List (List Int)),R.sl S39_3 v39_3 (t39_3 : List (Int)),R.sl S45_1 v45_1 (t45_1 : List (Int × List (Int × Int × Int) × List Int)),R.sl S45_2 v45_2 (t45_2 : List (List Int)),R.sl S86_1 v86_1 (t86_1 : List (Int × List (Int × Int × Int) × List Int)),R.sl S96_1 v96_1 (t96_1 : List (Int × List (Int × Int × Int) × List Int)),R.sl S96_2 v96_2 (t96_2 : List (List Int))]) [3,4] [0,1,2,5,6,7,8,9,10,11,12,13,14,15,16] rfl rfl (jn_sl (S:=S156_0_1) (v:=v156_0_1) (l:=(t156 : List (Int)))) hS156_1) ?_)
                    cases hE_5
                    refine Nrm.only [3,4,5,6,14,28,29] rfl ?_
                    refine Nrm.pick [5,6,7,1,0,2,3,8,9,10,11,12,13] rfl rfl ?_
                    exact hj_5 _ _ ⟨v86_2,S86_2,v161_3,S161_3,v161_4,S161_4,b28_5,(len_set hl_v86_2),hl_v161_3,hl_v161_4,rfl,rfl⟩
                   exact T.stop
                  exact T.stop
                 ·refine T.ef rfl rfl rfl (wanted_none rfl) (Makes.does (m_alloc ti88)) (by rintro _ _ ⟨b28_6,rfl,rfl⟩; exact upd rfl [3,4,5,6,7,8,9,10,11,12,13,14,15,16] rfl rfl) ?_ ?_
                  ·rintro _ _ ⟨b28_6,rfl,rfl⟩
                   refine T.ef rfl rfl rfl (wanted_none rfl) (Runs.does (r_extract rfl rfl)) (by rintro _ _ ⟨rfl,rfl⟩; exact upd rfl [3,4,5,6,7,8,9,10,11,12,13,14,15,16] rfl rfl) ?_ ?_
                   ·rintro _ _ ⟨rfl,rfl⟩
                    refine T.ef0 rfl rfl (wanted_none rfl) (d_storeG0 (i:=0) (cs2:=[v161_3,v161_4]) ti88 rfl rfl rfl rfl rfl (Nat.le_of_ble_eq_true rfl) (lf_cons (sl_leaf hl_v161_3) (lf_cons (sl_leaf hl_v161_4) lf_nil))) (by rintro _ _ ⟨rfl,rfl⟩; exact upd rfl [3,4,5,6,7,8,9,10,11,12,13,14,15,16] rfl rfl) ?_ ?_
                    ·rintro _ _ ⟨rfl,rfl⟩
                     refine T.nil ?_
                     refine F.qn rfl (r_assign rfl) ?_
                     refine F.nil (Nrm.imp (cloS1 (cs:=[R.sl S156_0_1 v156_0_1 (t156 : List (Int))]) (rest:=[R.box b28_6 88 [v161_3,v161_4],R.sl S161_3 v161_3 (t161_1 : List (Int × List (Int × Int × Int) × List Int)),R.sl S161_4 v161_4 (t161_2 : List (List Int)),R.box b18_1 88 [v96_1,v96_2],R.box b14_1 88 [v86_1,v86_2],R.box b5_1 88 [v45_1,v45_2],R.box b3_1 88 [v39_1,v39_2],R.sl S39_1 v39_1 (t39_1 : List (Int × List (Int × Int × Int) × List Int)),R.sl S39_2 v39_2 (t39_2 : List (List Int)),R.sl S39_3 v39_3 (t39_3 : List (Int)),R.sl S45_1 v45_1 (t45_1 : List (Int × List (Int × Int × Int) × List Int)),R.sl S45_2 v45_2 (t45_2 : List (List Int)),R.sl S86_1 v86_1 (t86_1 : List (Int × List (Int × Int × Int) × List Int)),R.sl S96_1 v96_1 (t96_1 : List (Int × List (Int × Int × Int) × List Int)),R.sl S96_2 v96_2 (t96_2 : List (List Int))]) [3,4] [0,1,2,5,6,7,8,9,10,11,12,13,14,15,16] rfl rfl (jn_sl (S:=S156_0_1) (v:=v156_0_1) (l:=(t156 : List (Int)))) hS156_1) ?_)
                     cases hE_5
                     refine Nrm.only [3,4,5,6,14,28,29] rfl ?_
                     refine Nrm.pick [5,6,7,1,0,2,3,8,9,10,11,12,13] rfl rfl ?_
                     exact hj_5 _ _ ⟨v86_2,S86_2,v161_3,S161_3,v161_4,S161_4,b28_6,(len_set hl_v86_2),hl_v161_3,hl_v161_4,rfl,rfl⟩
                    exact T.stop
                   exact T.stop
                  exact T.stop
                ·refine T.ef rfl rfl rfl (wanted_none rfl) (Makes.does (m_alloc ti88)) (by rintro _ _ ⟨b28_7,rfl,rfl⟩; exact upd rfl [3,4,5,6,7,8,9,10,11,12,13,14,15,16] rfl rfl) ?_ ?_
                 ·rintro _ _ ⟨b28_7,rfl,rfl⟩
                  refine T.ef rfl rfl rfl (wanted_none rfl) (Runs.does (r_extract rfl rfl)) (by rintro _ _ ⟨rfl,rfl⟩; exact upd rfl [3,4,5,6,7,8,9,10,11,12,13,14,15,16] rfl rfl) ?_ ?_
                  ·rintro _ _ ⟨rfl,rfl⟩
                   refine T.ef rfl rfl rfl (wanted_none rfl) (Runs.does (r_extract rfl rfl)) (by rintro _ _ ⟨rfl,rfl⟩; exact upd rfl [3,4,5,6,7,8,9,10,11,12,13,14,15,16] rfl rfl) ?_ ?_
                   ·rintro _ _ ⟨rfl,rfl⟩
                    refine T.ef0 rfl rfl (wanted_none rfl) (d_storeG0 (i:=0) (cs2:=[v161_3,v161_4]) ti88 rfl rfl rfl rfl rfl (Nat.le_of_ble_eq_true rfl) (lf_cons (sl_leaf hl_v161_3) (lf_cons (sl_leaf hl_v161_4) lf_nil))) (by rintro _ _ ⟨rfl,rfl⟩; exact upd rfl [3,4,5,6,7,8,9,10,11,12,13,14,15,16] rfl rfl) ?_ ?_
                    ·rintro _ _ ⟨rfl,rfl⟩
                     refine T.nil ?_
                     refine F.qn rfl (r_assign rfl) ?_
                     refine F.nil (Nrm.imp (cloS1 (cs:=[R.sl S156_0_1 v156_0_1 (t156 : List (Int))]) (rest:=[R.box b28_7 88 [v161_3,v161_4],R.sl S161_3 v161_3 (t161_1 : List (Int × List (Int × Int × Int) × List Int)),R.sl S161_4 v161_4 (t161_2 : List (List Int)),R.box b18_1 88 [v96_1,v96_2],R.box b14_1 88 [v86_1,v86_2],R.box b5_1 88 [v45_1,v45_2],R.box b3_1 88 [v39_1,v39_2],R.sl S39_1 v39_1 (t39_1 : List (Int × List (Int × Int × Int) × List Int)),R.sl S39_2 v39_2 (t39_2 : List (List Int)),R.sl S39_3 v39_3 (t39_3 : List (Int)),R.sl S45_1 v45_1 (t45_1 : List (Int × List (Int × Int × Int) × List Int)),R.sl S45_2 v45_2 (t45_2 : List (List Int)),R.sl S86_1 v86_1 (t86_1 : List (Int × List (Int × Int × Int) × List Int)),R.sl S96_1 v96_1 (t96_1 : List (Int × List (Int × Int × Int) × List Int)),R.sl S96_2 v96_2 (t96_2 : List (List Int))]) [3,4] [0,1,2,5,6,7,8,9,10,11,12,13,14,15,16] rfl rfl (jn_sl (S:=S156_0_1) (v:=v156_0_1) (l:=(t156 : List (Int)))) hS156_1) ?_)
                     cases hE_5
                     refine Nrm.only [3,4,5,6,14,28,29] rfl ?_
                     refine Nrm.pick [5,6,7,1,0,2,3,8,9,10,11,12,13] rfl rfl ?_
                     exact hj_5 _ _ ⟨v86_2,S86_2,v161_3,S161_3,v161_4,S161_4,b28_7,(len_set hl_v86_2),hl_v161_3,hl_v161_4,rfl,rfl⟩
                    exact T.stop
                   ·refine T.ef0 rfl rfl (wanted_none rfl) (d_storeG0 (i:=0) (cs2:=[v161_3,v161_4]) ti88 rfl rfl rfl rfl rfl (Nat.le_of_ble_eq_true rfl) (lf_cons (sl_leaf hl_v161_3) (lf_cons (sl_leaf hl_v161_4) lf_nil))) (by rintro _ _ ⟨rfl,rfl⟩; exact upd rfl [3,4,5,6,7,8,9,10,11,12,13,14,15,16] rfl rfl) ?_ ?_
                    ·rintro _ _ ⟨rfl,rfl⟩
                     refine T.ef rfl rfl rfl (wanted_none rfl) (Runs.does (r_extract rfl rfl)) (by rintro _ _ ⟨rfl,rfl⟩; exact upd rfl [3,4,5,6,7,8,9,10,11,12,13,14,15,16] rfl rfl) ?_ ?_
                     ·rintro _ _ ⟨rfl,rfl⟩
                      refine T.nil ?_
                      refine F.qn rfl (r_assign rfl) ?_
                      refine F.nil (Nrm.imp (cloS1 (cs:=[R.sl S156_0_1 v156_0_1 (t156 : List (Int))]) (rest:=[R.box b28_7 88 [v161_3,v161_4],R.sl S161_3 v161_3 (t161_1 : List (Int × List (Int × Int × Int) × List Int)),R.sl S161_4 v161_4 (t161_2 : List (List Int)),R.box b18_1 88 [v96_1,v96_2],R.box b14_1 88 [v86_1,v86_2],R.box b5_1 88 [v45_1,v45_2],R.box b3_1 88 [v39_1,v39_2],R.sl S39_1 v39_1 (t39_1 : List (Int × List (Int × Int × Int) × List Int)),R.sl S39_2 v39_2 (t39_2 : List (List Int)),R.sl S39_3 v39_3 (t39_3 : List (Int)),R.sl S45_1 v45_1 (t45_1 : List (Int × List (Int × Int × Int) × List Int)),R.sl S45_2 v45_2 (t45_2 : List (List Int)),R.sl S86_1 v86_1 (t86_1 : List (Int × List (Int × Int × Int) × List Int)),R.sl S96_1 v96_1 (t96_1 : List (Int × List (Int × Int × Int) × List Int)),R.sl S96_2 v96_2 (t96_2 : List (List Int))]) [3,4] [0,1,2,5,6,7,8,9,10,11,12,13,14,15,16] rfl rfl (jn_sl (S:=S156_0_1) (v:=v156_0_1) (l:=(t156 : List (Int)))) hS156_1) ?_)
                      cases hE_5
                      refine Nrm.only [3,4,5,6,14,28,29] rfl ?_
                      refine Nrm.pick [5,6,7,1,0,2,3,8,9,10,11,12,13] rfl rfl ?_
                      exact hj_5 _ _ ⟨v86_2,S86_2,v161_3,S161_3,v161_4,S161_4,b28_7,(len_set hl_v86_2),hl_v161_3,hl_v161_4,rfl,rfl⟩
                     exact T.stop
                    exact T.stop
                  ·refine T.ef rfl rfl rfl (wanted_none rfl) (Runs.does (r_extract rfl rfl)) (by rintro _ _ ⟨rfl,rfl⟩; exact upd rfl [3,4,5,6,7,8,9,10,11,12,13,14,15,16] rfl rfl) ?_ ?_
                   ·rintro _ _ ⟨rfl,rfl⟩
                    refine T.ef rfl rfl rfl (wanted_none rfl) (Runs.does (r_extract rfl rfl)) (by rintro _ _ ⟨rfl,rfl⟩; exact upd rfl [3,4,5,6,7,8,9,10,11,12,13,14,15,16] rfl rfl) ?_ ?_
                    ·rintro _ _ ⟨rfl,rfl⟩
                     refine T.ef0 rfl rfl (wanted_none rfl) (d_storeG0 (i:=0) (cs2:=[v161_3,v161_4]) ti88 rfl rfl rfl rfl rfl (Nat.le_of_ble_eq_true rfl) (lf_cons (sl_leaf hl_v161_3) (lf_cons (sl_leaf hl_v161_4) lf_nil))) (by rintro _ _ ⟨rfl,rfl⟩; exact upd rfl [3,4,5,6,7,8,9,10,11,12,13,14,15,16] rfl rfl) ?_ ?_
                     ·rintro _ _ ⟨rfl,rfl⟩
                      refine T.nil ?_
                      refine F.qn rfl (r_assign rfl) ?_
                      refine F.nil (Nrm.imp (cloS1 (cs:=[R.sl S156_0_1 v156_0_1 (t156 : List (Int))]) (rest:=[R.box b28_7 88 [v161_3,v161_4],R.sl S161_3 v161_3 (t161_1 : List (Int × List (Int × Int × Int) × List Int)),R.sl S161_4 v161_4 (t161_2 : List (List Int)),R.box b18_1 88 [v96_1,v96_2],R.box b14_1 88 [v86_1,v86_2],R.box b5_1 88 [v45_1,v45_2],R.box b3_1 88 [v39_1,v39_2],R.sl S39_1 v39_1 (t39_1 : List (Int × List (Int × Int × Int) × List Int)),R.sl S39_2 v39_2 (t39_2 : List (List Int)),R.sl S39_3 v39_3 (t39_3 : List (Int)),R.sl S45_1 v45_1 (t45_1 : List (Int × List (Int × Int × Int) × List Int)),R.sl S45_2 v45_2 (t45_2 : List (List Int)),R.sl S86_1 v86_1 (t86_1 : List (Int × List (Int × Int × Int) × List Int)),R.sl S96_1 v96_1 (t96_1 : List (Int × List (Int × Int × Int) × List Int)),R.sl S96_2 v96_2 (t96_2 : List (List Int))]) [3,4] [0,1,2,5,6,7,8,9,10,11,12,13,14,15,16] rfl rfl (jn_sl (S:=S156_0_1) (v:=v156_0_1) (l:=(t156 : List (Int)))) hS156_1) ?_)
                      cases hE_5
                      refine Nrm.only [3,4,5,6,14,28,29] rfl ?_
                      refine Nrm.pick [5,6,7,1,0,2,3,8,9,10,11,12,13] rfl rfl ?_
                      exact hj_5 _ _ ⟨v86_2,S86_2,v161_3,S161_3,v161_4,S161_4,b28_7,(len_set hl_v86_2),hl_v161_3,hl_v161_4,rfl,rfl⟩
                     exact T.stop
                    exact T.stop
                   exact T.stop
                 exact T.stop
              ·refine T.ef rfl rfl rfl (wanted_none rfl) (Makes.does (m_alloc ti88)) (by rintro _ _ ⟨b28_8,rfl,rfl⟩; exact upd rfl [3,4,5,6,7,8,9,10,11,12,13,14,15,16] rfl rfl) ?_ ?_
               ·rintro _ _ ⟨b28_8,rfl,rfl⟩
                refine T.ef rfl rfl rfl (wanted_none rfl) (Runs.does (r_move rfl)) (by rintro _ _ ⟨rfl,rfl⟩; exact upd rfl [3,4,5,6,7,8,9,10,11,12,13,14,15,16] rfl rfl) ?_ ?_
                ·rintro _ _ ⟨rfl,rfl⟩
                 refine T.ef rfl rfl rfl (wanted_none rfl) (Runs.does (r_extract rfl rfl)) (by rintro _ _ ⟨rfl,rfl⟩; exact upd rfl [3,4,5,6,7,8,9,10,11,12,13,14,15,16] rfl rfl) ?_ ?_
                 ·rintro _ _ ⟨rfl,rfl⟩
                  refine T.ef rfl rfl rfl (wanted_none rfl) (Runs.does (r_extract rfl rfl)) (by rintro _ _ ⟨rfl,rfl⟩; exact upd rfl [3,4,5,6,7,8,9,10,11,12,13,14,15,16] rfl rfl) ?_ ?_
                  ·rintro _ _ ⟨rfl,rfl⟩
                   refine T.ef0 rfl rfl (wanted_none rfl) (d_storeG0 (i:=0) (cs2:=[v161_3,v161_4]) ti88 rfl rfl rfl rfl rfl (Nat.le_of_ble_eq_true rfl) (lf_cons (sl_leaf hl_v161_3) (lf_cons (sl_leaf hl_v161_4) lf_nil))) (by rintro _ _ ⟨rfl,rfl⟩; exact upd rfl [3,4,5,6,7,8,9,10,11,12,13,14,15,16] rfl rfl) ?_ ?_
                   ·rintro _ _ ⟨rfl,rfl⟩
                    refine T.nil ?_
                    refine F.qn rfl (r_assign rfl) ?_
                    refine F.nil (Nrm.imp (cloS1 (cs:=[R.sl S156_0_1 v156_0_1 (t156 : List (Int))]) (rest:=[R.box b28_8 88 [v161_3,v161_4],R.sl S161_3 v161_3 (t161_1 : List (Int × List (Int × Int × Int) × List Int)),R.sl S161_4 v161_4 (t161_2 : List (List Int)),R.box b18_1 88 [v96_1,v96_2],R.box b14_1 88 [v86_1,v86_2],R.box b5_1 88 [v45_1,v45_2],R.box b3_1 88 [v39_1,v39_2],R.sl S39_1 v39_1 (t39_1 : List (Int × List (Int × Int × Int) × List Int)),R.sl S39_2 v39_2 (t39_2 : List (List Int)),R.sl S39_3 v39_3 (t39_3 : List (Int)),R.sl S45_1 v45_1 (t45_1 : List (Int × List (Int × Int × Int) × List Int)),R.sl S45_2 v45_2 (t45_2 : List (List Int)),R.sl S86_1 v86_1 (t86_1 : List (Int × List (Int × Int × Int) × List Int)),R.sl S96_1 v96_1 (t96_1 : List (Int × List (Int × Int × Int) × List Int)),R.sl S96_2 v96_2 (t96_2 : List (List Int))]) [3,4] [0,1,2,5,6,7,8,9,10,11,12,13,14,15,16] rfl rfl (jn_sl (S:=S156_0_1) (v:=v156_0_1) (l:=(t156 : List (Int)))) hS156_1) ?_)
                    cases hE_5
                    refine Nrm.only [3,4,5,6,14,28,29] rfl ?_
                    refine Nrm.pick [5,6,7,1,0,2,3,8,9,10,11,12,13] rfl rfl ?_
                    exact hj_5 _ _ ⟨v86_2,S86_2,v161_3,S161_3,v161_4,S161_4,b28_8,(len_set hl_v86_2),hl_v161_3,hl_v161_4,rfl,rfl⟩
                   exact T.stop
                  ·refine T.ef0 rfl rfl (wanted_none rfl) (d_storeG0 (i:=0) (cs2:=[v161_3,v161_4]) ti88 rfl rfl rfl rfl rfl (Nat.le_of_ble_eq_true rfl) (lf_cons (sl_leaf hl_v161_3) (lf_cons (sl_leaf hl_v161_4) lf_nil))) (by rintro _ _ ⟨rfl,rfl⟩; exact upd rfl [3,4,5,6,7,8,9,10,11,12,13,14,15,16] rfl rfl) ?_ ?_
                   ·rintro _ _ ⟨rfl,rfl⟩
                    refine T.ef rfl rfl rfl (wanted_none rfl) (Runs.does (r_extract rfl rfl)) (by rintro _ _ ⟨rfl,rfl⟩; exact upd rfl [3,4,5,6,7,8,9,10,11,12,13,14,15,16] rfl rfl) ?_ ?_
                    ·rintro _ _ ⟨rfl,rfl⟩
                     refine T.nil ?_
                     refine F.qn rfl (r_assign rfl) ?_
                     refine F.nil (Nrm.imp (cloS1 (cs:=[R.sl S156_0_1 v156_0_1 (t156 : List (Int))]) (rest:=[R.box b28_8 88 [v161_3,v161_4],R.sl S161_3 v161_3 (t161_1 : List (Int × List (Int × Int × Int) × List Int)),R.sl S161_4 v161_4 (t161_2 : List (List Int)),R.box b18_1 88 [v96_1,v96_2],R.box b14_1 88 [v86_1,v86_2],R.box b5_1 88 [v45_1,v45_2],R.box b3_1 88 [v39_1,v39_2],R.sl S39_1 v39_1 (t39_1 : List (Int × List (Int × Int × Int) × List Int)),R.sl S39_2 v39_2 (t39_2 : List (List Int)),R.sl S39_3 v39_3 (t39_3 : List (Int)),R.sl S45_1 v45_1 (t45_1 : List (Int × List (Int × Int × Int) × List Int)),R.sl S45_2 v45_2 (t45_2 : List (List Int)),R.sl S86_1 v86_1 (t86_1 : List (Int × List (Int × Int × Int) × List Int)),R.sl S96_1 v96_1 (t96_1 : List (Int × List (Int × Int × Int) × List Int)),R.sl S96_2 v96_2 (t96_2 : List (List Int))]) [3,4] [0,1,2,5,6,7,8,9,10,11,12,13,14,15,16] rfl rfl (jn_sl (S:=S156_0_1) (v:=v156_0_1) (l:=(t156 : List (Int)))) hS156_1) ?_)
                     cases hE_5
                     refine Nrm.only [3,4,5,6,14,28,29] rfl ?_
                     refine Nrm.pick [5,6,7,1,0,2,3,8,9,10,11,12,13] rfl rfl ?_
                     exact hj_5 _ _ ⟨v86_2,S86_2,v161_3,S161_3,v161_4,S161_4,b28_8,(len_set hl_v86_2),hl_v161_3,hl_v161_4,rfl,rfl⟩
                    exact T.stop
                   exact T.stop
                 ·refine T.ef rfl rfl rfl (wanted_none rfl) (Runs.does (r_extract rfl rfl)) (by rintro _ _ ⟨rfl,rfl⟩; exact upd rfl [3,4,5,6,7,8,9,10,11,12,13,14,15,16] rfl rfl) ?_ ?_
                  ·rintro _ _ ⟨rfl,rfl⟩
                   refine T.ef rfl rfl rfl (wanted_none rfl) (Runs.does (r_extract rfl rfl)) (by rintro _ _ ⟨rfl,rfl⟩; exact upd rfl [3,4,5,6,7,8,9,10,11,12,13,14,15,16] rfl rfl) ?_ ?_
                   ·rintro _ _ ⟨rfl,rfl⟩
                    refine T.ef0 rfl rfl (wanted_none rfl) (d_storeG0 (i:=0) (cs2:=[v161_3,v161_4]) ti88 rfl rfl rfl rfl rfl (Nat.le_of_ble_eq_true rfl) (lf_cons (sl_leaf hl_v161_3) (lf_cons (sl_leaf hl_v161_4) lf_nil))) (by rintro _ _ ⟨rfl,rfl⟩; exact upd rfl [3,4,5,6,7,8,9,10,11,12,13,14,15,16] rfl rfl) ?_ ?_
                    ·rintro _ _ ⟨rfl,rfl⟩
                     refine T.nil ?_
                     refine F.qn rfl (r_assign rfl) ?_
                     refine F.nil (Nrm.imp (cloS1 (cs:=[R.sl S156_0_1 v156_0_1 (t156 : List (Int))]) (rest:=[R.box b28_8 88 [v161_3,v161_4],R.sl S161_3 v161_3 (t161_1 : List (Int × List (Int × Int × Int) × List Int)),R.sl S161_4 v161_4 (t161_2 : List (List Int)),R.box b18_1 88 [v96_1,v96_2],R.box b14_1 88 [v86_1,v86_2],R.box b5_1 88 [v45_1,v45_2],R.box b3_1 88 [v39_1,v39_2],R.sl S39_1 v39_1 (t39_1 : List (Int × List (Int × Int × Int) × List Int)),R.sl S39_2 v39_2 (t39_2 : List (List Int)),R.sl S39_3 v39_3 (t39_3 : List (Int)),R.sl S45_1 v45_1 (t45_1 : List (Int × List (Int × Int × Int) × List Int)),R.sl S45_2 v45_2 (t45_2 : List (List Int)),R.sl S86_1 v86_1 (t86_1 : List (Int × List (Int × Int × Int) × List Int)),R.sl S96_1 v96_1 (t96_1 : List (Int × List (Int × Int × Int) × List Int)),R.sl S96_2 v96_2 (t96_2 : List (List Int))]) [3,4] [0,1,2,5,6,7,8,9,10,11,12,13,14,15,16] rfl rfl (jn_sl (S:=S156_0_1) (v:=v156_0_1) (l:=(t156 : List (Int)))) hS156_1) ?_)
                     cases hE_5
                     refine Nrm.only [3,4,5,6,14,28,29] rfl ?_
                     refine Nrm.pick [5,6,7,1,0,2,3,8,9,10,11,12,13] rfl rfl ?_
                     exact hj_5 _ _ ⟨v86_2,S86_2,v161_3,S161_3,v161_4,S161_4,b28_8,(len_set hl_v86_2),hl_v161_3,hl_v161_4,rfl,rfl⟩
                    exact T.stop
                   exact T.stop
                  exact T.stop
                exact T.stop
               exact T.stop
             ·refine T.ef rfl rfl rfl (wanted_none rfl) (Makes.does (m_alloc ti88)) (by rintro _ _ ⟨b28_9,rfl,rfl⟩; exact upd rfl [1,2,3,4,5,6,7,8,9,10,11,12,13,14] rfl rfl) ?_ ?_
              ·rintro _ _ ⟨b28_9,rfl,rfl⟩
               refine T.ef rfl rfl rfl (wanted_none rfl) (Makes.does (m_callF (xs:=_) rfl ok78 rfl rfl (fun w hw=>impl_GiveKeys.ok h161 w ((rd_sl (i:=13) rfl) w hw) ((rd_sl (i:=14) rfl) w hw)))) (by rintro _ _ ⟨_,⟨v161_5,S161_5,v161_6,S161_6,rfl,hl_v161_5,hl_v161_6,rfl⟩,rfl⟩; exact upd rfl [3,4,5,6,7,8,9,10,11,12,13,14,15,16] rfl rfl) ?_ ?_
               ·rintro _ _ ⟨_,⟨v161_5,S161_5,v161_6,S161_6,rfl,hl_v161_5,hl_v161_6,rfl⟩,rfl⟩
                refine T.ef rfl rfl rfl (wanted_none rfl) (Runs.does (r_move rfl)) (by rintro _ _ ⟨rfl,rfl⟩; exact upd rfl [3,4,5,6,7,8,9,10,11,12,13,14,15,16] rfl rfl) ?_ ?_
                ·rintro _ _ ⟨rfl,rfl⟩
                 refine T.ef rfl rfl rfl (wanted_none rfl) (Runs.does (r_extract rfl rfl)) (by rintro _ _ ⟨rfl,rfl⟩; exact upd rfl [3,4,5,6,7,8,9,10,11,12,13,14,15,16] rfl rfl) ?_ ?_
                 ·rintro _ _ ⟨rfl,rfl⟩
                  refine T.ef rfl rfl rfl (wanted_none rfl) (Runs.does (r_extract rfl rfl)) (by rintro _ _ ⟨rfl,rfl⟩; exact upd rfl [3,4,5,6,7,8,9,10,11,12,13,14,15,16] rfl rfl) ?_ ?_
                  ·rintro _ _ ⟨rfl,rfl⟩
                   refine T.ef0 rfl rfl (wanted_none rfl) (d_storeG0 (i:=2) (cs2:=[v161_5,v161_6]) ti88 rfl rfl rfl rfl rfl (Nat.le_of_ble_eq_true rfl) (lf_cons (sl_leaf hl_v161_5) (lf_cons (sl_leaf hl_v161_6) lf_nil))) (by rintro _ _ ⟨rfl,rfl⟩; exact upd rfl [3,4,5,6,7,8,9,10,11,12,13,14,15,16] rfl rfl) ?_ ?_
                   ·rintro _ _ ⟨rfl,rfl⟩
                    refine T.nil ?_
                    refine F.qn rfl (r_assign rfl) ?_
                    refine F.nil (Nrm.imp (cloS1 (cs:=[R.sl S156_0_1 v156_0_1 (t156 : List (Int))]) (rest:=[R.sl S161_5 v161_5 (t161_1 : List (Int × List (Int × Int × Int) × List Int)),R.sl S161_6 v161_6 (t161_2 : List (List Int)),R.box b28_9 88 [v161_5,v161_6],R.box b18_1 88 [v96_1,v96_2],R.box b14_1 88 [v86_1,v86_2],R.box b5_1 88 [v45_1,v45_2],R.box b3_1 88 [v39_1,v39_2],R.sl S39_1 v39_1 (t39_1 : List (Int × List (Int × Int × Int) × List Int)),R.sl S39_2 v39_2 (t39_2 : List (List Int)),R.sl S39_3 v39_3 (t39_3 : List (Int)),R.sl S45_1 v45_1 (t45_1 : List (Int × List (Int × Int × Int) × List Int)),R.sl S45_2 v45_2 (t45_2 : List (List Int)),R.sl S86_1 v86_1 (t86_1 : List (Int × List (Int × Int × Int) × List Int)),R.sl S96_1 v96_1 (t96_1 : List (Int × List (Int × Int × Int) × List Int)),R.sl S96_2 v96_2 (t96_2 : List (List Int))]) [3,4] [0,1,2,5,6,7,8,9,10,11,12,13,14,15,16] rfl rfl (jn_sl (S:=S156_0_1) (v:=v156_0_1) (l:=(t156 : List (Int)))) hS156_1) ?_)
                    cases hE_5
                    refine Nrm.only [3,4,5,6,14,28,29] rfl ?_
                    refine Nrm.pick [5,6,7,3,0,1,2,8,9,10,11,12,13] rfl rfl ?_
                    exact hj_5 _ _ ⟨v86_2,S86_2,v161_5,S161_5,v161_6,S161_6,b28_9,(len_set hl_v86_2),hl_v161_5,hl_v161_6,rfl,rfl⟩
                   exact T.stop
                  ·refine T.ef0 rfl rfl (wanted_none rfl) (d_storeG0 (i:=2) (cs2:=[v161_5,v161_6]) ti88 rfl rfl rfl rfl rfl (Nat.le_of_ble_eq_true rfl) (lf_cons (sl_leaf hl_v161_5) (lf_cons (sl_leaf hl_v161_6) lf_nil))) (by rintro _ _ ⟨rfl,rfl⟩; exact upd rfl [3,4,5,6,7,8,9,10,11,12,13,14,15,16] rfl rfl) ?_ ?_
                   ·rintro _ _ ⟨rfl,rfl⟩
                    refine T.ef rfl rfl rfl (wanted_none rfl) (Runs.does (r_extract rfl rfl)) (by rintro _ _ ⟨rfl,rfl⟩; exact upd rfl [3,4,5,6,7,8,9,10,11,12,13,14,15,16] rfl rfl) ?_ ?_
                    ·rintro _ _ ⟨rfl,rfl⟩
                     refine T.nil ?_
                     refine F.qn rfl (r_assign rfl) ?_
                     refine F.nil (Nrm.imp (cloS1 (cs:=[R.sl S156_0_1 v156_0_1 (t156 : List (Int))]) (rest:=[R.sl S161_5 v161_5 (t161_1 : List (Int × List (Int × Int × Int) × List Int)),R.sl S161_6 v161_6 (t161_2 : List (List Int)),R.box b28_9 88 [v161_5,v161_6],R.box b18_1 88 [v96_1,v96_2],R.box b14_1 88 [v86_1,v86_2],R.box b5_1 88 [v45_1,v45_2],R.box b3_1 88 [v39_1,v39_2],R.sl S39_1 v39_1 (t39_1 : List (Int × List (Int × Int × Int) × List Int)),R.sl S39_2 v39_2 (t39_2 : List (List Int)),R.sl S39_3 v39_3 (t39_3 : List (Int)),R.sl S45_1 v45_1 (t45_1 : List (Int × List (Int × Int × Int) × List Int)),R.sl S45_2 v45_2 (t45_2 : List (List Int)),R.sl S86_1 v86_1 (t86_1 : List (Int × List (Int × Int × Int) × List Int)),R.sl S96_1 v96_1 (t96_1 : List (Int × List (Int × Int × Int) × List Int)),R.sl S96_2 v96_2 (t96_2 : List (List Int))]) [3,4] [0,1,2,5,6,7,8,9,10,11,12,13,14,15,16] rfl rfl (jn_sl (S:=S156_0_1) (v:=v156_0_1) (l:=(t156 : List (Int)))) hS156_1) ?_)
                     cases hE_5
                     refine Nrm.only [3,4,5,6,14,28,29] rfl ?_
                     refine Nrm.pick [5,6,7,3,0,1,2,8,9,10,11,12,13] rfl rfl ?_
                     exact hj_5 _ _ ⟨v86_2,S86_2,v161_5,S161_5,v161_6,S161_6,b28_9,(len_set hl_v86_2),hl_v161_5,hl_v161_6,rfl,rfl⟩
                    exact T.stop
                   exact T.stop
                 ·refine T.ef rfl rfl rfl (wanted_none rfl) (Runs.does (r_extract rfl rfl)) (by rintro _ _ ⟨rfl,rfl⟩; exact upd rfl [3,4,5,6,7,8,9,10,11,12,13,14,15,16] rfl rfl) ?_ ?_
                  ·rintro _ _ ⟨rfl,rfl⟩
                   refine T.ef rfl rfl rfl (wanted_none rfl) (Runs.does (r_extract rfl rfl)) (by rintro _ _ ⟨rfl,rfl⟩; exact upd rfl [3,4,5,6,7,8,9,10,11,12,13,14,15,16] rfl rfl) ?_ ?_
                   ·rintro _ _ ⟨rfl,rfl⟩
                    refine T.ef0 rfl rfl (wanted_none rfl) (d_storeG0 (i:=2) (cs2:=[v161_5,v161_6]) ti88 rfl rfl rfl rfl rfl (Nat.le_of_ble_eq_true rfl) (lf_cons (sl_leaf hl_v161_5) (lf_cons (sl_leaf hl_v161_6) lf_nil))) (by rintro _ _ ⟨rfl,rfl⟩; exact upd rfl [3,4,5,6,7,8,9,10,11,12,13,14,15,16] rfl rfl) ?_ ?_
                    ·rintro _ _ ⟨rfl,rfl⟩
                     refine T.nil ?_
                     refine F.qn rfl (r_assign rfl) ?_
                     refine F.nil (Nrm.imp (cloS1 (cs:=[R.sl S156_0_1 v156_0_1 (t156 : List (Int))]) (rest:=[R.sl S161_5 v161_5 (t161_1 : List (Int × List (Int × Int × Int) × List Int)),R.sl S161_6 v161_6 (t161_2 : List (List Int)),R.box b28_9 88 [v161_5,v161_6],R.box b18_1 88 [v96_1,v96_2],R.box b14_1 88 [v86_1,v86_2],R.box b5_1 88 [v45_1,v45_2],R.box b3_1 88 [v39_1,v39_2],R.sl S39_1 v39_1 (t39_1 : List (Int × List (Int × Int × Int) × List Int)),R.sl S39_2 v39_2 (t39_2 : List (List Int)),R.sl S39_3 v39_3 (t39_3 : List (Int)),R.sl S45_1 v45_1 (t45_1 : List (Int × List (Int × Int × Int) × List Int)),R.sl S45_2 v45_2 (t45_2 : List (List Int)),R.sl S86_1 v86_1 (t86_1 : List (Int × List (Int × Int × Int) × List Int)),R.sl S96_1 v96_1 (t96_1 : List (Int × List (Int × Int × Int) × List Int)),R.sl S96_2 v96_2 (t96_2 : List (List Int))]) [3,4] [0,1,2,5,6,7,8,9,10,11,12,13,14,15,16] rfl rfl (jn_sl (S:=S156_0_1) (v:=v156_0_1) (l:=(t156 : List (Int)))) hS156_1) ?_)
                     cases hE_5
                     refine Nrm.only [3,4,5,6,14,28,29] rfl ?_
                     refine Nrm.pick [5,6,7,3,0,1,2,8,9,10,11,12,13] rfl rfl ?_
                     exact hj_5 _ _ ⟨v86_2,S86_2,v161_5,S161_5,v161_6,S161_6,b28_9,(len_set hl_v86_2),hl_v161_5,hl_v161_6,rfl,rfl⟩
                    exact T.stop
                   exact T.stop
                  exact T.stop
                exact T.stop
               exact T.stop
              exact T.stop
           ·replace h:=if_ff g_7 h
            refine Tri.skip (Nrm.seq (Tri.seq (Tri.seq (Tri.reg (l:=[0,1]) rfl ?_))))
            refine F.qn rfl (r_move rfl) (F.qn rfl (r_not rfl) (F.nil (Nrm.seq (Tri.cond (b:=!t45_3) rfl (fun g_13=>?_) (fun g_13=>?_)))))
            ·replace h:=if_tt g_13 h
             refine Tri.seq (Tri.reg (l:=[0]) rfl ?_)
             refine F.qn rfl (r_assign rfl) (F.nil (Nrm.seq (Tri.ret ?_)))
             refine Rtn.then ?_
             cases h
             exact Rtn.body (.tmp rfl .nil) (fun w hw=>⟨rfl,hw.ext⟩)
            ·replace h:=if_ff g_13 h
             refine Tri.skip (Nrm.seq (Tri.seq ?_))
             obtain ⟨⟨t176_1,t176_2⟩,h176,h⟩:=bind_some h
             refine Tri.reg (l:=[0,1,2,3,4,5,6]) rfl ?_
             refine F.qn rfl (r_loadA ta88 ti88 rfl rfl (fun w hw=>(box_cells (i:=3) rfl w hw))) ?_
             refine F.mn rfl (m_callF (xs:=_) rfl ok82 rfl rfl (fun w hw=>impl_WonRounds.ok h176 w ((rd_sl (i:=4) rfl) w hw) ((rd_sl (i:=5) rfl) w hw))) ?_
             rintro _ _ ⟨_,⟨v176_2,S176_2,rfl,hl_v176_2,rfl⟩,rfl⟩
             refine F.qn rfl (r_move rfl) (F.qn rfl (r_extract rfl rfl) (F.qn rfl (r_extract rfl rfl) (F.qn rfl (r_assign rfl) (F.qn rfl (r_assign rfl) (F.nil (Nrm.seq (Tri.seq ?_)))))))
             obtain ⟨⟨t181_1,t181_2⟩,h181,h⟩:=bind_some h
             refine Tri.reg (l:=[0,1,2,3,4,5,6]) rfl ?_
             refine F.qn rfl (r_loadA ta88 ti88 rfl rfl (fun w hw=>(box_cells (i:=3) rfl w hw))) ?_
             refine F.mn rfl (m_callF (xs:=_) rfl ok82 rfl rfl (fun w hw=>impl_WonRounds.ok h181 w ((rd_sl (i:=8) rfl) w hw) ((rd_sl (i:=9) rfl) w hw))) ?_
             rintro _ _ ⟨_,⟨v181_2,S181_2,rfl,hl_v181_2,rfl⟩,rfl⟩
             refine F.qn rfl (r_move rfl) (F.qn rfl (r_extract rfl rfl) (F.qn rfl (r_extract rfl rfl) (F.qn rfl (r_assign rfl) (F.qn rfl (r_assign rfl) (F.nil (Nrm.seq (Tri.seq (Tri.seq ?_))))))))
             obtain ⟨y196r,hE_9,h⟩:=bind_some h
             refine Tri.cut (fun e' C'=>e' = [(4,v39_3),(30,v176_2),(32,v181_2),(196,.bool y196r)]∧C' = Sep w noM [R.sl S176_2 v176_2 (t176_1 : List (Int)),R.sl S181_2 v181_2 (t181_1 : List (Int)),R.sl S39_3 v39_3 (t39_3 : List (Int))]) ?_ (fun hj_8=>?_)
             ·rintro _ _ ⟨rfl,rfl⟩
              refine Nrm.seq (Tri.cond (b:=y196r) rfl (fun g_14=>?_) (fun g_14=>?_))
              ·replace h:=if_tt g_14 h
               refine Tri.seq (Tri.reg (l:=[0]) rfl ?_)
               refine F.qn rfl (r_assign rfl) (F.nil (Nrm.seq (Tri.ret ?_)))
               refine Rtn.then ?_
               cases h
               exact Rtn.body (.tmp rfl .nil) (fun w hw=>⟨rfl,hw.ext⟩)
              ·replace h:=if_ff g_14 h
               refine Tri.skip (Nrm.seq (Tri.seq (Tri.seq (Tri.reg (l:=[0]) rfl ?_))))
               refine F.qn rfl (r_assign rfl) (F.nil (Nrm.seq ?_))
               obtain ⟨s1,hE_10,h⟩:=bind_some h
               refine Tri.block ?_
               refine Tri.only [4,30,32,34] rfl ?_
               refine Tri.pick [0,1,2] rfl rfl ?_
               refine Tri.rounds (fun n e' C'=>∃ (x34r' : Int),laws_FnWorldForms.l1 k t39_3 t176_1 t181_1 n x34r' = some s1∧e' = [(4,v39_3),(30,v176_2),(32,v181_2),(34,.int .i64 x34r')]∧C' = Sep w noM [R.sl S176_2 v176_2 (t176_1 : List (Int)),R.sl S181_2 v181_2 (t181_1 : List (Int)),R.sl S39_3 v39_3 (t39_3 : List (Int))]) k ?_ ?_ ?_
               ·exact ⟨0,hE_10,rfl,rfl⟩
               ·rintro _ _ ⟨_,hE_10,_⟩
                rw [laws_FnWorldForms.l1.eq_1] at hE_10; cases hE_10
               ·rintro n_2 _ _ ⟨x34r,hE_10,rfl,rfl⟩ ih_2
                rw [laws_FnWorldForms.l1.eq_2] at hE_10
                refine Tri.seq (Tri.seq (Tri.reg (l:=[0,1,2,3]) rfl ?_))
                refine F.qn rfl (r_move rfl) (F.qn rfl (r_move rfl) (F.qn rfl (r_len Tryz.underlying25 rfl hl_v39_3) (F.qn rfl (r_lss rfl rfl) (F.nil (Nrm.seq (Tri.cond (b:=decide (x34r < (t39_3.length : Int))) rfl (fun g_15=>?_) (fun g_15=>?_)))))))
                ·replace hE_10:=if_tt g_15 hE_10
                 refine Tri.skip (Nrm.seq (Tri.seq (Tri.block ?_)))
                 refine Tri.seq ?_
                 obtain ⟨t205,h205,hE_10⟩:=bind_some hE_10
                 obtain ⟨t210,h210,hE_10⟩:=bind_some hE_10
                 obtain ⟨t212,h212,hE_10⟩:=bind_some hE_10
                 refine Tri.drawA mixedT Sep.up [(0,true),(1,true),(2,true),(3,true),(4,true),(5,true),(6,true),(7,true),(8,true),(9,true),(10,true),(11,true)] [] (by kernel_rfl) ?_
                 refine S.qn rfl (r_move rfl) (S.qn rfl (r_move rfl) (S.qn rfl (r_indexAddrS Tryz.underlying25 ti3 rfl hl_v181_2 rfl (rdl_some h205).1 (rdl_some h205).2.1) (S.qn rfl (r_load ta3 rfl (fun w hw=>cell_0 (Rd.flat ((rd_sl (i:=1) rfl) w hw) (rdl_some h205).2.2) rfl)) ?_)))
                 iterate 3 refine S.qn rfl (r_move rfl) ?_
                 refine S.qn rfl (r_indexAddrS Tryz.underlying25 ti3 rfl hl_v39_3 rfl (rdl_some h210).1 (rdl_some h210).2.1) (S.qn rfl (r_load ta3 rfl (fun w hw=>cell_0 (Rd.flat ((rd_sl (i:=2) rfl) w hw) (rdl_some h210).2.2) rfl)) (S.qn rfl (r_indexAddrS Tryz.underlying25 ti3 rfl hl_v176_2 rfl (rdl_some h212).1 (rdl_some h212).2.1) (S.qn rfl (r_load ta3 rfl (fun w hw=>cell_0 (Rd.flat ((rd_sl (i:=0) rfl) w hw) (rdl_some h212).2.2) rfl)) (S.qn rfl (r_neq rfl rfl) (S.nil (F.nil (Nrm.seq (Tri.cond (b:=t205 != t212) rfl (fun g_16=>?_) (fun g_16=>?_)))))))))
                 ·replace hE_10:=if_tt g_16 hE_10
                  refine Tri.seq (Tri.reg (l:=[0]) rfl ?_)
                  refine F.qn rfl (r_assign rfl) (F.nil (Nrm.seq (Tri.ret ?_)))
                  refine Rtn.block ?_
                  refine Rtn.then ?_
                  refine Rtn.then ?_
                  refine Rtn.block ?_
                  refine Rtn.then ?_
                  cases hE_10
                  replace h:=Lr_inr h
                  cases h
                  exact Rtn.body (.tmp rfl .nil) (fun w hw=>⟨rfl,hw.ext⟩)
                 ·replace hE_10:=if_ff g_16 hE_10
                  refine Tri.skip (Nrm.block ?_)
                  refine Nrm.seq (Tri.reg (l:=[0,1,2]) rfl ?_)
                  refine F.qn rfl (r_move rfl) (F.qn rfl (r_add rfl rfl) (F.qn rfl (r_assign rfl) (F.nil (Nrm.round ?_))))
                  refine Rnd.only [4,30,32,34] rfl ?_
                  refine Rnd.pick [0,1,2] rfl rfl ?_
                  exact ih_2 _ _ ⟨w64 (x34r + 1),hE_10,rfl,rfl⟩
                ·replace hE_10:=if_ff g_15 hE_10
                 refine Tri.exit ?_
                 refine Exi.then ?_
                 refine Exi.then ?_
                 refine Exi.same ?_
                 cases hE_10
                 replace h:=Lr_inl h
                 refine Nrm.seq (Tri.seq (Tri.reg (l:=[0]) rfl ?_))
                 refine F.qn rfl (r_assign rfl) (F.nil (Nrm.seq (Tri.ret ?_)))
                 cases h
                 exact Rtn.body (.tmp rfl .nil) (fun w hw=>⟨rfl,hw.ext⟩)
             ·rcases Bool.eq_false_or_eq_true (!t176_2) with g186 | g186
              ·replace hE_9:=if_tt g186 hE_9
               refine Tri.reg (l:=List.range 13) rfl ?_
               refine F.qn rfl (r_move rfl) ?_
               refine F.qn rfl (r_not rfl) (F.qn rfl (r_move rfl) (F.skf rfl g186 (F.skf rfl g186 (F.qn rfl (r_pick rfl rfl g186) (F.qn rfl (r_move rfl) ?_)))))
               iterate 5 refine F.skf rfl rfl ?_
               refine F.qn rfl (r_pick rfl rfl rfl) (F.nil ?_)
               cases hE_9
               refine Nrm.only [4,30,32,196] rfl ?_
               refine Nrm.pick [1,0,8] rfl rfl ?_
               exact hj_8 _ _ ⟨rfl,rfl⟩
              ·replace hE_9:=if_ff g186 hE_9
               rcases Bool.eq_false_or_eq_true (!t181_2) with g190 | g190
               ·replace hE_9:=if_tt g190 hE_9
                refine Tri.reg (l:=List.range 13) rfl ?_
                refine F.qn rfl (r_move rfl) ?_
                refine F.qn rfl (r_not rfl) (F.qn rfl (r_move rfl) (F.qg rfl g186 (r_move rfl) (F.qg rfl g186 (r_not rfl) (F.qn rfl (r_pickf rfl rfl g186) (F.qn rfl (r_move rfl) ?_)))))
                iterate 5 refine F.skf rfl g190 ?_
                refine F.qn rfl (r_pick rfl rfl g190) (F.nil ?_)
                cases hE_9
                refine Nrm.only [4,30,32,196] rfl ?_
                refine Nrm.pick [1,0,8] rfl rfl ?_
                exact hj_8 _ _ ⟨rfl,rfl⟩
               ·replace hE_9:=if_ff g190 hE_9
                refine Tri.reg (l:=List.range 13) rfl ?_
                refine F.qn rfl (r_move rfl) ?_
                refine F.qn rfl (r_not rfl) (F.qn rfl (r_move rfl) (F.qg rfl g186 (r_move rfl) (F.qg rfl g186 (r_not rfl) (F.qn rfl (r_pickf rfl rfl g186) (F.qn rfl (r_move rfl) ?_)))))
                refine F.qg rfl g190 (r_move rfl) (F.qg rfl g190 (r_len Tryz.underlying25 rfl hl_v176_2) (F.qg rfl g190 (r_move rfl) (F.qg rfl g190 (r_len Tryz.underlying25 rfl hl_v181_2) (F.qg rfl g190 (r_neq rfl rfl) (F.qn rfl (r_pickf rfl rfl g190) (F.nil ?_))))))
                cases hE_9
                refine Nrm.only [4,30,32,196] rfl ?_
                refine Nrm.pick [1,0,8] rfl rfl ?_
                exact hj_8 _ _ ⟨rfl,rfl⟩
         ·rcases Bool.eq_false_or_eq_true (!t119_2) with g134 | g134
          ·replace hE_4:=if_tt g134 hE_4
           refine Tri.reg (l:=List.range 16) rfl ?_
           refine F.qn rfl (r_move rfl) ?_
           refine F.qn rfl (r_not rfl) (F.qn rfl (r_move rfl) (F.skf rfl g134 (F.skf rfl g134 (F.qn rfl (r_pick rfl rfl g134) (F.qn rfl (r_move rfl) ?_)))))
           iterate 3 refine F.skf rfl rfl ?_
           refine F.qn rfl (r_pick rfl rfl rfl) (F.qn rfl (r_move rfl) ?_)
           iterate 3 refine F.skf rfl rfl ?_
           refine F.qn rfl (r_pick rfl rfl rfl) (F.nil ?_)
           cases hE_4
           refine Nrm.only [3,4,5,6,14,15,16,18,19,147] rfl ?_
           refine Nrm.pick [1,2,5,6,7,8,9,10,11,16,17,18,19] rfl rfl ?_
           exact hj_4 _ _ ⟨rfl,rfl⟩
          ·replace hE_4:=if_ff g134 hE_4
           rcases Bool.eq_false_or_eq_true (!t129_2) with g138 | g138
           ·replace hE_4:=if_tt g138 hE_4
            refine Tri.reg (l:=List.range 16) rfl ?_
            refine F.qn rfl (r_move rfl) ?_
            refine F.qn rfl (r_not rfl) (F.qn rfl (r_move rfl) (F.qg rfl g134 (r_move rfl) (F.qg rfl g134 (r_not rfl) (F.qn rfl (r_pickf rfl rfl g134) (F.qn rfl (r_move rfl) ?_)))))
            iterate 3 refine F.skf rfl g138 ?_
            refine F.qn rfl (r_pick rfl rfl g138) (F.qn rfl (r_move rfl) ?_)
            iterate 3 refine F.skf rfl rfl ?_
            refine F.qn rfl (r_pick rfl rfl rfl) (F.nil ?_)
            cases hE_4
            refine Nrm.only [3,4,5,6,14,15,16,18,19,147] rfl ?_
            refine Nrm.pick [1,2,5,6,7,8,9,10,11,16,17,18,19] rfl rfl ?_
            exact hj_4 _ _ ⟨rfl,rfl⟩
           ·replace hE_4:=if_ff g138 hE_4
            rcases Bool.eq_false_or_eq_true (t119_1 != t124_2) with g143 | g143
            ·replace hE_4:=if_tt g143 hE_4
             refine Tri.reg (l:=List.range 16) rfl ?_
             refine F.qn rfl (r_move rfl) (F.qn rfl (r_not rfl) (F.qn rfl (r_move rfl) (F.qg rfl g134 (r_move rfl) (F.qg rfl g134 (r_not rfl) (F.qn rfl (r_pickf rfl rfl g134) ?_)))))
             refine F.qn rfl (r_move rfl) (F.qg rfl g138 (r_move rfl) (F.qg rfl g138 (r_move rfl) (F.qg rfl g138 (r_neqB Tryz.underlying4 rfl rfl) (F.qn rfl (r_pickf rfl rfl g138) (F.qn rfl (r_move rfl) ?_)))))
             iterate 3 refine F.skf rfl g143 ?_
             refine F.qn rfl (r_pick rfl rfl g143) (F.nil ?_)
             cases hE_4
             refine Nrm.only [3,4,5,6,14,15,16,18,19,147] rfl ?_
             refine Nrm.pick [1,2,5,6,7,8,9,10,11,16,17,18,19] rfl rfl ?_
             exact hj_4 _ _ ⟨rfl,rfl⟩
            ·replace hE_4:=if_ff g143 hE_4
             refine Tri.reg (l:=List.range 16) rfl ?_
             refine F.qn rfl (r_move rfl) (F.qn rfl (r_not rfl) (F.qn rfl (r_move rfl) (F.qg rfl g134 (r_move rfl) ?_)))
             refine F.qg rfl g134 (r_not rfl) (F.qn rfl (r_pickf rfl rfl g134) (F.qn rfl (r_move rfl) (F.qg rfl g138 (r_move rfl) (F.qg rfl g138 (r_move rfl) (F.qg rfl g138 (r_neqB Tryz.underlying4 rfl rfl) ?_)))))
             refine F.qn rfl (r_pickf rfl rfl g138) (F.qn rfl (r_move rfl) (F.qg rfl g143 (r_move rfl) (F.qg rfl g143 (r_len Tryz.underlying25 rfl hl_v129_1) (F.qg rfl g143 (r_neq rfl rfl) (F.qn rfl (r_pickf rfl rfl g143) (F.nil ?_))))))
             cases hE_4
             refine Nrm.only [3,4,5,6,14,15,16,18,19,147] rfl ?_
             refine Nrm.pick [1,2,5,6,7,8,9,10,11,16,17,18,19] rfl rfl ?_
             exact hj_4 _ _ ⟨rfl,rfl⟩
        ·replace h:=if_ff g_5 h
         refine Tri.skip (Nrm.seq (Tri.seq (Tri.seq (Tri.reg (l:=[0]) rfl ?_))))
         refine F.qn rfl (r_move rfl) (F.nil (Nrm.seq (Tri.cond (b:=t96_3) rfl (fun g_17=>?_) (fun g_17=>?_))))
         ·replace h:=if_tt g_17 h
          refine Tri.seq ?_
          obtain ⟨⟨y29r,yb14_1_1r,yb28_11_0,yb28_11_1⟩,hE_11,h⟩:=bind_some h
          refine Tri.cut (fun e' C'=>∃ (vb14_1_1_2 : Value) (Sb14_1_1_2 : Nat → Prop) (vb28_11_0_1 : Value) (Sb28_11_0_1 : Nat → Prop) (vb28_11_1_1 : Value) (Sb28_11_1_1 : Nat → Prop) (b28_11 : Nat),SlLen vb14_1_1_2 (yb14_1_1r).length∧SlLen vb28_11_0_1 (yb28_11_0).length∧SlLen vb28_11_1_1 (yb28_11_1).length∧e' = [(3,.pointer (some ⟨b3_1,0,none⟩)),(4,v39_3),(5,.pointer (some ⟨b5_1,0,none⟩)),(6,.bool t45_3),(14,.pointer (some ⟨b14_1,0,none⟩)),(28,.pointer (some ⟨b28_11,0,none⟩)),(29,.bool y29r)]∧C' = Sep w noM [R.box b14_1 88 [v86_1,vb14_1_1_2],R.box b5_1 88 [v45_1,v45_2],R.box b3_1 88 [v39_1,v39_2],R.box b28_11 88 [vb28_11_0_1,vb28_11_1_1],R.sl Sb14_1_1_2 vb14_1_1_2 (yb14_1_1r : List (List Int)),R.sl Sb28_11_0_1 vb28_11_0_1 (yb28_11_0 : List (Int × List (Int × Int × Int) × List Int)),R.sl Sb28_11_1_1 vb28_11_1_1 (yb28_11_1 : List (List Int)),R.sl S39_1 v39_1 (t39_1 : List (Int × List (Int × Int × Int) × List Int)),R.sl S39_2 v39_2 (t39_2 : List (List Int)),R.sl S39_3 v39_3 (t39_3 : List (Int)),R.sl S45_1 v45_1 (t45_1 : List (Int × List (Int × Int × Int) × List Int)),R.sl S45_2 v45_2 (t45_2 : List (List Int)),R.sl S86_1 v86_1 (t86_1 : List (Int × List (Int × Int × Int) × List Int))]) ?_ (fun hj_9=>?_)
          ·rintro _ _ ⟨vb14_1_1_2,Sb14_1_1_2,vb28_11_0_1,Sb28_11_0_1,vb28_11_1_1,Sb28_11_1_1,b28_11,hl_vb14_1_1_2,hl_vb28_11_0_1,hl_vb28_11_1_1,rfl,rfl⟩
           refine Nrm.seq (Tri.seq ?_)
           obtain ⟨y171r,hE_12,h⟩:=bind_some h
           refine Tri.cut (fun e' C'=>e' = [(3,.pointer (some ⟨b3_1,0,none⟩)),(4,v39_3),(5,.pointer (some ⟨b5_1,0,none⟩)),(6,.bool t45_3),(171,.bool y171r)]∧C' = Sep w noM [R.box b5_1 88 [v45_1,v45_2],R.box b3_1 88 [v39_1,v39_2],R.sl S39_1 v39_1 (t39_1 : List (Int × List (Int × Int × Int) × List Int)),R.sl S39_2 v39_2 (t39_2 : List (List Int)),R.sl S39_3 v39_3 (t39_3 : List (Int)),R.sl S45_1 v45_1 (t45_1 : List (Int × List (Int × Int × Int) × List Int)),R.sl S45_2 v45_2 (t45_2 : List (List Int))]) ?_ (fun hj_10=>?_)
           ·rintro _ _ ⟨rfl,rfl⟩
            refine Nrm.seq (Tri.cond (b:=y171r) rfl (fun g_18=>?_) (fun g_18=>?_))
            ·replace h:=if_tt g_18 h
             refine Tri.seq (Tri.reg (l:=[0]) rfl ?_)
             refine F.qn rfl (r_assign rfl) (F.nil (Nrm.seq (Tri.ret ?_)))
             refine Rtn.then ?_
             cases h
             exact Rtn.body (.tmp rfl .nil) (fun w hw=>⟨rfl,hw.ext⟩)
            ·replace h:=if_ff g_18 h
             refine Tri.skip (Nrm.seq (Tri.seq (Tri.seq (Tri.reg (l:=[0,1]) rfl ?_))))
             refine F.qn rfl (r_move rfl) (F.qn rfl (r_not rfl) (F.nil (Nrm.seq (Tri.cond (b:=!t45_3) rfl (fun g_19=>?_) (fun g_19=>?_)))))
             ·replace h:=if_tt g_19 h
              refine Tri.seq (Tri.reg (l:=[0]) rfl ?_)
              refine F.qn rfl (r_assign rfl) (F.nil (Nrm.seq (Tri.ret ?_)))
              refine Rtn.then ?_
              cases h
              exact Rtn.body (.tmp rfl .nil) (fun w hw=>⟨rfl,hw.ext⟩)
             ·replace h:=if_ff g_19 h
              refine Tri.skip (Nrm.seq (Tri.seq ?_))
              obtain ⟨⟨t176_1,t176_2⟩,h176,h⟩:=bind_some h
              refine Tri.reg (l:=[0,1,2,3,4,5,6]) rfl ?_
              refine F.qn rfl (r_loadA ta88 ti88 rfl rfl (fun w hw=>(box_cells (i:=1) rfl w hw))) ?_
              refine F.mn rfl (m_callF (xs:=_) rfl ok82 rfl rfl (fun w hw=>impl_WonRounds.ok h176 w ((rd_sl (i:=2) rfl) w hw) ((rd_sl (i:=3) rfl) w hw))) ?_
              rintro _ _ ⟨_,⟨v176_3,S176_3,rfl,hl_v176_3,rfl⟩,rfl⟩
              refine F.qn rfl (r_move rfl) (F.qn rfl (r_extract rfl rfl) (F.qn rfl (r_extract rfl rfl) (F.qn rfl (r_assign rfl) (F.qn rfl (r_assign rfl) (F.nil (Nrm.seq (Tri.seq ?_)))))))
              obtain ⟨⟨t181_1,t181_2⟩,h181,h⟩:=bind_some h
              refine Tri.reg (l:=[0,1,2,3,4,5,6]) rfl ?_
              refine F.qn rfl (r_loadA ta88 ti88 rfl rfl (fun w hw=>(box_cells (i:=1) rfl w hw))) ?_
              refine F.mn rfl (m_callF (xs:=_) rfl ok82 rfl rfl (fun w hw=>impl_WonRounds.ok h181 w ((rd_sl (i:=6) rfl) w hw) ((rd_sl (i:=7) rfl) w hw))) ?_
              rintro _ _ ⟨_,⟨v181_3,S181_3,rfl,hl_v181_3,rfl⟩,rfl⟩
              refine F.qn rfl (r_move rfl) (F.qn rfl (r_extract rfl rfl) (F.qn rfl (r_extract rfl rfl) (F.qn rfl (r_assign rfl) (F.qn rfl (r_assign rfl) (F.nil (Nrm.seq (Tri.seq (Tri.seq ?_))))))))
              obtain ⟨y196rr,hE_13,h⟩:=bind_some h
              refine Tri.cut (fun e' C'=>e' = [(4,v39_3),(30,v176_3),(32,v181_3),(196,.bool y196rr)]∧C' = Sep w noM [R.sl S176_3 v176_3 (t176_1 : List (Int)),R.sl S181_3 v181_3 (t181_1 : List (Int)),R.sl S39_3 v39_3 (t39_3 : List (Int))]) ?_ (fun hj_11=>?_)
              ·rintro _ _ ⟨rfl,rfl⟩
               refine Nrm.seq (Tri.cond (b:=y196rr) rfl (fun g_20=>?_) (fun g_20=>?_))
               ·replace h:=if_tt g_20 h
                refine Tri.seq (Tri.reg (l:=[0]) rfl ?_)
                refine F.qn rfl (r_assign rfl) (F.nil (Nrm.seq (Tri.ret ?_)))
                refine Rtn.then ?_
                cases h
                exact Rtn.body (.tmp rfl .nil) (fun w hw=>⟨rfl,hw.ext⟩)
               ·replace h:=if_ff g_20 h
                refine Tri.skip (Nrm.seq (Tri.seq (Tri.seq (Tri.reg (l:=[0]) rfl ?_))))
                refine F.qn rfl (r_assign rfl) (F.nil (Nrm.seq ?_))
                obtain ⟨s2,hE_14,h⟩:=bind_some h
                refine Tri.block ?_
                refine Tri.only [4,30,32,34] rfl ?_
                refine Tri.pick [0,1,2] rfl rfl ?_
                refine Tri.rounds (fun n e' C'=>∃ (x34rr' : Int),laws_FnWorldForms.l2 k t39_3 t176_1 t181_1 n x34rr' = some s2∧e' = [(4,v39_3),(30,v176_3),(32,v181_3),(34,.int .i64 x34rr')]∧C' = Sep w noM [R.sl S176_3 v176_3 (t176_1 : List (Int)),R.sl S181_3 v181_3 (t181_1 : List (Int)),R.sl S39_3 v39_3 (t39_3 : List (Int))]) k ?_ ?_ ?_
                ·exact ⟨0,hE_14,rfl,rfl⟩
                ·rintro _ _ ⟨_,hE_14,_⟩
                 rw [laws_FnWorldForms.l2.eq_1] at hE_14; cases hE_14
                ·rintro n_3 _ _ ⟨x34rr,hE_14,rfl,rfl⟩ ih_3
                 rw [laws_FnWorldForms.l2.eq_2] at hE_14
                 refine Tri.seq (Tri.seq (Tri.reg (l:=[0,1,2,3]) rfl ?_))
                 refine F.qn rfl (r_move rfl) (F.qn rfl (r_move rfl) (F.qn rfl (r_len Tryz.underlying25 rfl hl_v39_3) (F.qn rfl (r_lss rfl rfl) (F.nil (Nrm.seq (Tri.cond (b:=decide (x34rr < (t39_3.length : Int))) rfl (fun g_21=>?_) (fun g_21=>?_)))))))
                 ·replace hE_14:=if_tt g_21 hE_14
                  refine Tri.skip (Nrm.seq (Tri.seq (Tri.block ?_)))
                  refine Tri.seq ?_
                  obtain ⟨t205,h205,hE_14⟩:=bind_some hE_14
                  obtain ⟨t210,h210,hE_14⟩:=bind_some hE_14
                  obtain ⟨t212,h212,hE_14⟩:=bind_some hE_14
                  refine Tri.drawA mixedT Sep.up [(0,true),(1,true),(2,true),(3,true),(4,true),(5,true),(6,true),(7,true),(8,true),(9,true),(10,true),(11,true)] [] (by kernel_rfl) ?_
                  refine S.qn rfl (r_move rfl) (S.qn rfl (r_move rfl) (S.qn rfl (r_indexAddrS Tryz.underlying25 ti3 rfl hl_v181_3 rfl (rdl_some h205).1 (rdl_some h205).2.1) (S.qn rfl (r_load ta3 rfl (fun w hw=>cell_0 (Rd.flat ((rd_sl (i:=1) rfl) w hw) (rdl_some h205).2.2) rfl)) ?_)))
                  iterate 3 refine S.qn rfl (r_move rfl) ?_
                  refine S.qn rfl (r_indexAddrS Tryz.underlying25 ti3 rfl hl_v39_3 rfl (rdl_some h210).1 (rdl_some h210).2.1) (S.qn rfl (r_load ta3 rfl (fun w hw=>cell_0 (Rd.flat ((rd_sl (i:=2) rfl) w hw) (rdl_some h210).2.2) rfl)) (S.qn rfl (r_indexAddrS Tryz.underlying25 ti3 rfl hl_v176_3 rfl (rdl_some h212).1 (rdl_some h212).2.1) (S.qn rfl (r_load ta3 rfl (fun w hw=>cell_0 (Rd.flat ((rd_sl (i:=0) rfl) w hw) (rdl_some h212).2.2) rfl)) (S.qn rfl (r_neq rfl rfl) (S.nil (F.nil (Nrm.seq (Tri.cond (b:=t205 != t212) rfl (fun g_22=>?_) (fun g_22=>?_)))))))))
                  ·replace hE_14:=if_tt g_22 hE_14
                   refine Tri.seq (Tri.reg (l:=[0]) rfl ?_)
                   refine F.qn rfl (r_assign rfl) (F.nil (Nrm.seq (Tri.ret ?_)))
                   refine Rtn.block ?_
                   refine Rtn.then ?_
                   refine Rtn.then ?_
                   refine Rtn.block ?_
                   refine Rtn.then ?_
                   cases hE_14
                   replace h:=Lr_inr h
                   cases h
                   exact Rtn.body (.tmp rfl .nil) (fun w hw=>⟨rfl,hw.ext⟩)
                  ·replace hE_14:=if_ff g_22 hE_14
                   refine Tri.skip (Nrm.block ?_)
                   refine Nrm.seq (Tri.reg (l:=[0,1,2]) rfl ?_)
                   refine F.qn rfl (r_move rfl) (F.qn rfl (r_add rfl rfl) (F.qn rfl (r_assign rfl) (F.nil (Nrm.round ?_))))
                   refine Rnd.only [4,30,32,34] rfl ?_
                   refine Rnd.pick [0,1,2] rfl rfl ?_
                   exact ih_3 _ _ ⟨w64 (x34rr + 1),hE_14,rfl,rfl⟩
                 ·replace hE_14:=if_ff g_21 hE_14
                  refine Tri.exit ?_
                  refine Exi.then ?_
                  refine Exi.then ?_
                  refine Exi.same ?_
                  cases hE_14
                  replace h:=Lr_inl h
                  refine Nrm.seq (Tri.seq (Tri.reg (l:=[0]) rfl ?_))
                  refine F.qn rfl (r_assign rfl) (F.nil (Nrm.seq (Tri.ret ?_)))
                  cases h
                  exact Rtn.body (.tmp rfl .nil) (fun w hw=>⟨rfl,hw.ext⟩)
              ·rcases Bool.eq_false_or_eq_true (!t176_2) with g186 | g186
               ·replace hE_13:=if_tt g186 hE_13
                refine Tri.reg (l:=List.range 13) rfl ?_
                refine F.qn rfl (r_move rfl) ?_
                refine F.qn rfl (r_not rfl) (F.qn rfl (r_move rfl) (F.skf rfl g186 (F.skf rfl g186 (F.qn rfl (r_pick rfl rfl g186) (F.qn rfl (r_move rfl) ?_)))))
                iterate 5 refine F.skf rfl rfl ?_
                refine F.qn rfl (r_pick rfl rfl rfl) (F.nil ?_)
                cases hE_13
                refine Nrm.only [4,30,32,196] rfl ?_
                refine Nrm.pick [1,0,6] rfl rfl ?_
                exact hj_11 _ _ ⟨rfl,rfl⟩
               ·replace hE_13:=if_ff g186 hE_13
                rcases Bool.eq_false_or_eq_true (!t181_2) with g190 | g190
                ·replace hE_13:=if_tt g190 hE_13
                 refine Tri.reg (l:=List.range 13) rfl ?_
                 refine F.qn rfl (r_move rfl) ?_
                 refine F.qn rfl (r_not rfl) (F.qn rfl (r_move rfl) (F.qg rfl g186 (r_move rfl) (F.qg rfl g186 (r_not rfl) (F.qn rfl (r_pickf rfl rfl g186) (F.qn rfl (r_move rfl) ?_)))))
                 iterate 5 refine F.skf rfl g190 ?_
                 refine F.qn rfl (r_pick rfl rfl g190) (F.nil ?_)
                 cases hE_13
                 refine Nrm.only [4,30,32,196] rfl ?_
                 refine Nrm.pick [1,0,6] rfl rfl ?_
                 exact hj_11 _ _ ⟨rfl,rfl⟩
                ·replace hE_13:=if_ff g190 hE_13
                 refine Tri.reg (l:=List.range 13) rfl ?_
                 refine F.qn rfl (r_move rfl) ?_
                 refine F.qn rfl (r_not rfl) (F.qn rfl (r_move rfl) (F.qg rfl g186 (r_move rfl) (F.qg rfl g186 (r_not rfl) (F.qn rfl (r_pickf rfl rfl g186) (F.qn rfl (r_move rfl) ?_)))))
                 refine F.qg rfl g190 (r_move rfl) (F.qg rfl g190 (r_len Tryz.underlying25 rfl hl_v176_3) (F.qg rfl g190 (r_move rfl) (F.qg rfl g190 (r_len Tryz.underlying25 rfl hl_v181_3) (F.qg rfl g190 (r_neq rfl rfl) (F.qn rfl (r_pickf rfl rfl g190) (F.nil ?_))))))
                 cases hE_13
                 refine Nrm.only [4,30,32,196] rfl ?_
                 refine Nrm.pick [1,0,6] rfl rfl ?_
                 exact hj_11 _ _ ⟨rfl,rfl⟩
           ·rcases Bool.eq_false_or_eq_true (!y29r) with g166 | g166
            ·replace hE_12:=if_tt g166 hE_12
             refine Tri.reg (l:=[0,1,2,3,4,5,6,7]) rfl ?_
             refine F.qn rfl (r_move rfl) (F.qn rfl (r_not rfl) (F.qn rfl (r_move rfl) ?_))
             iterate 4 refine F.skf rfl g166 ?_
             refine F.qn rfl (r_pick rfl rfl g166) (F.nil ?_)
             cases hE_12
             refine Nrm.only [3,4,5,6,171] rfl ?_
             refine Nrm.pick [1,2,7,8,9,10,11] rfl rfl ?_
             exact hj_10 _ _ ⟨rfl,rfl⟩
            ·replace hE_12:=if_ff g166 hE_12
             obtain ⟨t169,h169,hE_12⟩:=bind_some hE_12
             refine Tri.reg (l:=[0,1,2,3,4,5,6,7]) rfl ?_
             refine F.qn rfl (r_move rfl) (F.qn rfl (r_not rfl) (F.qn rfl (r_move rfl) (F.qg rfl g166 (r_loadA ta88 ti88 rfl rfl (fun w hw=>(box_cells (i:=3) rfl w hw))) (F.qg rfl g166 (r_loadA ta88 ti88 rfl rfl (fun w hw=>(box_cells (i:=0) rfl w hw))) ?_))))
             refine F.qc rfl rfl rfl (wg rfl rfl rfl g166) (q_callF (xs:=_) rfl ok73 rfl rfl (fun w hw=>laws_rWorlds.ok h169 w ((rd_sl (i:=5) rfl) w hw) ((rd_sl (i:=6) rfl) w hw) ((rd_sl (i:=12) rfl) w hw) ((rd_sl (i:=4) rfl) w hw))) ?_
             refine F.qg rfl g166 (r_not rfl) (F.qn rfl (r_pickf rfl rfl g166) (F.nil ?_))
             cases hE_12
             refine Nrm.only [3,4,5,6,171] rfl ?_
             refine Nrm.pick [1,2,7,8,9,10,11] rfl rfl ?_
             exact hj_10 _ _ ⟨rfl,rfl⟩
          ·obtain ⟨t156,h156,hE_11⟩:=bind_some hE_11
           obtain ⟨t159,h159,hE_11⟩:=bind_some hE_11
           obtain ⟨⟨t161_1,t161_2,t161_3⟩,h161,hE_11⟩:=bind_some hE_11
           refine Tri.ex (on25 [16] [0,1,2,3,4,5,6,7,8,9,10,11,12,13,14,15,17,18] rfl rfl (rdl_some h156).2.2) ?_
           rintro _ ⟨v156_0_2,S156_0_2,Sr156_2,hl_v156_0_2,hS156_2,rfl⟩
           refine Tri.drawT mixedT Sep.up [0,1,2,3,4,5,6,7,8,9,10,11,12,13,14,15,16] [17] (.q 0 (.q 1 (.q 2 (.q 3 (.q 4 (.q 5 (.q 6 (.q 7 (.q 8 (.q 9 (.q 10 (.alt 11 (.alt 12 (.alt 13 (.alt 14 (.alt 15 (.alt 16 .nil .stop) .stop) (.alt 15 (.alt 14 (.alt 16 .nil .stop) (.alt 16 (.alt 14 .nil .stop) .stop)) .stop)) (.alt 14 (.alt 13 (.alt 15 (.alt 16 .nil .stop) .stop) (.alt 15 (.alt 13 (.alt 16 .nil .stop) .stop) .stop)) (.alt 15 (.alt 13 (.alt 14 (.alt 16 .nil .stop) (.alt 16 (.alt 14 .nil .stop) .stop)) (.alt 14 (.alt 13 (.alt 16 .nil .stop) .stop) .stop)) .stop))) (.alt 15 (.alt 12 (.alt 13 (.alt 14 (.alt 16 .nil .stop) (.alt 16 (.alt 14 .nil .stop) .stop)) (.alt 14 (.alt 13 (.alt 16 .nil .stop) .stop) .stop)) .stop) .stop)) (.alt 15 (.alt 11 (.alt 12 (.alt 13 (.alt 14 (.alt 16 .nil .stop) (.alt 16 (.alt 14 .nil .stop) .stop)) (.alt 14 (.alt 13 (.alt 16 .nil .stop) .stop) .stop)) .stop) .stop) .stop))))))))))))) (by kernel_rfl) ?_
           refine T.q rfl rfl rfl (wanted_none rfl) (r_loadA ta88 ti88 rfl rfl (fun w hw=>(box_cells (i:=2) rfl w hw))) ?_
           refine T.q rfl rfl rfl (wanted_none rfl) (r_move rfl) ?_
           refine T.q rfl rfl rfl (wanted_none rfl) (r_move rfl) ?_
           refine T.q rfl rfl rfl (wanted_none rfl) (r_fieldAddr tf88_1 rfl) ?_
           refine T.q rfl rfl rfl (wanted_none rfl) (r_load ta86 rfl (fun w hw=>cell_1 (box_cells (i:=3) rfl w hw) rfl)) ?_
           refine T.q rfl rfl rfl (wanted_none rfl) (r_move rfl) ?_
           refine T.q rfl rfl rfl (wanted_none rfl) (r_indexAddrS Tryz.underlying86 ti25 rfl hl_v86_2 rfl (rdl_some h156).1 (rdl_some h156).2.1) ?_
           refine T.q rfl rfl rfl (wanted_none rfl) (r_load ta25 rfl (fun w hw=>cell_0 (hole_cells (p:=1) rfl w hw) rfl)) ?_
           refine T.q rfl rfl rfl (wanted_none rfl) (r_move rfl) ?_
           refine T.q rfl rfl rfl (wanted_none rfl) (r_indexAddrS Tryz.underlying25 ti3 rfl hl_v156_0_2 rfl (rdl_some h159).1 (rdl_some h159).2.1) ?_
           refine T.q rfl rfl rfl (wanted_none rfl) (r_load ta3 rfl (fun w hw=>cell_0 (Rd.flat ((rd_sl (i:=0) rfl) w hw) (rdl_some h159).2.2) rfl)) ?_
           refine T.ef rfl rfl rfl (wanted_none rfl) (Makes.does (m_callF (xs:=_) rfl ok78 rfl rfl (fun w hw=>impl_GiveKeys.ok h161 w ((rd_sl (i:=18) rfl) w hw) ((rd_sl (i:=19) rfl) w hw)))) (by rintro _ _ ⟨_,⟨v161_9,S161_9,v161_10,S161_10,rfl,hl_v161_9,hl_v161_10,rfl⟩,rfl⟩; exact upd rfl [2,3,4,5,6,7,8,9,10,11,12,13,14,15,16,17,18,19,20,21] rfl rfl) ?_ ?_
           ·rintro _ _ ⟨_,⟨v161_9,S161_9,v161_10,S161_10,rfl,hl_v161_9,hl_v161_10,rfl⟩,rfl⟩
            refine T.ef rfl rfl rfl (wanted_none rfl) (Runs.does (r_move rfl)) (by rintro _ _ ⟨rfl,rfl⟩; exact upd rfl [2,3,4,5,6,7,8,9,10,11,12,13,14,15,16,17,18,19,20,21] rfl rfl) ?_ ?_
            ·rintro _ _ ⟨rfl,rfl⟩
             refine T.ef rfl rfl rfl (wanted_none rfl) (Runs.does (r_extract rfl rfl)) (by rintro _ _ ⟨rfl,rfl⟩; exact upd rfl [2,3,4,5,6,7,8,9,10,11,12,13,14,15,16,17,18,19,20,21] rfl rfl) ?_ ?_
             ·rintro _ _ ⟨rfl,rfl⟩
              refine T.ef rfl rfl rfl (wanted_none rfl) (Runs.does (r_extract rfl rfl)) (by rintro _ _ ⟨rfl,rfl⟩; exact upd rfl [2,3,4,5,6,7,8,9,10,11,12,13,14,15,16,17,18,19,20,21] rfl rfl) ?_ ?_
              ·rintro _ _ ⟨rfl,rfl⟩
               refine T.ef rfl rfl rfl (wanted_none rfl) (Makes.does (m_alloc ti88)) (by rintro _ _ ⟨b28_12,rfl,rfl⟩; exact upd rfl [3,4,5,6,7,8,9,10,11,12,13,14,15,16,17,18,19,20,21,22] rfl rfl) ?_ ?_
               ·rintro _ _ ⟨b28_12,rfl,rfl⟩
                refine T.ef0 rfl rfl (wanted_none rfl) (d_storeG0 (i:=0) (cs2:=[v161_9,v161_10]) ti88 rfl rfl rfl rfl rfl (Nat.le_of_ble_eq_true rfl) (lf_cons (sl_leaf hl_v161_9) (lf_cons (sl_leaf hl_v161_10) lf_nil))) (by rintro _ _ ⟨rfl,rfl⟩; exact upd rfl [3,4,5,6,7,8,9,10,11,12,13,14,15,16,17,18,19,20,21,22] rfl rfl) ?_ ?_
                ·rintro _ _ ⟨rfl,rfl⟩
                 refine T.nil ?_
                 refine F.qn rfl (r_assign rfl) ?_
                 refine F.nil (Nrm.imp (cloS1 (cs:=[R.sl S156_0_2 v156_0_2 (t156 : List (Int))]) (rest:=[R.box b28_12 88 [v161_9,v161_10],R.sl S161_9 v161_9 (t161_1 : List (Int × List (Int × Int × Int) × List Int)),R.sl S161_10 v161_10 (t161_2 : List (List Int)),R.box b18_1 88 [v96_1,v96_2],R.box b14_1 88 [v86_1,v86_2],R.box b10_1 88 [v67_1,v67_2],R.box b9_1 27 [.int .i64 t64_1,v64_1,v64_2],R.box b5_1 88 [v45_1,v45_2],R.box b3_1 88 [v39_1,v39_2],R.sl S39_1 v39_1 (t39_1 : List (Int × List (Int × Int × Int) × List Int)),R.sl S39_2 v39_2 (t39_2 : List (List Int)),R.sl S39_3 v39_3 (t39_3 : List (Int)),R.sl S45_1 v45_1 (t45_1 : List (Int × List (Int × Int × Int) × List Int)),R.sl S45_2 v45_2 (t45_2 : List (List Int)),R.sl S64_1 v64_1 (t64_2 : List (Int × Int × Int)),R.sl S64_2 v64_2 (t64_3 : List (Int)),R.sl S67_1 v67_1 (t67_1 : List (Int × List (Int × Int × Int) × List Int)),R.sl S67_2 v67_2 (t67_2 : List (List Int)),R.sl S86_1 v86_1 (t86_1 : List (Int × List (Int × Int × Int) × List Int)),R.sl S96_1 v96_1 (t96_1 : List (Int × List (Int × Int × Int) × List Int)),R.sl S96_2 v96_2 (t96_2 : List (List Int))]) [3,4] [0,1,2,5,6,7,8,9,10,11,12,13,14,15,16,17,18,19,20,21,22] rfl rfl (jn_sl (S:=S156_0_2) (v:=v156_0_2) (l:=(t156 : List (Int)))) hS156_2) ?_)
                 cases hE_11
                 refine Nrm.only [3,4,5,6,14,28,29] rfl ?_
                 refine Nrm.pick [5,8,9,1,0,2,3,10,11,12,13,14,19] rfl rfl ?_
                 exact hj_9 _ _ ⟨v86_2,S86_2,v161_9,S161_9,v161_10,S161_10,b28_12,(len_set hl_v86_2),hl_v161_9,hl_v161_10,rfl,rfl⟩
                exact T.stop
               exact T.stop
              ·refine T.ef rfl rfl rfl (wanted_none rfl) (Makes.does (m_alloc ti88)) (by rintro _ _ ⟨b28_13,rfl,rfl⟩; exact upd rfl [3,4,5,6,7,8,9,10,11,12,13,14,15,16,17,18,19,20,21,22] rfl rfl) ?_ ?_
               ·rintro _ _ ⟨b28_13,rfl,rfl⟩
                refine T.ef rfl rfl rfl (wanted_none rfl) (Runs.does (r_extract rfl rfl)) (by rintro _ _ ⟨rfl,rfl⟩; exact upd rfl [3,4,5,6,7,8,9,10,11,12,13,14,15,16,17,18,19,20,21,22] rfl rfl) ?_ ?_
                ·rintro _ _ ⟨rfl,rfl⟩
                 refine T.ef0 rfl rfl (wanted_none rfl) (d_storeG0 (i:=0) (cs2:=[v161_9,v161_10]) ti88 rfl rfl rfl rfl rfl (Nat.le_of_ble_eq_true rfl) (lf_cons (sl_leaf hl_v161_9) (lf_cons (sl_leaf hl_v161_10) lf_nil))) (by rintro _ _ ⟨rfl,rfl⟩; exact upd rfl [3,4,5,6,7,8,9,10,11,12,13,14,15,16,17,18,19,20,21,22] rfl rfl) ?_ ?_
                 ·rintro _ _ ⟨rfl,rfl⟩
                  refine T.nil ?_
                  refine F.qn rfl (r_assign rfl) ?_
                  refine F.nil (Nrm.imp (cloS1 (cs:=[R.sl S156_0_2 v156_0_2 (t156 : List (Int))]) (rest:=[R.box b28_13 88 [v161_9,v161_10],R.sl S161_9 v161_9 (t161_1 : List (Int × List (Int × Int × Int) × List Int)),R.sl S161_10 v161_10 (t161_2 : List (List Int)),R.box b18_1 88 [v96_1,v96_2],R.box b14_1 88 [v86_1,v86_2],R.box b10_1 88 [v67_1,v67_2],R.box b9_1 27 [.int .i64 t64_1,v64_1,v64_2],R.box b5_1 88 [v45_1,v45_2],R.box b3_1 88 [v39_1,v39_2],R.sl S39_1 v39_1 (t39_1 : List (Int × List (Int × Int × Int) × List Int)),R.sl S39_2 v39_2 (t39_2 : List (List Int)),R.sl S39_3 v39_3 (t39_3 : List (Int)),R.sl S45_1 v45_1 (t45_1 : List (Int × List (Int × Int × Int) × List Int)),R.sl S45_2 v45_2 (t45_2 : List (List Int)),R.sl S64_1 v64_1 (t64_2 : List (Int × Int × Int)),R.sl S64_2 v64_2 (t64_3 : List (Int)),R.sl S67_1 v67_1 (t67_1 : List (Int × List (Int × Int × Int) × List Int)),R.sl S67_2 v67_2 (t67_2 : List (List Int)),R.sl S86_1 v86_1 (t86_1 : List (Int × List (Int × Int × Int) × List Int)),R.sl S96_1 v96_1 (t96_1 : List (Int × List (Int × Int × Int) × List Int)),R.sl S96_2 v96_2 (t96_2 : List (List Int))]) [3,4] [0,1,2,5,6,7,8,9,10,11,12,13,14,15,16,17,18,19,20,21,22] rfl rfl (jn_sl (S:=S156_0_2) (v:=v156_0_2) (l:=(t156 : List (Int)))) hS156_2) ?_)
                  cases hE_11
                  refine Nrm.only [3,4,5,6,14,28,29] rfl ?_
                  refine Nrm.pick [5,8,9,1,0,2,3,10,11,12,13,14,19] rfl rfl ?_
                  exact hj_9 _ _ ⟨v86_2,S86_2,v161_9,S161_9,v161_10,S161_10,b28_13,(len_set hl_v86_2),hl_v161_9,hl_v161_10,rfl,rfl⟩
                 exact T.stop
                ·refine T.ef0 rfl rfl (wanted_none rfl) (d_storeG0 (i:=0) (cs2:=[v161_9,v161_10]) ti88 rfl rfl rfl rfl rfl (Nat.le_of_ble_eq_true rfl) (lf_cons (sl_leaf hl_v161_9) (lf_cons (sl_leaf hl_v161_10) lf_nil))) (by rintro _ _ ⟨rfl,rfl⟩; exact upd rfl [3,4,5,6,7,8,9,10,11,12,13,14,15,16,17,18,19,20,21,22] rfl rfl) ?_ ?_
                 ·rintro _ _ ⟨rfl,rfl⟩
                  refine T.ef rfl rfl rfl (wanted_none rfl) (Runs.does (r_extract rfl rfl)) (by rintro _ _ ⟨rfl,rfl⟩; exact upd rfl [3,4,5,6,7,8,9,10,11,12,13,14,15,16,17,18,19,20,21,22] rfl rfl) ?_ ?_
                  ·rintro _ _ ⟨rfl,rfl⟩
                   refine T.nil ?_
                   refine F.qn rfl (r_assign rfl) ?_
                   refine F.nil (Nrm.imp (cloS1 (cs:=[R.sl S156_0_2 v156_0_2 (t156 : List (Int))]) (rest:=[R.box b28_13 88 [v161_9,v161_10],R.sl S161_9 v161_9 (t161_1 : List (Int × List (Int × Int × Int) × List Int)),R.sl S161_10 v161_10 (t161_2 : List (List Int)),R.box b18_1 88 [v96_1,v96_2],R.box b14_1 88 [v86_1,v86_2],R.box b10_1 88 [v67_1,v67_2],R.box b9_1 27 [.int .i64 t64_1,v64_1,v64_2],R.box b5_1 88 [v45_1,v45_2],R.box b3_1 88 [v39_1,v39_2],R.sl S39_1 v39_1 (t39_1 : List (Int × List (Int × Int × Int) × List Int)),R.sl S39_2 v39_2 (t39_2 : List (List Int)),R.sl S39_3 v39_3 (t39_3 : List (Int)),R.sl S45_1 v45_1 (t45_1 : List (Int × List (Int × Int × Int) × List Int)),R.sl S45_2 v45_2 (t45_2 : List (List Int)),R.sl S64_1 v64_1 (t64_2 : List (Int × Int × Int)),R.sl S64_2 v64_2 (t64_3 : List (Int)),R.sl S67_1 v67_1 (t67_1 : List (Int × List (Int × Int × Int) × List Int)),R.sl S67_2 v67_2 (t67_2 : List (List Int)),R.sl S86_1 v86_1 (t86_1 : List (Int × List (Int × Int × Int) × List Int)),R.sl S96_1 v96_1 (t96_1 : List (Int × List (Int × Int × Int) × List Int)),R.sl S96_2 v96_2 (t96_2 : List (List Int))]) [3,4] [0,1,2,5,6,7,8,9,10,11,12,13,14,15,16,17,18,19,20,21,22] rfl rfl (jn_sl (S:=S156_0_2) (v:=v156_0_2) (l:=(t156 : List (Int)))) hS156_2) ?_)
                   cases hE_11
                   refine Nrm.only [3,4,5,6,14,28,29] rfl ?_
                   refine Nrm.pick [5,8,9,1,0,2,3,10,11,12,13,14,19] rfl rfl ?_
                   exact hj_9 _ _ ⟨v86_2,S86_2,v161_9,S161_9,v161_10,S161_10,b28_13,(len_set hl_v86_2),hl_v161_9,hl_v161_10,rfl,rfl⟩
                  exact T.stop
                 exact T.stop
               exact T.stop
             ·refine T.ef rfl rfl rfl (wanted_none rfl) (Runs.does (r_extract rfl rfl)) (by rintro _ _ ⟨rfl,rfl⟩; exact upd rfl [2,3,4,5,6,7,8,9,10,11,12,13,14,15,16,17,18,19,20,21] rfl rfl) ?_ ?_
              ·rintro _ _ ⟨rfl,rfl⟩
               refine T.ef rfl rfl rfl (wanted_none rfl) (Runs.does (r_extract rfl rfl)) (by rintro _ _ ⟨rfl,rfl⟩; exact upd rfl [2,3,4,5,6,7,8,9,10,11,12,13,14,15,16,17,18,19,20,21] rfl rfl) ?_ ?_
               ·rintro _ _ ⟨rfl,rfl⟩
                refine T.ef rfl rfl rfl (wanted_none rfl) (Makes.does (m_alloc ti88)) (by rintro _ _ ⟨b28_14,rfl,rfl⟩; exact upd rfl [3,4,5,6,7,8,9,10,11,12,13,14,15,16,17,18,19,20,21,22] rfl rfl) ?_ ?_
                ·rintro _ _ ⟨b28_14,rfl,rfl⟩
                 refine T.ef0 rfl rfl (wanted_none rfl) (d_storeG0 (i:=0) (cs2:=[v161_9,v161_10]) ti88 rfl rfl rfl rfl rfl (Nat.le_of_ble_eq_true rfl) (lf_cons (sl_leaf hl_v161_9) (lf_cons (sl_leaf hl_v161_10) lf_nil))) (by rintro _ _ ⟨rfl,rfl⟩; exact upd rfl [3,4,5,6,7,8,9,10,11,12,13,14,15,16,17,18,19,20,21,22] rfl rfl) ?_ ?_
                 ·rintro _ _ ⟨rfl,rfl⟩
                  refine T.nil ?_
                  refine F.qn rfl (r_assign rfl) ?_
                  refine F.nil (Nrm.imp (cloS1 (cs:=[R.sl S156_0_2 v156_0_2 (t156 : List (Int))]) (rest:=[R.box b28_14 88 [v161_9,v161_10],R.sl S161_9 v161_9 (t161_1 : List (Int × List (Int × Int × Int) × List Int)),R.sl S161_10 v161_10 (t161_2 : List (List Int)),R.box b18_1 88 [v96_1,v96_2],R.box b14_1 88 [v86_1,v86_2],R.box b10_1 88 [v67_1,v67_2],R.box b9_1 27 [.int .i64 t64_1,v64_1,v64_2],R.box b5_1 88 [v45_1,v45_2],R.box b3_1 88 [v39_1,v39_2],R.sl S39_1 v39_1 (t39_1 : List (Int × List (Int × Int × Int) × List Int)),R.sl S39_2 v39_2 (t39_2 : List (List Int)),R.sl S39_3 v39_3 (t39_3 : List (Int)),R.sl S45_1 v45_1 (t45_1 : List (Int × List (Int × Int × Int) × List Int)),R.sl S45_2 v45_2 (t45_2 : List (List Int)),R.sl S64_1 v64_1 (t64_2 : List (Int × Int × Int)),R.sl S64_2 v64_2 (t64_3 : List (Int)),R.sl S67_1 v67_1 (t67_1 : List (Int × List (Int × Int × Int) × List Int)),R.sl S67_2 v67_2 (t67_2 : List (List Int)),R.sl S86_1 v86_1 (t86_1 : List (Int × List (Int × Int × Int) × List Int)),R.sl S96_1 v96_1 (t96_1 : List (Int × List (Int × Int × Int) × List Int)),R.sl S96_2 v96_2 (t96_2 : List (List Int))]) [3,4] [0,1,2,5,6,7,8,9,10,11,12,13,14,15,16,17,18,19,20,21,22] rfl rfl (jn_sl (S:=S156_0_2) (v:=v156_0_2) (l:=(t156 : List (Int)))) hS156_2) ?_)
                  cases hE_11
                  refine Nrm.only [3,4,5,6,14,28,29] rfl ?_
                  refine Nrm.pick [5,8,9,1,0,2,3,10,11,12,13,14,19] rfl rfl ?_
                  exact hj_9 _ _ ⟨v86_2,S86_2,v161_9,S161_9,v161_10,S161_10,b28_14,(len_set hl_v86_2),hl_v161_9,hl_v161_10,rfl,rfl⟩
                 exact T.stop
                exact T.stop
               ·refine T.ef rfl rfl rfl (wanted_none rfl) (Makes.does (m_alloc ti88)) (by rintro _ _ ⟨b28_15,rfl,rfl⟩; exact upd rfl [3,4,5,6,7,8,9,10,11,12,13,14,15,16,17,18,19,20,21,22] rfl rfl) ?_ ?_
                ·rintro _ _ ⟨b28_15,rfl,rfl⟩
                 refine T.ef rfl rfl rfl (wanted_none rfl) (Runs.does (r_extract rfl rfl)) (by rintro _ _ ⟨rfl,rfl⟩; exact upd rfl [3,4,5,6,7,8,9,10,11,12,13,14,15,16,17,18,19,20,21,22] rfl rfl) ?_ ?_
                 ·rintro _ _ ⟨rfl,rfl⟩
                  refine T.ef0 rfl rfl (wanted_none rfl) (d_storeG0 (i:=0) (cs2:=[v161_9,v161_10]) ti88 rfl rfl rfl rfl rfl (Nat.le_of_ble_eq_true rfl) (lf_cons (sl_leaf hl_v161_9) (lf_cons (sl_leaf hl_v161_10) lf_nil))) (by rintro _ _ ⟨rfl,rfl⟩; exact upd rfl [3,4,5,6,7,8,9,10,11,12,13,14,15,16,17,18,19,20,21,22] rfl rfl) ?_ ?_
                  ·rintro _ _ ⟨rfl,rfl⟩
                   refine T.nil ?_
                   refine F.qn rfl (r_assign rfl) ?_
                   refine F.nil (Nrm.imp (cloS1 (cs:=[R.sl S156_0_2 v156_0_2 (t156 : List (Int))]) (rest:=[R.box b28_15 88 [v161_9,v161_10],R.sl S161_9 v161_9 (t161_1 : List (Int × List (Int × Int × Int) × List Int)),R.sl S161_10 v161_10 (t161_2 : List (List Int)),R.box b18_1 88 [v96_1,v96_2],R.box b14_1 88 [v86_1,v86_2],R.box b10_1 88 [v67_1,v67_2],R.box b9_1 27 [.int .i64 t64_1,v64_1,v64_2],R.box b5_1 88 [v45_1,v45_2],R.box b3_1 88 [v39_1,v39_2],R.sl S39_1 v39_1 (t39_1 : List (Int × List (Int × Int × Int) × List Int)),R.sl S39_2 v39_2 (t39_2 : List (List Int)),R.sl S39_3 v39_3 (t39_3 : List (Int)),R.sl S45_1 v45_1 (t45_1 : List (Int × List (Int × Int × Int) × List Int)),R.sl S45_2 v45_2 (t45_2 : List (List Int)),R.sl S64_1 v64_1 (t64_2 : List (Int × Int × Int)),R.sl S64_2 v64_2 (t64_3 : List (Int)),R.sl S67_1 v67_1 (t67_1 : List (Int × List (Int × Int × Int) × List Int)),R.sl S67_2 v67_2 (t67_2 : List (List Int)),R.sl S86_1 v86_1 (t86_1 : List (Int × List (Int × Int × Int) × List Int)),R.sl S96_1 v96_1 (t96_1 : List (Int × List (Int × Int × Int) × List Int)),R.sl S96_2 v96_2 (t96_2 : List (List Int))]) [3,4] [0,1,2,5,6,7,8,9,10,11,12,13,14,15,16,17,18,19,20,21,22] rfl rfl (jn_sl (S:=S156_0_2) (v:=v156_0_2) (l:=(t156 : List (Int)))) hS156_2) ?_)
                   cases hE_11
                   refine Nrm.only [3,4,5,6,14,28,29] rfl ?_
                   refine Nrm.pick [5,8,9,1,0,2,3,10,11,12,13,14,19] rfl rfl ?_
                   exact hj_9 _ _ ⟨v86_2,S86_2,v161_9,S161_9,v161_10,S161_10,b28_15,(len_set hl_v86_2),hl_v161_9,hl_v161_10,rfl,rfl⟩
                  exact T.stop
                 exact T.stop
                exact T.stop
              ·refine T.ef rfl rfl rfl (wanted_none rfl) (Makes.does (m_alloc ti88)) (by rintro _ _ ⟨b28_16,rfl,rfl⟩; exact upd rfl [3,4,5,6,7,8,9,10,11,12,13,14,15,16,17,18,19,20,21,22] rfl rfl) ?_ ?_
               ·rintro _ _ ⟨b28_16,rfl,rfl⟩
                refine T.ef rfl rfl rfl (wanted_none rfl) (Runs.does (r_extract rfl rfl)) (by rintro _ _ ⟨rfl,rfl⟩; exact upd rfl [3,4,5,6,7,8,9,10,11,12,13,14,15,16,17,18,19,20,21,22] rfl rfl) ?_ ?_
                ·rintro _ _ ⟨rfl,rfl⟩
                 refine T.ef rfl rfl rfl (wanted_none rfl) (Runs.does (r_extract rfl rfl)) (by rintro _ _ ⟨rfl,rfl⟩; exact upd rfl [3,4,5,6,7,8,9,10,11,12,13,14,15,16,17,18,19,20,21,22] rfl rfl) ?_ ?_
                 ·rintro _ _ ⟨rfl,rfl⟩
                  refine T.ef0 rfl rfl (wanted_none rfl) (d_storeG0 (i:=0) (cs2:=[v161_9,v161_10]) ti88 rfl rfl rfl rfl rfl (Nat.le_of_ble_eq_true rfl) (lf_cons (sl_leaf hl_v161_9) (lf_cons (sl_leaf hl_v161_10) lf_nil))) (by rintro _ _ ⟨rfl,rfl⟩; exact upd rfl [3,4,5,6,7,8,9,10,11,12,13,14,15,16,17,18,19,20,21,22] rfl rfl) ?_ ?_
                  ·rintro _ _ ⟨rfl,rfl⟩
                   refine T.nil ?_
                   refine F.qn rfl (r_assign rfl) ?_
                   refine F.nil (Nrm.imp (cloS1 (cs:=[R.sl S156_0_2 v156_0_2 (t156 : List (Int))]) (rest:=[R.box b28_16 88 [v161_9,v161_10],R.sl S161_9 v161_9 (t161_1 : List (Int × List (Int × Int × Int) × List Int)),R.sl S161_10 v161_10 (t161_2 : List (List Int)),R.box b18_1 88 [v96_1,v96_2],R.box b14_1 88 [v86_1,v86_2],R.box b10_1 88 [v67_1,v67_2],R.box b9_1 27 [.int .i64 t64_1,v64_1,v64_2],R.box b5_1 88 [v45_1,v45_2],R.box b3_1 88 [v39_1,v39_2],R.sl S39_1 v39_1 (t39_1 : List (Int × List (Int × Int × Int) × List Int)),R.sl S39_2 v39_2 (t39_2 : List (List Int)),R.sl S39_3 v39_3 (t39_3 : List (Int)),R.sl S45_1 v45_1 (t45_1 : List (Int × List (Int × Int × Int) × List Int)),R.sl S45_2 v45_2 (t45_2 : List (List Int)),R.sl S64_1 v64_1 (t64_2 : List (Int × Int × Int)),R.sl S64_2 v64_2 (t64_3 : List (Int)),R.sl S67_1 v67_1 (t67_1 : List (Int × List (Int × Int × Int) × List Int)),R.sl S67_2 v67_2 (t67_2 : List (List Int)),R.sl S86_1 v86_1 (t86_1 : List (Int × List (Int × Int × Int) × List Int)),R.sl S96_1 v96_1 (t96_1 : List (Int × List (Int × Int × Int) × List Int)),R.sl S96_2 v96_2 (t96_2 : List (List Int))]) [3,4] [0,1,2,5,6,7,8,9,10,11,12,13,14,15,16,17,18,19,20,21,22] rfl rfl (jn_sl (S:=S156_0_2) (v:=v156_0_2) (l:=(t156 : List (Int)))) hS156_2) ?_)
                   cases hE_11
                   refine Nrm.only [3,4,5,6,14,28,29] rfl ?_
                   refine Nrm.pick [5,8,9,1,0,2,3,10,11,12,13,14,19] rfl rfl ?_
                   exact hj_9 _ _ ⟨v86_2,S86_2,v161_9,S161_9,v161_10,S161_10,b28_16,(len_set hl_v86_2),hl_v161_9,hl_v161_10,rfl,rfl⟩
                  exact T.stop
                 ·refine T.ef0 rfl rfl (wanted_none rfl) (d_storeG0 (i:=0) (cs2:=[v161_9,v161_10]) ti88 rfl rfl rfl rfl rfl (Nat.le_of_ble_eq_true rfl) (lf_cons (sl_leaf hl_v161_9) (lf_cons (sl_leaf hl_v161_10) lf_nil))) (by rintro _ _ ⟨rfl,rfl⟩; exact upd rfl [3,4,5,6,7,8,9,10,11,12,13,14,15,16,17,18,19,20,21,22] rfl rfl) ?_ ?_
                  ·rintro _ _ ⟨rfl,rfl⟩
                   refine T.ef rfl rfl rfl (wanted_none rfl) (Runs.does (r_extract rfl rfl)) (by rintro _ _ ⟨rfl,rfl⟩; exact upd rfl [3,4,5,6,7,8,9,10,11,12,13,14,15,16,17,18,19,20,21,22] rfl rfl) ?_ ?_
                   ·rintro _ _ ⟨rfl,rfl⟩
                    refine T.nil ?_
                    refine F.qn rfl (r_assign rfl) ?_
                    refine F.nil (Nrm.imp (cloS1 (cs:=[R.sl S156_0_2 v156_0_2 (t156 : List (Int))]) (rest:=[R.box b28_16 88 [v161_9,v161_10],R.sl S161_9 v161_9 (t161_1 : List (Int × List (Int × Int × Int) × List Int)),R.sl S161_10 v161_10 (t161_2 : List (List Int)),R.box b18_1 88 [v96_1,v96_2],R.box b14_1 88 [v86_1,v86_2],R.box b10_1 88 [v67_1,v67_2],R.box b9_1 27 [.int .i64 t64_1,v64_1,v64_2],R.box b5_1 88 [v45_1,v45_2],R.box b3_1 88 [v39_1,v39_2],R.sl S39_1 v39_1 (t39_1 : List (Int × List (Int × Int × Int) × List Int)),R.sl S39_2 v39_2 (t39_2 : List (List Int)),R.sl S39_3 v39_3 (t39_3 : List (Int)),R.sl S45_1 v45_1 (t45_1 : List (Int × List (Int × Int × Int) × List Int)),R.sl S45_2 v45_2 (t45_2 : List (List Int)),R.sl S64_1 v64_1 (t64_2 : List (Int × Int × Int)),R.sl S64_2 v64_2 (t64_3 : List (Int)),R.sl S67_1 v67_1 (t67_1 : List (Int × List (Int × Int × Int) × List Int)),R.sl S67_2 v67_2 (t67_2 : List (List Int)),R.sl S86_1 v86_1 (t86_1 : List (Int × List (Int × Int × Int) × List Int)),R.sl S96_1 v96_1 (t96_1 : List (Int × List (Int × Int × Int) × List Int)),R.sl S96_2 v96_2 (t96_2 : List (List Int))]) [3,4] [0,1,2,5,6,7,8,9,10,11,12,13,14,15,16,17,18,19,20,21,22] rfl rfl (jn_sl (S:=S156_0_2) (v:=v156_0_2) (l:=(t156 : List (Int)))) hS156_2) ?_)
                    cases hE_11
                    refine Nrm.only [3,4,5,6,14,28,29] rfl ?_
                    refine Nrm.pick [5,8,9,1,0,2,3,10,11,12,13,14,19] rfl rfl ?_
                    exact hj_9 _ _ ⟨v86_2,S86_2,v161_9,S161_9,v161_10,S161_10,b28_16,(len_set hl_v86_2),hl_v161_9,hl_v161_10,rfl,rfl⟩
                   exact T.stop
                  exact T.stop
                ·refine T.ef rfl rfl rfl (wanted_none rfl) (Runs.does (r_extract rfl rfl)) (by rintro _ _ ⟨rfl,rfl⟩; exact upd rfl [3,4,5,6,7,8,9,10,11,12,13,14,15,16,17,18,19,20,21,22] rfl rfl) ?_ ?_
                 ·rintro _ _ ⟨rfl,rfl⟩
                  refine T.ef rfl rfl rfl (wanted_none rfl) (Runs.does (r_extract rfl rfl)) (by rintro _ _ ⟨rfl,rfl⟩; exact upd rfl [3,4,5,6,7,8,9,10,11,12,13,14,15,16,17,18,19,20,21,22] rfl rfl) ?_ ?_
                  ·rintro _ _ ⟨rfl,rfl⟩
                   refine T.ef0 rfl rfl (wanted_none rfl) (d_storeG0 (i:=0) (cs2:=[v161_9,v161_10]) ti88 rfl rfl rfl rfl rfl (Nat.le_of_ble_eq_true rfl) (lf_cons (sl_leaf hl_v161_9) (lf_cons (sl_leaf hl_v161_10) lf_nil))) (by rintro _ _ ⟨rfl,rfl⟩; exact upd rfl [3,4,5,6,7,8,9,10,11,12,13,14,15,16,17,18,19,20,21,22] rfl rfl) ?_ ?_
                   ·rintro _ _ ⟨rfl,rfl⟩
                    refine T.nil ?_
                    refine F.qn rfl (r_assign rfl) ?_
                    refine F.nil (Nrm.imp (cloS1 (cs:=[R.sl S156_0_2 v156_0_2 (t156 : List (Int))]) (rest:=[R.box b28_16 88 [v161_9,v161_10],R.sl S161_9 v161_9 (t161_1 : List (Int × List (Int × Int × Int) × List Int)),R.sl S161_10 v161_10 (t161_2 : List (List Int)),R.box b18_1 88 [v96_1,v96_2],R.box b14_1 88 [v86_1,v86_2],R.box b10_1 88 [v67_1,v67_2],R.box b9_1 27 [.int .i64 t64_1,v64_1,v64_2],R.box b5_1 88 [v45_1,v45_2],R.box b3_1 88 [v39_1,v39_2],R.sl S39_1 v39_1 (t39_1 : List (Int × List (Int × Int × Int) × List Int)),R.sl S39_2 v39_2 (t39_2 : List (List Int)),R.sl S39_3 v39_3 (t39_3 : List (Int)),R.sl S45_1 v45_1 (t45_1 : List (Int × List (Int × Int × Int) × List Int)),R.sl S45_2 v45_2 (t45_2 : List (List Int)),R.sl S64_1 v64_1 (t64_2 : List (Int × Int × Int)),R.sl S64_2 v64_2 (t64_3 : List (Int)),R.sl S67_1 v67_1 (t67_1 : List (Int × List (Int × Int × Int) × List Int)),R.sl S67_2 v67_2 (t67_2 : List (List Int)),R.sl S86_1 v86_1 (t86_1 : List (Int × List (Int × Int × Int) × List Int)),R.sl S96_1 v96_1 (t96_1 : List (Int × List (Int × Int × Int) × List Int)),R.sl S96_2 v96_2 (t96_2 : List (List Int))]) [3,4] [0,1,2,5,6,7,8,9,10,11,12,13,14,15,16,17,18,19,20,21,22] rfl rfl (jn_sl (S:=S156_0_2) (v:=v156_0_2) (l:=(t156 : List (Int)))) hS156_2) ?_)
                    cases hE_11
                    refine Nrm.only [3,4,5,6,14,28,29] rfl ?_
                    refine Nrm.pick [5,8,9,1,0,2,3,10,11,12,13,14,19] rfl rfl ?_
                    exact hj_9 _ _ ⟨v86_2,S86_2,v161_9,S161_9,v161_10,S161_10,b28_16,(len_set hl_v86_2),hl_v161_9,hl_v161_10,rfl,rfl⟩
                   exact T.stop
                  exact T.stop
                 exact T.stop
               exact T.stop
            ·refine T.ef rfl rfl rfl (wanted_none rfl) (Makes.does (m_alloc ti88)) (by rintro _ _ ⟨b28_17,rfl,rfl⟩; exact upd rfl [3,4,5,6,7,8,9,10,11,12,13,14,15,16,17,18,19,20,21,22] rfl rfl) ?_ ?_
             ·rintro _ _ ⟨b28_17,rfl,rfl⟩
              refine T.ef rfl rfl rfl (wanted_none rfl) (Runs.does (r_move rfl)) (by rintro _ _ ⟨rfl,rfl⟩; exact upd rfl [3,4,5,6,7,8,9,10,11,12,13,14,15,16,17,18,19,20,21,22] rfl rfl) ?_ ?_
              ·rintro _ _ ⟨rfl,rfl⟩
               refine T.ef rfl rfl rfl (wanted_none rfl) (Runs.does (r_extract rfl rfl)) (by rintro _ _ ⟨rfl,rfl⟩; exact upd rfl [3,4,5,6,7,8,9,10,11,12,13,14,15,16,17,18,19,20,21,22] rfl rfl) ?_ ?_
               ·rintro _ _ ⟨rfl,rfl⟩
                refine T.ef rfl rfl rfl (wanted_none rfl) (Runs.does (r_extract rfl rfl)) (by rintro _ _ ⟨rfl,rfl⟩; exact upd rfl [3,4,5,6,7,8,9,10,11,12,13,14,15,16,17,18,19,20,21,22] rfl rfl) ?_ ?_
                ·rintro _ _ ⟨rfl,rfl⟩
                 refine T.ef0 rfl rfl (wanted_none rfl) (d_storeG0 (i:=0) (cs2:=[v161_9,v161_10]) ti88 rfl rfl rfl rfl rfl (Nat.le_of_ble_eq_true rfl) (lf_cons (sl_leaf hl_v161_9) (lf_cons (sl_leaf hl_v161_10) lf_nil))) (by rintro _ _ ⟨rfl,rfl⟩; exact upd rfl [3,4,5,6,7,8,9,10,11,12,13,14,15,16,17,18,19,20,21,22] rfl rfl) ?_ ?_
                 ·rintro _ _ ⟨rfl,rfl⟩
                  refine T.nil ?_
                  refine F.qn rfl (r_assign rfl) ?_
                  refine F.nil (Nrm.imp (cloS1 (cs:=[R.sl S156_0_2 v156_0_2 (t156 : List (Int))]) (rest:=[R.box b28_17 88 [v161_9,v161_10],R.sl S161_9 v161_9 (t161_1 : List (Int × List (Int × Int × Int) × List Int)),R.sl S161_10 v161_10 (t161_2 : List (List Int)),R.box b18_1 88 [v96_1,v96_2],R.box b14_1 88 [v86_1,v86_2],R.box b10_1 88 [v67_1,v67_2],R.box b9_1 27 [.int .i64 t64_1,v64_1,v64_2],R.box b5_1 88 [v45_1,v45_2],R.box b3_1 88 [v39_1,v39_2],R.sl S39_1 v39_1 (t39_1 : List (Int × List (Int × Int × Int) × List Int)),R.sl S39_2 v39_2 (t39_2 : List (List Int)),R.sl S39_3 v39_3 (t39_3 : List (Int)),R.sl S45_1 v45_1 (t45_1 : List (Int × List (Int × Int × Int) × List Int)),R.sl S45_2 v45_2 (t45_2 : List (List Int)),R.sl S64_1 v64_1 (t64_2 : List (Int × Int × Int)),R.sl S64_2 v64_2 (t64_3 : List (Int)),R.sl S67_1 v67_1 (t67_1 : List (Int × List (Int × Int × Int) × List Int)),R.sl S67_2 v67_2 (t67_2 : List (List Int)),R.sl S86_1 v86_1 (t86_1 : List (Int × List (Int × Int × Int) × List Int)),R.sl S96_1 v96_1 (t96_1 : List (Int × List (Int × Int × Int) × List Int)),R.sl S96_2 v96_2 (t96_2 : List (List Int))]) [3,4] [0,1,2,5,6,7,8,9,10,11,12,13,14,15,16,17,18,19,20,21,22] rfl rfl (jn_sl (S:=S156_0_2) (v:=v156_0_2) (l:=(t156 : List (Int)))) hS156_2) ?_)
                  cases hE_11
                  refine Nrm.only [3,4,5,6,14,28,29] rfl ?_
                  refine Nrm.pick [5,8,9,1,0,2,3,10,11,12,13,14,19] rfl rfl ?_
                  exact hj_9 _ _ ⟨v86_2,S86_2,v161_9,S161_9,v161_10,S161_10,b28_17,(len_set hl_v86_2),hl_v161_9,hl_v161_10,rfl,rfl⟩
                 exact T.stop
                ·refine T.ef0 rfl rfl (wanted_none rfl) (d_storeG0 (i:=0) (cs2:=[v161_9,v161_10]) ti88 rfl rfl rfl rfl rfl (Nat.le_of_ble_eq_true rfl) (lf_cons (sl_leaf hl_v161_9) (lf_cons (sl_leaf hl_v161_10) lf_nil))) (by rintro _ _ ⟨rfl,rfl⟩; exact upd rfl [3,4,5,6,7,8,9,10,11,12,13,14,15,16,17,18,19,20,21,22] rfl rfl) ?_ ?_
                 ·rintro _ _ ⟨rfl,rfl⟩
                  refine T.ef rfl rfl rfl (wanted_none rfl) (Runs.does (r_extract rfl rfl)) (by rintro _ _ ⟨rfl,rfl⟩; exact upd rfl [3,4,5,6,7,8,9,10,11,12,13,14,15,16,17,18,19,20,21,22] rfl rfl) ?_ ?_
                  ·rintro _ _ ⟨rfl,rfl⟩
                   refine T.nil ?_
                   refine F.qn rfl (r_assign rfl) ?_
                   refine F.nil (Nrm.imp (cloS1 (cs:=[R.sl S156_0_2 v156_0_2 (t156 : List (Int))]) (rest:=[R.box b28_17 88 [v161_9,v161_10],R.sl S161_9 v161_9 (t161_1 : List (Int × List (Int × Int × Int) × List Int)),R.sl S161_10 v161_10 (t161_2 : List (List Int)),R.box b18_1 88 [v96_1,v96_2],R.box b14_1 88 [v86_1,v86_2],R.box b10_1 88 [v67_1,v67_2],R.box b9_1 27 [.int .i64 t64_1,v64_1,v64_2],R.box b5_1 88 [v45_1,v45_2],R.box b3_1 88 [v39_1,v39_2],R.sl S39_1 v39_1 (t39_1 : List (Int × List (Int × Int × Int) × List Int)),R.sl S39_2 v39_2 (t39_2 : List (List Int)),R.sl S39_3 v39_3 (t39_3 : List (Int)),R.sl S45_1 v45_1 (t45_1 : List (Int × List (Int × Int × Int) × List Int)),R.sl S45_2 v45_2 (t45_2 : List (List Int)),R.sl S64_1 v64_1 (t64_2 : List (Int × Int × Int)),R.sl S64_2 v64_2 (t64_3 : List (Int)),R.sl S67_1 v67_1 (t67_1 : List (Int × List (Int × Int × Int) × List Int)),R.sl S67_2 v67_2 (t67_2 : List (List Int)),R.sl S86_1 v86_1 (t86_1 : List (Int × List (Int × Int × Int) × List Int)),R.sl S96_1 v96_1 (t96_1 : List (Int × List (Int × Int × Int) × List Int)),R.sl S96_2 v96_2 (t96_2 : List (List Int))]) [3,4] [0,1,2,5,6,7,8,9,10,11,12,13,14,15,16,17,18,19,20,21,22] rfl rfl (jn_sl (S:=S156_0_2) (v:=v156_0_2) (l:=(t156 : List (Int)))) hS156_2) ?_)
                   cases hE_11
                   refine Nrm.only [3,4,5,6,14,28,29] rfl ?_
                   refine Nrm.pick [5,8,9,1,0,2,3,10,11,12,13,14,19] rfl rfl ?_
                   exact hj_9 _ _ ⟨v86_2,S86_2,v161_9,S161_9,v161_10,S161_10,b28_17,(len_set hl_v86_2),hl_v161_9,hl_v161_10,rfl,rfl⟩
                  exact T.stop
                 exact T.stop
               ·refine T.ef rfl rfl rfl (wanted_none rfl) (Runs.does (r_extract rfl rfl)) (by rintro _ _ ⟨rfl,rfl⟩; exact upd rfl [3,4,5,6,7,8,9,10,11,12,13,14,15,16,17,18,19,20,21,22] rfl rfl) ?_ ?_
                ·rintro _ _ ⟨rfl,rfl⟩
                 refine T.ef rfl rfl rfl (wanted_none rfl) (Runs.does (r_extract rfl rfl)) (by rintro _ _ ⟨rfl,rfl⟩; exact upd rfl [3,4,5,6,7,8,9,10,11,12,13,14,15,16,17,18,19,20,21,22] rfl rfl) ?_ ?_
                 ·rintro _ _ ⟨rfl,rfl⟩
                  refine T.ef0 rfl rfl (wanted_none rfl) (d_storeG0 (i:=0) (cs2:=[v161_9,v161_10]) ti88 rfl rfl rfl rfl rfl (Nat.le_of_ble_eq_true rfl) (lf_cons (sl_leaf hl_v161_9) (lf_cons (sl_leaf hl_v161_10) lf_nil))) (by rintro _ _ ⟨rfl,rfl⟩; exact upd rfl [3,4,5,6,7,8,9,10,11,12,13,14,15,16,17,18,19,20,21,22] rfl rfl) ?_ ?_
                  ·rintro _ _ ⟨rfl,rfl⟩
                   refine T.nil ?_
                   refine F.qn rfl (r_assign rfl) ?_
                   refine F.nil (Nrm.imp (cloS1 (cs:=[R.sl S156_0_2 v156_0_2 (t156 : List (Int))]) (rest:=[R.box b28_17 88 [v161_9,v161_10],R.sl S161_9 v161_9 (t161_1 : List (Int × List (Int × Int × Int) × List Int)),R.sl S161_10 v161_10 (t161_2 : List (List Int)),R.box b18_1 88 [v96_1,v96_2],R.box b14_1 88 [v86_1,v86_2],R.box b10_1 88 [v67_1,v67_2],R.box b9_1 27 [.int .i64 t64_1,v64_1,v64_2],R.box b5_1 88 [v45_1,v45_2],R.box b3_1 88 [v39_1,v39_2],R.sl S39_1 v39_1 (t39_1 : List (Int × List (Int × Int × Int) × List Int)),R.sl S39_2 v39_2 (t39_2 : List (List Int)),R.sl S39_3 v39_3 (t39_3 : List (Int)),R.sl S45_1 v45_1 (t45_1 : List (Int × List (Int × Int × Int) × List Int)),R.sl S45_2 v45_2 (t45_2 : List (List Int)),R.sl S64_1 v64_1 (t64_2 : List (Int × Int × Int)),R.sl S64_2 v64_2 (t64_3 : List (Int)),R.sl S67_1 v67_1 (t67_1 : List (Int × List (Int × Int × Int) × List Int)),R.sl S67_2 v67_2 (t67_2 : List (List Int)),R.sl S86_1 v86_1 (t86_1 : List (Int × List (Int × Int × Int) × List Int)),R.sl S96_1 v96_1 (t96_1 : List (Int × List (Int × Int × Int) × List Int)),R.sl S96_2 v96_2 (t96_2 : List (List Int))]) [3,4] [0,1,2,5,6,7,8,9,10,11,12,13,14,15,16,17,18,19,20,21,22] rfl rfl (jn_sl (S:=S156_0_2) (v:=v156_0_2) (l:=(t156 : List (Int)))) hS156_2) ?_)
                   cases hE_11
                   refine Nrm.only [3,4,5,6,14,28,29] rfl ?_
                   refine Nrm.pick [5,8,9,1,0,2,3,10,11,12,13,14,19] rfl rfl ?_
                   exact hj_9 _ _ ⟨v86_2,S86_2,v161_9,S161_9,v161_10,S161_10,b28_17,(len_set hl_v86_2),hl_v161_9,hl_v161_10,rfl,rfl⟩
                  exact T.stop
                 exact T.stop
                exact T.stop
              exact T.stop
             exact T.stop
           ·refine T.ef rfl rfl rfl (wanted_none rfl) (Makes.does (m_alloc ti88)) (by rintro _ _ ⟨b28_18,rfl,rfl⟩; exact upd rfl [1,2,3,4,5,6,7,8,9,10,11,12,13,14,15,16,17,18,19,20] rfl rfl) ?_ ?_
            ·rintro _ _ ⟨b28_18,rfl,rfl⟩
             refine T.ef rfl rfl rfl (wanted_none rfl) (Makes.does (m_callF (xs:=_) rfl ok78 rfl rfl (fun w hw=>impl_GiveKeys.ok h161 w ((rd_sl (i:=19) rfl) w hw) ((rd_sl (i:=20) rfl) w hw)))) (by rintro _ _ ⟨_,⟨v161_11,S161_11,v161_12,S161_12,rfl,hl_v161_11,hl_v161_12,rfl⟩,rfl⟩; exact upd rfl [3,4,5,6,7,8,9,10,11,12,13,14,15,16,17,18,19,20,21,22] rfl rfl) ?_ ?_
             ·rintro _ _ ⟨_,⟨v161_11,S161_11,v161_12,S161_12,rfl,hl_v161_11,hl_v161_12,rfl⟩,rfl⟩
              refine T.ef rfl rfl rfl (wanted_none rfl) (Runs.does (r_move rfl)) (by rintro _ _ ⟨rfl,rfl⟩; exact upd rfl [3,4,5,6,7,8,9,10,11,12,13,14,15,16,17,18,19,20,21,22] rfl rfl) ?_ ?_
              ·rintro _ _ ⟨rfl,rfl⟩
               refine T.ef rfl rfl rfl (wanted_none rfl) (Runs.does (r_extract rfl rfl)) (by rintro _ _ ⟨rfl,rfl⟩; exact upd rfl [3,4,5,6,7,8,9,10,11,12,13,14,15,16,17,18,19,20,21,22] rfl rfl) ?_ ?_
               ·rintro _ _ ⟨rfl,rfl⟩
                refine T.ef rfl rfl rfl (wanted_none rfl) (Runs.does (r_extract rfl rfl)) (by rintro _ _ ⟨rfl,rfl⟩; exact upd rfl [3,4,5,6,7,8,9,10,11,12,13,14,15,16,17,18,19,20,21,22] rfl rfl) ?_ ?_
                ·rintro _ _ ⟨rfl,rfl⟩
                 refine T.ef0 rfl rfl (wanted_none rfl) (d_storeG0 (i:=2) (cs2:=[v161_11,v161_12]) ti88 rfl rfl rfl rfl rfl (Nat.le_of_ble_eq_true rfl) (lf_cons (sl_leaf hl_v161_11) (lf_cons (sl_leaf hl_v161_12) lf_nil))) (by rintro _ _ ⟨rfl,rfl⟩; exact upd rfl [3,4,5,6,7,8,9,10,11,12,13,14,15,16,17,18,19,20,21,22] rfl rfl) ?_ ?_
                 ·rintro _ _ ⟨rfl,rfl⟩
                  refine T.nil ?_
                  refine F.qn rfl (r_assign rfl) ?_
                  refine F.nil (Nrm.imp (cloS1 (cs:=[R.sl S156_0_2 v156_0_2 (t156 : List (Int))]) (rest:=[R.sl S161_11 v161_11 (t161_1 : List (Int × List (Int × Int × Int) × List Int)),R.sl S161_12 v161_12 (t161_2 : List (List Int)),R.box b28_18 88 [v161_11,v161_12],R.box b18_1 88 [v96_1,v96_2],R.box b14_1 88 [v86_1,v86_2],R.box b10_1 88 [v67_1,v67_2],R.box b9_1 27 [.int .i64 t64_1,v64_1,v64_2],R.box b5_1 88 [v45_1,v45_2],R.box b3_1 88 [v39_1,v39_2],R.sl S39_1 v39_1 (t39_1 : List (Int × List (Int × Int × Int) × List Int)),R.sl S39_2 v39_2 (t39_2 : List (List Int)),R.sl S39_3 v39_3 (t39_3 : List (Int)),R.sl S45_1 v45_1 (t45_1 : List (Int × List (Int × Int × Int) × List Int)),R.sl S45_2 v45_2 (t45_2 : List (List Int)),R.sl S64_1 v64_1 (t64_2 : List (Int × Int × Int)),R.sl S64_2 v64_2 (t64_3 : List (Int)),R.sl S67_1 v67_1 (t67_1 : List (Int × List (Int × Int × Int) × List Int)),R.sl S67_2 v67_2 (t67_2 : List (List Int)),R.sl S86_1 v86_1 (t86_1 : List (Int × List (Int × Int × Int) × List Int)),R.sl S96_1 v96_1 (t96_1 : List (Int × List (Int × Int × Int) × List Int)),R.sl S96_2 v96_2 (t96_2 : List (List Int))]) [3,4] [0,1,2,5,6,7,8,9,10,11,12,13,14,15,16,17,18,19,20,21,22] rfl rfl (jn_sl (S:=S156_0_2) (v:=v156_0_2) (l:=(t156 : List (Int)))) hS156_2) ?_)
                  cases hE_11
                  refine Nrm.only [3,4,5,6,14,28,29] rfl ?_
                  refine Nrm.pick [5,8,9,3,0,1,2,10,11,12,13,14,19] rfl rfl ?_
                  exact hj_9 _ _ ⟨v86_2,S86_2,v161_11,S161_11,v161_12,S161_12,b28_18,(len_set hl_v86_2),hl_v161_11,hl_v161_12,rfl,rfl⟩
                 exact T.stop
                ·refine T.ef0 rfl rfl (wanted_none rfl) (d_storeG0 (i:=2) (cs2:=[v161_11,v161_12]) ti88 rfl rfl rfl rfl rfl (Nat.le_of_ble_eq_true rfl) (lf_cons (sl_leaf hl_v161_11) (lf_cons (sl_leaf hl_v161_12) lf_nil))) (by rintro _ _ ⟨rfl,rfl⟩; exact upd rfl [3,4,5,6,7,8,9,10,11,12,13,14,15,16,17,18,19,20,21,22] rfl rfl) ?_ ?_
                 ·rintro _ _ ⟨rfl,rfl⟩
                  refine T.ef rfl rfl rfl (wanted_none rfl) (Runs.does (r_extract rfl rfl)) (by rintro _ _ ⟨rfl,rfl⟩; exact upd rfl [3,4,5,6,7,8,9,10,11,12,13,14,15,16,17,18,19,20,21,22] rfl rfl) ?_ ?_
                  ·rintro _ _ ⟨rfl,rfl⟩
                   refine T.nil ?_
                   refine F.qn rfl (r_assign rfl) ?_
                   refine F.nil (Nrm.imp (cloS1 (cs:=[R.sl S156_0_2 v156_0_2 (t156 : List (Int))]) (rest:=[R.sl S161_11 v161_11 (t161_1 : List (Int × List (Int × Int × Int) × List Int)),R.sl S161_12 v161_12 (t161_2 : List (List Int)),R.box b28_18 88 [v161_11,v161_12],R.box b18_1 88 [v96_1,v96_2],R.box b14_1 88 [v86_1,v86_2],R.box b10_1 88 [v67_1,v67_2],R.box b9_1 27 [.int .i64 t64_1,v64_1,v64_2],R.box b5_1 88 [v45_1,v45_2],R.box b3_1 88 [v39_1,v39_2],R.sl S39_1 v39_1 (t39_1 : List (Int × List (Int × Int × Int) × List Int)),R.sl S39_2 v39_2 (t39_2 : List (List Int)),R.sl S39_3 v39_3 (t39_3 : List (Int)),R.sl S45_1 v45_1 (t45_1 : List (Int × List (Int × Int × Int) × List Int)),R.sl S45_2 v45_2 (t45_2 : List (List Int)),R.sl S64_1 v64_1 (t64_2 : List (Int × Int × Int)),R.sl S64_2 v64_2 (t64_3 : List (Int)),R.sl S67_1 v67_1 (t67_1 : List (Int × List (Int × Int × Int) × List Int)),R.sl S67_2 v67_2 (t67_2 : List (List Int)),R.sl S86_1 v86_1 (t86_1 : List (Int × List (Int × Int × Int) × List Int)),R.sl S96_1 v96_1 (t96_1 : List (Int × List (Int × Int × Int) × List Int)),R.sl S96_2 v96_2 (t96_2 : List (List Int))]) [3,4] [0,1,2,5,6,7,8,9,10,11,12,13,14,15,16,17,18,19,20,21,22] rfl rfl (jn_sl (S:=S156_0_2) (v:=v156_0_2) (l:=(t156 : List (Int)))) hS156_2) ?_)
                   cases hE_11
                   refine Nrm.only [3,4,5,6,14,28,29] rfl ?_
                   refine Nrm.pick [5,8,9,3,0,1,2,10,11,12,13,14,19] rfl rfl ?_
                   exact hj_9 _ _ ⟨v86_2,S86_2,v161_11,S161_11,v161_12,S161_12,b28_18,(len_set hl_v86_2),hl_v161_11,hl_v161_12,rfl,rfl⟩
                  exact T.stop
                 exact T.stop
               ·refine T.ef rfl rfl rfl (wanted_none rfl) (Runs.does (r_extract rfl rfl)) (by rintro _ _ ⟨rfl,rfl⟩; exact upd rfl [3,4,5,6,7,8,9,10,11,12,13,14,15,16,17,18,19,20,21,22] rfl rfl) ?_ ?_
                ·rintro _ _ ⟨rfl,rfl⟩
                 refine T.ef rfl rfl rfl (wanted_none rfl) (Runs.does (r_extract rfl rfl)) (by rintro _ _ ⟨rfl,rfl⟩; exact upd rfl [3,4,5,6,7,8,9,10,11,12,13,14,15,16,17,18,19,20,21,22] rfl rfl) ?_ ?_
                 ·rintro _ _ ⟨rfl,rfl⟩
                  refine T.ef0 rfl rfl (wanted_none rfl) (d_storeG0 (i:=2) (cs2:=[v161_11,v161_12]) ti88 rfl rfl rfl rfl rfl (Nat.le_of_ble_eq_true rfl) (lf_cons (sl_leaf hl_v161_11) (lf_cons (sl_leaf hl_v161_12) lf_nil))) (by rintro _ _ ⟨rfl,rfl⟩; exact upd rfl [3,4,5,6,7,8,9,10,11,12,13,14,15,16,17,18,19,20,21,22] rfl rfl) ?_ ?_
                  ·rintro _ _ ⟨rfl,rfl⟩
                   refine T.nil ?_
                   refine F.qn rfl (r_assign rfl) ?_
                   refine F.nil (Nrm.imp (cloS1 (cs:=[R.sl S156_0_2 v156_0_2 (t156 : List (Int))]) (rest:=[R.sl S161_11 v161_11 (t161_1 : List (Int × List (Int × Int × Int) × List Int)),R.sl S161_12 v161_12 (t161_2 : List (List Int)),R.box b28_18 88 [v161_11,v161_12],R.box b18_1 88 [v96_1,v96_2],R.box b14_1 88 [v86_1,v86_2],R.box b10_1 88 [v67_1,v67_2],R.box b9_1 27 [.int .i64 t64_1,v64_1,v64_2],R.box b5_1 88 [v45_1,v45_2],R.box b3_1 88 [v39_1,v39_2],R.sl S39_1 v39_1 (t39_1 : List (Int × List (Int × Int × Int) × List Int)),R.sl S39_2 v39_2 (t39_2 : List (List Int)),R.sl S39_3 v39_3 (t39_3 : List (Int)),R.sl S45_1 v45_1 (t45_1 : List (Int × List (Int × Int × Int) × List Int)),R.sl S45_2 v45_2 (t45_2 : List (List Int)),R.sl S64_1 v64_1 (t64_2 : List (Int × Int × Int)),R.sl S64_2 v64_2 (t64_3 : List (Int)),R.sl S67_1 v67_1 (t67_1 : List (Int × List (Int × Int × Int) × List Int)),R.sl S67_2 v67_2 (t67_2 : List (List Int)),R.sl S86_1 v86_1 (t86_1 : List (Int × List (Int × Int × Int) × List Int)),R.sl S96_1 v96_1 (t96_1 : List (Int × List (Int × Int × Int) × List Int)),R.sl S96_2 v96_2 (t96_2 : List (List Int))]) [3,4] [0,1,2,5,6,7,8,9,10,11,12,13,14,15,16,17,18,19,20,21,22] rfl rfl (jn_sl (S:=S156_0_2) (v:=v156_0_2) (l:=(t156 : List (Int)))) hS156_2) ?_)
                   cases hE_11
                   refine Nrm.only [3,4,5,6,14,28,29] rfl ?_
                   refine Nrm.pick [5,8,9,3,0,1,2,10,11,12,13,14,19] rfl rfl ?_
                   exact hj_9 _ _ ⟨v86_2,S86_2,v161_11,S161_11,v161_12,S161_12,b28_18,(len_set hl_v86_2),hl_v161_11,hl_v161_12,rfl,rfl⟩
                  exact T.stop
                 exact T.stop
                exact T.stop
              exact T.stop
             exact T.stop
            exact T.stop
         ·replace h:=if_ff g_17 h
          refine Tri.skip (Nrm.seq (Tri.seq (Tri.seq (Tri.reg (l:=[0,1]) rfl ?_))))
          refine F.qn rfl (r_move rfl) (F.qn rfl (r_not rfl) (F.nil (Nrm.seq (Tri.cond (b:=!t45_3) rfl (fun g_23=>?_) (fun g_23=>?_)))))
          ·replace h:=if_tt g_23 h
           refine Tri.seq (Tri.reg (l:=[0]) rfl ?_)
           refine F.qn rfl (r_assign rfl) (F.nil (Nrm.seq (Tri.ret ?_)))
           refine Rtn.then ?_
           cases h
           exact Rtn.body (.tmp rfl .nil) (fun w hw=>⟨rfl,hw.ext⟩)
          ·replace h:=if_ff g_23 h
           refine Tri.skip (Nrm.seq (Tri.seq ?_))
           obtain ⟨⟨t176_1,t176_2⟩,h176,h⟩:=bind_some h
           refine Tri.reg (l:=[0,1,2,3,4,5,6]) rfl ?_
           refine F.qn rfl (r_loadA ta88 ti88 rfl rfl (fun w hw=>(box_cells (i:=5) rfl w hw))) ?_
           refine F.mn rfl (m_callF (xs:=_) rfl ok82 rfl rfl (fun w hw=>impl_WonRounds.ok h176 w ((rd_sl (i:=6) rfl) w hw) ((rd_sl (i:=7) rfl) w hw))) ?_
           rintro _ _ ⟨_,⟨v176_4,S176_4,rfl,hl_v176_4,rfl⟩,rfl⟩
           refine F.qn rfl (r_move rfl) (F.qn rfl (r_extract rfl rfl) (F.qn rfl (r_extract rfl rfl) (F.qn rfl (r_assign rfl) (F.qn rfl (r_assign rfl) (F.nil (Nrm.seq (Tri.seq ?_)))))))
           obtain ⟨⟨t181_1,t181_2⟩,h181,h⟩:=bind_some h
           refine Tri.reg (l:=[0,1,2,3,4,5,6]) rfl ?_
           refine F.qn rfl (r_loadA ta88 ti88 rfl rfl (fun w hw=>(box_cells (i:=5) rfl w hw))) ?_
           refine F.mn rfl (m_callF (xs:=_) rfl ok82 rfl rfl (fun w hw=>impl_WonRounds.ok h181 w ((rd_sl (i:=10) rfl) w hw) ((rd_sl (i:=11) rfl) w hw))) ?_
           rintro _ _ ⟨_,⟨v181_4,S181_4,rfl,hl_v181_4,rfl⟩,rfl⟩
           refine F.qn rfl (r_move rfl) (F.qn rfl (r_extract rfl rfl) (F.qn rfl (r_extract rfl rfl) (F.qn rfl (r_assign rfl) (F.qn rfl (r_assign rfl) (F.nil (Nrm.seq (Tri.seq (Tri.seq ?_))))))))
           obtain ⟨y196rrr,hE_15,h⟩:=bind_some h
           refine Tri.cut (fun e' C'=>e' = [(4,v39_3),(30,v176_4),(32,v181_4),(196,.bool y196rrr)]∧C' = Sep w noM [R.sl S176_4 v176_4 (t176_1 : List (Int)),R.sl S181_4 v181_4 (t181_1 : List (Int)),R.sl S39_3 v39_3 (t39_3 : List (Int))]) ?_ (fun hj_12=>?_)
           ·rintro _ _ ⟨rfl,rfl⟩
            refine Nrm.seq (Tri.cond (b:=y196rrr) rfl (fun g_24=>?_) (fun g_24=>?_))
            ·replace h:=if_tt g_24 h
             refine Tri.seq (Tri.reg (l:=[0]) rfl ?_)
             refine F.qn rfl (r_assign rfl) (F.nil (Nrm.seq (Tri.ret ?_)))
             refine Rtn.then ?_
             cases h
             exact Rtn.body (.tmp rfl .nil) (fun w hw=>⟨rfl,hw.ext⟩)
            ·replace h:=if_ff g_24 h
             refine Tri.skip (Nrm.seq (Tri.seq (Tri.seq (Tri.reg (l:=[0]) rfl ?_))))
             refine F.qn rfl (r_assign rfl) (F.nil (Nrm.seq ?_))
             obtain ⟨s3,hE_16,h⟩:=bind_some h
             refine Tri.block ?_
             refine Tri.only [4,30,32,34] rfl ?_
             refine Tri.pick [0,1,2] rfl rfl ?_
             refine Tri.rounds (fun n e' C'=>∃ (x34rrr' : Int),laws_FnWorldForms.l3 k t39_3 t176_1 t181_1 n x34rrr' = some s3∧e' = [(4,v39_3),(30,v176_4),(32,v181_4),(34,.int .i64 x34rrr')]∧C' = Sep w noM [R.sl S176_4 v176_4 (t176_1 : List (Int)),R.sl S181_4 v181_4 (t181_1 : List (Int)),R.sl S39_3 v39_3 (t39_3 : List (Int))]) k ?_ ?_ ?_
             ·exact ⟨0,hE_16,rfl,rfl⟩
             ·rintro _ _ ⟨_,hE_16,_⟩
              rw [laws_FnWorldForms.l3.eq_1] at hE_16; cases hE_16
             ·rintro n_4 _ _ ⟨x34rrr,hE_16,rfl,rfl⟩ ih_4
              rw [laws_FnWorldForms.l3.eq_2] at hE_16
              refine Tri.seq (Tri.seq (Tri.reg (l:=[0,1,2,3]) rfl ?_))
              refine F.qn rfl (r_move rfl) (F.qn rfl (r_move rfl) (F.qn rfl (r_len Tryz.underlying25 rfl hl_v39_3) (F.qn rfl (r_lss rfl rfl) (F.nil (Nrm.seq (Tri.cond (b:=decide (x34rrr < (t39_3.length : Int))) rfl (fun g_25=>?_) (fun g_25=>?_)))))))
              ·replace hE_16:=if_tt g_25 hE_16
               refine Tri.skip (Nrm.seq (Tri.seq (Tri.block ?_)))
               refine Tri.seq ?_
               obtain ⟨t205,h205,hE_16⟩:=bind_some hE_16
               obtain ⟨t210,h210,hE_16⟩:=bind_some hE_16
               obtain ⟨t212,h212,hE_16⟩:=bind_some hE_16
               refine Tri.drawA mixedT Sep.up [(0,true),(1,true),(2,true),(3,true),(4,true),(5,true),(6,true),(7,true),(8,true),(9,true),(10,true),(11,true)] [] (by kernel_rfl) ?_
               refine S.qn rfl (r_move rfl) (S.qn rfl (r_move rfl) (S.qn rfl (r_indexAddrS Tryz.underlying25 ti3 rfl hl_v181_4 rfl (rdl_some h205).1 (rdl_some h205).2.1) (S.qn rfl (r_load ta3 rfl (fun w hw=>cell_0 (Rd.flat ((rd_sl (i:=1) rfl) w hw) (rdl_some h205).2.2) rfl)) ?_)))
               iterate 3 refine S.qn rfl (r_move rfl) ?_
               refine S.qn rfl (r_indexAddrS Tryz.underlying25 ti3 rfl hl_v39_3 rfl (rdl_some h210).1 (rdl_some h210).2.1) (S.qn rfl (r_load ta3 rfl (fun w hw=>cell_0 (Rd.flat ((rd_sl (i:=2) rfl) w hw) (rdl_some h210).2.2) rfl)) (S.qn rfl (r_indexAddrS Tryz.underlying25 ti3 rfl hl_v176_4 rfl (rdl_some h212).1 (rdl_some h212).2.1) (S.qn rfl (r_load ta3 rfl (fun w hw=>cell_0 (Rd.flat ((rd_sl (i:=0) rfl) w hw) (rdl_some h212).2.2) rfl)) (S.qn rfl (r_neq rfl rfl) (S.nil (F.nil (Nrm.seq (Tri.cond (b:=t205 != t212) rfl (fun g_26=>?_) (fun g_26=>?_)))))))))
               ·replace hE_16:=if_tt g_26 hE_16
                refine Tri.seq (Tri.reg (l:=[0]) rfl ?_)
                refine F.qn rfl (r_assign rfl) (F.nil (Nrm.seq (Tri.ret ?_)))
                refine Rtn.block ?_
                refine Rtn.then ?_
                refine Rtn.then ?_
                refine Rtn.block ?_
                refine Rtn.then ?_
                cases hE_16
                replace h:=Lr_inr h
                cases h
                exact Rtn.body (.tmp rfl .nil) (fun w hw=>⟨rfl,hw.ext⟩)
               ·replace hE_16:=if_ff g_26 hE_16
                refine Tri.skip (Nrm.block ?_)
                refine Nrm.seq (Tri.reg (l:=[0,1,2]) rfl ?_)
                refine F.qn rfl (r_move rfl) (F.qn rfl (r_add rfl rfl) (F.qn rfl (r_assign rfl) (F.nil (Nrm.round ?_))))
                refine Rnd.only [4,30,32,34] rfl ?_
                refine Rnd.pick [0,1,2] rfl rfl ?_
                exact ih_4 _ _ ⟨w64 (x34rrr + 1),hE_16,rfl,rfl⟩
              ·replace hE_16:=if_ff g_25 hE_16
               refine Tri.exit ?_
               refine Exi.then ?_
               refine Exi.then ?_
               refine Exi.same ?_
               cases hE_16
               replace h:=Lr_inl h
               refine Nrm.seq (Tri.seq (Tri.reg (l:=[0]) rfl ?_))
               refine F.qn rfl (r_assign rfl) (F.nil (Nrm.seq (Tri.ret ?_)))
               cases h
               exact Rtn.body (.tmp rfl .nil) (fun w hw=>⟨rfl,hw.ext⟩)
           ·rcases Bool.eq_false_or_eq_true (!t176_2) with g186 | g186
            ·replace hE_15:=if_tt g186 hE_15
             refine Tri.reg (l:=List.range 13) rfl ?_
             refine F.qn rfl (r_move rfl) ?_
             refine F.qn rfl (r_not rfl) (F.qn rfl (r_move rfl) (F.skf rfl g186 (F.skf rfl g186 (F.qn rfl (r_pick rfl rfl g186) (F.qn rfl (r_move rfl) ?_)))))
             iterate 5 refine F.skf rfl rfl ?_
             refine F.qn rfl (r_pick rfl rfl rfl) (F.nil ?_)
             cases hE_15
             refine Nrm.only [4,30,32,196] rfl ?_
             refine Nrm.pick [1,0,10] rfl rfl ?_
             exact hj_12 _ _ ⟨rfl,rfl⟩
            ·replace hE_15:=if_ff g186 hE_15
             rcases Bool.eq_false_or_eq_true (!t181_2) with g190 | g190
             ·replace hE_15:=if_tt g190 hE_15
              refine Tri.reg (l:=List.range 13) rfl ?_
              refine F.qn rfl (r_move rfl) ?_
              refine F.qn rfl (r_not rfl) (F.qn rfl (r_move rfl) (F.qg rfl g186 (r_move rfl) (F.qg rfl g186 (r_not rfl) (F.qn rfl (r_pickf rfl rfl g186) (F.qn rfl (r_move rfl) ?_)))))
              iterate 5 refine F.skf rfl g190 ?_
              refine F.qn rfl (r_pick rfl rfl g190) (F.nil ?_)
              cases hE_15
              refine Nrm.only [4,30,32,196] rfl ?_
              refine Nrm.pick [1,0,10] rfl rfl ?_
              exact hj_12 _ _ ⟨rfl,rfl⟩
             ·replace hE_15:=if_ff g190 hE_15
              refine Tri.reg (l:=List.range 13) rfl ?_
              refine F.qn rfl (r_move rfl) ?_
              refine F.qn rfl (r_not rfl) (F.qn rfl (r_move rfl) (F.qg rfl g186 (r_move rfl) (F.qg rfl g186 (r_not rfl) (F.qn rfl (r_pickf rfl rfl g186) (F.qn rfl (r_move rfl) ?_)))))
              refine F.qg rfl g190 (r_move rfl) (F.qg rfl g190 (r_len Tryz.underlying25 rfl hl_v176_4) (F.qg rfl g190 (r_move rfl) (F.qg rfl g190 (r_len Tryz.underlying25 rfl hl_v181_4) (F.qg rfl g190 (r_neq rfl rfl) (F.qn rfl (r_pickf rfl rfl g190) (F.nil ?_))))))
              cases hE_15
              refine Nrm.only [4,30,32,196] rfl ?_
              refine Nrm.pick [1,0,10] rfl rfl ?_
              exact hj_12 _ _ ⟨rfl,rfl⟩
      ·rcases Bool.eq_false_or_eq_true (t96_3 != t104_3) with g110 | g110
       ·replace hE_3:=if_tt g110 hE_3
        refine Tri.reg (l:=[0,1,2,3,4,5,6,7,8]) rfl ?_
        refine F.qn rfl (r_move rfl) (F.qn rfl (r_move rfl) (F.qn rfl (r_neqB Tryz.underlying4 rfl rfl) (F.qn rfl (r_move rfl) ?_)))
        iterate 4 refine F.skf rfl g110 ?_
        refine F.qn rfl (r_pick rfl rfl g110) (F.nil ?_)
        cases hE_3
        refine Nrm.only [3,4,5,6,9,10,11,14,15,16,18,19,115] rfl ?_
        refine Nrm.pick [3,6,9,10,11,12,13,14,15,16,17,18,19,20,21,7,8,4,5] rfl rfl ?_
        exact hj_3 _ _ ⟨rfl,rfl⟩
       ·replace hE_3:=if_ff g110 hE_3
        obtain ⟨t113,h113,hE_3⟩:=bind_some hE_3
        refine Tri.reg (l:=[0,1,2,3,4,5,6,7,8]) rfl ?_
        refine F.qn rfl (r_move rfl) (F.qn rfl (r_move rfl) (F.qn rfl (r_neqB Tryz.underlying4 rfl rfl) (F.qn rfl (r_move rfl) (F.qg rfl g110 (r_loadA ta88 ti88 rfl rfl (fun w hw=>(box_cells (i:=3) rfl w hw))) (F.qg rfl g110 (r_loadA ta88 ti88 rfl rfl (fun w hw=>(box_cells (i:=0) rfl w hw))) ?_)))))
        refine F.qc rfl rfl rfl (wg rfl rfl rfl g110) (q_callF (xs:=_) rfl ok73 rfl rfl (fun w hw=>laws_rWorlds.ok h113 w ((rd_sl (i:=4) rfl) w hw) ((rd_sl (i:=5) rfl) w hw) ((rd_sl (i:=1) rfl) w hw) ((rd_sl (i:=2) rfl) w hw))) ?_
        refine F.qg rfl g110 (r_not rfl) (F.qn rfl (r_pickf rfl rfl g110) (F.nil ?_))
        cases hE_3
        refine Nrm.only [3,4,5,6,9,10,11,14,15,16,18,19,115] rfl ?_
        refine Nrm.pick [3,6,9,10,11,12,13,14,15,16,17,18,19,20,21,7,8,4,5] rfl rfl ?_
        exact hj_3 _ _ ⟨rfl,rfl⟩
    ·rcases Bool.eq_false_or_eq_true (t67_3 != t72_3) with g78 | g78
     ·replace hE_2:=if_tt g78 hE_2
      refine Tri.reg (l:=[0,1,2,3,4,5,6,7,8]) rfl ?_
      refine F.qn rfl (r_move rfl) (F.qn rfl (r_move rfl) (F.qn rfl (r_neqB Tryz.underlying4 rfl rfl) (F.qn rfl (r_move rfl) ?_)))
      iterate 4 refine F.skf rfl g78 ?_
      refine F.qn rfl (r_pick rfl rfl g78) (F.nil ?_)
      cases hE_2
      refine Nrm.only [0,3,4,5,6,9,10,11,83] rfl ?_
      refine Nrm.pick [3,6,9,10,11,12,13,14,15,7,8,4,5] rfl rfl ?_
      exact hj_2 _ _ ⟨rfl,rfl⟩
     ·replace hE_2:=if_ff g78 hE_2
      obtain ⟨t81,h81,hE_2⟩:=bind_some hE_2
      refine Tri.reg (l:=[0,1,2,3,4,5,6,7,8]) rfl ?_
      refine F.qn rfl (r_move rfl) (F.qn rfl (r_move rfl) (F.qn rfl (r_neqB Tryz.underlying4 rfl rfl) (F.qn rfl (r_move rfl) (F.qg rfl g78 (r_loadA ta88 ti88 rfl rfl (fun w hw=>(box_cells (i:=3) rfl w hw))) (F.qg rfl g78 (r_loadA ta88 ti88 rfl rfl (fun w hw=>(box_cells (i:=0) rfl w hw))) ?_)))))
      refine F.qc rfl rfl rfl (wg rfl rfl rfl g78) (q_callF (xs:=_) rfl ok73 rfl rfl (fun w hw=>laws_rWorlds.ok h81 w ((rd_sl (i:=4) rfl) w hw) ((rd_sl (i:=5) rfl) w hw) ((rd_sl (i:=1) rfl) w hw) ((rd_sl (i:=2) rfl) w hw))) ?_
      refine F.qg rfl g78 (r_not rfl) (F.qn rfl (r_pickf rfl rfl g78) (F.nil ?_))
      cases hE_2
      refine Nrm.only [0,3,4,5,6,9,10,11,83] rfl ?_
      refine Nrm.pick [3,6,9,10,11,12,13,14,15,7,8,4,5] rfl rfl ?_
      exact hj_2 _ _ ⟨rfl,rfl⟩
  ·rcases Bool.eq_false_or_eq_true (t45_3 != t51_3) with g57 | g57
   ·replace hE_1:=if_tt g57 hE_1
    refine Tri.reg (l:=[0,1,2,3,4,5,6,7,8]) rfl ?_
    refine F.qn rfl (r_move rfl) (F.qn rfl (r_move rfl) (F.qn rfl (r_neqB Tryz.underlying4 rfl rfl) (F.qn rfl (r_move rfl) ?_)))
    iterate 4 refine F.skf rfl g57 ?_
    refine F.qn rfl (r_pick rfl rfl g57) (F.nil ?_)
    cases hE_1
    refine Nrm.only [0,3,4,5,6,62] rfl ?_
    refine Nrm.pick [3,6,7,8,9,4,5] rfl rfl ?_
    exact hj_1 _ _ ⟨rfl,rfl⟩
   ·replace hE_1:=if_ff g57 hE_1
    obtain ⟨t60,h60,hE_1⟩:=bind_some hE_1
    refine Tri.reg (l:=[0,1,2,3,4,5,6,7,8]) rfl ?_
    refine F.qn rfl (r_move rfl) (F.qn rfl (r_move rfl) (F.qn rfl (r_neqB Tryz.underlying4 rfl rfl) (F.qn rfl (r_move rfl) (F.qg rfl g57 (r_loadA ta88 ti88 rfl rfl (fun w hw=>(box_cells (i:=3) rfl w hw))) (F.qg rfl g57 (r_loadA ta88 ti88 rfl rfl (fun w hw=>(box_cells (i:=0) rfl w hw))) ?_)))))
    refine F.qc rfl rfl rfl (wg rfl rfl rfl g57) (q_callF (xs:=_) rfl ok73 rfl rfl (fun w hw=>laws_rWorlds.ok h60 w ((rd_sl (i:=4) rfl) w hw) ((rd_sl (i:=5) rfl) w hw) ((rd_sl (i:=1) rfl) w hw) ((rd_sl (i:=2) rfl) w hw))) ?_
    refine F.qg rfl g57 (r_not rfl) (F.qn rfl (r_pickf rfl rfl g57) (F.nil ?_))
    cases hE_1
    refine Nrm.only [0,3,4,5,6,62] rfl ?_
    refine Nrm.pick [3,6,7,8,9,4,5] rfl rfl ?_
    exact hj_1 _ _ ⟨rfl,rfl⟩


def spec_l2Has.f (k : Nat) (a0 : Int) (a1 : Int) : Option (Bool) := some ((band a0 a1) == a1)


def spec_l2Joins.f (k : Nat) (a0_0 : Int) (a0_1 : Int) (a0_2 : Int) (a1 : Int) (a2 : Int) : Option (Bool) := ((if (a0_0 == a1) = true then (if (a0_1 == a2) = true then some true else (if (a0_0 == a2) = true then some (a0_1 == a1) else some false)) else (if (a0_0 == a2) = true then some (a0_1 == a1) else some false))).bind fun y6 => some y6


def spec_l2Open.l0 (k : Nat) (a0_1 : List (Int × Int × Int)) (a1 : Int) (a2 : Int) (a3 : Int) : Nat → Int → Option ((Unit) ⊕ (Bool))
 | 0,_=>none
 | n + 1,x9=>(if (decide (x9 < (a0_1.length : Int))) = true then ((rdl a0_1 x9).bind fun t20=>(spec_l2Joins.f k t20.1 t20.2.1 t20.2.2 a1 a2).bind fun t24=>(if t24 = true then (rdl a0_1 x9).bind fun t30=>(spec_l2Has.f k a3 t30.2.2).bind fun t33=>some t33 else some false)).bind fun y34=>(if y34 = true then some (Sum.inr true) else spec_l2Open.l0 k a0_1 a1 a2 a3 n (w64 (x9 + 1))) else some (Sum.inl ()))

def spec_l2Open.f (k : Nat) (a0_0 : Int) (a0_1 : List (Int × Int × Int)) (a0_2 : List Int) (a1 : Int) (a2 : Int) (a3 : Int) : Option (Bool) := (spec_l2Open.l0 k a0_1 a1 a2 a3 k 0).bind fun s => Lr s some fun _ => some false


def impl_trapSteps.l0 (k : Nat) (a0_1 : List (Int × Int × Int)) (a0_3 : List Int) (a1 : Int) (a2 : Int) : Nat → Int → Int → Option (Int)
 | 0,_,_=>none
 | n + 1,x7,x14=>(if (decide (x14 < (a0_1.length : Int))) = true then ((rdl a0_1 x14).bind fun t17=>(impl_has.f k a2 t17.2.2).bind fun t22=>(if (!t22) = true then some x7 else ((if (t17.1 == a1) = true then if ¬ t17.2.1 < 0 then some (bor x7 (shl 1 t17.2.1)) else none else some x7)).bind fun y7=>((if (t17.2.1 == a1) = true then (slices_Contains_int_int.f k a0_3 x14).bind fun t41=>some (!t41) else some false)).bind fun y43=>((if y43 = true then if ¬ t17.1 < 0 then some (bor y7 (shl 1 t17.1)) else none else some y7)).bind fun y7r=>some y7r)).bind fun y7=>impl_trapSteps.l0 k a0_1 a0_3 a1 a2 n y7 (w64 (x14 + 1)) else some x7)

def impl_trapSteps.f (k : Nat) (a0_0 : Int) (a0_1 : List (Int × Int × Int)) (a0_2 : List Int) (a0_3 : List Int) (a1 : Int) (a2 : Int) : Option (Int) := (impl_trapSteps.l0 k a0_1 a0_3 a1 a2 k 0 0).bind fun x7 => some x7


def spec_l1Put.l0 (k : Nat) (a0 : List Int) (a1 : Int) : Nat → Int → Option (Int)
 | 0,_=>none
 | n + 1,x5=>((if (decide (x5 < (a0.length : Int))) = true then (rdl a0 x5).bind fun t13=>some (decide (t13 < a1)) else some false)).bind fun y17=>(if y17 = true then spec_l1Put.l0 k a0 a1 n (w64 (x5 + 1)) else some x5)

def spec_l1Put.f (k : Nat) (a0 : List Int) (a1 : Int) : Option ((List Int)) := (spec_l1Put.l0 k a0 a1 k 0).bind fun x5 => ((if (decide (x5 < (a0.length : Int))) = true then (rdl a0 x5).bind fun t27 => some (t27 == a1) else some false)).bind fun y31 => (if y31 = true then some a0 else ((slc a0 0 x5).bind fun t36 => (slc a0 x5 (a0.length : Int)).bind fun t43 => if (([] : List (Int)) ++ t36).length < 1099511627776 then if ((([] : List (Int)) ++ t36) ++ ([a1] : List (Int))).length < 1099511627776 then if (((([] : List (Int)) ++ t36) ++ ([a1] : List (Int))) ++ t43).length < 1099511627776 then some (((([] : List (Int)) ++ t36) ++ ([a1] : List (Int))) ++ t43) else none else none else none).bind fun y4 => some y4)


def spec_l2Reach.l1 (k : Nat) (a0_1 : List (Int × Int × Int)) (a2 : Int) (x9 : Int) : Nat → (List (Int)) → (List (Int)) → Int → Option ((List (Int)) × (List (Int)))
 | 0,_,_,_=>none
 | n + 1,x7r,x8r,x10=>(if (decide (x10 < (a0_1.length : Int))) = true then ((rdl a0_1 x10).bind fun t33=>((spec_l2Has.f k a2 t33.2.2).bind fun t38=>(if (!t38) = true then some true else (rdl x8r x9).bind fun t45=>(if (t33.1 != t45) = true then (rdl x8r x9).bind fun t53=>some (t33.2.1 != t53) else some false))).bind fun y57=>(if y57 = true then some (x7r,x8r) else (rdl x8r x9).bind fun t65=>(spec_l1Has.f k x7r (w64 ((w64 (t33.1 + t33.2.1)) - t65))).bind fun t70=>((if (!t70) = true then (spec_l1Put.f k x7r (w64 ((w64 (t33.1 + t33.2.1)) - t65))).bind fun t74=>if (x8r ++ ([w64 ((w64 (t33.1 + t33.2.1)) - t65)] : List (Int))).length < 1099511627776 then some (t74,x8r ++ ([w64 ((w64 (t33.1 + t33.2.1)) - t65)] : List (Int))) else none else some (x7r,x8r))).bind fun (y7,y8)=>some (y7,y8))).bind fun (y7,y8)=>spec_l2Reach.l1 k a0_1 a2 x9 n y7 y8 (w64 (x10 + 1)) else some (x7r,x8r))

def spec_l2Reach.l0 (k : Nat) (a0_1 : List (Int × Int × Int)) (a2 : Int) : Nat → (List (Int)) → (List (Int)) → Int → Option ((List (Int)))
 | 0,_,_,_=>none
 | n + 1,x7,x8,x9=>(if (decide (x9 < (x8.length : Int))) = true then (spec_l2Reach.l1 k a0_1 a2 x9 k x7 x8 0).bind fun (x7r,x8r)=>spec_l2Reach.l0 k a0_1 a2 n x7r x8r (w64 (x9 + 1)) else some x7)

def spec_l2Reach.f (k : Nat) (a0_0 : Int) (a0_1 : List (Int × Int × Int)) (a0_2 : List Int) (a1 : Int) (a2 : Int) : Option ((List Int)) := (spec_l2Reach.l0 k a0_1 a2 k ([a1] : List (Int)) ([a1] : List (Int)) 0).bind fun x7 => some x7


def spec_l10None.l0 (k : Nat) (a0 : Int) : Nat → (List (Int)) → Int → Option ((List (Int)))
 | 0,_,_=>none
 | n + 1,x3,x4=>(if (decide (x4 < a0)) = true then if (x3 ++ ([(-1)] : List (Int))).length < 1099511627776 then spec_l10None.l0 k a0 n (x3 ++ ([(-1)] : List (Int))) (w64 (x4 + 1)) else none else some x3)

def spec_l10None.f (k : Nat) (a0 : Int) : Option ((List Int)) := (spec_l10None.l0 k a0 k ([] : List (Int)) 0).bind fun x3 => some x3

end Go.Proofs

/- definitions of specl1Same -/
namespace Go.Proofs
open Go Go.Ga
set_option maxRecDepth 100000
def spec_l1Same.l0 (k : Nat) (a0 : List Int) (a1 : List Int) : Nat → Int → Option ((Unit) ⊕ (Bool))
 | 0,_=>none
 | n + 1,x5=>(if (decide (x5 < (a0.length : Int))) = true then (rdl a0 x5).bind fun t19=>(rdl a1 x5).bind fun t23=>(if (t19 != t23) = true then some (Sum.inr false) else spec_l1Same.l0 k a0 a1 n (w64 (x5 + 1))) else some (Sum.inl ()))

def spec_l1Same.f (k : Nat) (a0 : List Int) (a1 : List Int) : Option (Bool) := (if ((a0.length : Int) != (a1.length : Int)) = true then some false else (spec_l1Same.l0 k a0 a1 k 0).bind fun s => Lr s some fun _ => some true)


def spec_l10Rounds.l3 (k : Nat) (a0_1 : List (List Int)) (a1 : Bool) (x8 : Int) (x11 : Int) (t61 : Int × List (Int × Int × Int) × List Int) (t68 : List Int) (t73 : Bool) : Nat → (List (Int)) → Int → (List (List Int)) → Option ((List (List Int)) × (List (Int)))
 | 0,_,_,_=>none
 | n + 1,x10r,x15,xq6_2_2rrr=>(if (decide (x15 < t61.1)) = true then ((spec_l1Has.f k t68 x15).bind fun t82=>(if t82 = true then (rdl (xq6_2_2rrr : List (List Int)) x11).bind fun t87=>(rdl t87 x15).bind fun t90=>some (decide (t90 < 0),(xq6_2_2rrr : List (List Int)).set (x11 : Int).toNat t87) else some (false,xq6_2_2rrr))).bind fun (y93,yb6_2_2r)=>((if y93 = true then (rdl (yb6_2_2r : List (List Int)) x11).bind fun t97=>(rdl t97 x15).bind fun t101=>some ((yb6_2_2r : List (List Int)).set (x11 : Int).toNat (t97.set x15.toNat x8)) else some yb6_2_2r)).bind fun yb6_2_2rr=>((spec_l1Has.f k t68 x15).bind fun t104=>(if t104 = true then some true else (if a1 = true then some t73 else some false))).bind fun y110=>((if y110 = true then (rdl a0_1 x11).bind fun t114=>(rdl t114 x15).bind fun t117=>(rdl x10r t117).bind fun t123=>(rdl t61.2.2 x15).bind fun t128=>(rdl x10r t117).bind fun t131=>some (x10r.set t117.toNat (bor t123 t128)) else some x10r)).bind fun y10=>spec_l10Rounds.l3 k a0_1 a1 x8 x11 t61 t68 t73 n y10 (w64 (x15 + 1)) yb6_2_2rr else some (xq6_2_2rrr,x10r))

def spec_l10Rounds.l2 (k : Nat) (a0_0 : List (Int × List (Int × Int × Int) × List Int)) (a0_1 : List (List Int)) (a1 : Bool) (x8 : Int) (t49 : List Int) : Nat → (List (Int)) → Int → (List (Int)) → (List (List Int)) → Option ((List (Int)) × (List (List Int)) × (List (Int)))
 | 0,_,_,_,_=>none
 | n + 1,x10,x11,xq6_2_1r,xq6_2_2rr=>(if (decide (x11 < (a0_0.length : Int))) = true then (rdl a0_0 x11).bind fun t61=>(rdl t49 x11).bind fun t66=>(spec_l2Reach.f k t61.1 t61.2.1 t61.2.2 0 t66).bind fun t68=>(spec_l1Has.f k t68 (w64 (t61.1 - 1))).bind fun t73=>(spec_l10Rounds.l3 k a0_1 a1 x8 x11 t61 t68 t73 k x10 0 xq6_2_2rr).bind fun (xq6_2_2rrr,x10r)=>((if t73 = true then (rdl xq6_2_1r x11).bind fun t137=>some (decide (t137 < 0)) else some false)).bind fun y140=>((if y140 = true then (rdl xq6_2_1r x11).bind fun t145=>some (xq6_2_1r.set x11.toNat x8) else some xq6_2_1r)).bind fun yb6_2_1r=>spec_l10Rounds.l2 k a0_0 a0_1 a1 x8 t49 n x10r (w64 (x11 + 1)) yb6_2_1r xq6_2_2rrr else some (xq6_2_1r,xq6_2_2rr,x10))

def spec_l10Rounds.l1 (k : Nat) (a0_0 : List (Int × List (Int × Int × Int) × List Int)) (a0_1 : List (List Int)) (a1 : Bool) : Nat → Int → (List (List Int)) → (List (Int)) → (List (List Int)) → Option ((Unit) ⊕ ((List (List Int)) × (List Int) × (List (List Int))))
 | 0,_,_,_,_=>none
 | n + 1,x8,xq6_2_0,xq6_2_1,xq6_2_2r=>(rdl (xq6_2_0 : List (List Int)) x8).bind fun t49=>(spec_l1Own.f k t49).bind fun t52=>(spec_l10Rounds.l2 k a0_0 a0_1 a1 x8 t49 k t52 0 xq6_2_1 xq6_2_2r).bind fun (xq6_2_1r,xq6_2_2rr,x10)=>(spec_l1Same.f k x10 t49).bind fun t148=>(if t148 = true then some (Sum.inr ((xq6_2_0 : List (List Int)).set (x8 : Int).toNat t49,xq6_2_1r,xq6_2_2rr)) else if (((xq6_2_0 : List (List Int)).set (x8 : Int).toNat t49 : List (List Int)) ++ ([x10] : List (List Int))).length < 1099511627776 then spec_l10Rounds.l1 k a0_0 a0_1 a1 n (w64 (x8 + 1)) (((xq6_2_0 : List (List Int)).set (x8 : Int).toNat t49 : List (List Int)) ++ ([x10] : List (List Int))) xq6_2_1r xq6_2_2rr else none)

def spec_l10Rounds.l0 (k : Nat) (a0_0 : List (Int × List (Int × Int × Int) × List Int)) : Nat → Int → (List (List Int)) → Option ((List (List Int)))
 | 0,_,_=>none
 | n + 1,x7,xq6_2_2=>(if (decide (x7 < (a0_0.length : Int))) = true then (rdl a0_0 x7).bind fun t37=>(spec_l10None.f k t37.1).bind fun t40=>if ((xq6_2_2 : List (List Int)) ++ ([t40] : List (List Int))).length < 1099511627776 then spec_l10Rounds.l0 k a0_0 n (w64 (x7 + 1)) ((xq6_2_2 : List (List Int)) ++ ([t40] : List (List Int))) else none else some xq6_2_2)

def spec_l10Rounds.f (k : Nat) (a0_0 : List (Int × List (Int × Int × Int) × List Int)) (a0_1 : List (List Int)) (a1 : Bool) : Option ((List (List Int)) × (List Int) × (List (List Int))) := (if 0 ≤ (a0_0.length : Int) ∧ (a0_0.length : Int) < 1099511627776 then (spec_l10None.f k (a0_0.length : Int)).bind fun t24 => some (([List.replicate ((a0_0.length : Int)).toNat (0 : Int)] : List (List Int)), t24, ([] : List (List Int))) else none).bind fun (yb6_2_0, yb6_2_1, yb6_2_2) => (spec_l10Rounds.l0 k a0_0 k 0 yb6_2_2).bind fun xq6_2_2 => (spec_l10Rounds.l1 k a0_0 a0_1 a1 k 0 yb6_2_0 yb6_2_1 xq6_2_2).bind fun s => Lr s some fun _ => none

end Go.Proofs

/- loop.example/g01158/impl.trapFrom -/
namespace Go.Proofs
open Go Go.Ga
set_option linter.unusedVariables false
set_option maxRecDepth 100000
set_option maxHeartbeats 4000000
def impl_trapFrom.l1 (k : Nat) (x17 : Int) : Nat → Int → (Arr 768) → Option ((Arr 768))
 | 0,_,_=>none
 | n + 1,x20,xb7_1_0r=>(if (decide (x20 < 64)) = true then if 0 ≤ x17∧x17 < 12 then if 0 ≤ x20∧x20 < 64 then impl_trapFrom.l1 k x17 n (w64 (x20 + 1)) (Arr.put xb7_1_0r (x17 * 64 + x20) (-1)) else none else none else some xb7_1_0r)

def impl_trapFrom.l3 (k : Nat) (a0_2 : List Int) (t43 : Int × Int) (t47 : Int × Int) (t54 : List Int) : Nat → (List (Int × Int)) → Int → (Arr 768) → Option ((Arr 768) × (List (Int × Int)))
 | 0,_,_,_=>none
 | n + 1,x10r,x56,xb7_1_0rrr=>(if (decide (x56 < (t54.length : Int))) = true then (rdl t54 x56).bind fun t58=>(rdl a0_2 t58).bind fun t65=>if 0 ≤ t58∧t58 < 12 then if 0 ≤ bor t47.2 t65∧bor t47.2 t65 < 64 then ((if (decide ((Arr.at xb7_1_0rrr (t58 * 64 + (bor t47.2 t65))) < 0)) = true then if 0 ≤ t43.1∧t43.1 < 12 then if 0 ≤ t47.2∧t47.2 < 64 then if 0 ≤ t58∧t58 < 12 then if 0 ≤ bor t47.2 t65∧bor t47.2 t65 < 64 then if (x10r ++ ([(t58,bor t47.2 t65)] : List (Int × Int))).length < 1099511627776 then some (x10r ++ ([(t58,bor t47.2 t65)] : List (Int × Int)),(Arr.put xb7_1_0rrr (t58 * 64 + (bor t47.2 t65)) (w64 ((Arr.at xb7_1_0rrr (t43.1 * 64 + t47.2)) + 1)))) else none else none else none else none else none else some (x10r,xb7_1_0rrr))).bind fun (y10,yb7_1_0)=>impl_trapFrom.l3 k a0_2 t43 t47 t54 n y10 (w64 (x56 + 1)) yb7_1_0 else none else none else some (xb7_1_0rrr,x10r))

def impl_trapFrom.l2 (k : Nat) (a0_0 : Int) (a0_1 : List (Int × Int × Int)) (a0_2 : List Int) (a0_3 : List Int) : Nat → (List (Int × Int)) → (Arr 768) → Option ((Arr 768))
 | 0,_,_=>none
 | n + 1,x10,xb7_1_0rr=>(if (decide ((x10.length : Int) > 0)) = true then (rdl x10 0).bind fun t43=>(rdl x10 0).bind fun t47=>(impl_trapSteps.f k a0_0 a0_1 a0_2 a0_3 t43.1 t47.2).bind fun t53=>(impl_members.f k t53).bind fun t54=>(impl_trapFrom.l3 k a0_2 t43 t47 t54 k x10 0 xb7_1_0rr).bind fun (xb7_1_0rrr,x10r)=>(slc x10r 1 (x10r.length : Int)).bind fun t41=>impl_trapFrom.l2 k a0_0 a0_1 a0_2 a0_3 n t41 xb7_1_0rrr else some xb7_1_0rr)

def impl_trapFrom.l0 (k : Nat) : Nat → Int → (Arr 768) → Option ((Arr 768))
 | 0,_,_=>none
 | n + 1,x17,xb7_1_0=>(if (decide (x17 < 12)) = true then (impl_trapFrom.l1 k x17 k 0 xb7_1_0).bind fun xb7_1_0r=>impl_trapFrom.l0 k n (w64 (x17 + 1)) xb7_1_0r else some xb7_1_0)

def impl_trapFrom.f (k : Nat) (a0_0 : Int) (a0_1 : List (Int × Int × Int)) (a0_2 : List Int) (a0_3 : List Int) (a1 : Int) (a2 : Int) : Option ((Arr 768)) := (impl_trapFrom.l0 k k 0 (Arr.rep 768 0)).bind fun xb7_1_0 => if 0 ≤ a1 ∧ a1 < 12 then if 0 ≤ a2 ∧ a2 < 64 then (impl_trapFrom.l2 k a0_0 a0_1 a0_2 a0_3 k ([(a1, a2)] : List (Int × Int)) (Arr.put xb7_1_0 (a1 * 64 + a2) 0)).bind fun xb7_1_0rr => some xb7_1_0rr else none else none

end Go.Proofs

/- definitions of specLeansOn -/
namespace Go.Proofs
open Go Go.Ga
set_option maxRecDepth 100000
def spec_LeansOn.l0 (k : Nat) (a0_0 : List (Int × List (Int × Int × Int) × List Int)) (a0_1 : List (List Int)) (a1 : Int) : Nat → (List (Int)) → Int → Option ((List (Int)))
 | 0,_,_=>none
 | n + 1,x6,x7=>(if (decide (x7 < (a0_0.length : Int))) = true then ((if (x7 == a1) = true then some x6 else (spec_l10Own.f k a0_0 a0_1).bind fun (t34_1,t34_2)=>(rdl (t34_1 : List (Int × List (Int × Int × Int) × List Int)) x7).bind fun t41=>if 0 ≤ t41.1∧t41.1 < 1099511627776 then (spec_l10Rounds.f k ((t34_1 : List (Int × List (Int × Int × Int) × List Int)).set (x7 : Int).toNat (t41.1,t41.2.1,List.replicate (t41.1).toNat (0 : Int))) t34_2 false).bind fun (t48_1,t48_2,t48_3)=>(rdl t48_2 a1).bind fun t51=>((if (decide (t51 < 0)) = true then if (x6 ++ ([x7] : List (Int))).length < 1099511627776 then some (x6 ++ ([x7] : List (Int))) else none else some x6)).bind fun y6=>some y6 else none)).bind fun y6=>spec_LeansOn.l0 k a0_0 a0_1 a1 n y6 (w64 (x7 + 1)) else some x6)

def spec_LeansOn.f (k : Nat) (a0_0 : List (Int × List (Int × Int × Int) × List Int)) (a0_1 : List (List Int)) (a1 : Int) : Option ((List Int) × Bool) := (spec_l10World.f k a0_0 a0_1 a1).bind fun t12 => (if (!t12) = true then some (([] : List (Int)), false) else (spec_l10Rounds.f k a0_0 a0_1 false).bind fun (t16_1, t16_2, t16_3) => (rdl t16_2 a1).bind fun t19 => (if (decide (t19 < 0)) = true then some (([] : List (Int)), true) else (spec_LeansOn.l0 k a0_0 a0_1 a1 k ([] : List (Int)) 0).bind fun x6 => some (x6, true)))

end Go.Proofs

/- slices.Index[[][3]int,[3]int] -/

namespace Go.Proofs
open Go Go.Ga
set_option linter.unusedVariables false
set_option maxRecDepth 100000
set_option maxHeartbeats 4000000
def slices_Index__3int__3int.l0 (k : Nat) (a0 : List (Int × Int × Int)) (a1_0 : Int) (a1_1 : Int) (a1_2 : Int) : Nat → Int → Option ((Unit) ⊕ (Int))
 | 0,_=>none
 | n + 1,x8=>(if (decide (x8 < (a0.length : Int))) = true then (rdl a0 x8).bind fun t14=>(if (decide ((a1_0,a1_1,a1_2) = (t14.1,t14.2.1,t14.2.2))) = true then some (Sum.inr x8) else slices_Index__3int__3int.l0 k a0 a1_0 a1_1 a1_2 n (w64 (x8 + 1))) else some (Sum.inl ()))

def slices_Index__3int__3int.f (k : Nat) (a0 : List (Int × Int × Int)) (a1_0 : Int) (a1_1 : Int) (a1_2 : Int) : Option (Int) := (slices_Index__3int__3int.l0 k a0 a1_0 a1_1 a1_2 k 0).bind fun s => Lr s some fun _ => some (-1)


def slices_Contains__3int__3int.f (k : Nat) (a0 : List (Int × Int × Int)) (a1_0 : Int) (a1_1 : Int) (a1_2 : Int) : Option (Bool) := (slices_Index__3int__3int.f k a0 a1_0 a1_1 a1_2).bind fun t7 => some (decide (t7 ≥ 0))


def laws_vInts.l0 (k : Nat) (a0 : List Int) (a1 : List Int) : Nat → Int → Option ((Unit) ⊕ (Bool))
 | 0,_=>none
 | n + 1,x5=>(if (decide (x5 < (a0.length : Int))) = true then (rdl a0 x5).bind fun t19=>(rdl a1 x5).bind fun t23=>(if (t19 != t23) = true then some (Sum.inr false) else laws_vInts.l0 k a0 a1 n (w64 (x5 + 1))) else some (Sum.inl ()))

def laws_vInts.f (k : Nat) (a0 : List Int) (a1 : List Int) : Option (Bool) := (if ((a0.length : Int) != (a1.length : Int)) = true then some false else (laws_vInts.l0 k a0 a1 k 0).bind fun s => Lr s some fun _ => some true)

end Go.Proofs

/- definitions of implReleaseRounds -/
namespace Go.Proofs
open Go Go.Ga
set_option maxRecDepth 100000
def impl_ReleaseRounds.f (k : Nat) (a0_0 : List (Int × List (Int × Int × Int) × List Int)) (a0_1 : List (List Int)) : Option ((List Int) × Bool) := (impl_IsWorlds.f k a0_0 a0_1).bind fun t5 => (if (!t5) = true then some ([], false) else (impl_play.f k a0_0 a0_1 true).bind fun (t8_1, t8_2) => (impl_played_won.f k t8_1 t8_2).bind fun t9 => some (t9, true))


def impl_ReleaseSets.f (k : Nat) (a0_0 : List (Int × List (Int × Int × Int) × List Int)) (a0_1 : List (List Int)) : Option ((List (List Int)) × Bool) := (impl_IsWorlds.f k a0_0 a0_1).bind fun t5 => (if (!t5) = true then some ([], false) else (impl_play.f k a0_0 a0_1 true).bind fun (t8_1, t8_2) => some (t8_1, true))


def impl_RoundSets.f (k : Nat) (a0_0 : List (Int × List (Int × Int × Int) × List Int)) (a0_1 : List (List Int)) : Option ((List (List Int)) × Bool) := (impl_IsWorlds.f k a0_0 a0_1).bind fun t5 => (if (!t5) = true then some ([], false) else (impl_play.f k a0_0 a0_1 false).bind fun (t8_1, t8_2) => some (t8_1, true))


def spec_AllWon.f (k : Nat) (a0_0 : List (Int × List (Int × Int × Int) × List Int)) (a0_1 : List (List Int)) : Option (Bool × Bool) := (spec_l10Worlds.f k a0_0 a0_1).bind fun t5 => (if (!t5) = true then some (false, false) else (spec_l10Rounds.f k a0_0 a0_1 false).bind fun (t8_1, t8_2, t8_3) => (spec_l1Has.f k t8_2 (-1)).bind fun t10 => some (!t10, true))


def spec_ReleaseRounds.f (k : Nat) (a0_0 : List (Int × List (Int × Int × Int) × List Int)) (a0_1 : List (List Int)) : Option ((List Int) × Bool) := (spec_l10Worlds.f k a0_0 a0_1).bind fun t5 => (if (!t5) = true then some (([] : List (Int)), false) else (spec_l10Rounds.f k a0_0 a0_1 true).bind fun (t9_1, t9_2, t9_3) => some (t9_2, true))


def spec_ReleaseSets.f (k : Nat) (a0_0 : List (Int × List (Int × Int × Int) × List Int)) (a0_1 : List (List Int)) : Option ((List (List Int)) × Bool) := (spec_l10Worlds.f k a0_0 a0_1).bind fun t5 => (if (!t5) = true then some (([] : List (List Int)), false) else (spec_l10Rounds.f k a0_0 a0_1 true).bind fun (t9_1, t9_2, t9_3) => some (t9_1, true))


def spec_RoundSets.f (k : Nat) (a0_0 : List (Int × List (Int × Int × Int) × List Int)) (a0_1 : List (List Int)) : Option ((List (List Int)) × Bool) := (spec_l10Worlds.f k a0_0 a0_1).bind fun t5 => (if (!t5) = true then some (([] : List (List Int)), false) else (spec_l10Rounds.f k a0_0 a0_1 false).bind fun (t9_1, t9_2, t9_3) => some (t9_1, true))


def spec_WonRounds.f (k : Nat) (a0_0 : List (Int × List (Int × Int × Int) × List Int)) (a0_1 : List (List Int)) : Option ((List Int) × Bool) := (spec_l10Worlds.f k a0_0 a0_1).bind fun t5 => (if (!t5) = true then some (([] : List (Int)), false) else (spec_l10Rounds.f k a0_0 a0_1 false).bind fun (t9_1, t9_2, t9_3) => some (t9_2, true))

end Go.Proofs
