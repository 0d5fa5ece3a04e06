/- A part of the proof of FnTraps: what the functions of the program compute, walked on the model. No condition. -/
import Derived.Test.YtebbaacgalipaaaGreatFnTrapsB
import Derived.Test.YtebbaacgalipaaaGreatFnTrapsC
import Derived.Test.YtebbaacgalipaaaGreatFnTrapsD
import Derived.Test.YtebbaacgalipaaaGreatFnTrapsE
set_option linter.unusedSimpArgs false
/- loop.example/g01158/spec.TurnDoor -/
namespace Go.Proofs
open Go Go.Ga
set_option linter.unusedVariables false
set_option maxRecDepth 100000
set_option maxHeartbeats 4000000
def spec_TurnDoor.l0 (k : Nat) (a0_1 : List (Int × Int × Int)) (a0_3 : List Int) (a1 : Int) : Nat → Int → (List (Int)) → Option ((List (Int)))
 | 0,_,_=>none
 | n + 1,x7,xq6_1_3=>(if (decide (x7 < (a0_1.length : Int))) = true then (spec_l1Has.f k a0_3 x7).bind fun t38=>((if (t38 != (x7 == a1)) = true then if (xq6_1_3 ++ ([x7] : List (Int))).length < 1099511627776 then some (xq6_1_3 ++ ([x7] : List (Int))) else none else some xq6_1_3)).bind fun yb6_1_3=>spec_TurnDoor.l0 k a0_1 a0_3 a1 n (w64 (x7 + 1)) yb6_1_3 else some xq6_1_3)

def spec_TurnDoor.f (k : Nat) (a0_0 : Int) (a0_1 : List (Int × Int × Int)) (a0_2 : List Int) (a0_3 : List Int) (a1 : Int) : Option (Int × (List (Int × Int × Int)) × (List Int) × (List Int) × Bool) := ((spec_l11Trap.f k a0_0 a0_1 a0_2 a0_3).bind fun t9 => (if (!t9) = true then some true else (spec_l1In.f k a1 0 (w64 ((a0_1.length : Int) - 1))).bind fun t18 => some (!t18))).bind fun y20 => (if y20 = true then some (0, [], [], [], false) else (spec_l2Own.f k a0_0 a0_1 a0_2).bind fun (t24_1, t24_2, t24_3) => (spec_TurnDoor.l0 k a0_1 a0_3 a1 k 0 ([] : List (Int))).bind fun xq6_1_3 => some (t24_1, t24_2, t24_3, xq6_1_3, true))

theorem spec_TurnDoor.ok {k : Nat}  {a0_0 : Int} {a0_1 : List (Int × Int × Int)} {a0_2 : List Int} {a0_3 : List Int} {a1 : Int} {r0 : Int} {r1 : List (Int × Int × Int)} {r2 : List Int} {r3 : List Int} {r4 : Bool} (h : spec_TurnDoor.f k a0_0 a0_1 a0_2 a0_3 a1 = some (r0, r1, r2, r3, r4)) (w : World) {va0_1 : Value} {va0_2 : Value} {va0_3 : Value} (hr_a0_1 : Rd w va0_1 a0_1) (hr_a0_2 : Rd w va0_2 a0_2) (hr_a0_3 : Rd w va0_3 a0_3) :
  Calls Tryz.prog 67 ([.agg ([.int .i64 a0_0,va0_1,va0_2,va0_3].toArray),.int .i64 a1] : List Value).toArray w (Post (fun u ns=>∃ (ur1 : Value) (Sr1 : Nat → Prop) (ur2 : Value) (Sr2 : Nat → Prop) (ur3 : Value) (Sr3 : Nat → Prop),u = .tuple #[.agg [.int .i64 r0,ur1,ur2,ur3].toArray,.bool r4]∧SlLen ur1 r1.length∧SlLen ur2 r2.length∧SlLen ur3 r3.length∧ns = [R.sl Sr1 ur1 r1,R.sl Sr2 ur2 r2,R.sl Sr3 ur3 r3]) w):=by
 unfold spec_TurnDoor.f at h
 have hl_va0_1:=hr_a0_1.len
 have hl_va0_2:=hr_a0_2.len
 have hl_va0_3:=hr_a0_3.len
 refine Calls.of_tri (N:=50) Tryz.func67 rfl rfl rfl (Sep.nil (M:=noM)) ?_
 refine Tri.seq (Tri.reg (l:=[0,1,2]) rfl ?_)
 refine F.mn rfl (m_boxG rfl rfl) ?_
 rintro _ _ ⟨b2_1,rfl,rfl⟩
 refine F.mn rfl (m_alloc ti65) ?_
 rintro _ _ ⟨b4_1,rfl,rfl⟩
 refine F.qn rfl (r_assign rfl) (F.nil (Nrm.seq (Tri.seq (Tri.seq ?_))))
 obtain ⟨y20,hE_1,h⟩:=bind_some h
 refine Tri.cut (fun e' C'=>e' = [(1,.int .i64 a1),(2,.pointer (some ⟨b2_1,0,none⟩)),(4,.pointer (some ⟨b4_1,0,none⟩)),(20,.bool y20)]∧C' = Sep w noM [R.box b4_1 65 [.int .i64 0,.slice none 0 0,.slice none 0 0,.slice none 0 0],R.box b2_1 65 [.int .i64 a0_0,va0_1,va0_2,va0_3]]) ?_ (fun hj_1=>?_)
 ·rintro _ _ ⟨rfl,rfl⟩
  refine Nrm.seq (Tri.cond (b:=y20) rfl (fun g_1=>?_) (fun g_1=>?_))
  ·replace h:=if_tt g_1 h
   refine Tri.seq (Tri.reg (l:=[0,1,2]) rfl ?_)
   refine F.qn rfl (r_build (pl:=[(0,3),(3,1)]) (qs:=[]) (cs:=[.int .i64 0,.slice none 0 0,.slice none 0 0,.slice none 0 0]) (by kernel_rfl) ti65 rfl .nil rfl rfl) ?_
   refine F.ef0 rfl rfl (wanted_none rfl) (d_storeG0 (i:=0) (cs2:=[.int .i64 0,.slice none 0 0,.slice none 0 0,.slice none 0 0]) ti65 rfl rfl rfl rfl rfl (Nat.le_of_ble_eq_true rfl) (lf_cons rfl (lf_cons rfl (lf_cons rfl (lf_cons rfl lf_nil))))) ?_
   rintro _ _ ⟨rfl,rfl⟩
   refine F.qn rfl (r_assign rfl) (F.nil (Nrm.seq (Tri.ret ?_)))
   refine Rtn.then ?_
   cases h
   exact Rtn.body (.cell rfl ta65 ti65 rfl (fun _ hw=>box_cells (i:=0) rfl _ hw) (.tmp rfl .nil)) (fun w hw=>⟨_,_,rfl,⟨.slice none 0 0,fun _=>False,.slice none 0 0,fun _=>False,.slice none 0 0,fun _=>False,rfl,len_nil,len_nil,len_nil,rfl⟩,Sep.pick (is:=[0,1,2]) rfl rfl hw.pushNil.pushNil.pushNil⟩)
  ·replace h:=if_ff g_1 h
   refine Tri.skip (Nrm.seq (Tri.seq ?_))
   obtain ⟨⟨t24_1,t24_2,t24_3⟩,h24,h⟩:=bind_some h
   refine Tri.reg (l:=[0,1,2,3,4,5,6]) rfl ?_
   refine F.qn rfl (r_fieldAddr tf65_0 rfl) (F.qn rfl (r_loadA ta27 ti27 rfl rfl (fun w hw=>cells_1 (cs':=[.int .i64 a0_0,va0_1,va0_2]) (box_cells (i:=1) rfl w hw) rfl)) ?_)
   refine F.mn rfl (m_callF (xs:=_) rfl ok141 rfl rfl (fun w hw=>spec_l2Own.ok h24 w ((fun _ hw=>hr_a0_1.sep hw) w hw) ((fun _ hw=>hr_a0_2.sep hw) w hw))) ?_
   rintro _ _ ⟨_,⟨v24_1,S24_1,v24_2,S24_2,rfl,hl_v24_1,hl_v24_2,rfl⟩,rfl⟩
   refine F.mn rfl (m_build0 (α:=Int) Tryz.underlying25 ti3) ?_
   rintro v25_1 _ ⟨S25_1,hl_v25_1,rfl⟩
   refine F.qn rfl (r_build (pl:=[(0,3),(3,1)]) (qs:=[(0,[.int .i64 t24_1,v24_1,v24_2]),(3,[v25_1])]) (cs:=[.int .i64 t24_1,v24_1,v24_2,v25_1]) (by kernel_rfl) ti65 rfl (.cons rfl rfl (Nat.le_of_ble_eq_true rfl) (.cons (sl_cells hl_v25_1) rfl (Nat.le_of_ble_eq_true rfl) .nil)) rfl rfl) ?_
   refine F.mn rfl (m_alloc ti65) ?_
   rintro _ _ ⟨b6_1,rfl,rfl⟩
   refine F.ef0 rfl rfl (wanted_none rfl) (d_storeG0 (i:=0) (cs2:=[.int .i64 t24_1,v24_1,v24_2,v25_1]) ti65 rfl rfl rfl rfl rfl (Nat.le_of_ble_eq_true rfl) (lf_cons rfl (lf_cons (sl_leaf hl_v24_1) (lf_cons (sl_leaf hl_v24_2) (lf_cons (sl_leaf hl_v25_1) lf_nil))))) ?_
   rintro _ _ ⟨rfl,rfl⟩
   refine F.nil (Nrm.seq (Tri.seq (Tri.seq (Tri.reg (l:=[0]) rfl ?_))))
   refine F.qn rfl (r_assign rfl) (F.nil (Nrm.seq ?_))
   obtain ⟨xq6_1_3,hE_2,h⟩:=bind_some h
   refine Tri.block ?_
   refine Tri.only [1,2,4,6,7] rfl ?_
   refine Tri.pick [0,4,5,1,2,3] rfl rfl ?_
   refine Tri.rounds (fun n e' C'=>∃ (x7' : Int) (xq6_1_3' : List (Int)) (wq6_1_3 : Value) (Tq6_1_3 : Nat → Prop),spec_TurnDoor.l0 k a0_1 a0_3 a1 n x7' xq6_1_3' = some xq6_1_3∧SlLen wq6_1_3 (xq6_1_3').length∧e' = [(1,.int .i64 a1),(2,.pointer (some ⟨b2_1,0,none⟩)),(4,.pointer (some ⟨b4_1,0,none⟩)),(6,.pointer (some ⟨b6_1,0,none⟩)),(7,.int .i64 x7')]∧C' = Sep w noM [R.box b6_1 65 [.int .i64 t24_1,v24_1,v24_2,wq6_1_3],R.box b4_1 65 [.int .i64 0,.slice none 0 0,.slice none 0 0,.slice none 0 0],R.box b2_1 65 [.int .i64 a0_0,va0_1,va0_2,va0_3],R.sl Tq6_1_3 wq6_1_3 (xq6_1_3' : List (Int)),R.sl S24_1 v24_1 (t24_2 : List (Int × Int × Int)),R.sl S24_2 v24_2 (t24_3 : List (Int))]) k ?_ ?_ ?_
   ·exact ⟨0,([] : List (Int)),v25_1,S25_1,hE_2,hl_v25_1,rfl,rfl⟩
   ·rintro _ _ ⟨_,_,_,_,hE_2,_⟩
    rw [spec_TurnDoor.l0.eq_1] at hE_2; cases hE_2
   ·rintro n_1 _ _ ⟨x7,xq6_1_3,wq6_1_3,Tq6_1_3,hE_2,hl_wq6_1_3,rfl,rfl⟩ ih_1
    rw [spec_TurnDoor.l0.eq_2] at hE_2
    refine Tri.seq (Tri.seq (Tri.reg (l:=[0,1,2,3,4,5]) rfl ?_))
    refine F.qn rfl (r_move rfl) (F.qn rfl (r_fieldAddr tf65_0 rfl) (F.qn rfl (r_fieldAddr tf27_1 rfl) (F.qn rfl (r_load ta24 rfl (fun w hw=>cell_2 (box_cells (i:=2) rfl w hw) rfl)) (F.qn rfl (r_len Tryz.underlying24 rfl hl_va0_1) (F.qn rfl (r_lss rfl rfl) (F.nil (Nrm.seq (Tri.cond (b:=decide (x7 < (a0_1.length : Int))) rfl (fun g_2=>?_) (fun g_2=>?_)))))))))
    ·replace hE_2:=if_tt g_2 hE_2
     refine Tri.skip (Nrm.seq (Tri.seq (Tri.block ?_)))
     refine Tri.seq ?_
     obtain ⟨t38,h38,hE_2⟩:=bind_some hE_2
     refine Tri.reg (l:=[0,1,2,3,4,5,6,7]) rfl ?_
     refine F.qn rfl (r_fieldAddr tf65_1 rfl) (F.qn rfl (r_load ta25 rfl (fun w hw=>cell_1 (box_cells (i:=2) rfl w hw) rfl)) (F.qn rfl (r_move rfl) ?_))
     refine F.qcn rfl (q_callF (xs:=_) rfl ok149 rfl rfl (fun w hw=>spec_l1Has.ok h38 w ((fun _ hw=>hr_a0_3.sep hw) w hw))) ?_
     refine F.qn rfl (r_move rfl) (F.qn rfl (r_move rfl) (F.qn rfl (r_eql rfl rfl) (F.qn rfl (r_neqB Tryz.underlying4 rfl rfl) (F.nil (Nrm.seq ?_)))))
     obtain ⟨yb6_1_3,hE_3,hE_2⟩:=bind_some hE_2
     refine Tri.cut (fun e' C'=>∃ (vb6_1_3_1 : Value) (Sb6_1_3_1 : Nat → Prop),SlLen vb6_1_3_1 (yb6_1_3).length∧e' = [(1,.int .i64 a1),(2,.pointer (some ⟨b2_1,0,none⟩)),(4,.pointer (some ⟨b4_1,0,none⟩)),(6,.pointer (some ⟨b6_1,0,none⟩)),(7,.int .i64 x7)]∧C' = Sep w noM [R.box b6_1 65 [.int .i64 t24_1,v24_1,v24_2,vb6_1_3_1],R.box b4_1 65 [.int .i64 0,.slice none 0 0,.slice none 0 0,.slice none 0 0],R.box b2_1 65 [.int .i64 a0_0,va0_1,va0_2,va0_3],R.sl Sb6_1_3_1 vb6_1_3_1 (yb6_1_3 : List (Int)),R.sl S24_1 v24_1 (t24_2 : List (Int × Int × Int)),R.sl S24_2 v24_2 (t24_3 : List (Int))]) ?_ (fun hj_2=>?_)
     ·rintro _ _ ⟨vb6_1_3_1,Sb6_1_3_1,hl_vb6_1_3_1,rfl,rfl⟩
      refine Nrm.block ?_
      refine Nrm.seq (Tri.reg (l:=[0,1,2]) rfl ?_)
      refine F.qn rfl (r_move rfl) (F.qn rfl (r_add rfl rfl) (F.qn rfl (r_assign rfl) (F.nil (Nrm.round ?_))))
      refine Rnd.only [1,2,4,6,7] rfl ?_
      refine Rnd.pick [0,1,2,3,4,5] rfl rfl ?_
      exact ih_1 _ _ ⟨w64 (x7 + 1),yb6_1_3,vb6_1_3_1,Sb6_1_3_1,hE_2,hl_vb6_1_3_1,rfl,rfl⟩
     ·refine Tri.cond (b:=t38 != (x7 == a1)) rfl (fun g_3=>?_) (fun g_3=>?_)
      ·replace hE_3:=if_tt g_3 hE_3
       obtain ⟨hs47,hE_3⟩:=ck hE_3
       refine Tri.reg (l:=[0,1,2,3,4,5,6]) rfl ?_
       refine F.qn rfl (r_fieldAddr tf65_1 rfl) (F.qn rfl (r_load ta25 rfl (fun w hw=>cell_1 (box_cells (i:=0) rfl w hw) rfl)) (F.qn rfl (r_move rfl) ?_))
       refine F.mn rfl (m_buildF (l:=([x7] : List (Int))) Tryz.underlying25 ti3 rfl rfl rfl rfl rfl) ?_
       rintro v46_1 _ ⟨S46_1,hl_v46_1,rfl⟩
       refine F.efn rfl (d_append (i:=4) Tryz.underlying25 Tryz.underlying25 ti3 rfl (by decide) rfl rfl rfl (rd_sl (i:=0) rfl) hs47) ?_
       rintro v47_1 _ ⟨S47_1,rfl,hl_v47_1⟩
       refine F.qn rfl (r_fieldAddr tf65_1 rfl) ?_
       refine F.ef0 rfl rfl (wanted_none rfl) (d_storeG1 (i:=1) (cs2:=[v47_1]) ti25 rfl rfl rfl (sl_cells hl_v47_1) rfl (Nat.le_of_ble_eq_true rfl) (lf_cons (sl_leaf hl_v47_1) lf_nil)) ?_
       rintro _ _ ⟨rfl,rfl⟩
       refine F.nil ?_
       cases hE_3
       refine Nrm.only [1,2,4,6,7] rfl ?_
       refine Nrm.pick [1,2,3,4,5,6] rfl rfl ?_
       exact hj_2 _ _ ⟨v47_1,S47_1,hl_v47_1,rfl,rfl⟩
      ·replace hE_3:=if_ff g_3 hE_3
       refine Tri.skip ?_
       cases hE_3
       refine Nrm.only [1,2,4,6,7] rfl ?_
       refine Nrm.pick [0,1,2,3,4,5] rfl rfl ?_
       exact hj_2 _ _ ⟨wq6_1_3,Tq6_1_3,hl_wq6_1_3,rfl,rfl⟩
    ·replace hE_2:=if_ff g_2 hE_2
     refine Tri.exit ?_
     refine Exi.then ?_
     refine Exi.then ?_
     refine Exi.same ?_
     cases hE_2
     refine Nrm.seq (Tri.seq (Tri.reg (l:=[0,1,2]) rfl ?_))
     refine F.qn rfl (r_loadA ta65 ti65 rfl rfl (fun w hw=>(box_cells (i:=0) rfl w hw))) ?_
     refine F.ef0 rfl rfl (wanted_none rfl) (d_storeG0 (i:=1) (cs2:=[.int .i64 t24_1,v24_1,v24_2,wq6_1_3]) ti65 rfl rfl rfl rfl rfl (Nat.le_of_ble_eq_true rfl) (lf_cons rfl (lf_cons (sl_leaf hl_v24_1) (lf_cons (sl_leaf hl_v24_2) (lf_cons (sl_leaf hl_wq6_1_3) lf_nil))))) ?_
     rintro _ _ ⟨rfl,rfl⟩
     refine F.qn rfl (r_assign rfl) (F.nil (Nrm.seq (Tri.ret ?_)))
     cases h
     exact Rtn.body (.cell rfl ta65 ti65 rfl (fun _ hw=>box_cells (i:=1) rfl _ hw) (.tmp rfl .nil)) (fun w hw=>⟨_,_,rfl,⟨v24_1,S24_1,v24_2,S24_2,wq6_1_3,Tq6_1_3,rfl,hl_v24_1,hl_v24_2,hl_wq6_1_3,rfl⟩,Sep.pick (is:=[4,5,3]) rfl rfl hw⟩)
 ·obtain ⟨t9,h9,hE_1⟩:=bind_some hE_1
  rcases Bool.eq_false_or_eq_true (!t9) with g11 | g11
  ·replace hE_1:=if_tt g11 hE_1
   refine Tri.reg (l:=List.range 13) rfl ?_
   refine F.qn rfl (r_loadA ta65 ti65 rfl rfl (fun w hw=>(box_cells (i:=1) rfl w hw))) ?_
   refine F.qcn rfl (q_callF (xs:=_) rfl ok128 rfl rfl (fun w hw=>spec_l11Trap.ok h9 w ((fun _ hw=>hr_a0_1.sep hw) w hw) ((fun _ hw=>hr_a0_2.sep hw) w hw) ((fun _ hw=>hr_a0_3.sep hw) w hw))) ?_
   refine F.qn rfl (r_not rfl) (F.qn rfl (r_move rfl) ?_)
   iterate 8 refine F.skf rfl g11 ?_
   refine F.qn rfl (r_pick rfl rfl g11) (F.nil ?_)
   cases hE_1
   refine Nrm.only [1,2,4,20] rfl ?_
   refine Nrm.pick [0,1] rfl rfl ?_
   exact hj_1 _ _ ⟨rfl,rfl⟩
  ·replace hE_1:=if_ff g11 hE_1
   obtain ⟨t18,h18,hE_1⟩:=bind_some hE_1
   refine Tri.reg (l:=List.range 13) rfl ?_
   refine F.qn rfl (r_loadA ta65 ti65 rfl rfl (fun w hw=>(box_cells (i:=1) rfl w hw))) ?_
   refine F.qcn rfl (q_callF (xs:=_) rfl ok128 rfl rfl (fun w hw=>spec_l11Trap.ok h9 w ((fun _ hw=>hr_a0_1.sep hw) w hw) ((fun _ hw=>hr_a0_2.sep hw) w hw) ((fun _ hw=>hr_a0_3.sep hw) w hw))) ?_
   refine F.qn rfl (r_not rfl) (F.qn rfl (r_move rfl) ?_)
   refine F.qg rfl g11 (r_move rfl) (F.qg rfl g11 (r_fieldAddr tf65_0 rfl) (F.qg rfl g11 (r_fieldAddr tf27_1 rfl) (F.qg rfl g11 (r_load ta24 rfl (fun w hw=>cell_2 (box_cells (i:=1) rfl w hw) rfl)) (F.qg rfl g11 (r_len Tryz.underlying24 rfl hl_va0_1) (F.qg rfl g11 (r_sub rfl rfl) ?_)))))
   refine F.qc rfl rfl rfl (wg rfl rfl rfl g11) (q_callF (xs:=_) rfl ok148 rfl rfl (fun w hw=>spec_l1In.ok h18 w)) ?_
   refine F.qg rfl g11 (r_not rfl) (F.qn rfl (r_pickf rfl rfl g11) (F.nil ?_))
   cases hE_1
   refine Nrm.only [1,2,4,20] rfl ?_
   refine Nrm.pick [0,1] rfl rfl ?_
   exact hj_1 _ _ ⟨rfl,rfl⟩


def impl_steps.l0 (k : Nat) (a0_1 : List (Int × Int × Int)) (a1 : Int) (a2 : Int) : Nat → Int → Int → Option (Int)
 | 0,_,_=>none
 | n + 1,x7,x13=>(if (decide (x13 < (a0_1.length : Int))) = true then ((rdl a0_1 x13).bind fun t15=>(impl_has.f k a2 t15.2.2).bind fun t20=>(if (!t20) = true then some x7 else ((if (t15.1 == a1) = true then if ¬ t15.2.1 < 0 then some (bor x7 (shl 1 t15.2.1)) else none else some x7)).bind fun y7=>((if (t15.2.1 == a1) = true then if ¬ t15.1 < 0 then some (bor y7 (shl 1 t15.1)) else none else some y7)).bind fun y7r=>some y7r)).bind fun y7=>impl_steps.l0 k a0_1 a1 a2 n y7 (w64 (x13 + 1)) else some x7)

def impl_steps.f (k : Nat) (a0_0 : Int) (a0_1 : List (Int × Int × Int)) (a0_2 : List Int) (a1 : Int) (a2 : Int) : Option (Int) := (impl_steps.l0 k a0_1 a1 a2 k 0 0).bind fun x7 => some x7

theorem impl_steps.ok {k : Nat}  {a0_0 : Int} {a0_1 : List (Int × Int × Int)} {a0_2 : List Int} {a1 : Int} {a2 : Int} {r0 : Int} (h : impl_steps.f k a0_0 a0_1 a0_2 a1 a2 = some r0) (w : World) {va0_1 : Value} {va0_2 : Value} (hr_a0_1 : Rd w va0_1 a0_1) (hr_a0_2 : Rd w va0_2 a0_2) :
  Calls Tryz.prog 207 ([.agg ([.int .i64 a0_0,va0_1,va0_2].toArray),.int .i64 a1,.int .i64 a2] : List Value).toArray w (fun e w'=>e = .returned (.int .i64 r0)∧Ext w w'):=by
 unfold impl_steps.f at h
 have hl_va0_1:=hr_a0_1.len
 have hl_va0_2:=hr_a0_2.len
 refine Calls.of_tri (N:=42) Tryz.func207 rfl rfl rfl (Sep.nil (M:=noM)) ?_
 refine Tri.seq (Tri.reg (l:=[0,1]) rfl ?_)
 refine F.mn rfl (m_boxG rfl rfl) ?_
 rintro _ _ ⟨b3_1,rfl,rfl⟩
 refine F.qn rfl (r_assign rfl) (F.nil (Nrm.seq (Tri.seq (Tri.reg (l:=[0]) rfl ?_))))
 refine F.qn rfl (r_assign rfl) (F.nil (Nrm.seq (Tri.seq (Tri.seq (Tri.reg (l:=[0,1,2,3]) rfl ?_)))))
 refine F.qn rfl (r_fieldAddr tf27_1 rfl) (F.qn rfl (r_load ta24 rfl (fun w hw=>cell_1 (box_cells (i:=0) rfl w hw) rfl)) (F.qn rfl (r_len Tryz.underlying24 rfl hl_va0_1) (F.qn rfl (r_move rfl) (F.nil (Nrm.seq ?_)))))
 obtain ⟨x7,hE_1,h⟩:=bind_some h
 refine Tri.block ?_
 refine Tri.only [1,2,7,11,12,13] rfl ?_
 refine Tri.pick [] rfl rfl ?_
 refine Tri.rounds (fun n e' C'=>∃ (x7' : Int) (x13' : Int),impl_steps.l0 k a0_1 a1 a2 n x7' x13' = some x7∧e' = [(1,.int .i64 a1),(2,.int .i64 a2),(7,.int .i64 x7'),(11,va0_1),(12,.int .i64 (a0_1.length : Int)),(13,.int .i64 x13')]∧C' = Sep w noM []) k ?_ ?_ ?_
 ·exact ⟨0,0,hE_1,rfl,rfl⟩
 ·rintro _ _ ⟨_,_,hE_1,_⟩
  rw [impl_steps.l0.eq_1] at hE_1; cases hE_1
 ·rintro n_1 _ _ ⟨x7,x13,hE_1,rfl,rfl⟩ ih_1
  rw [impl_steps.l0.eq_2] at hE_1
  refine Tri.seq (Tri.reg (l:=[0]) rfl ?_)
  refine F.qn rfl (r_lss rfl rfl) (F.nil (Nrm.seq (Tri.seq (Tri.cond (b:=decide (x13 < (a0_1.length : Int))) rfl (fun g_1=>?_) (fun g_1=>?_)))))
  ·replace hE_1:=if_tt g_1 hE_1
   refine Tri.skip (Nrm.seq (Tri.seq ?_))
   obtain ⟨y7,hE_2,hE_1⟩:=bind_some hE_1
   refine Tri.cut (fun e' C'=>e' = [(1,.int .i64 a1),(2,.int .i64 a2),(7,.int .i64 y7),(11,va0_1),(12,.int .i64 (a0_1.length : Int)),(13,.int .i64 x13)]∧C' = Sep w noM []) ?_ (fun hj_1=>?_)
   ·rintro _ _ ⟨rfl,rfl⟩
    refine Nrm.seq (Tri.reg (l:=[0,1]) rfl ?_)
    refine F.qn rfl (r_add rfl rfl) (F.qn rfl (r_move rfl) (F.nil (Nrm.round ?_)))
    refine Rnd.only [1,2,7,11,12,13] rfl ?_
    refine Rnd.pick [] rfl rfl ?_
    exact ih_1 _ _ ⟨y7,w64 (x13 + 1),hE_1,rfl,rfl⟩
   ·refine Tri.block ?_
    refine Tri.seq ?_
    obtain ⟨t15,h15,hE_2⟩:=bind_some hE_2
    refine Tri.reg (l:=[0,1,2,3]) rfl ?_
    refine F.qn rfl (r_indexAddrS Tryz.underlying24 ti168 rfl hl_va0_1 rfl (rdl_some h15).1 (rdl_some h15).2.1) (F.qn rfl (r_loadA ta168 ti168 rfl rfl (fun w hw=>(Rd.flat ((fun _ hw=>hr_a0_1.sep hw) w hw) (rdl_some h15).2.2))) ?_)
    refine F.mn rfl (m_alloc ti168) ?_
    rintro _ _ ⟨b9_1,rfl,rfl⟩
    refine F.ef0 rfl rfl (wanted_none rfl) (d_storeG0 (i:=0) (cs2:=[.int .i64 t15.1,.int .i64 t15.2.1,.int .i64 t15.2.2]) ti168 rfl rfl rfl rfl rfl (Nat.le_of_ble_eq_true rfl) (lf_cons rfl (lf_cons rfl (lf_cons rfl lf_nil)))) ?_
    rintro _ _ ⟨rfl,rfl⟩
    refine F.nil (Nrm.seq (Tri.seq (Tri.seq ?_)))
    obtain ⟨t20,h20,hE_2⟩:=bind_some hE_2
    refine Tri.reg (l:=[0,1,2,3,4]) rfl ?_
    refine F.qn rfl (r_move rfl) (F.qn rfl (r_indexAddrA Tryz.underlying168 ti3 rfl rfl (by decide) (by decide)) (F.qn rfl (r_load ta3 rfl (fun w hw=>cell_1 (box_cells (i:=0) rfl w hw) rfl)) ?_))
    refine F.qcn rfl (q_callF (xs:=_) rfl ok189 rfl rfl (fun w hw=>impl_has.ok h20 w)) ?_
    refine F.qn rfl (r_not rfl) (F.nil (Nrm.seq (Tri.cond (b:=!t20) rfl (fun g_2=>?_) (fun g_2=>?_))))
    ·replace hE_2:=if_tt g_2 hE_2
     refine Tri.exit ?_
     refine Exi.then ?_
     refine Exi.same ?_
     cases hE_2
     refine Nrm.only [1,2,7,11,12,13] rfl ?_
     refine Nrm.pick [] rfl rfl ?_
     exact hj_1 _ _ ⟨rfl,rfl⟩
    ·replace hE_2:=if_ff g_2 hE_2
     refine Tri.skip (Nrm.seq (Tri.seq (Tri.seq (Tri.reg (l:=[0,1,2,3]) rfl ?_))))
     refine F.qn rfl (r_indexAddrA Tryz.underlying168 ti3 rfl rfl (by decide) (by decide)) (F.qn rfl (r_load ta3 rfl (fun w hw=>cell_1 (box_cells (i:=0) rfl w hw) rfl)) (F.qn rfl (r_move rfl) (F.qn rfl (r_eql rfl rfl) (F.nil (Nrm.seq ?_)))))
     obtain ⟨y7,hE_3,hE_2⟩:=bind_some hE_2
     refine Tri.cut (fun e' C'=>e' = [(1,.int .i64 a1),(2,.int .i64 a2),(7,.int .i64 y7),(9,.pointer (some ⟨b9_1,0,none⟩)),(11,va0_1),(12,.int .i64 (a0_1.length : Int)),(13,.int .i64 x13)]∧C' = Sep w noM [R.box b9_1 168 [.int .i64 t15.1,.int .i64 t15.2.1,.int .i64 t15.2.2]]) ?_ (fun hj_2=>?_)
     ·rintro _ _ ⟨rfl,rfl⟩
      refine Nrm.seq (Tri.seq (Tri.reg (l:=[0,1,2,3]) rfl ?_))
      refine F.qn rfl (r_indexAddrA Tryz.underlying168 ti3 rfl rfl (by decide) (by decide)) (F.qn rfl (r_load ta3 rfl (fun w hw=>cell_1 (box_cells (i:=0) rfl w hw) rfl)) (F.qn rfl (r_move rfl) (F.qn rfl (r_eql rfl rfl) (F.nil (Nrm.seq ?_)))))
      obtain ⟨y7r,hE_4,hE_2⟩:=bind_some hE_2
      refine Tri.cut (fun e' C'=>e' = [(1,.int .i64 a1),(2,.int .i64 a2),(7,.int .i64 y7r),(11,va0_1),(12,.int .i64 (a0_1.length : Int)),(13,.int .i64 x13)]∧C' = Sep w noM []) ?_ (fun hj_3=>?_)
      ·rintro _ _ ⟨rfl,rfl⟩
       refine Nrm.block ?_
       cases hE_2
       refine Nrm.only [1,2,7,11,12,13] rfl ?_
       refine Nrm.pick [] rfl rfl ?_
       exact hj_1 _ _ ⟨rfl,rfl⟩
      ·refine Tri.cond (b:=t15.2.1 == a1) rfl (fun g_4=>?_) (fun g_4=>?_)
       ·replace hE_4:=if_tt g_4 hE_4
        obtain ⟨hs38,hE_4⟩:=ck hE_4
        refine Tri.reg (l:=[0,1,2,3,4,5]) rfl ?_
        refine F.qn rfl (r_move rfl) (F.qn rfl (r_indexAddrA Tryz.underlying168 ti3 rfl rfl (by decide) (by decide)) (F.qn rfl (r_load ta3 rfl (fun w hw=>cell_1 (box_cells (i:=0) rfl w hw) rfl)) (F.qn rfl (r_shl rfl rfl hs38) (F.qn rfl (r_or rfl rfl) (F.qn rfl (r_assign rfl) (F.nil ?_))))))
        cases hE_4
        refine Nrm.only [1,2,7,11,12,13] rfl ?_
        refine Nrm.pick [] rfl rfl ?_
        exact hj_3 _ _ ⟨rfl,rfl⟩
       ·replace hE_4:=if_ff g_4 hE_4
        refine Tri.skip ?_
        cases hE_4
        refine Nrm.only [1,2,7,11,12,13] rfl ?_
        refine Nrm.pick [] rfl rfl ?_
        exact hj_3 _ _ ⟨rfl,rfl⟩
     ·refine Tri.cond (b:=t15.1 == a1) rfl (fun g_3=>?_) (fun g_3=>?_)
      ·replace hE_3:=if_tt g_3 hE_3
       obtain ⟨hs29,hE_3⟩:=ck hE_3
       refine Tri.reg (l:=[0,1,2,3,4,5]) rfl ?_
       refine F.qn rfl (r_move rfl) (F.qn rfl (r_indexAddrA Tryz.underlying168 ti3 rfl rfl (by decide) (by decide)) (F.qn rfl (r_load ta3 rfl (fun w hw=>cell_1 (box_cells (i:=0) rfl w hw) rfl)) (F.qn rfl (r_shl rfl rfl hs29) (F.qn rfl (r_or rfl rfl) (F.qn rfl (r_assign rfl) (F.nil ?_))))))
       cases hE_3
       refine Nrm.only [1,2,7,9,11,12,13] rfl ?_
       refine Nrm.pick [0] rfl rfl ?_
       exact hj_2 _ _ ⟨rfl,rfl⟩
      ·replace hE_3:=if_ff g_3 hE_3
       refine Tri.skip ?_
       cases hE_3
       refine Nrm.only [1,2,7,9,11,12,13] rfl ?_
       refine Nrm.pick [0] rfl rfl ?_
       exact hj_2 _ _ ⟨rfl,rfl⟩
  ·replace hE_1:=if_ff g_1 hE_1
   refine Tri.exit ?_
   refine Exi.then ?_
   refine Exi.then ?_
   refine Exi.same ?_
   cases hE_1
   refine Nrm.seq (Tri.seq (Tri.reg (l:=[0,1]) rfl ?_))
   refine F.qn rfl (r_move rfl) (F.qn rfl (r_assign rfl) (F.nil (Nrm.seq (Tri.ret ?_))))
   cases h
   exact Rtn.body (.tmp rfl .nil) (fun w hw=>⟨rfl,hw.ext⟩)


def impl_distances.l1 (k : Nat) (x17 : Int) : Nat → Int → (Arr 768) → Option ((Arr 768))
 | 0,_,_=>none
 | n + 1,x20,xb7_1_0r=>(if (decide (x20 < 64)) = true then if 0 ≤ x17∧x17 < 12 then if 0 ≤ x20∧x20 < 64 then impl_distances.l1 k x17 n (w64 (x20 + 1)) (Arr.put xb7_1_0r (x17 * 64 + x20) (-1)) else none else none else some xb7_1_0r)

def impl_distances.l3 (k : Nat) (a0_2 : List Int) (t43 : Int × Int) (t47 : Int × Int) (t54 : List Int) : Nat → (List (Int × Int)) → Int → (Arr 768) → Option ((Arr 768) × (List (Int × Int)))
 | 0,_,_,_=>none
 | n + 1,x10r,x56,xb7_1_0rrr=>(if (decide (x56 < (t54.length : Int))) = true then (rdl t54 x56).bind fun t58=>(rdl a0_2 t58).bind fun t64=>if 0 ≤ t58∧t58 < 12 then if 0 ≤ bor t47.2 t64∧bor t47.2 t64 < 64 then ((if (decide ((Arr.at xb7_1_0rrr (t58 * 64 + (bor t47.2 t64))) < 0)) = true then if 0 ≤ t43.1∧t43.1 < 12 then if 0 ≤ t47.2∧t47.2 < 64 then if 0 ≤ t58∧t58 < 12 then if 0 ≤ bor t47.2 t64∧bor t47.2 t64 < 64 then if (x10r ++ ([(t58,bor t47.2 t64)] : List (Int × Int))).length < 1099511627776 then some (x10r ++ ([(t58,bor t47.2 t64)] : List (Int × Int)),(Arr.put xb7_1_0rrr (t58 * 64 + (bor t47.2 t64)) (w64 ((Arr.at xb7_1_0rrr (t43.1 * 64 + t47.2)) + 1)))) else none else none else none else none else none else some (x10r,xb7_1_0rrr))).bind fun (y10,yb7_1_0)=>impl_distances.l3 k a0_2 t43 t47 t54 n y10 (w64 (x56 + 1)) yb7_1_0 else none else none else some (xb7_1_0rrr,x10r))

def impl_distances.l2 (k : Nat) (a0_0 : Int) (a0_1 : List (Int × Int × Int)) (a0_2 : List Int) : Nat → (List (Int × Int)) → (Arr 768) → Option ((Arr 768))
 | 0,_,_=>none
 | n + 1,x10,xb7_1_0rr=>(if (decide ((x10.length : Int) > 0)) = true then (rdl x10 0).bind fun t43=>(rdl x10 0).bind fun t47=>(impl_steps.f k a0_0 a0_1 a0_2 t43.1 t47.2).bind fun t53=>(impl_members.f k t53).bind fun t54=>(impl_distances.l3 k a0_2 t43 t47 t54 k x10 0 xb7_1_0rr).bind fun (xb7_1_0rrr,x10r)=>(slc x10r 1 (x10r.length : Int)).bind fun t41=>impl_distances.l2 k a0_0 a0_1 a0_2 n t41 xb7_1_0rrr else some xb7_1_0rr)

def impl_distances.l0 (k : Nat) : Nat → Int → (Arr 768) → Option ((Arr 768))
 | 0,_,_=>none
 | n + 1,x17,xb7_1_0=>(if (decide (x17 < 12)) = true then (impl_distances.l1 k x17 k 0 xb7_1_0).bind fun xb7_1_0r=>impl_distances.l0 k n (w64 (x17 + 1)) xb7_1_0r else some xb7_1_0)

def impl_distances.f (k : Nat) (a0_0 : Int) (a0_1 : List (Int × Int × Int)) (a0_2 : List Int) (a1 : Int) (a2 : Int) : Option ((Arr 768)) := (impl_distances.l0 k k 0 (Arr.rep 768 0)).bind fun xb7_1_0 => if 0 ≤ a1 ∧ a1 < 12 then if 0 ≤ a2 ∧ a2 < 64 then (impl_distances.l2 k a0_0 a0_1 a0_2 k ([(a1, a2)] : List (Int × Int)) (Arr.put xb7_1_0 (a1 * 64 + a2) 0)).bind fun xb7_1_0rr => some xb7_1_0rr else none else none

theorem impl_distances.ok {k : Nat}  {a0_0 : Int} {a0_1 : List (Int × Int × Int)} {a0_2 : List Int} {a1 : Int} {a2 : Int} {r0 : Arr 768} (h : impl_distances.f k a0_0 a0_1 a0_2 a1 a2 = some r0) (w : World) {va0_1 : Value} {va0_2 : Value} (hr_a0_1 : Rd w va0_1 a0_1) (hr_a0_2 : Rd w va0_2 a0_2) :
  Calls Tryz.prog 222 ([.agg ([.int .i64 a0_0,va0_1,va0_2].toArray),.int .i64 a1,.int .i64 a2] : List Value).toArray w (fun e w'=>e = .returned (.agg (encA r0).toArray)∧Ext w w'):=by
 unfold impl_distances.f at h
 have hl_va0_1:=hr_a0_1.len
 have hl_va0_2:=hr_a0_2.len
 refine Calls.of_tri (N:=91) Tryz.func222 rfl rfl rfl (Sep.nil (M:=noM)) ?_
 refine Tri.seq (Tri.reg (l:=[0,1]) rfl ?_)
 refine F.mn rfl (m_boxG rfl rfl) ?_
 rintro _ _ ⟨b3_1,rfl,rfl⟩
 refine F.mn rfl (m_alloc ti132) ?_
 rintro _ _ ⟨b6_1,rfl,rfl⟩
 refine F.nil (Nrm.seq (Tri.seq (Tri.reg (l:=[0,1,2]) rfl ?_)))
 refine F.qn rfl (r_buildA (qs:=[]) (cs:=encA (Arr.rep 768 0)) Tryz.underlying132 ti130 ti132 rfl .nil (encA_len _) rfl) ?_
 refine F.mn rfl (m_alloc ti132) ?_
 rintro _ _ ⟨b7_1,rfl,rfl⟩
 refine F.ef0 rfl rfl (wanted_none rfl) (d_storeArr (i:=0) (g:=(Arr.rep 768 0)) (h:=(Arr.rep 768 0)) ti132 rfl rfl rfl) ?_
 rintro _ _ ⟨rfl,rfl⟩
 refine F.nil (Nrm.seq (Tri.seq (Tri.seq (Tri.reg (l:=[0]) rfl ?_))))
 refine F.qn rfl (r_move rfl) (F.nil (Nrm.seq ?_))
 obtain ⟨xb7_1_0,hE_1,h⟩:=bind_some h
 refine Tri.block ?_
 refine Tri.only [1,2,3,6,7,17] rfl ?_
 refine Tri.pick [0,1,2] rfl rfl ?_
 refine Tri.rounds (fun n e' C'=>∃ (x17' : Int) (xb7_1_0' : Arr 768),impl_distances.l0 k n x17' xb7_1_0' = some xb7_1_0∧e' = [(1,.int .i64 a1),(2,.int .i64 a2),(3,.pointer (some ⟨b3_1,0,none⟩)),(6,.pointer (some ⟨b6_1,0,none⟩)),(7,.pointer (some ⟨b7_1,0,none⟩)),(17,.int .i64 x17')]∧C' = Sep w noM [R.box b7_1 132 (encA xb7_1_0'),R.box b6_1 132 (encA (Arr.rep 768 0)),R.box b3_1 27 [.int .i64 a0_0,va0_1,va0_2]]) k ?_ ?_ ?_
 ·exact ⟨0,(Arr.rep 768 0),hE_1,rfl,rfl⟩
 ·rintro _ _ ⟨_,_,hE_1,_⟩
  rw [impl_distances.l0.eq_1] at hE_1; cases hE_1
 ·rintro n_1 _ _ ⟨x17,xb7_1_0,hE_1,rfl,rfl⟩ ih_1
  rw [impl_distances.l0.eq_2] at hE_1
  refine Tri.seq (Tri.reg (l:=[0]) rfl ?_)
  refine F.qn rfl (r_lss rfl rfl) (F.nil (Nrm.seq (Tri.seq (Tri.cond (b:=decide (x17 < 12)) rfl (fun g_1=>?_) (fun g_1=>?_)))))
  ·replace hE_1:=if_tt g_1 hE_1
   refine Tri.skip (Nrm.seq (Tri.seq (Tri.block ?_)))
   refine Tri.seq (Tri.reg (l:=[0,1]) rfl ?_)
   refine F.qn rfl (r_move rfl) (F.qn rfl (r_assign rfl) (F.nil (Nrm.seq (Tri.seq (Tri.reg (l:=[0]) rfl ?_)))))
   refine F.qn rfl (r_move rfl) (F.nil (Nrm.seq ?_))
   obtain ⟨xb7_1_0r,hE_2,hE_1⟩:=bind_some hE_1
   refine Tri.block ?_
   refine Tri.only [1,2,3,6,7,8,17,20] rfl ?_
   refine Tri.pick [0,1,2] rfl rfl ?_
   refine Tri.rounds (fun n e' C'=>∃ (x20' : Int) (xb7_1_0r' : Arr 768),impl_distances.l1 k x17 n x20' xb7_1_0r' = some xb7_1_0r∧e' = [(1,.int .i64 a1),(2,.int .i64 a2),(3,.pointer (some ⟨b3_1,0,none⟩)),(6,.pointer (some ⟨b6_1,0,none⟩)),(7,.pointer (some ⟨b7_1,0,none⟩)),(8,.int .i64 x17),(17,.int .i64 x17),(20,.int .i64 x20')]∧C' = Sep w noM [R.box b7_1 132 (encA xb7_1_0r'),R.box b6_1 132 (encA (Arr.rep 768 0)),R.box b3_1 27 [.int .i64 a0_0,va0_1,va0_2]]) k ?_ ?_ ?_
   ·exact ⟨0,xb7_1_0,hE_2,rfl,rfl⟩
   ·rintro _ _ ⟨_,_,hE_2,_⟩
    rw [impl_distances.l1.eq_1] at hE_2; cases hE_2
   ·rintro n_2 _ _ ⟨x20,xb7_1_0r,hE_2,rfl,rfl⟩ ih_2
    rw [impl_distances.l1.eq_2] at hE_2
    refine Tri.seq (Tri.reg (l:=[0]) rfl ?_)
    refine F.qn rfl (r_lss rfl rfl) (F.nil (Nrm.seq (Tri.seq (Tri.cond (b:=decide (x20 < 64)) rfl (fun g_2=>?_) (fun g_2=>?_)))))
    ·replace hE_2:=if_tt g_2 hE_2
     refine Tri.skip (Nrm.seq (Tri.seq (Tri.block ?_)))
     refine Tri.seq (Tri.reg (l:=[0,1]) rfl ?_)
     refine F.qn rfl (r_move rfl) (F.qn rfl (r_assign rfl) (F.nil (Nrm.seq ?_)))
     obtain ⟨hb25,hE_2⟩:=ck hE_2
     obtain ⟨hb26,hE_2⟩:=ck hE_2
     refine Tri.reg (l:=[0,1,2,3,4]) rfl ?_
     refine F.qn rfl (r_move rfl) (F.qn rfl (r_move rfl) (F.qn rfl (r_indexAddrA Tryz.underlying132 ti130 rfl rfl hb25.1 hb25.2) (F.qn rfl (r_indexAddrA Tryz.underlying130 ti3 rfl rfl hb26.1 hb26.2) ?_)))
     refine F.ef0 rfl rfl (wanted_none rfl) (d_storeTab (i:=0) (m:=64) (g:=xb7_1_0r) (r:=x17) (j:=x20) (u:=(-1)) ti3 rfl rfl rfl (tabB 12 64 768 hb25 rfl) hb26) ?_
     rintro _ _ ⟨rfl,rfl⟩
     refine F.nil (Nrm.block ?_)
     refine Nrm.seq (Tri.reg (l:=[0,1]) rfl ?_)
     refine F.qn rfl (r_add rfl rfl) (F.qn rfl (r_move rfl) (F.nil (Nrm.round ?_)))
     refine Rnd.only [1,2,3,6,7,8,17,20] rfl ?_
     refine Rnd.pick [0,1,2] rfl rfl ?_
     exact ih_2 _ _ ⟨w64 (x20 + 1),(Arr.put xb7_1_0r (x17 * 64 + x20) (-1)),hE_2,rfl,rfl⟩
    ·replace hE_2:=if_ff g_2 hE_2
     refine Tri.exit ?_
     refine Exi.then ?_
     refine Exi.then ?_
     refine Exi.same ?_
     cases hE_2
     refine Nrm.block ?_
     refine Nrm.seq (Tri.reg (l:=[0,1]) rfl ?_)
     refine F.qn rfl (r_add rfl rfl) (F.qn rfl (r_move rfl) (F.nil (Nrm.round ?_)))
     refine Rnd.only [1,2,3,6,7,17] rfl ?_
     refine Rnd.pick [0,1,2] rfl rfl ?_
     exact ih_1 _ _ ⟨w64 (x17 + 1),xb7_1_0r,hE_1,rfl,rfl⟩
  ·replace hE_1:=if_ff g_1 hE_1
   refine Tri.exit ?_
   refine Exi.then ?_
   refine Exi.then ?_
   refine Exi.same ?_
   cases hE_1
   refine Nrm.seq (Tri.seq ?_)
   obtain ⟨hb31,h⟩:=ck h
   obtain ⟨hb32,h⟩:=ck h
   refine Tri.reg (l:=[0,1,2,3,4]) rfl ?_
   refine F.qn rfl (r_move rfl) (F.qn rfl (r_move rfl) (F.qn rfl (r_indexAddrA Tryz.underlying132 ti130 rfl rfl hb31.1 hb31.2) (F.qn rfl (r_indexAddrA Tryz.underlying130 ti3 rfl rfl hb32.1 hb32.2) ?_)))
   refine F.ef0 rfl rfl (wanted_none rfl) (d_storeTab (i:=0) (m:=64) (g:=xb7_1_0) (r:=a1) (j:=a2) (u:=0) ti3 rfl rfl rfl (tabB 12 64 768 hb31 rfl) hb32) ?_
   rintro _ _ ⟨rfl,rfl⟩
   refine F.nil (Nrm.seq (Tri.seq (Tri.seq (Tri.reg (l:=[0,1,2,3,4]) rfl ?_))))
   refine F.qn rfl (r_move rfl) (F.qn rfl (r_move rfl) (F.qn rfl (r_buildA (qs:=[(0,[.int .i64 a1]),(1,[.int .i64 a2])]) (cs:=[.int .i64 a1,.int .i64 a2]) Tryz.underlying75 ti3 ti75 rfl (.cons rfl rfl (Nat.le_of_ble_eq_true rfl) (.cons rfl rfl (Nat.le_of_ble_eq_true rfl) .nil)) rfl rfl) ?_))
   refine F.mn rfl (m_buildF (l:=([(a1,a2)] : List (Int × Int))) Tryz.underlying72 ti75 rfl rfl rfl rfl rfl) ?_
   rintro v36_1 _ ⟨S36_1,hl_v36_1,rfl⟩
   refine F.qn rfl (r_assign rfl) (F.nil (Nrm.seq ?_))
   obtain ⟨xb7_1_0rr,hE_3,h⟩:=bind_some h
   refine Tri.block ?_
   refine Tri.only [3,6,7,10] rfl ?_
   refine Tri.pick [1,2,3,0] rfl rfl ?_
   refine Tri.rounds (fun n e' C'=>∃ (x10' : List (Int × Int)) (xb7_1_0rr' : Arr 768) (w10 : Value) (T10 : Nat → Prop),impl_distances.l2 k a0_0 a0_1 a0_2 n x10' xb7_1_0rr' = some xb7_1_0rr∧SlLen w10 (x10').length∧e' = [(3,.pointer (some ⟨b3_1,0,none⟩)),(6,.pointer (some ⟨b6_1,0,none⟩)),(7,.pointer (some ⟨b7_1,0,none⟩)),(10,w10)]∧C' = Sep w noM [R.box b7_1 132 (encA xb7_1_0rr'),R.box b6_1 132 (encA (Arr.rep 768 0)),R.box b3_1 27 [.int .i64 a0_0,va0_1,va0_2],R.sl T10 w10 (x10' : List (Int × Int))]) k ?_ ?_ ?_
   ·exact ⟨([(a1,a2)] : List (Int × Int)),(Arr.put xb7_1_0 (a1 * 64 + a2) 0),v36_1,S36_1,hE_3,hl_v36_1,rfl,rfl⟩
   ·rintro _ _ ⟨_,_,_,_,hE_3,_⟩
    rw [impl_distances.l2.eq_1] at hE_3; cases hE_3
   ·rintro n_3 _ _ ⟨x10,xb7_1_0rr,w10,T10,hE_3,hl_w10,rfl,rfl⟩ ih_3
    rw [impl_distances.l2.eq_2] at hE_3
    refine Tri.seq (Tri.seq (Tri.reg (l:=[0,1,2]) rfl ?_))
    refine F.qn rfl (r_move rfl) (F.qn rfl (r_len Tryz.underlying72 rfl hl_w10) (F.qn rfl (r_gtr rfl rfl) (F.nil (Nrm.seq (Tri.cond (b:=decide ((x10.length : Int) > 0)) rfl (fun g_3=>?_) (fun g_3=>?_))))))
    ·replace hE_3:=if_tt g_3 hE_3
     refine Tri.skip (Nrm.seq (Tri.seq (Tri.block ?_)))
     refine Tri.seq ?_
     obtain ⟨t43,h43,hE_3⟩:=bind_some hE_3
     obtain ⟨t47,h47,hE_3⟩:=bind_some hE_3
     refine Tri.drawA mixedT Sep.up [(0,true),(1,true),(2,true),(3,true),(4,true),(5,true),(6,true),(7,true),(8,true),(9,true)] [] (by kernel_rfl) ?_
     refine S.qn rfl (r_move rfl) (S.qn rfl (r_indexAddrS Tryz.underlying72 ti75 rfl hl_w10 rfl (rdl_some h43).1 (rdl_some h43).2.1) (S.qn rfl (r_indexAddrA Tryz.underlying75 ti3 rfl rfl (by decide) (by decide)) (S.qn rfl (r_load ta3 rfl (fun w hw=>cell_1 (Rd.flat ((rd_sl (i:=3) rfl) w hw) (rdl_some h43).2.2) rfl)) ?_)))
     refine S.qn rfl (r_move rfl) (S.qn rfl (r_indexAddrS Tryz.underlying72 ti75 rfl hl_w10 rfl (rdl_some h47).1 (rdl_some h47).2.1) (S.qn rfl (r_indexAddrA Tryz.underlying75 ti3 rfl rfl (by decide) (by decide)) (S.qn rfl (r_load ta3 rfl (fun w hw=>cell_1 (Rd.flat ((rd_sl (i:=3) rfl) w hw) (rdl_some h47).2.2) rfl)) (S.qn rfl (r_assign rfl) (S.qn rfl (r_assign rfl) (S.nil (F.nil (Nrm.seq (Tri.seq ?_)))))))))
     obtain ⟨t53,h53,hE_3⟩:=bind_some hE_3
     obtain ⟨t54,h54,hE_3⟩:=bind_some hE_3
     refine Tri.reg (l:=[0,1,2,3,4,5,6]) rfl ?_
     refine F.qn rfl (r_loadA ta27 ti27 rfl rfl (fun w hw=>(box_cells (i:=2) rfl w hw))) (F.qn rfl (r_move rfl) (F.qn rfl (r_move rfl) ?_))
     refine F.qcn rfl (q_callF (xs:=_) rfl ok207 rfl rfl (fun w hw=>impl_steps.ok h53 w ((fun _ hw=>hr_a0_1.sep hw) w hw) ((fun _ hw=>hr_a0_2.sep hw) w hw))) ?_
     refine F.mn rfl (m_callF (xs:=_) rfl ok119 rfl rfl (fun w hw=>impl_members.ok h54 w)) ?_
     rintro v54_1 _ ⟨_,⟨S54_1,hl_v54_1,rfl⟩,rfl⟩
     refine F.qn rfl (r_len Tryz.underlying25 rfl hl_v54_1) (F.qn rfl (r_move rfl) (F.nil (Nrm.seq ?_)))
     obtain ⟨⟨xb7_1_0rrr,x10r⟩,hE_4,hE_3⟩:=bind_some hE_3
     refine Tri.block ?_
     refine Tri.only [3,6,7,10,11,12,54,55,56] rfl ?_
     refine Tri.pick [1,2,3,0,4] rfl rfl ?_
     refine Tri.rounds (fun n e' C'=>∃ (x10r' : List (Int × Int)) (x56' : Int) (xb7_1_0rrr' : Arr 768) (w10r : Value) (T10r : Nat → Prop),impl_distances.l3 k a0_2 t43 t47 t54 n x10r' x56' xb7_1_0rrr' = some (xb7_1_0rrr,x10r)∧SlLen w10r (x10r').length∧e' = [(3,.pointer (some ⟨b3_1,0,none⟩)),(6,.pointer (some ⟨b6_1,0,none⟩)),(7,.pointer (some ⟨b7_1,0,none⟩)),(10,w10r),(11,.int .i64 t43.1),(12,.int .i64 t47.2),(54,v54_1),(55,.int .i64 (t54.length : Int)),(56,.int .i64 x56')]∧C' = Sep w noM [R.box b7_1 132 (encA xb7_1_0rrr'),R.box b6_1 132 (encA (Arr.rep 768 0)),R.box b3_1 27 [.int .i64 a0_0,va0_1,va0_2],R.sl S54_1 v54_1 (t54 : List (Int)),R.sl T10r w10r (x10r' : List (Int × Int))]) k ?_ ?_ ?_
     ·exact ⟨x10,0,xb7_1_0rr,w10,T10,hE_4,hl_w10,rfl,rfl⟩
     ·rintro _ _ ⟨_,_,_,_,_,hE_4,_⟩
      rw [impl_distances.l3.eq_1] at hE_4; cases hE_4
     ·rintro n_4 _ _ ⟨x10r,x56,xb7_1_0rrr,w10r,T10r,hE_4,hl_w10r,rfl,rfl⟩ ih_4
      rw [impl_distances.l3.eq_2] at hE_4
      refine Tri.seq (Tri.reg (l:=[0]) rfl ?_)
      refine F.qn rfl (r_lss rfl rfl) (F.nil (Nrm.seq (Tri.seq (Tri.cond (b:=decide (x56 < (t54.length : Int))) rfl (fun g_4=>?_) (fun g_4=>?_)))))
      ·replace hE_4:=if_tt g_4 hE_4
       refine Tri.skip (Nrm.seq (Tri.seq (Tri.block ?_)))
       refine Tri.seq ?_
       obtain ⟨t58,h58,hE_4⟩:=bind_some hE_4
       refine Tri.reg (l:=[0,1,2]) rfl ?_
       refine F.qn rfl (r_indexAddrS Tryz.underlying25 ti3 rfl hl_v54_1 rfl (rdl_some h58).1 (rdl_some h58).2.1) (F.qn rfl (r_load ta3 rfl (fun w hw=>cell_0 (Rd.flat ((rd_sl (i:=3) rfl) w hw) (rdl_some h58).2.2) rfl)) (F.qn rfl (r_assign rfl) (F.nil (Nrm.seq (Tri.seq ?_)))))
       obtain ⟨t64,h64,hE_4⟩:=bind_some hE_4
       refine Tri.reg (l:=[0,1,2,3,4,5,6,7]) rfl ?_
       refine F.qn rfl (r_move rfl) (F.qn rfl (r_fieldAddr tf27_2 rfl) ?_)
       refine F.qn rfl (r_load ta25 rfl (fun w hw=>cell_1 (box_cells (i:=2) rfl w hw) rfl)) (F.qn rfl (r_move rfl) (F.qn rfl (r_indexAddrS Tryz.underlying25 ti3 rfl hl_va0_2 rfl (rdl_some h64).1 (rdl_some h64).2.1) (F.qn rfl (r_load ta3 rfl (fun w hw=>cell_0 (Rd.flat ((fun _ hw=>hr_a0_2.sep hw) w hw) (rdl_some h64).2.2) rfl)) (F.qn rfl (r_or rfl rfl) (F.qn rfl (r_assign rfl) (F.nil (Nrm.seq (Tri.seq ?_))))))))
       obtain ⟨hb69,hE_4⟩:=ck hE_4
       obtain ⟨hb70,hE_4⟩:=ck hE_4
       refine Tri.reg (l:=[0,1,2,3,4,5]) rfl ?_
       refine F.qn rfl (r_move rfl) (F.qn rfl (r_move rfl) (F.qn rfl (r_indexAddrA Tryz.underlying132 ti130 rfl rfl hb69.1 hb69.2) (F.qn rfl (r_indexAddrA Tryz.underlying130 ti3 rfl rfl hb70.1 hb70.2) (F.qn rfl (r_load ta3 rfl (fun w hw=>cell_tab (g:=xb7_1_0rrr) (m:=64) (box_cells (i:=0) rfl w hw) (tabB 12 64 768 hb69 rfl) hb70)) (F.qn rfl (r_lss rfl rfl) (F.nil (Nrm.seq ?_)))))))
       obtain ⟨⟨y10,yb7_1_0⟩,hE_5,hE_4⟩:=bind_some hE_4
       refine Tri.cut (fun e' C'=>∃ (v10_1 : Value) (S10_1 : Nat → Prop),SlLen v10_1 (y10).length∧e' = [(3,.pointer (some ⟨b3_1,0,none⟩)),(6,.pointer (some ⟨b6_1,0,none⟩)),(7,.pointer (some ⟨b7_1,0,none⟩)),(10,v10_1),(11,.int .i64 t43.1),(12,.int .i64 t47.2),(54,v54_1),(55,.int .i64 (t54.length : Int)),(56,.int .i64 x56)]∧C' = Sep w noM [R.box b7_1 132 (encA yb7_1_0),R.box b6_1 132 (encA (Arr.rep 768 0)),R.box b3_1 27 [.int .i64 a0_0,va0_1,va0_2],R.sl S10_1 v10_1 (y10 : List (Int × Int)),R.sl S54_1 v54_1 (t54 : List (Int))]) ?_ (fun hj_1=>?_)
       ·rintro _ _ ⟨v10_1,S10_1,hl_v10_1,rfl,rfl⟩
        refine Nrm.block ?_
        refine Nrm.seq (Tri.reg (l:=[0,1]) rfl ?_)
        refine F.qn rfl (r_add rfl rfl) (F.qn rfl (r_move rfl) (F.nil (Nrm.round ?_)))
        refine Rnd.only [3,6,7,10,11,12,54,55,56] rfl ?_
        refine Rnd.pick [0,1,2,4,3] rfl rfl ?_
        exact ih_4 _ _ ⟨y10,w64 (x56 + 1),yb7_1_0,v10_1,S10_1,hE_4,hl_v10_1,rfl,rfl⟩
       ·refine Tri.cond (b:=decide ((Arr.at xb7_1_0rrr (t58 * 64 + (bor t47.2 t64))) < 0)) rfl (fun g_5=>?_) (fun g_5=>?_)
        ·replace hE_5:=if_tt g_5 hE_5
         refine Tri.seq ?_
         obtain ⟨hb77,hE_5⟩:=ck hE_5
         obtain ⟨hb78,hE_5⟩:=ck hE_5
         obtain ⟨hb81,hE_5⟩:=ck hE_5
         obtain ⟨hb82,hE_5⟩:=ck hE_5
         refine Tri.drawA mixedT Sep.up [(0,true),(1,true),(2,true),(3,true),(4,true),(5,true),(6,true),(7,true),(8,true),(9,true)] [10] (by kernel_rfl) ?_
         iterate 4 refine S.qn rfl (r_move rfl) ?_
         refine S.qn rfl (r_indexAddrA Tryz.underlying132 ti130 rfl rfl hb77.1 hb77.2) ?_
         refine S.qn rfl (r_indexAddrA Tryz.underlying130 ti3 rfl rfl hb78.1 hb78.2) (S.qn rfl (r_load ta3 rfl (fun w hw=>cell_tab (g:=xb7_1_0rrr) (m:=64) (box_cells (i:=0) rfl w hw) (tabB 12 64 768 hb77 rfl) hb78)) (S.qn rfl (r_add rfl rfl) (S.qn rfl (r_indexAddrA Tryz.underlying132 ti130 rfl rfl hb81.1 hb81.2) (S.qn rfl (r_indexAddrA Tryz.underlying130 ti3 rfl rfl hb82.1 hb82.2) (S.nil (F.ef0 rfl rfl (wanted_none rfl) (d_storeTab (i:=0) (m:=64) (g:=xb7_1_0rrr) (r:=t58) (j:=bor t47.2 t64) (u:=w64 ((Arr.at xb7_1_0rrr (t43.1 * 64 + t47.2)) + 1)) ti3 rfl rfl rfl (tabB 12 64 768 hb81 rfl) hb82) ?_))))))
         rintro _ _ ⟨rfl,rfl⟩
         refine F.nil (Nrm.seq ?_)
         obtain ⟨hs88,hE_5⟩:=ck hE_5
         refine Tri.reg (l:=[0,1,2,3,4,5,6]) rfl ?_
         iterate 3 refine F.qn rfl (r_move rfl) ?_
         refine F.qn rfl (r_buildA (qs:=[(0,[.int .i64 t58]),(1,[.int .i64 (bor t47.2 t64)])]) (cs:=[.int .i64 t58,.int .i64 (bor t47.2 t64)]) Tryz.underlying75 ti3 ti75 rfl (.cons rfl rfl (Nat.le_of_ble_eq_true rfl) (.cons rfl rfl (Nat.le_of_ble_eq_true rfl) .nil)) rfl rfl) ?_
         refine F.mn rfl (m_buildF (l:=([(t58,bor t47.2 t64)] : List (Int × Int))) Tryz.underlying72 ti75 rfl rfl rfl rfl rfl) ?_
         rintro v87_1 _ ⟨S87_1,hl_v87_1,rfl⟩
         refine F.efn rfl (d_append (i:=5) Tryz.underlying72 Tryz.underlying72 ti75 rfl (by decide) rfl rfl rfl (rd_sl (i:=0) rfl) hs88) ?_
         rintro v88_1 _ ⟨S88_1,rfl,hl_v88_1⟩
         refine F.qn rfl (r_assign rfl) (F.nil ?_)
         cases hE_5
         refine Nrm.only [3,6,7,10,11,12,54,55,56] rfl ?_
         refine Nrm.pick [1,2,3,5,4] rfl rfl ?_
         exact hj_1 _ _ ⟨v88_1,S88_1,hl_v88_1,rfl,rfl⟩
        ·replace hE_5:=if_ff g_5 hE_5
         refine Tri.skip ?_
         cases hE_5
         refine Nrm.only [3,6,7,10,11,12,54,55,56] rfl ?_
         refine Nrm.pick [0,1,2,4,3] rfl rfl ?_
         exact hj_1 _ _ ⟨w10r,T10r,hl_w10r,rfl,rfl⟩
      ·replace hE_4:=if_ff g_4 hE_4
       refine Tri.exit ?_
       refine Exi.then ?_
       refine Exi.then ?_
       refine Exi.same ?_
       cases hE_4
       refine Nrm.block ?_
       refine Nrm.seq ?_
       obtain ⟨t41,h41,hE_3⟩:=bind_some hE_3
       refine Tri.reg (l:=[0,1,2]) rfl ?_
       refine F.qn rfl (r_move rfl) (F.qn rfl (r_sliceL Tryz.underlying72 ti75 rfl (rd_sl (i:=4) rfl) rfl h41) (F.qn rfl (r_assign rfl) (F.nil (Nrm.imp (fun w hw=>Sep.resl (i:=4) rfl h41 hw) ?_))))
       refine Nrm.round ?_
       refine Rnd.only [3,6,7,10] rfl ?_
       refine Rnd.pick [0,1,2,4] rfl rfl ?_
       exact ih_3 _ _ ⟨t41,xb7_1_0rrr,(slSub w10r 2 (1 : Int).toNat (x10r.length : Int).toNat),T10r,hE_3,(slc_len hl_w10r h41),rfl,rfl⟩
    ·replace hE_3:=if_ff g_3 hE_3
     refine Tri.exit ?_
     refine Exi.then ?_
     refine Exi.then ?_
     refine Exi.same ?_
     cases hE_3
     refine Nrm.seq (Tri.seq (Tri.reg (l:=[0,1]) rfl ?_))
     refine F.qn rfl (r_loadA (cs:=encA xb7_1_0rr) ta132 ti132 rfl (encA_len _) (fun w hw=>(box_cells (i:=0) rfl w hw))) ?_
     refine F.ef0 rfl rfl (wanted_none rfl) (d_storeArr (i:=1) (g:=(Arr.rep 768 0)) (h:=xb7_1_0rr) ti132 rfl rfl rfl) ?_
     rintro _ _ ⟨rfl,rfl⟩
     refine F.nil (Nrm.seq (Tri.ret ?_))
     cases h
     exact Rtn.body (.cell rfl ta132 ti132 (encA_len _) (fun _ hw=>box_cells (i:=1) rfl _ hw) .nil) (fun w hw=>⟨rfl,hw.ext⟩)


def impl_fromStart.f (k : Nat) (a0_0 : Int) (a0_1 : List (Int × Int × Int)) (a0_2 : List Int) : Option ((Arr 768)) := (rdl a0_2 0).bind fun t6 => (impl_distances.f k a0_0 a0_1 a0_2 0 t6).bind fun t8 => some t8

theorem impl_fromStart.ok {k : Nat}  {a0_0 : Int} {a0_1 : List (Int × Int × Int)} {a0_2 : List Int} {r0 : Arr 768} (h : impl_fromStart.f k a0_0 a0_1 a0_2 = some r0) (w : World) {va0_1 : Value} {va0_2 : Value} (hr_a0_1 : Rd w va0_1 a0_1) (hr_a0_2 : Rd w va0_2 a0_2) :
  Calls Tryz.prog 150 ([.agg ([.int .i64 a0_0,va0_1,va0_2].toArray)] : List Value).toArray w (fun e w'=>e = .returned (.agg (encA r0).toArray)∧Ext w w'):=by
 unfold impl_fromStart.f at h
 have hl_va0_1:=hr_a0_1.len
 have hl_va0_2:=hr_a0_2.len
 refine Calls.of_tri (N:=9) Tryz.func150 rfl rfl rfl (Sep.nil (M:=noM)) ?_
 refine Tri.seq (Tri.reg (l:=[0,1]) rfl ?_)
 refine F.mn rfl (m_boxG rfl rfl) ?_
 rintro _ _ ⟨b1_1,rfl,rfl⟩
 refine F.mn rfl (m_alloc ti132) ?_
 rintro _ _ ⟨b2_1,rfl,rfl⟩
 refine F.nil (Nrm.seq (Tri.seq ?_))
 obtain ⟨t6,h6,h⟩:=bind_some h
 obtain ⟨t8,h8,h⟩:=bind_some h
 refine Tri.drawA mixedT Sep.up [(0,true),(1,true),(2,true),(3,true),(4,true),(5,true)] [6] (by kernel_rfl) ?_
 refine S.qn rfl (r_loadA ta27 ti27 rfl rfl (fun w hw=>(box_cells (i:=1) rfl w hw))) (S.qn rfl (r_fieldAddr tf27_2 rfl) (S.qn rfl (r_load ta25 rfl (fun w hw=>cell_1 (box_cells (i:=1) rfl w hw) rfl)) (S.qn rfl (r_indexAddrS Tryz.underlying25 ti3 rfl hl_va0_2 rfl (rdl_some h6).1 (rdl_some h6).2.1) (S.qn rfl (r_load ta3 rfl (fun w hw=>cell_0 (Rd.flat ((fun _ hw=>hr_a0_2.sep hw) w hw) (rdl_some h6).2.2) rfl)) ?_))))
 refine S.qcn rfl (q_callF (xs:=_) rfl ok222 rfl rfl (fun w hw=>impl_distances.ok h8 w ((fun _ hw=>hr_a0_1.sep hw) w hw) ((fun _ hw=>hr_a0_2.sep hw) w hw))) ?_
 refine S.nil (F.ef0 rfl rfl (wanted_none rfl) (d_storeArr (i:=0) (g:=(Arr.rep 768 0)) (h:=t8) ti132 rfl rfl rfl) ?_)
 rintro _ _ ⟨rfl,rfl⟩
 refine F.nil (Nrm.seq (Tri.ret ?_))
 cases h
 exact Rtn.body (.cell rfl ta132 ti132 (encA_len _) (fun _ hw=>box_cells (i:=0) rfl _ hw) .nil) (fun w hw=>⟨rfl,hw.ext⟩)


def impl_grid_least.l0 (k : Nat) (a0 : Arr 768) (a1 : Int) (a2 : (Int → Option (Bool))) : Nat → Int → Int → Option (Int)
 | 0,_,_=>none
 | n + 1,x7,x13=>(if (decide (x13 < 64)) = true then if 0 ≤ x13∧x13 < 64 then ((a2 x13).bind fun t19=>(if t19 = true then (impl_better.f k (Arr.at a0 (a1 * 64 + x13)) x7).bind fun t23=>some t23 else some false)).bind fun y24=>((if y24 = true then some (Arr.at a0 (a1 * 64 + x13)) else some x7)).bind fun y7=>impl_grid_least.l0 k a0 a1 a2 n y7 (w64 (x13 + 1)) else none else some x7)

def impl_grid_least.f (k : Nat) (a0 : Arr 768) (a1 : Int) (a2 : (Int → Option (Bool))) : Option (Int) := if 0 ≤ a1 ∧ a1 < 12 then (impl_grid_least.l0 k a0 a1 a2 k (-1) 0).bind fun x7 => some x7 else none

theorem impl_grid_least.ok {k : Nat}  {a0 : Arr 768} {a1 : Int} {a2 : (Int → Option (Bool))} {r0 : Int} (h : impl_grid_least.f k a0 a1 a2 = some r0) (w : World) {fi_a2 : FuncId} {ca_a2 : Array Value} (ho_a2 : CallOk Tryz.prog fi_a2) (hf_a2 : ∀ w2, Ext w w2 → ∀ (z0 : Int) (y : Bool), a2 z0 = some y → Calls Tryz.prog fi_a2 (([.int .i64 z0] : List Value) ++ ca_a2.toList).toArray w2 (fun e w3 => e = .returned (.bool y) ∧ Ext w2 w3)) :
  Calls Tryz.prog 151 ([.agg (encA a0).toArray,.int .i64 a1,.func (.func fi_a2) #[] ca_a2] : List Value).toArray w (fun e w'=>e = .returned (.int .i64 r0)∧Ext w w'):=by
 unfold impl_grid_least.f at h
 refine Calls.of_tri (N:=28) Tryz.func151 rfl rfl rfl (Sep.nil (M:=noM)) ?_
 refine Tri.seq (Tri.reg (l:=[0,1]) rfl ?_)
 refine F.mn rfl (m_boxG rfl rfl) ?_
 rintro _ _ ⟨b3_1,rfl,rfl⟩
 refine F.qn rfl (r_assign rfl) (F.nil (Nrm.seq (Tri.seq (Tri.reg (l:=[0]) rfl ?_))))
 refine F.qn rfl (r_assign rfl) (F.nil (Nrm.seq (Tri.seq (Tri.seq ?_))))
 obtain ⟨hb11,h⟩:=ck h
 refine Tri.reg (l:=[0,1,2,3]) rfl ?_
 refine F.qn rfl (r_move rfl) (F.qn rfl (r_indexAddrA Tryz.underlying132 ti130 rfl rfl hb11.1 hb11.2) (F.qn rfl (r_loadRow (a:=a0) ta130 ti130 rfl (tabB 12 64 768 hb11 rfl) (fun w hw=>(box_cells (i:=0) rfl w hw))) (F.qn rfl (r_move rfl) (F.nil (Nrm.seq ?_)))))
 obtain ⟨x7,hE_1,h⟩:=bind_some h
 refine Tri.block ?_
 refine Tri.only [2,7,12,13] rfl ?_
 refine Tri.pick [] rfl rfl ?_
 refine Tri.rounds (fun n e' C'=>∃ (x7' : Int) (x13' : Int),impl_grid_least.l0 k a0 a1 a2 n x7' x13' = some x7∧e' = [(2,.func (.func fi_a2) #[] ca_a2),(7,.int .i64 x7'),(12,.agg (rowA a0 a1 64)),(13,.int .i64 x13')]∧C' = Sep w noM []) k ?_ ?_ ?_
 ·exact ⟨(-1),0,hE_1,rfl,rfl⟩
 ·rintro _ _ ⟨_,_,hE_1,_⟩
  rw [impl_grid_least.l0.eq_1] at hE_1; cases hE_1
 ·rintro n_1 _ _ ⟨x7,x13,hE_1,rfl,rfl⟩ ih_1
  rw [impl_grid_least.l0.eq_2] at hE_1
  refine Tri.seq (Tri.reg (l:=[0]) rfl ?_)
  refine F.qn rfl (r_lss rfl rfl) (F.nil (Nrm.seq (Tri.seq (Tri.cond (b:=decide (x13 < 64)) rfl (fun g_1=>?_) (fun g_1=>?_)))))
  ·replace hE_1:=if_tt g_1 hE_1
   refine Tri.skip (Nrm.seq (Tri.seq (Tri.block ?_)))
   refine Tri.seq ?_
   obtain ⟨hb16,hE_1⟩:=ck hE_1
   refine Tri.reg (l:=[0,1,2,3]) rfl ?_
   refine F.qn rfl (r_move rfl) (F.qn rfl (r_indexR (g:=a0) (i:=a1) (m:=64) Tryz.underlying130 ti3 ta3 rfl rfl (tabB 12 64 768 hb11 rfl) hb16) (F.qn rfl (r_assign rfl) (F.qn rfl (r_assign rfl) (F.nil (Nrm.seq (Tri.seq ?_))))))
   obtain ⟨y24,hE_2,hE_1⟩:=bind_some hE_1
   refine Tri.cut (fun e' C'=>e' = [(2,.func (.func fi_a2) #[] ca_a2),(7,.int .i64 x7),(9,.int .i64 (Arr.at a0 (a1 * 64 + x13))),(12,.agg (rowA a0 a1 64)),(13,.int .i64 x13),(24,.bool y24)]∧C' = Sep w noM []) ?_ (fun hj_1=>?_)
   ·rintro _ _ ⟨rfl,rfl⟩
    refine Nrm.seq ?_
    obtain ⟨y7,hE_3,hE_1⟩:=bind_some hE_1
    refine Tri.cut (fun e' C'=>e' = [(2,.func (.func fi_a2) #[] ca_a2),(7,.int .i64 y7),(12,.agg (rowA a0 a1 64)),(13,.int .i64 x13)]∧C' = Sep w noM []) ?_ (fun hj_2=>?_)
    ·rintro _ _ ⟨rfl,rfl⟩
     refine Nrm.block ?_
     refine Nrm.seq (Tri.reg (l:=[0,1]) rfl ?_)
     refine F.qn rfl (r_add rfl rfl) (F.qn rfl (r_move rfl) (F.nil (Nrm.round ?_)))
     refine Rnd.only [2,7,12,13] rfl ?_
     refine Rnd.pick [] rfl rfl ?_
     exact ih_1 _ _ ⟨y7,w64 (x13 + 1),hE_1,rfl,rfl⟩
    ·refine Tri.cond (b:=y24) rfl (fun g_2=>?_) (fun g_2=>?_)
     ·replace hE_3:=if_tt g_2 hE_3
      refine Tri.reg (l:=[0,1]) rfl ?_
      refine F.qn rfl (r_move rfl) (F.qn rfl (r_assign rfl) (F.nil ?_))
      cases hE_3
      refine Nrm.only [2,7,12,13] rfl ?_
      refine Nrm.pick [] rfl rfl ?_
      exact hj_2 _ _ ⟨rfl,rfl⟩
     ·replace hE_3:=if_ff g_2 hE_3
      refine Tri.skip ?_
      cases hE_3
      refine Nrm.only [2,7,12,13] rfl ?_
      refine Nrm.pick [] rfl rfl ?_
      exact hj_2 _ _ ⟨rfl,rfl⟩
   ·obtain ⟨t19,h19,hE_2⟩:=bind_some hE_2
    rcases Bool.eq_false_or_eq_true (t19) with g20 | g20
    ·replace hE_2:=if_tt g20 hE_2
     obtain ⟨t23,h23,hE_2⟩:=bind_some hE_2
     refine Tri.reg (l:=[0,1,2,3,4,5,6,7]) rfl ?_
     refine F.qn rfl (r_move rfl) (F.qn rfl (r_move rfl) ?_)
     refine F.qcn rfl (q_callC (xs:=_) rfl ho_a2 rfl rfl (fun w hw=>hf_a2 w hw.ext _  _ h19)) ?_
     refine F.qn rfl (r_move rfl) (F.qg rfl g20 (r_move rfl) (F.qg rfl g20 (r_move rfl) ?_))
     refine F.qc rfl rfl rfl (wg rfl rfl rfl g20) (q_callF (xs:=_) rfl ok223 rfl rfl (fun w hw=>impl_better.ok h23 w)) ?_
     refine F.qn rfl (r_pick rfl rfl g20) (F.nil ?_)
     cases hE_2
     refine Nrm.only [2,7,9,12,13,24] rfl ?_
     refine Nrm.pick [] rfl rfl ?_
     exact hj_1 _ _ ⟨rfl,rfl⟩
    ·replace hE_2:=if_ff g20 hE_2
     refine Tri.reg (l:=[0,1,2,3,4,5,6,7]) rfl ?_
     refine F.qn rfl (r_move rfl) (F.qn rfl (r_move rfl) ?_)
     refine F.qcn rfl (q_callC (xs:=_) rfl ho_a2 rfl rfl (fun w hw=>hf_a2 w hw.ext _  _ h19)) ?_
     refine F.qn rfl (r_move rfl) ?_
     iterate 3 refine F.skf rfl g20 ?_
     refine F.qn rfl (r_pickf rfl rfl g20) (F.nil ?_)
     cases hE_2
     refine Nrm.only [2,7,9,12,13,24] rfl ?_
     refine Nrm.pick [] rfl rfl ?_
     exact hj_1 _ _ ⟨rfl,rfl⟩
  ·replace hE_1:=if_ff g_1 hE_1
   refine Tri.exit ?_
   refine Exi.then ?_
   refine Exi.then ?_
   refine Exi.same ?_
   cases hE_1
   refine Nrm.seq (Tri.seq (Tri.reg (l:=[0,1]) rfl ?_))
   refine F.qn rfl (r_move rfl) (F.qn rfl (r_assign rfl) (F.nil (Nrm.seq (Tri.ret ?_))))
   cases h
   exact Rtn.body (.tmp rfl .nil) (fun w hw=>⟨rfl,hw.ext⟩)


def impl_anySet.f (k : Nat) (a0 : Int) : Option (Bool) := some true

theorem impl_anySet.ok {k : Nat}  {a0 : Int} {r0 : Bool} (h : impl_anySet.f k a0 = some r0) (w : World) :
  Calls Tryz.prog 152 ([.int .i64 a0] : List Value).toArray w (fun e w'=>e = .returned (.bool r0)∧Ext w w'):=by
 unfold impl_anySet.f at h
 refine Calls.of_tri (N:=3) Tryz.func152 rfl rfl rfl (Sep.nil (M:=noM)) ?_
 refine Tri.seq (Tri.reg (l:=[0]) rfl ?_)
 refine F.qn rfl (r_assign rfl) (F.nil (Nrm.seq (Tri.seq (Tri.reg (l:=[0]) rfl ?_))))
 refine F.qn rfl (r_assign rfl) (F.nil (Nrm.seq (Tri.ret ?_)))
 cases h
 exact Rtn.body (.tmp rfl .nil) (fun w hw=>⟨rfl,hw.ext⟩)


def impl_FewestSteps.f (k : Nat) (a0_0 : Int) (a0_1 : List (Int × Int × Int)) (a0_2 : List Int) : Option (Int × Bool) := (impl_IsMaze.f k a0_0 a0_1 a0_2).bind fun t5 => (if (!t5) = true then some (0, false) else (impl_fromStart.f k a0_0 a0_1 a0_2).bind fun t8 => (impl_grid_least.f k t8 (w64 (a0_0 - 1)) (fun z0 => impl_anySet.f k z0)).bind fun t12 => (impl_told.f k t12).bind fun (t13_1, t13_2) => some (t13_1, t13_2))

theorem impl_FewestSteps.ok {k : Nat}  {a0_0 : Int} {a0_1 : List (Int × Int × Int)} {a0_2 : List Int} {r0 : Int} {r1 : Bool} (h : impl_FewestSteps.f k a0_0 a0_1 a0_2 = some (r0, r1)) (w : World) {va0_1 : Value} {va0_2 : Value} (hr_a0_1 : Rd w va0_1 a0_1) (hr_a0_2 : Rd w va0_2 a0_2) :
  Calls Tryz.prog 68 ([.agg ([.int .i64 a0_0,va0_1,va0_2].toArray)] : List Value).toArray w (fun e w'=>e = .returned (.tuple #[.int .i64 r0,.bool r1])∧Ext w w'):=by
 unfold impl_FewestSteps.f at h
 have hl_va0_1:=hr_a0_1.len
 have hl_va0_2:=hr_a0_2.len
 refine Calls.of_tri (N:=16) Tryz.func68 rfl rfl rfl (Sep.nil (M:=noM)) ?_
 refine Tri.seq (Tri.reg (l:=[0,1,2]) rfl ?_)
 refine F.mn rfl (m_boxG rfl rfl) ?_
 rintro _ _ ⟨b1_1,rfl,rfl⟩
 refine F.qn rfl (r_assign rfl) (F.qn rfl (r_assign rfl) (F.nil (Nrm.seq (Tri.seq (Tri.seq ?_)))))
 obtain ⟨t5,h5,h⟩:=bind_some h
 refine Tri.reg (l:=[0,1,2]) rfl ?_
 refine F.qn rfl (r_loadA ta27 ti27 rfl rfl (fun w hw=>(box_cells (i:=0) rfl w hw))) ?_
 refine F.qcn rfl (q_callF (xs:=_) rfl ok102 rfl rfl (fun w hw=>impl_IsMaze.ok h5 w ((fun _ hw=>hr_a0_1.sep hw) w hw) ((fun _ hw=>hr_a0_2.sep hw) w hw))) ?_
 refine F.qn rfl (r_not rfl) (F.nil (Nrm.seq (Tri.cond (b:=!t5) rfl (fun g_1=>?_) (fun g_1=>?_))))
 ·replace h:=if_tt g_1 h
  refine Tri.seq (Tri.reg (l:=[0,1]) rfl ?_)
  refine F.qn rfl (r_assign rfl) (F.qn rfl (r_assign rfl) (F.nil (Nrm.seq (Tri.ret ?_))))
  refine Rtn.then ?_
  cases h
  exact Rtn.body (.tmp rfl (.tmp rfl .nil)) (fun w hw=>⟨rfl,hw.ext⟩)
 ·replace h:=if_ff g_1 h
  refine Tri.skip (Nrm.seq (Tri.seq ?_))
  obtain ⟨t8,h8,h⟩:=bind_some h
  obtain ⟨t12,h12,h⟩:=bind_some h
  obtain ⟨⟨t13_1,t13_2⟩,h13,h⟩:=bind_some h
  refine Tri.drawA mixedT Sep.up [(0,true),(1,true),(2,true),(3,true),(4,true),(5,true),(6,true),(7,true),(8,true),(9,true),(10,true)] [] (by kernel_rfl) ?_
  refine S.qn rfl (r_loadA ta27 ti27 rfl rfl (fun w hw=>(box_cells (i:=0) rfl w hw))) ?_
  refine S.qcn rfl (q_callF (xs:=_) rfl ok150 rfl rfl (fun w hw=>impl_fromStart.ok h8 w ((fun _ hw=>hr_a0_1.sep hw) w hw) ((fun _ hw=>hr_a0_2.sep hw) w hw))) ?_
  refine S.qn rfl (r_fieldAddr tf27_0 rfl) (S.qn rfl (r_load ta3 rfl (fun w hw=>cell_1 (box_cells (i:=0) rfl w hw) rfl)) (S.qn rfl (r_sub rfl rfl) ?_))
  refine S.qcn rfl (q_callF (xs:=_) rfl ok151 rfl rfl (fun w hw=>impl_grid_least.ok h12 w ok152 (fun w2 he2 z0 y2 hy2=>impl_anySet.ok hy2 w2))) ?_
  refine S.qcn rfl (q_callF (xs:=_) rfl ok133 rfl rfl (fun w hw=>impl_told.ok h13 w)) ?_
  refine S.qn rfl (r_extract rfl rfl) (S.qn rfl (r_extract rfl rfl) (S.qn rfl (r_assign rfl) (S.qn rfl (r_assign rfl) (S.nil (F.nil (Nrm.seq (Tri.ret ?_)))))))
  cases h
  exact Rtn.body (.tmp rfl (.tmp rfl .nil)) (fun w hw=>⟨rfl,hw.ext⟩)


def impl_trapWalk.l0 (k : Nat) (a0_0 : Int) (a0_1 : List (Int × Int × Int)) (a0_2 : List Int) (a0_3 : List Int) (t26 : List (Int)) : Nat → Int → Int → Int → Option ((Int × Int) ⊕ (Int × Int × Bool))
 | 0,_,_,_=>none
 | n + 1,x7,x8,x28=>(if (decide (x28 < (t26.length : Int))) = true then (rdl t26 x28).bind fun t30=>((impl_within.f k t30 0 (w64 (a0_0 - 1))).bind fun t37=>(if (!t37) = true then some true else (impl_trapSteps.f k a0_0 a0_1 a0_2 a0_3 x7 x8).bind fun t43=>if ¬ t30 < 0 then some ((band (shr t43 t30) 1) == 0) else none)).bind fun y48=>(if y48 = true then some (Sum.inr (0,0,false)) else (rdl a0_2 t30).bind fun t55=>impl_trapWalk.l0 k a0_0 a0_1 a0_2 a0_3 t26 n t30 (bor x8 t55) (w64 (x28 + 1))) else some (Sum.inl (x7,x8)))

def impl_trapWalk.f (k : Nat) (a0_0 : Int) (a0_1 : List (Int × Int × Int)) (a0_2 : List Int) (a0_3 : List Int) (a1 : List Int) : Option (Int × Int × Bool) := ((if ((a1.length : Int) == 0) = true then some true else (rdl a1 0).bind fun t16 => some (t16 != 0))).bind fun y19 => (if y19 = true then some (0, 0, false) else (rdl a0_2 0).bind fun t23 => (slc a1 1 (a1.length : Int)).bind fun t26 => (impl_trapWalk.l0 k a0_0 a0_1 a0_2 a0_3 t26 k 0 t23 0).bind fun s => Lr s some fun (x7, x8) => some (x7, x8, true))

theorem impl_trapWalk.ok {k : Nat}  {a0_0 : Int} {a0_1 : List (Int × Int × Int)} {a0_2 : List Int} {a0_3 : List Int} {a1 : List Int} {r0 : Int} {r1 : Int} {r2 : Bool} (h : impl_trapWalk.f k a0_0 a0_1 a0_2 a0_3 a1 = some (r0, r1, r2)) (w : World) {va0_1 : Value} {va0_2 : Value} {va0_3 : Value} {va1 : Value} (hr_a0_1 : Rd w va0_1 a0_1) (hr_a0_2 : Rd w va0_2 a0_2) (hr_a0_3 : Rd w va0_3 a0_3) (hr_a1 : Rd w va1 a1) :
  Calls Tryz.prog 153 ([.agg ([.int .i64 a0_0,va0_1,va0_2,va0_3].toArray),va1] : List Value).toArray w (fun e w'=>e = .returned (.tuple #[.int .i64 r0,.int .i64 r1,.bool r2])∧Ext w w'):=by
 unfold impl_trapWalk.f at h
 have hl_va0_1:=hr_a0_1.len
 have hl_va0_2:=hr_a0_2.len
 have hl_va0_3:=hr_a0_3.len
 have hl_va1:=hr_a1.len
 refine Calls.of_tri (N:=61) Tryz.func153 rfl rfl rfl (Sep.nil (M:=noM)) ?_
 refine Tri.seq (Tri.reg (l:=[0,1,2,3]) rfl ?_)
 refine F.mn rfl (m_boxG rfl rfl) ?_
 rintro _ _ ⟨b2_1,rfl,rfl⟩
 iterate 3 refine F.qn rfl (r_assign rfl) ?_
 refine F.nil (Nrm.seq (Tri.seq (Tri.seq ?_)))
 obtain ⟨y19,hE_1,h⟩:=bind_some h
 refine Tri.cut (fun e' C'=>e' = [(1,va1),(2,.pointer (some ⟨b2_1,0,none⟩)),(19,.bool y19)]∧C' = Sep w noM [R.box b2_1 65 [.int .i64 a0_0,va0_1,va0_2,va0_3]]) ?_ (fun hj_1=>?_)
 ·rintro _ _ ⟨rfl,rfl⟩
  refine Nrm.seq (Tri.cond (b:=y19) rfl (fun g_1=>?_) (fun g_1=>?_))
  ·replace h:=if_tt g_1 h
   refine Tri.seq (Tri.reg (l:=[0,1,2]) rfl ?_)
   iterate 3 refine F.qn rfl (r_assign rfl) ?_
   refine F.nil (Nrm.seq (Tri.ret ?_))
   refine Rtn.then ?_
   cases h
   exact Rtn.body (.tmp rfl (.tmp rfl (.tmp rfl .nil))) (fun w hw=>⟨rfl,hw.ext⟩)
  ·replace h:=if_ff g_1 h
   refine Tri.skip (Nrm.seq (Tri.seq ?_))
   obtain ⟨t23,h23,h⟩:=bind_some h
   refine Tri.drawA mixedT Sep.up [(0,true),(1,true),(2,true),(3,true),(4,true),(5,true),(6,true)] [] (by kernel_rfl) ?_
   refine S.qn rfl (r_fieldAddr tf65_0 rfl) ?_
   refine S.qn rfl (r_fieldAddr tf27_2 rfl) (S.qn rfl (r_load ta25 rfl (fun w hw=>cell_2 (box_cells (i:=0) rfl w hw) rfl)) (S.qn rfl (r_indexAddrS Tryz.underlying25 ti3 rfl hl_va0_2 rfl (rdl_some h23).1 (rdl_some h23).2.1) (S.qn rfl (r_load ta3 rfl (fun w hw=>cell_0 (Rd.flat ((fun _ hw=>hr_a0_2.sep hw) w hw) (rdl_some h23).2.2) rfl)) (S.qn rfl (r_assign rfl) (S.qn rfl (r_assign rfl) (S.nil (F.nil (Nrm.seq (Tri.seq (Tri.seq ?_))))))))))
   obtain ⟨t26,h26,h⟩:=bind_some h
   refine Tri.reg (l:=[0,1,2,3]) rfl ?_
   refine F.qn rfl (r_move rfl) (F.qn rfl (r_sliceL Tryz.underlying25 ti3 rfl (fun _ hw=>hr_a1.sep hw) rfl h26) (F.qn rfl (r_len Tryz.underlying25 rfl (slc_len hl_va1 h26)) (F.qn rfl (r_move rfl) (F.nil (Nrm.seq ?_)))))
   obtain ⟨s0,hE_2,h⟩:=bind_some h
   refine Tri.block ?_
   refine Tri.only [2,7,8,26,27,28] rfl ?_
   refine Tri.pick [0] rfl rfl ?_
   refine Tri.rounds (fun n e' C'=>∃ (x7' : Int) (x8' : Int) (x28' : Int),impl_trapWalk.l0 k a0_0 a0_1 a0_2 a0_3 t26 n x7' x8' x28' = some s0∧e' = [(2,.pointer (some ⟨b2_1,0,none⟩)),(7,.int .i64 x7'),(8,.int .i64 x8'),(26,(slSub va1 1 (1 : Int).toNat (a1.length : Int).toNat)),(27,.int .i64 (t26.length : Int)),(28,.int .i64 x28')]∧C' = Sep w noM [R.box b2_1 65 [.int .i64 a0_0,va0_1,va0_2,va0_3]]) k ?_ ?_ ?_
   ·exact ⟨0,t23,0,hE_2,rfl,rfl⟩
   ·rintro _ _ ⟨_,_,_,hE_2,_⟩
    rw [impl_trapWalk.l0.eq_1] at hE_2; cases hE_2
   ·rintro n_1 _ _ ⟨x7,x8,x28,hE_2,rfl,rfl⟩ ih_1
    rw [impl_trapWalk.l0.eq_2] at hE_2
    refine Tri.seq (Tri.reg (l:=[0]) rfl ?_)
    refine F.qn rfl (r_lss rfl rfl) (F.nil (Nrm.seq (Tri.seq (Tri.cond (b:=decide (x28 < (t26.length : Int))) rfl (fun g_2=>?_) (fun g_2=>?_)))))
    ·replace hE_2:=if_tt g_2 hE_2
     refine Tri.skip (Nrm.seq (Tri.seq (Tri.block ?_)))
     refine Tri.seq ?_
     obtain ⟨t30,h30,hE_2⟩:=bind_some hE_2
     refine Tri.reg (l:=[0,1,2]) rfl ?_
     refine F.qn rfl (r_indexAddrS Tryz.underlying25 ti3 rfl (slc_len hl_va1 h26) rfl (rdl_some h30).1 (rdl_some h30).2.1) (F.qn rfl (r_load ta3 rfl (fun w hw=>cell_0 (Rd.flat ((fun w hw=>rd_slc ((fun _ hw=>hr_a1.sep hw) w hw) h26) w hw) (rdl_some h30).2.2) rfl)) (F.qn rfl (r_assign rfl) (F.nil (Nrm.seq (Tri.seq (Tri.seq ?_))))))
     obtain ⟨y48,hE_3,hE_2⟩:=bind_some hE_2
     refine Tri.cut (fun e' C'=>e' = [(2,.pointer (some ⟨b2_1,0,none⟩)),(8,.int .i64 x8),(10,.int .i64 t30),(26,(slSub va1 1 (1 : Int).toNat (a1.length : Int).toNat)),(27,.int .i64 (t26.length : Int)),(28,.int .i64 x28),(48,.bool y48)]∧C' = Sep w noM [R.box b2_1 65 [.int .i64 a0_0,va0_1,va0_2,va0_3]]) ?_ (fun hj_2=>?_)
     ·rintro _ _ ⟨rfl,rfl⟩
      refine Nrm.seq (Tri.cond (b:=y48) rfl (fun g_3=>?_) (fun g_3=>?_))
      ·replace hE_2:=if_tt g_3 hE_2
       refine Tri.seq (Tri.reg (l:=[0,1,2]) rfl ?_)
       iterate 3 refine F.qn rfl (r_assign rfl) ?_
       refine F.nil (Nrm.seq (Tri.ret ?_))
       refine Rtn.then ?_
       refine Rtn.block ?_
       refine Rtn.then ?_
       refine Rtn.then ?_
       refine Rtn.block ?_
       refine Rtn.then ?_
       cases hE_2
       replace h:=Lr_inr h
       cases h
       exact Rtn.body (.tmp rfl (.tmp rfl (.tmp rfl .nil))) (fun w hw=>⟨rfl,hw.ext⟩)
      ·replace hE_2:=if_ff g_3 hE_2
       refine Tri.skip (Nrm.seq ?_)
       obtain ⟨t55,h55,hE_2⟩:=bind_some hE_2
       refine Tri.drawA mixedT Sep.up [(0,true),(1,true),(2,true),(3,true),(4,true),(5,true),(6,true),(7,true),(8,true),(9,true),(10,true)] [] (by kernel_rfl) ?_
       refine S.qn rfl (r_move rfl) (S.qn rfl (r_move rfl) (S.qn rfl (r_fieldAddr tf65_0 rfl) (S.qn rfl (r_fieldAddr tf27_2 rfl) (S.qn rfl (r_load ta25 rfl (fun w hw=>cell_2 (box_cells (i:=0) rfl w hw) rfl)) ?_))))
       refine S.qn rfl (r_move rfl) (S.qn rfl (r_indexAddrS Tryz.underlying25 ti3 rfl hl_va0_2 rfl (rdl_some h55).1 (rdl_some h55).2.1) (S.qn rfl (r_load ta3 rfl (fun w hw=>cell_0 (Rd.flat ((fun _ hw=>hr_a0_2.sep hw) w hw) (rdl_some h55).2.2) rfl)) (S.qn rfl (r_or rfl rfl) (S.qn rfl (r_assign rfl) (S.qn rfl (r_assign rfl) (S.nil (F.nil (Nrm.block ?_))))))))
       refine Nrm.seq (Tri.reg (l:=[0,1]) rfl ?_)
       refine F.qn rfl (r_add rfl rfl) (F.qn rfl (r_move rfl) (F.nil (Nrm.round ?_)))
       refine Rnd.only [2,7,8,26,27,28] rfl ?_
       refine Rnd.pick [0] rfl rfl ?_
       exact ih_1 _ _ ⟨t30,bor x8 t55,w64 (x28 + 1),hE_2,rfl,rfl⟩
     ·obtain ⟨t37,h37,hE_3⟩:=bind_some hE_3
      rcases Bool.eq_false_or_eq_true (!t37) with g39 | g39
      ·replace hE_3:=if_tt g39 hE_3
       refine Tri.reg (l:=List.range 17) rfl ?_
       refine F.qn rfl (r_move rfl) (F.qn rfl (r_fieldAddr tf65_0 rfl) (F.qn rfl (r_fieldAddr tf27_0 rfl) (F.qn rfl (r_load ta3 rfl (fun w hw=>cell_2 (box_cells (i:=0) rfl w hw) rfl)) (F.qn rfl (r_sub rfl rfl) ?_))))
       refine F.qcn rfl (q_callF (xs:=_) rfl ok103 rfl rfl (fun w hw=>impl_within.ok h37 w)) ?_
       refine F.qn rfl (r_not rfl) (F.qn rfl (r_move rfl) ?_)
       iterate 8 refine F.skf rfl g39 ?_
       refine F.qn rfl (r_pick rfl rfl g39) (F.nil ?_)
       cases hE_3
       refine Nrm.only [2,8,10,26,27,28,48] rfl ?_
       refine Nrm.pick [0] rfl rfl ?_
       exact hj_2 _ _ ⟨rfl,rfl⟩
      ·replace hE_3:=if_ff g39 hE_3
       obtain ⟨t43,h43,hE_3⟩:=bind_some hE_3
       obtain ⟨hs45,hE_3⟩:=ck hE_3
       refine Tri.reg (l:=List.range 17) rfl ?_
       refine F.qn rfl (r_move rfl) (F.qn rfl (r_fieldAddr tf65_0 rfl) (F.qn rfl (r_fieldAddr tf27_0 rfl) (F.qn rfl (r_load ta3 rfl (fun w hw=>cell_2 (box_cells (i:=0) rfl w hw) rfl)) (F.qn rfl (r_sub rfl rfl) ?_))))
       refine F.qcn rfl (q_callF (xs:=_) rfl ok103 rfl rfl (fun w hw=>impl_within.ok h37 w)) ?_
       refine F.qn rfl (r_not rfl) (F.qn rfl (r_move rfl) (F.qg rfl g39 (r_loadA ta65 ti65 rfl rfl (fun w hw=>(box_cells (i:=0) rfl w hw))) (F.qg rfl g39 (r_move rfl) (F.qg rfl g39 (r_move rfl) ?_))))
       refine F.qc rfl rfl rfl (wg rfl rfl rfl g39) (q_callF (xs:=_) rfl ok127 rfl rfl (fun w hw=>impl_trapSteps.ok h43 w ((fun _ hw=>hr_a0_1.sep hw) w hw) ((fun _ hw=>hr_a0_2.sep hw) w hw) ((fun _ hw=>hr_a0_3.sep hw) w hw))) ?_
       refine F.qg rfl g39 (r_move rfl) (F.qg rfl g39 (r_shr rfl rfl hs45) (F.qg rfl g39 (r_and rfl rfl) (F.qg rfl g39 (r_eql rfl rfl) (F.qn rfl (r_pickf rfl rfl g39) (F.nil ?_)))))
       cases hE_3
       refine Nrm.only [2,8,10,26,27,28,48] rfl ?_
       refine Nrm.pick [0] rfl rfl ?_
       exact hj_2 _ _ ⟨rfl,rfl⟩
    ·replace hE_2:=if_ff g_2 hE_2
     refine Tri.exit ?_
     refine Exi.then ?_
     refine Exi.then ?_
     refine Exi.same ?_
     cases hE_2
     replace h:=Lr_inl h
     refine Nrm.seq (Tri.seq (Tri.reg (l:=[0,1,2,3,4]) rfl ?_))
     refine F.qn rfl (r_move rfl) (F.qn rfl (r_move rfl) ?_)
     iterate 3 refine F.qn rfl (r_assign rfl) ?_
     refine F.nil (Nrm.seq (Tri.ret ?_))
     cases h
     exact Rtn.body (.tmp rfl (.tmp rfl (.tmp rfl .nil))) (fun w hw=>⟨rfl,hw.ext⟩)
 ·rcases Bool.eq_false_or_eq_true ((a1.length : Int) == 0) with g14 | g14
  ·replace hE_1:=if_tt g14 hE_1
   refine Tri.reg (l:=[0,1,2,3,4,5,6,7,8]) rfl ?_
   refine F.qn rfl (r_move rfl) (F.qn rfl (r_len Tryz.underlying25 rfl hl_va1) (F.qn rfl (r_eql rfl rfl) (F.qn rfl (r_move rfl) ?_)))
   iterate 4 refine F.skf rfl g14 ?_
   refine F.qn rfl (r_pick rfl rfl g14) (F.nil ?_)
   cases hE_1
   refine Nrm.only [1,2,19] rfl ?_
   refine Nrm.pick [0] rfl rfl ?_
   exact hj_1 _ _ ⟨rfl,rfl⟩
  ·replace hE_1:=if_ff g14 hE_1
   obtain ⟨t16,h16,hE_1⟩:=bind_some hE_1
   refine Tri.reg (l:=[0,1,2,3,4,5,6,7,8]) rfl ?_
   refine F.qn rfl (r_move rfl) (F.qn rfl (r_len Tryz.underlying25 rfl hl_va1) (F.qn rfl (r_eql rfl rfl) ?_))
   refine F.qn rfl (r_move rfl) (F.qg rfl g14 (r_move rfl) (F.qg rfl g14 (r_indexAddrS Tryz.underlying25 ti3 rfl hl_va1 rfl (rdl_some h16).1 (rdl_some h16).2.1) (F.qg rfl g14 (r_load ta3 rfl (fun w hw=>cell_0 (Rd.flat ((fun _ hw=>hr_a1.sep hw) w hw) (rdl_some h16).2.2) rfl)) (F.qg rfl g14 (r_neq rfl rfl) (F.qn rfl (r_pickf rfl rfl g14) (F.nil ?_))))))
   cases hE_1
   refine Nrm.only [1,2,19] rfl ?_
   refine Nrm.pick [0] rfl rfl ?_
   exact hj_1 _ _ ⟨rfl,rfl⟩


def impl_StateBehind.f (k : Nat) (a0_0 : Int) (a0_1 : List (Int × Int × Int)) (a0_2 : List Int) (a0_3 : List Int) (a1 : List Int) : Option (Int × Int × Bool) := (impl_IsTrap.f k a0_0 a0_1 a0_2 a0_3).bind fun t8 => (if (!t8) = true then some (0, 0, false) else (impl_trapWalk.f k a0_0 a0_1 a0_2 a0_3 a1).bind fun (t12_1, t12_2, t12_3) => some (t12_1, t12_2, t12_3))

theorem impl_StateBehind.ok {k : Nat}  {a0_0 : Int} {a0_1 : List (Int × Int × Int)} {a0_2 : List Int} {a0_3 : List Int} {a1 : List Int} {r0 : Int} {r1 : Int} {r2 : Bool} (h : impl_StateBehind.f k a0_0 a0_1 a0_2 a0_3 a1 = some (r0, r1, r2)) (w : World) {va0_1 : Value} {va0_2 : Value} {va0_3 : Value} {va1 : Value} (hr_a0_1 : Rd w va0_1 a0_1) (hr_a0_2 : Rd w va0_2 a0_2) (hr_a0_3 : Rd w va0_3 a0_3) (hr_a1 : Rd w va1 a1) :
  Calls Tryz.prog 69 ([.agg ([.int .i64 a0_0,va0_1,va0_2,va0_3].toArray),va1] : List Value).toArray w (fun e w'=>e = .returned (.tuple #[.int .i64 r0,.int .i64 r1,.bool r2])∧Ext w w'):=by
 unfold impl_StateBehind.f at h
 have hl_va0_1:=hr_a0_1.len
 have hl_va0_2:=hr_a0_2.len
 have hl_va0_3:=hr_a0_3.len
 have hl_va1:=hr_a1.len
 refine Calls.of_tri (N:=16) Tryz.func69 rfl rfl rfl (Sep.nil (M:=noM)) ?_
 refine Tri.seq (Tri.reg (l:=[0,1,2,3]) rfl ?_)
 refine F.mn rfl (m_boxG rfl rfl) ?_
 rintro _ _ ⟨b2_1,rfl,rfl⟩
 iterate 3 refine F.qn rfl (r_assign rfl) ?_
 refine F.nil (Nrm.seq (Tri.seq (Tri.seq ?_)))
 obtain ⟨t8,h8,h⟩:=bind_some h
 refine Tri.reg (l:=[0,1,2]) rfl ?_
 refine F.qn rfl (r_loadA ta65 ti65 rfl rfl (fun w hw=>(box_cells (i:=0) rfl w hw))) ?_
 refine F.qcn rfl (q_callF (xs:=_) rfl ok56 rfl rfl (fun w hw=>impl_IsTrap.ok h8 w ((fun _ hw=>hr_a0_1.sep hw) w hw) ((fun _ hw=>hr_a0_2.sep hw) w hw) ((fun _ hw=>hr_a0_3.sep hw) w hw))) ?_
 refine F.qn rfl (r_not rfl) (F.nil (Nrm.seq (Tri.cond (b:=!t8) rfl (fun g_1=>?_) (fun g_1=>?_))))
 ·replace h:=if_tt g_1 h
  refine Tri.seq (Tri.reg (l:=[0,1,2]) rfl ?_)
  iterate 3 refine F.qn rfl (r_assign rfl) ?_
  refine F.nil (Nrm.seq (Tri.ret ?_))
  refine Rtn.then ?_
  cases h
  exact Rtn.body (.tmp rfl (.tmp rfl (.tmp rfl .nil))) (fun w hw=>⟨rfl,hw.ext⟩)
 ·replace h:=if_ff g_1 h
  refine Tri.skip (Nrm.seq (Tri.seq ?_))
  obtain ⟨⟨t12_1,t12_2,t12_3⟩,h12,h⟩:=bind_some h
  refine Tri.reg (l:=[0,1,2,3,4,5,6,7,8]) rfl ?_
  refine F.qn rfl (r_loadA ta65 ti65 rfl rfl (fun w hw=>(box_cells (i:=0) rfl w hw))) (F.qn rfl (r_move rfl) ?_)
  refine F.qcn rfl (q_callF (xs:=_) rfl ok153 rfl rfl (fun w hw=>impl_trapWalk.ok h12 w ((fun _ hw=>hr_a0_1.sep hw) w hw) ((fun _ hw=>hr_a0_2.sep hw) w hw) ((fun _ hw=>hr_a0_3.sep hw) w hw) ((fun _ hw=>hr_a1.sep hw) w hw))) ?_
  iterate 3 refine F.qn rfl (r_extract rfl rfl) ?_
  iterate 3 refine F.qn rfl (r_assign rfl) ?_
  refine F.nil (Nrm.seq (Tri.ret ?_))
  cases h
  exact Rtn.body (.tmp rfl (.tmp rfl (.tmp rfl .nil))) (fun w hw=>⟨rfl,hw.ext⟩)

end Go.Proofs
