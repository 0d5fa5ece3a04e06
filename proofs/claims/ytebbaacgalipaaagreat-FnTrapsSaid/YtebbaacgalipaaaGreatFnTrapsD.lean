/- A part of the proof of FnTraps: what the functions of the program compute, walked on the model. No condition. -/
import Derived.Test.YtebbaacgalipaaaGreatFnTrapsC
set_option linter.unusedSimpArgs false
/- slices.Index[[]int,int] -/

namespace Go.Proofs
open Go Go.Ga
set_option linter.unusedVariables false
set_option maxRecDepth 100000
set_option maxHeartbeats 4000000
def slices_Index_int_int.l0 (k : Nat) (a0 : List Int) (a1 : Int) : Nat → Int → Option ((Unit) ⊕ (Int))
 | 0,_=>none
 | n + 1,x8=>(if (decide (x8 < (a0.length : Int))) = true then (rdl a0 x8).bind fun t14=>(if (a1 == t14) = true then some (Sum.inr x8) else slices_Index_int_int.l0 k a0 a1 n (w64 (x8 + 1))) else some (Sum.inl ()))

def slices_Index_int_int.f (k : Nat) (a0 : List Int) (a1 : Int) : Option (Int) := (slices_Index_int_int.l0 k a0 a1 k 0).bind fun s => Lr s some fun _ => some (-1)

theorem slices_Index_int_int.ok {k : Nat}  {a0 : List Int} {a1 : Int} {r0 : Int} (h : slices_Index_int_int.f k a0 a1 = some r0) (w : World) {va0 : Value} (hr_a0 : Rd w va0 a0) :
  Calls Tryz.prog 158 ([va0,.int .i64 a1] : List Value).toArray w (fun e w'=>e = .returned (.int .i64 r0)∧Ext w w'):=by
 unfold slices_Index_int_int.f at h
 have hl_va0:=hr_a0.len
 refine Calls.of_tri (N:=19) Tryz.func158 rfl rfl rfl (Sep.nil (M:=noM)) ?_
 refine Tri.seq (Tri.reg (l:=[0]) rfl ?_)
 refine F.qn rfl (r_assign rfl) (F.nil (Nrm.seq (Tri.seq (Tri.seq (Tri.reg (l:=[0,1,2]) rfl ?_)))))
 refine F.qn rfl (r_move rfl) (F.qn rfl (r_len Tryz.underlying25 rfl hl_va0) (F.qn rfl (r_move rfl) (F.nil (Nrm.seq ?_))))
 obtain ⟨s0,hE_1,h⟩:=bind_some h
 refine Tri.block ?_
 refine Tri.only [0,1,7,8] rfl ?_
 refine Tri.pick [] rfl rfl ?_
 refine Tri.rounds (fun n e' C'=>∃ (x8' : Int),slices_Index_int_int.l0 k a0 a1 n x8' = some s0∧e' = [(0,va0),(1,.int .i64 a1),(7,.int .i64 (a0.length : Int)),(8,.int .i64 x8')]∧C' = Sep w noM []) k ?_ ?_ ?_
 ·exact ⟨0,hE_1,rfl,rfl⟩
 ·rintro _ _ ⟨_,hE_1,_⟩
  rw [slices_Index_int_int.l0.eq_1] at hE_1; cases hE_1
 ·rintro n_1 _ _ ⟨x8,hE_1,rfl,rfl⟩ ih_1
  rw [slices_Index_int_int.l0.eq_2] at hE_1
  refine Tri.seq (Tri.reg (l:=[0]) rfl ?_)
  refine F.qn rfl (r_lss rfl rfl) (F.nil (Nrm.seq (Tri.seq (Tri.cond (b:=decide (x8 < (a0.length : Int))) rfl (fun g_1=>?_) (fun g_1=>?_)))))
  ·replace hE_1:=if_tt g_1 hE_1
   refine Tri.skip (Nrm.seq (Tri.seq (Tri.block ?_)))
   refine Tri.seq (Tri.reg (l:=[0,1]) rfl ?_)
   refine F.qn rfl (r_move rfl) (F.qn rfl (r_assign rfl) (F.nil (Nrm.seq (Tri.seq ?_))))
   obtain ⟨t14,h14,hE_1⟩:=bind_some hE_1
   refine Tri.reg (l:=[0,1,2,3,4,5]) rfl ?_
   iterate 3 refine F.qn rfl (r_move rfl) ?_
   refine F.qn rfl (r_indexAddrS Tryz.underlying25 ti3 rfl hl_va0 rfl (rdl_some h14).1 (rdl_some h14).2.1) (F.qn rfl (r_load ta3 rfl (fun w hw=>cell_0 (Rd.flat ((fun _ hw=>hr_a0.sep hw) w hw) (rdl_some h14).2.2) rfl)) (F.qn rfl (r_eql rfl rfl) (F.nil (Nrm.seq (Tri.cond (b:=a1 == t14) rfl (fun g_2=>?_) (fun g_2=>?_))))))
   ·replace hE_1:=if_tt g_2 hE_1
    refine Tri.seq (Tri.reg (l:=[0,1]) rfl ?_)
    refine F.qn rfl (r_move rfl) (F.qn rfl (r_assign rfl) (F.nil (Nrm.seq (Tri.ret ?_))))
    refine Rtn.block ?_
    refine Rtn.then ?_
    refine Rtn.then ?_
    refine Rtn.block ?_
    refine Rtn.then ?_
    cases hE_1
    replace h:=Lr_inr h
    cases h
    exact Rtn.body (.tmp rfl .nil) (fun w hw=>⟨rfl,hw.ext⟩)
   ·replace hE_1:=if_ff g_2 hE_1
    refine Tri.skip (Nrm.block ?_)
    refine Nrm.seq (Tri.reg (l:=[0,1]) rfl ?_)
    refine F.qn rfl (r_add rfl rfl) (F.qn rfl (r_move rfl) (F.nil (Nrm.round ?_)))
    refine Rnd.only [0,1,7,8] rfl ?_
    refine Rnd.pick [] rfl rfl ?_
    exact ih_1 _ _ ⟨w64 (x8 + 1),hE_1,rfl,rfl⟩
  ·replace hE_1:=if_ff g_1 hE_1
   refine Tri.exit ?_
   refine Exi.then ?_
   refine Exi.then ?_
   refine Exi.same ?_
   cases hE_1
   replace h:=Lr_inl h
   refine Nrm.seq (Tri.seq (Tri.reg (l:=[0]) rfl ?_))
   refine F.qn rfl (r_assign rfl) (F.nil (Nrm.seq (Tri.ret ?_)))
   cases h
   exact Rtn.body (.tmp rfl .nil) (fun w hw=>⟨rfl,hw.ext⟩)


def slices_Contains_int_int.f (k : Nat) (a0 : List Int) (a1 : Int) : Option (Bool) := (slices_Index_int_int.f k a0 a1).bind fun t7 => some (decide (t7 ≥ 0))

theorem slices_Contains_int_int.ok {k : Nat}  {a0 : List Int} {a1 : Int} {r0 : Bool} (h : slices_Contains_int_int.f k a0 a1 = some r0) (w : World) {va0 : Value} (hr_a0 : Rd w va0 a0) :
  Calls Tryz.prog 167 ([va0,.int .i64 a1] : List Value).toArray w (fun e w'=>e = .returned (.bool r0)∧Ext w w'):=by
 unfold slices_Contains_int_int.f at h
 have hl_va0:=hr_a0.len
 refine Calls.of_tri (N:=9) Tryz.func167 rfl rfl rfl (Sep.nil (M:=noM)) ?_
 refine Tri.seq (Tri.reg (l:=[0]) rfl ?_)
 refine F.qn rfl (r_assign rfl) (F.nil (Nrm.seq (Tri.seq ?_)))
 obtain ⟨t7,h7,h⟩:=bind_some h
 refine Tri.reg (l:=[0,1,2,3,4]) rfl ?_
 refine F.qn rfl (r_move rfl) (F.qn rfl (r_move rfl) ?_)
 refine F.qcn rfl (q_callF (xs:=_) rfl ok158 rfl rfl (fun w hw=>slices_Index_int_int.ok h7 w ((fun _ hw=>hr_a0.sep hw) w hw))) ?_
 refine F.qn rfl (r_geq rfl rfl) (F.qn rfl (r_assign rfl) (F.nil (Nrm.seq (Tri.ret ?_))))
 cases h
 exact Rtn.body (.tmp rfl .nil) (fun w hw=>⟨rfl,hw.ext⟩)


def impl_has.f (k : Nat) (a0 : Int) (a1 : Int) : Option (Bool) := some ((bclr a1 a0) == 0)

theorem impl_has.ok {k : Nat}  {a0 : Int} {a1 : Int} {r0 : Bool} (h : impl_has.f k a0 a1 = some r0) (w : World) :
  Calls Tryz.prog 189 ([.int .i64 a0,.int .i64 a1] : List Value).toArray w (fun e w'=>e = .returned (.bool r0)∧Ext w w'):=by
 unfold impl_has.f at h
 refine Calls.of_tri (N:=9) Tryz.func189 rfl rfl rfl (Sep.nil (M:=noM)) ?_
 refine Tri.seq (Tri.reg (l:=[0]) rfl ?_)
 refine F.qn rfl (r_assign rfl) (F.nil (Nrm.seq (Tri.seq (Tri.reg (l:=[0,1,2,3,4]) rfl ?_))))
 refine F.qn rfl (r_move rfl) (F.qn rfl (r_move rfl) (F.qn rfl (r_andNot rfl rfl) (F.qn rfl (r_eql rfl rfl) (F.qn rfl (r_assign rfl) (F.nil (Nrm.seq (Tri.ret ?_)))))))
 cases h
 exact Rtn.body (.tmp rfl .nil) (fun w hw=>⟨rfl,hw.ext⟩)


def impl_trapSteps.l0 (k : Nat) (a0_1 : List (Int × Int × Int)) (a0_3 : List Int) (a1 : Int) (a2 : Int) : Nat → Int → Int → Option (Int)
 | 0,_,_=>none
 | n + 1,x7,x14=>(if (decide (x14 < (a0_1.length : Int))) = true then ((rdl a0_1 x14).bind fun t17=>(impl_has.f k a2 t17.2.2).bind fun t22=>(if (!t22) = true then some x7 else ((if (t17.1 == a1) = true then if ¬ t17.2.1 < 0 then some (bor x7 (shl 1 t17.2.1)) else none else some x7)).bind fun y7=>((if (t17.2.1 == a1) = true then (slices_Contains_int_int.f k a0_3 x14).bind fun t41=>some (!t41) else some false)).bind fun y43=>((if y43 = true then if ¬ t17.1 < 0 then some (bor y7 (shl 1 t17.1)) else none else some y7)).bind fun y7r=>some y7r)).bind fun y7=>impl_trapSteps.l0 k a0_1 a0_3 a1 a2 n y7 (w64 (x14 + 1)) else some x7)

def impl_trapSteps.f (k : Nat) (a0_0 : Int) (a0_1 : List (Int × Int × Int)) (a0_2 : List Int) (a0_3 : List Int) (a1 : Int) (a2 : Int) : Option (Int) := (impl_trapSteps.l0 k a0_1 a0_3 a1 a2 k 0 0).bind fun x7 => some x7

theorem impl_trapSteps.ok {k : Nat}  {a0_0 : Int} {a0_1 : List (Int × Int × Int)} {a0_2 : List Int} {a0_3 : List Int} {a1 : Int} {a2 : Int} {r0 : Int} (h : impl_trapSteps.f k a0_0 a0_1 a0_2 a0_3 a1 a2 = some r0) (w : World) {va0_1 : Value} {va0_2 : Value} {va0_3 : Value} (hr_a0_1 : Rd w va0_1 a0_1) (hr_a0_2 : Rd w va0_2 a0_2) (hr_a0_3 : Rd w va0_3 a0_3) :
  Calls Tryz.prog 127 ([.agg ([.int .i64 a0_0,va0_1,va0_2,va0_3].toArray),.int .i64 a1,.int .i64 a2] : List Value).toArray w (fun e w'=>e = .returned (.int .i64 r0)∧Ext w w'):=by
 unfold impl_trapSteps.f at h
 have hl_va0_1:=hr_a0_1.len
 have hl_va0_2:=hr_a0_2.len
 have hl_va0_3:=hr_a0_3.len
 refine Calls.of_tri (N:=51) Tryz.func127 rfl rfl rfl (Sep.nil (M:=noM)) ?_
 refine Tri.seq (Tri.reg (l:=[0,1]) rfl ?_)
 refine F.mn rfl (m_boxG rfl rfl) ?_
 rintro _ _ ⟨b3_1,rfl,rfl⟩
 refine F.qn rfl (r_assign rfl) (F.nil (Nrm.seq (Tri.seq (Tri.reg (l:=[0]) rfl ?_))))
 refine F.qn rfl (r_assign rfl) (F.nil (Nrm.seq (Tri.seq (Tri.seq (Tri.reg (l:=[0,1,2,3,4]) rfl ?_)))))
 refine F.qn rfl (r_fieldAddr tf65_0 rfl) (F.qn rfl (r_fieldAddr tf27_1 rfl) (F.qn rfl (r_load ta24 rfl (fun w hw=>cell_2 (box_cells (i:=0) rfl w hw) rfl)) (F.qn rfl (r_len Tryz.underlying24 rfl hl_va0_1) (F.qn rfl (r_move rfl) (F.nil (Nrm.seq ?_))))))
 obtain ⟨x7,hE_1,h⟩:=bind_some h
 refine Tri.block ?_
 refine Tri.only [1,2,3,7,12,13,14] rfl ?_
 refine Tri.pick [0] rfl rfl ?_
 refine Tri.rounds (fun n e' C'=>∃ (x7' : Int) (x14' : Int),impl_trapSteps.l0 k a0_1 a0_3 a1 a2 n x7' x14' = some x7∧e' = [(1,.int .i64 a1),(2,.int .i64 a2),(3,.pointer (some ⟨b3_1,0,none⟩)),(7,.int .i64 x7'),(12,va0_1),(13,.int .i64 (a0_1.length : Int)),(14,.int .i64 x14')]∧C' = Sep w noM [R.box b3_1 65 [.int .i64 a0_0,va0_1,va0_2,va0_3]]) k ?_ ?_ ?_
 ·exact ⟨0,0,hE_1,rfl,rfl⟩
 ·rintro _ _ ⟨_,_,hE_1,_⟩
  rw [impl_trapSteps.l0.eq_1] at hE_1; cases hE_1
 ·rintro n_1 _ _ ⟨x7,x14,hE_1,rfl,rfl⟩ ih_1
  rw [impl_trapSteps.l0.eq_2] at hE_1
  refine Tri.seq (Tri.reg (l:=[0]) rfl ?_)
  refine F.qn rfl (r_lss rfl rfl) (F.nil (Nrm.seq (Tri.seq (Tri.cond (b:=decide (x14 < (a0_1.length : Int))) rfl (fun g_1=>?_) (fun g_1=>?_)))))
  ·replace hE_1:=if_tt g_1 hE_1
   refine Tri.skip (Nrm.seq (Tri.seq ?_))
   obtain ⟨y7,hE_2,hE_1⟩:=bind_some hE_1
   refine Tri.cut (fun e' C'=>e' = [(1,.int .i64 a1),(2,.int .i64 a2),(3,.pointer (some ⟨b3_1,0,none⟩)),(7,.int .i64 y7),(12,va0_1),(13,.int .i64 (a0_1.length : Int)),(14,.int .i64 x14)]∧C' = Sep w noM [R.box b3_1 65 [.int .i64 a0_0,va0_1,va0_2,va0_3]]) ?_ (fun hj_1=>?_)
   ·rintro _ _ ⟨rfl,rfl⟩
    refine Nrm.seq (Tri.reg (l:=[0,1]) rfl ?_)
    refine F.qn rfl (r_add rfl rfl) (F.qn rfl (r_move rfl) (F.nil (Nrm.round ?_)))
    refine Rnd.only [1,2,3,7,12,13,14] rfl ?_
    refine Rnd.pick [0] rfl rfl ?_
    exact ih_1 _ _ ⟨y7,w64 (x14 + 1),hE_1,rfl,rfl⟩
   ·refine Tri.block ?_
    refine Tri.seq ?_
    obtain ⟨t17,h17,hE_2⟩:=bind_some hE_2
    refine Tri.reg (l:=[0,1,2,3,4,5]) rfl ?_
    refine F.qn rfl (r_move rfl) (F.qn rfl (r_indexAddrS Tryz.underlying24 ti168 rfl hl_va0_1 rfl (rdl_some h17).1 (rdl_some h17).2.1) (F.qn rfl (r_loadA ta168 ti168 rfl rfl (fun w hw=>(Rd.flat ((fun _ hw=>hr_a0_1.sep hw) w hw) (rdl_some h17).2.2))) ?_))
    refine F.mn rfl (m_alloc ti168) ?_
    rintro _ _ ⟨b9_1,rfl,rfl⟩
    refine F.qn rfl (r_assign rfl) ?_
    refine F.ef0 rfl rfl (wanted_none rfl) (d_storeG0 (i:=0) (cs2:=[.int .i64 t17.1,.int .i64 t17.2.1,.int .i64 t17.2.2]) ti168 rfl rfl rfl rfl rfl (Nat.le_of_ble_eq_true rfl) (lf_cons rfl (lf_cons rfl (lf_cons rfl lf_nil)))) ?_
    rintro _ _ ⟨rfl,rfl⟩
    refine F.nil (Nrm.seq (Tri.seq (Tri.seq ?_)))
    obtain ⟨t22,h22,hE_2⟩:=bind_some hE_2
    refine Tri.reg (l:=[0,1,2,3,4]) rfl ?_
    refine F.qn rfl (r_move rfl) (F.qn rfl (r_indexAddrA Tryz.underlying168 ti3 rfl rfl (by decide) (by decide)) (F.qn rfl (r_load ta3 rfl (fun w hw=>cell_1 (box_cells (i:=0) rfl w hw) rfl)) ?_))
    refine F.qcn rfl (q_callF (xs:=_) rfl ok189 rfl rfl (fun w hw=>impl_has.ok h22 w)) ?_
    refine F.qn rfl (r_not rfl) (F.nil (Nrm.seq (Tri.cond (b:=!t22) rfl (fun g_2=>?_) (fun g_2=>?_))))
    ·replace hE_2:=if_tt g_2 hE_2
     refine Tri.exit ?_
     refine Exi.then ?_
     refine Exi.same ?_
     cases hE_2
     refine Nrm.only [1,2,3,7,12,13,14] rfl ?_
     refine Nrm.pick [1] rfl rfl ?_
     exact hj_1 _ _ ⟨rfl,rfl⟩
    ·replace hE_2:=if_ff g_2 hE_2
     refine Tri.skip (Nrm.seq (Tri.seq (Tri.seq (Tri.reg (l:=[0,1,2,3]) rfl ?_))))
     refine F.qn rfl (r_indexAddrA Tryz.underlying168 ti3 rfl rfl (by decide) (by decide)) (F.qn rfl (r_load ta3 rfl (fun w hw=>cell_1 (box_cells (i:=0) rfl w hw) rfl)) (F.qn rfl (r_move rfl) (F.qn rfl (r_eql rfl rfl) (F.nil (Nrm.seq ?_)))))
     obtain ⟨y7,hE_3,hE_2⟩:=bind_some hE_2
     refine Tri.cut (fun e' C'=>e' = [(1,.int .i64 a1),(2,.int .i64 a2),(3,.pointer (some ⟨b3_1,0,none⟩)),(7,.int .i64 y7),(8,.int .i64 x14),(9,.pointer (some ⟨b9_1,0,none⟩)),(12,va0_1),(13,.int .i64 (a0_1.length : Int)),(14,.int .i64 x14)]∧C' = Sep w noM [R.box b9_1 168 [.int .i64 t17.1,.int .i64 t17.2.1,.int .i64 t17.2.2],R.box b3_1 65 [.int .i64 a0_0,va0_1,va0_2,va0_3]]) ?_ (fun hj_2=>?_)
     ·rintro _ _ ⟨rfl,rfl⟩
      refine Nrm.seq (Tri.seq ?_)
      obtain ⟨y43,hE_4,hE_2⟩:=bind_some hE_2
      refine Tri.cut (fun e' C'=>e' = [(1,.int .i64 a1),(2,.int .i64 a2),(3,.pointer (some ⟨b3_1,0,none⟩)),(7,.int .i64 y7),(9,.pointer (some ⟨b9_1,0,none⟩)),(12,va0_1),(13,.int .i64 (a0_1.length : Int)),(14,.int .i64 x14),(43,.bool y43)]∧C' = Sep w noM [R.box b9_1 168 [.int .i64 t17.1,.int .i64 t17.2.1,.int .i64 t17.2.2],R.box b3_1 65 [.int .i64 a0_0,va0_1,va0_2,va0_3]]) ?_ (fun hj_3=>?_)
      ·rintro _ _ ⟨rfl,rfl⟩
       refine Nrm.seq ?_
       obtain ⟨y7r,hE_5,hE_2⟩:=bind_some hE_2
       refine Tri.cut (fun e' C'=>e' = [(1,.int .i64 a1),(2,.int .i64 a2),(3,.pointer (some ⟨b3_1,0,none⟩)),(7,.int .i64 y7r),(12,va0_1),(13,.int .i64 (a0_1.length : Int)),(14,.int .i64 x14)]∧C' = Sep w noM [R.box b3_1 65 [.int .i64 a0_0,va0_1,va0_2,va0_3]]) ?_ (fun hj_4=>?_)
       ·rintro _ _ ⟨rfl,rfl⟩
        refine Nrm.block ?_
        cases hE_2
        refine Nrm.only [1,2,3,7,12,13,14] rfl ?_
        refine Nrm.pick [0] rfl rfl ?_
        exact hj_1 _ _ ⟨rfl,rfl⟩
       ·refine Tri.cond (b:=y43) rfl (fun g_4=>?_) (fun g_4=>?_)
        ·replace hE_5:=if_tt g_4 hE_5
         obtain ⟨hs47,hE_5⟩:=ck hE_5
         refine Tri.reg (l:=[0,1,2,3,4,5]) rfl ?_
         refine F.qn rfl (r_move rfl) (F.qn rfl (r_indexAddrA Tryz.underlying168 ti3 rfl rfl (by decide) (by decide)) (F.qn rfl (r_load ta3 rfl (fun w hw=>cell_1 (box_cells (i:=0) rfl w hw) rfl)) (F.qn rfl (r_shl rfl rfl hs47) (F.qn rfl (r_or rfl rfl) (F.qn rfl (r_assign rfl) (F.nil ?_))))))
         cases hE_5
         refine Nrm.only [1,2,3,7,12,13,14] rfl ?_
         refine Nrm.pick [1] rfl rfl ?_
         exact hj_4 _ _ ⟨rfl,rfl⟩
        ·replace hE_5:=if_ff g_4 hE_5
         refine Tri.skip ?_
         cases hE_5
         refine Nrm.only [1,2,3,7,12,13,14] rfl ?_
         refine Nrm.pick [1] rfl rfl ?_
         exact hj_4 _ _ ⟨rfl,rfl⟩
      ·rcases Bool.eq_false_or_eq_true (t17.2.1 == a1) with g37 | g37
       ·replace hE_4:=if_tt g37 hE_4
        obtain ⟨t41,h41,hE_4⟩:=bind_some hE_4
        refine Tri.reg (l:=[0,1,2,3,4,5,6,7,8,9,10]) rfl ?_
        refine F.qn rfl (r_indexAddrA Tryz.underlying168 ti3 rfl rfl (by decide) (by decide)) (F.qn rfl (r_load ta3 rfl (fun w hw=>cell_1 (box_cells (i:=0) rfl w hw) rfl)) ?_)
        refine F.qn rfl (r_move rfl) (F.qn rfl (r_eql rfl rfl) (F.qn rfl (r_move rfl) (F.qg rfl g37 (r_fieldAddr tf65_1 rfl) (F.qg rfl g37 (r_load ta25 rfl (fun w hw=>cell_1 (box_cells (i:=1) rfl w hw) rfl)) (F.qg rfl g37 (r_move rfl) ?_)))))
        refine F.qc rfl rfl rfl (wg rfl rfl rfl g37) (q_callF (xs:=_) rfl ok167 rfl rfl (fun w hw=>slices_Contains_int_int.ok h41 w ((fun _ hw=>hr_a0_3.sep hw) w hw))) ?_
        refine F.qg rfl g37 (r_not rfl) (F.qn rfl (r_pick rfl rfl g37) (F.nil ?_))
        cases hE_4
        refine Nrm.only [1,2,3,7,9,12,13,14,43] rfl ?_
        refine Nrm.pick [0,1] rfl rfl ?_
        exact hj_3 _ _ ⟨rfl,rfl⟩
       ·replace hE_4:=if_ff g37 hE_4
        refine Tri.reg (l:=[0,1,2,3,4,5,6,7,8,9,10]) rfl ?_
        refine F.qn rfl (r_indexAddrA Tryz.underlying168 ti3 rfl rfl (by decide) (by decide)) (F.qn rfl (r_load ta3 rfl (fun w hw=>cell_1 (box_cells (i:=0) rfl w hw) rfl)) (F.qn rfl (r_move rfl) (F.qn rfl (r_eql rfl rfl) (F.qn rfl (r_move rfl) ?_))))
        iterate 5 refine F.skf rfl g37 ?_
        refine F.qn rfl (r_pickf rfl rfl g37) (F.nil ?_)
        cases hE_4
        refine Nrm.only [1,2,3,7,9,12,13,14,43] rfl ?_
        refine Nrm.pick [0,1] rfl rfl ?_
        exact hj_3 _ _ ⟨rfl,rfl⟩
     ·refine Tri.cond (b:=t17.1 == a1) rfl (fun g_3=>?_) (fun g_3=>?_)
      ·replace hE_3:=if_tt g_3 hE_3
       obtain ⟨hs31,hE_3⟩:=ck hE_3
       refine Tri.reg (l:=[0,1,2,3,4,5]) rfl ?_
       refine F.qn rfl (r_move rfl) (F.qn rfl (r_indexAddrA Tryz.underlying168 ti3 rfl rfl (by decide) (by decide)) (F.qn rfl (r_load ta3 rfl (fun w hw=>cell_1 (box_cells (i:=0) rfl w hw) rfl)) (F.qn rfl (r_shl rfl rfl hs31) (F.qn rfl (r_or rfl rfl) (F.qn rfl (r_assign rfl) (F.nil ?_))))))
       cases hE_3
       refine Nrm.only [1,2,3,7,8,9,12,13,14] rfl ?_
       refine Nrm.pick [0,1] rfl rfl ?_
       exact hj_2 _ _ ⟨rfl,rfl⟩
      ·replace hE_3:=if_ff g_3 hE_3
       refine Tri.skip ?_
       cases hE_3
       refine Nrm.only [1,2,3,7,8,9,12,13,14] rfl ?_
       refine Nrm.pick [0,1] rfl rfl ?_
       exact hj_2 _ _ ⟨rfl,rfl⟩
  ·replace hE_1:=if_ff g_1 hE_1
   refine Tri.exit ?_
   refine Exi.then ?_
   refine Exi.then ?_
   refine Exi.same ?_
   cases hE_1
   refine Nrm.seq (Tri.seq (Tri.reg (l:=[0,1]) rfl ?_))
   refine F.qn rfl (r_move rfl) (F.qn rfl (r_assign rfl) (F.nil (Nrm.seq (Tri.ret ?_))))
   cases h
   exact Rtn.body (.tmp rfl .nil) (fun w hw=>⟨rfl,hw.ext⟩)


def impl_better.f (k : Nat) (a0 : Int) (a1 : Int) : Option (Bool) := ((if (decide (a0 ≥ 0)) = true then (if (decide (a1 < 0)) = true then some true else some (decide (a0 < a1))) else some false)).bind fun y4 => some y4

theorem impl_better.ok {k : Nat}  {a0 : Int} {a1 : Int} {r0 : Bool} (h : impl_better.f k a0 a1 = some r0) (w : World) :
  Calls Tryz.prog 223 ([.int .i64 a0,.int .i64 a1] : List Value).toArray w (fun e w'=>e = .returned (.bool r0)∧Ext w w'):=by
 unfold impl_better.f at h
 refine Calls.of_tri (N:=16) Tryz.func223 rfl rfl rfl (Sep.nil (M:=noM)) ?_
 refine Tri.seq (Tri.reg (l:=[0]) rfl ?_)
 refine F.qn rfl (r_assign rfl) (F.nil (Nrm.seq (Tri.seq ?_)))
 obtain ⟨y4,hE_1,h⟩:=bind_some h
 refine Tri.cut (fun e' C'=>e' = [(4,.bool y4)]∧C' = Sep w noM []) ?_ (fun hj_1=>?_)
 ·rintro _ _ ⟨rfl,rfl⟩
  refine Nrm.seq (Tri.ret ?_)
  cases h
  exact Rtn.body (.tmp rfl .nil) (fun w hw=>⟨rfl,hw.ext⟩)
 ·rcases Bool.eq_false_or_eq_true (decide (a0 ≥ 0)) with g7 | g7
  ·replace hE_1:=if_tt g7 hE_1
   rcases Bool.eq_false_or_eq_true (decide (a1 < 0)) with g10 | g10
   ·replace hE_1:=if_tt g10 hE_1
    refine Tri.reg (l:=List.range 12) rfl ?_
    refine F.qn rfl (r_move rfl) (F.qn rfl (r_geq rfl rfl) (F.qn rfl (r_move rfl) (F.qg rfl g7 (r_move rfl) (F.qg rfl g7 (r_lss rfl rfl) (F.qg rfl g7 (r_move rfl) ?_)))))
    iterate 3 refine F.skf rfl g10 ?_
    refine F.qg rfl g7 (r_pick rfl rfl g10) (F.qn rfl (r_pick rfl rfl g7) (F.qn rfl (r_assign rfl) (F.nil ?_)))
    cases hE_1
    refine Nrm.only [4] rfl ?_
    refine Nrm.pick [] rfl rfl ?_
    exact hj_1 _ _ ⟨rfl,rfl⟩
   ·replace hE_1:=if_ff g10 hE_1
    refine Tri.reg (l:=List.range 12) rfl ?_
    refine F.qn rfl (r_move rfl) (F.qn rfl (r_geq rfl rfl) (F.qn rfl (r_move rfl) (F.qg rfl g7 (r_move rfl) (F.qg rfl g7 (r_lss rfl rfl) (F.qg rfl g7 (r_move rfl) ?_)))))
    refine F.qg rfl g10 (r_move rfl) (F.qg rfl g10 (r_move rfl) (F.qg rfl g10 (r_lss rfl rfl) (F.qg rfl g7 (r_pickf rfl rfl g10) (F.qn rfl (r_pick rfl rfl g7) (F.qn rfl (r_assign rfl) (F.nil ?_))))))
    cases hE_1
    refine Nrm.only [4] rfl ?_
    refine Nrm.pick [] rfl rfl ?_
    exact hj_1 _ _ ⟨rfl,rfl⟩
  ·replace hE_1:=if_ff g7 hE_1
   refine Tri.reg (l:=List.range 12) rfl ?_
   refine F.qn rfl (r_move rfl) (F.qn rfl (r_geq rfl rfl) (F.qn rfl (r_move rfl) ?_))
   iterate 3 refine F.skf rfl g7 ?_
   iterate 3 refine F.sk rfl rfl rfl (wanted_undef rfl rfl rfl) ?_
   refine F.skf rfl g7 (F.qn rfl (r_pickf rfl rfl g7) (F.qn rfl (r_assign rfl) (F.nil ?_)))
   cases hE_1
   refine Nrm.only [4] rfl ?_
   refine Nrm.pick [] rfl rfl ?_
   exact hj_1 _ _ ⟨rfl,rfl⟩


def impl_trapTo.l1 (k : Nat) (a0_0 : Int) (a1 : (Int → Int → Option (Bool))) (x15 : Int) : Nat → Int → (Arr 768) → Option ((Arr 768))
 | 0,_,_=>none
 | n + 1,x18,xb5_1_0r=>(if (decide (x18 < 64)) = true then if 0 ≤ x15∧x15 < 12 then if 0 ≤ x18∧x18 < 64 then ((if (decide (x15 < a0_0)) = true then (a1 x15 x18).bind fun t34=>some t34 else some false)).bind fun y35=>((if y35 = true then if 0 ≤ x15∧x15 < 12 then if 0 ≤ x18∧x18 < 64 then some (Arr.put (Arr.put xb5_1_0r (x15 * 64 + x18) (-1)) (x15 * 64 + x18) 0) else none else none else some (Arr.put xb5_1_0r (x15 * 64 + x18) (-1)))).bind fun yb5_1_0=>impl_trapTo.l1 k a0_0 a1 x15 n (w64 (x18 + 1)) yb5_1_0 else none else none else some xb5_1_0r)

def impl_trapTo.l5 (k : Nat) (a0_2 : List Int) (x46 : Int) (x49 : Int) (t56 : List Int) : Nat → Bool → Int → (Arr 768) → Option ((Arr 768) × Bool)
 | 0,_,_,_=>none
 | n + 1,x8rrr,x58,xb5_1_0rrrrr=>(if (decide (x58 < (t56.length : Int))) = true then (rdl t56 x58).bind fun t60=>(rdl a0_2 t60).bind fun t68=>if 0 ≤ t60∧t60 < 12 then if 0 ≤ bor x49 t68∧bor x49 t68 < 64 then ((if (decide ((Arr.at xb5_1_0rrrrr (t60 * 64 + (bor x49 t68))) ≥ 0)) = true then if 0 ≤ x46∧x46 < 12 then if 0 ≤ x49∧x49 < 64 then (impl_better.f k (w64 ((Arr.at xb5_1_0rrrrr (t60 * 64 + (bor x49 t68))) + 1)) (Arr.at xb5_1_0rrrrr (x46 * 64 + x49))).bind fun t84=>some t84 else none else none else some false)).bind fun y85=>((if y85 = true then if 0 ≤ x46∧x46 < 12 then if 0 ≤ x49∧x49 < 64 then some (true,(Arr.put xb5_1_0rrrrr (x46 * 64 + x49) (w64 ((Arr.at xb5_1_0rrrrr (t60 * 64 + (bor x49 t68))) + 1)))) else none else none else some (x8rrr,xb5_1_0rrrrr))).bind fun (y8,yb5_1_0r)=>impl_trapTo.l5 k a0_2 x46 x49 t56 n y8 (w64 (x58 + 1)) yb5_1_0r else none else none else some (xb5_1_0rrrrr,x8rrr))

def impl_trapTo.l4 (k : Nat) (a0_0 : Int) (a0_1 : List (Int × Int × Int)) (a0_2 : List Int) (a0_3 : List Int) (x46 : Int) : Nat → Bool → Int → (Arr 768) → Option ((Arr 768) × Bool)
 | 0,_,_,_=>none
 | n + 1,x8rr,x49,xb5_1_0rrrr=>(if (decide (x49 < 64)) = true then (impl_trapSteps.f k a0_0 a0_1 a0_2 a0_3 x46 x49).bind fun t55=>(impl_members.f k t55).bind fun t56=>(impl_trapTo.l5 k a0_2 x46 x49 t56 k x8rr 0 xb5_1_0rrrr).bind fun (xb5_1_0rrrrr,x8rrr)=>impl_trapTo.l4 k a0_0 a0_1 a0_2 a0_3 x46 n x8rrr (w64 (x49 + 1)) xb5_1_0rrrrr else some (xb5_1_0rrrr,x8rr))

def impl_trapTo.l3 (k : Nat) (a0_0 : Int) (a0_1 : List (Int × Int × Int)) (a0_2 : List Int) (a0_3 : List Int) : Nat → Bool → Int → (Arr 768) → Option ((Arr 768) × Bool)
 | 0,_,_,_=>none
 | n + 1,x8r,x46,xb5_1_0rrr=>(if (decide (x46 < a0_0)) = true then (impl_trapTo.l4 k a0_0 a0_1 a0_2 a0_3 x46 k x8r 0 xb5_1_0rrr).bind fun (xb5_1_0rrrr,x8rr)=>impl_trapTo.l3 k a0_0 a0_1 a0_2 a0_3 n x8rr (w64 (x46 + 1)) xb5_1_0rrrr else some (xb5_1_0rrr,x8r))

def impl_trapTo.l2 (k : Nat) (a0_0 : Int) (a0_1 : List (Int × Int × Int)) (a0_2 : List Int) (a0_3 : List Int) : Nat → Bool → (Arr 768) → Option ((Arr 768))
 | 0,_,_=>none
 | n + 1,x8,xb5_1_0rr=>(if x8 = true then (impl_trapTo.l3 k a0_0 a0_1 a0_2 a0_3 k false 0 xb5_1_0rr).bind fun (xb5_1_0rrr,x8r)=>impl_trapTo.l2 k a0_0 a0_1 a0_2 a0_3 n x8r xb5_1_0rrr else some xb5_1_0rr)

def impl_trapTo.l0 (k : Nat) (a0_0 : Int) (a1 : (Int → Int → Option (Bool))) : Nat → Int → (Arr 768) → Option ((Arr 768))
 | 0,_,_=>none
 | n + 1,x15,xb5_1_0=>(if (decide (x15 < 12)) = true then (impl_trapTo.l1 k a0_0 a1 x15 k 0 xb5_1_0).bind fun xb5_1_0r=>impl_trapTo.l0 k a0_0 a1 n (w64 (x15 + 1)) xb5_1_0r else some xb5_1_0)

def impl_trapTo.f (k : Nat) (a0_0 : Int) (a0_1 : List (Int × Int × Int)) (a0_2 : List Int) (a0_3 : List Int) (a1 : (Int → Int → Option (Bool))) : Option ((Arr 768)) := (impl_trapTo.l0 k a0_0 a1 k 0 (Arr.rep 768 0)).bind fun xb5_1_0 => (impl_trapTo.l2 k a0_0 a0_1 a0_2 a0_3 k true xb5_1_0).bind fun xb5_1_0rr => some xb5_1_0rr

theorem impl_trapTo.ok {k : Nat}  {a0_0 : Int} {a0_1 : List (Int × Int × Int)} {a0_2 : List Int} {a0_3 : List Int} {a1 : (Int → Int → Option (Bool))} {r0 : Arr 768} (h : impl_trapTo.f k a0_0 a0_1 a0_2 a0_3 a1 = some r0) (w : World) {va0_1 : Value} {va0_2 : Value} {va0_3 : Value} (hr_a0_1 : Rd w va0_1 a0_1) (hr_a0_2 : Rd w va0_2 a0_2) (hr_a0_3 : Rd w va0_3 a0_3) {fi_a1 : FuncId} {ca_a1 : Array Value} (ho_a1 : CallOk Tryz.prog fi_a1) (hf_a1 : ∀ w2, Ext w w2 → ∀ (z0 : Int) (z1 : Int) (y : Bool), a1 z0 z1 = some y → Calls Tryz.prog fi_a1 (([.int .i64 z0, .int .i64 z1] : List Value) ++ ca_a1.toList).toArray w2 (fun e w3 => e = .returned (.bool y) ∧ Ext w2 w3)) :
  Calls Tryz.prog 210 ([.agg ([.int .i64 a0_0,va0_1,va0_2,va0_3].toArray),.func (.func fi_a1) #[] ca_a1] : List Value).toArray w (fun e w'=>e = .returned (.agg (encA r0).toArray)∧Ext w w'):=by
 unfold impl_trapTo.f at h
 have hl_va0_1:=hr_a0_1.len
 have hl_va0_2:=hr_a0_2.len
 have hl_va0_3:=hr_a0_3.len
 refine Calls.of_tri (N:=96) Tryz.func210 rfl rfl rfl (Sep.nil (M:=noM)) ?_
 refine Tri.seq (Tri.reg (l:=[0,1]) rfl ?_)
 refine F.mn rfl (m_boxG rfl rfl) ?_
 rintro _ _ ⟨b2_1,rfl,rfl⟩
 refine F.mn rfl (m_alloc ti132) ?_
 rintro _ _ ⟨b4_1,rfl,rfl⟩
 refine F.nil (Nrm.seq (Tri.seq (Tri.reg (l:=[0,1,2]) rfl ?_)))
 refine F.qn rfl (r_buildA (qs:=[]) (cs:=encA (Arr.rep 768 0)) Tryz.underlying132 ti130 ti132 rfl .nil (encA_len _) rfl) ?_
 refine F.mn rfl (m_alloc ti132) ?_
 rintro _ _ ⟨b5_1,rfl,rfl⟩
 refine F.ef0 rfl rfl (wanted_none rfl) (d_storeArr (i:=0) (g:=(Arr.rep 768 0)) (h:=(Arr.rep 768 0)) ti132 rfl rfl rfl) ?_
 rintro _ _ ⟨rfl,rfl⟩
 refine F.nil (Nrm.seq (Tri.seq (Tri.seq (Tri.reg (l:=[0]) rfl ?_))))
 refine F.qn rfl (r_move rfl) (F.nil (Nrm.seq ?_))
 obtain ⟨xb5_1_0,hE_1,h⟩:=bind_some h
 refine Tri.block ?_
 refine Tri.only [1,2,4,5,15] rfl ?_
 refine Tri.pick [0,1,2] rfl rfl ?_
 refine Tri.rounds (fun n e' C'=>∃ (x15' : Int) (xb5_1_0' : Arr 768),impl_trapTo.l0 k a0_0 a1 n x15' xb5_1_0' = some xb5_1_0∧e' = [(1,.func (.func fi_a1) #[] ca_a1),(2,.pointer (some ⟨b2_1,0,none⟩)),(4,.pointer (some ⟨b4_1,0,none⟩)),(5,.pointer (some ⟨b5_1,0,none⟩)),(15,.int .i64 x15')]∧C' = Sep w noM [R.box b5_1 132 (encA xb5_1_0'),R.box b4_1 132 (encA (Arr.rep 768 0)),R.box b2_1 65 [.int .i64 a0_0,va0_1,va0_2,va0_3]]) k ?_ ?_ ?_
 ·exact ⟨0,(Arr.rep 768 0),hE_1,rfl,rfl⟩
 ·rintro _ _ ⟨_,_,hE_1,_⟩
  rw [impl_trapTo.l0.eq_1] at hE_1; cases hE_1
 ·rintro n_1 _ _ ⟨x15,xb5_1_0,hE_1,rfl,rfl⟩ ih_1
  rw [impl_trapTo.l0.eq_2] at hE_1
  refine Tri.seq (Tri.reg (l:=[0]) rfl ?_)
  refine F.qn rfl (r_lss rfl rfl) (F.nil (Nrm.seq (Tri.seq (Tri.cond (b:=decide (x15 < 12)) rfl (fun g_1=>?_) (fun g_1=>?_)))))
  ·replace hE_1:=if_tt g_1 hE_1
   refine Tri.skip (Nrm.seq (Tri.seq (Tri.block ?_)))
   refine Tri.seq (Tri.reg (l:=[0,1]) rfl ?_)
   refine F.qn rfl (r_move rfl) (F.qn rfl (r_assign rfl) (F.nil (Nrm.seq (Tri.seq (Tri.reg (l:=[0]) rfl ?_)))))
   refine F.qn rfl (r_move rfl) (F.nil (Nrm.seq ?_))
   obtain ⟨xb5_1_0r,hE_2,hE_1⟩:=bind_some hE_1
   refine Tri.block ?_
   refine Tri.only [1,2,4,5,6,15,18] rfl ?_
   refine Tri.pick [0,1,2] rfl rfl ?_
   refine Tri.rounds (fun n e' C'=>∃ (x18' : Int) (xb5_1_0r' : Arr 768),impl_trapTo.l1 k a0_0 a1 x15 n x18' xb5_1_0r' = some xb5_1_0r∧e' = [(1,.func (.func fi_a1) #[] ca_a1),(2,.pointer (some ⟨b2_1,0,none⟩)),(4,.pointer (some ⟨b4_1,0,none⟩)),(5,.pointer (some ⟨b5_1,0,none⟩)),(6,.int .i64 x15),(15,.int .i64 x15),(18,.int .i64 x18')]∧C' = Sep w noM [R.box b5_1 132 (encA xb5_1_0r'),R.box b4_1 132 (encA (Arr.rep 768 0)),R.box b2_1 65 [.int .i64 a0_0,va0_1,va0_2,va0_3]]) k ?_ ?_ ?_
   ·exact ⟨0,xb5_1_0,hE_2,rfl,rfl⟩
   ·rintro _ _ ⟨_,_,hE_2,_⟩
    rw [impl_trapTo.l1.eq_1] at hE_2; cases hE_2
   ·rintro n_2 _ _ ⟨x18,xb5_1_0r,hE_2,rfl,rfl⟩ ih_2
    rw [impl_trapTo.l1.eq_2] at hE_2
    refine Tri.seq (Tri.reg (l:=[0]) rfl ?_)
    refine F.qn rfl (r_lss rfl rfl) (F.nil (Nrm.seq (Tri.seq (Tri.cond (b:=decide (x18 < 64)) rfl (fun g_2=>?_) (fun g_2=>?_)))))
    ·replace hE_2:=if_tt g_2 hE_2
     refine Tri.skip (Nrm.seq (Tri.seq (Tri.block ?_)))
     refine Tri.seq (Tri.reg (l:=[0,1]) rfl ?_)
     refine F.qn rfl (r_move rfl) (F.qn rfl (r_assign rfl) (F.nil (Nrm.seq (Tri.seq ?_))))
     obtain ⟨hb23,hE_2⟩:=ck hE_2
     obtain ⟨hb24,hE_2⟩:=ck hE_2
     refine Tri.reg (l:=[0,1,2,3,4]) rfl ?_
     refine F.qn rfl (r_move rfl) (F.qn rfl (r_move rfl) (F.qn rfl (r_indexAddrA Tryz.underlying132 ti130 rfl rfl hb23.1 hb23.2) (F.qn rfl (r_indexAddrA Tryz.underlying130 ti3 rfl rfl hb24.1 hb24.2) ?_)))
     refine F.ef0 rfl rfl (wanted_none rfl) (d_storeTab (i:=0) (m:=64) (g:=xb5_1_0r) (r:=x15) (j:=x18) (u:=(-1)) ti3 rfl rfl rfl (tabB 12 64 768 hb23 rfl) hb24) ?_
     rintro _ _ ⟨rfl,rfl⟩
     refine F.nil (Nrm.seq (Tri.seq ?_))
     obtain ⟨y35,hE_3,hE_2⟩:=bind_some hE_2
     refine Tri.cut (fun e' C'=>e' = [(1,.func (.func fi_a1) #[] ca_a1),(2,.pointer (some ⟨b2_1,0,none⟩)),(4,.pointer (some ⟨b4_1,0,none⟩)),(5,.pointer (some ⟨b5_1,0,none⟩)),(6,.int .i64 x15),(7,.int .i64 x18),(15,.int .i64 x15),(18,.int .i64 x18),(35,.bool y35)]∧C' = Sep w noM [R.box b5_1 132 (encA (Arr.put xb5_1_0r (x15 * 64 + x18) (-1))),R.box b4_1 132 (encA (Arr.rep 768 0)),R.box b2_1 65 [.int .i64 a0_0,va0_1,va0_2,va0_3]]) ?_ (fun hj_1=>?_)
     ·rintro _ _ ⟨rfl,rfl⟩
      refine Nrm.seq ?_
      obtain ⟨yb5_1_0,hE_4,hE_2⟩:=bind_some hE_2
      refine Tri.cut (fun e' C'=>e' = [(1,.func (.func fi_a1) #[] ca_a1),(2,.pointer (some ⟨b2_1,0,none⟩)),(4,.pointer (some ⟨b4_1,0,none⟩)),(5,.pointer (some ⟨b5_1,0,none⟩)),(6,.int .i64 x15),(15,.int .i64 x15),(18,.int .i64 x18)]∧C' = Sep w noM [R.box b5_1 132 (encA yb5_1_0),R.box b4_1 132 (encA (Arr.rep 768 0)),R.box b2_1 65 [.int .i64 a0_0,va0_1,va0_2,va0_3]]) ?_ (fun hj_2=>?_)
      ·rintro _ _ ⟨rfl,rfl⟩
       refine Nrm.block ?_
       refine Nrm.seq (Tri.reg (l:=[0,1]) rfl ?_)
       refine F.qn rfl (r_add rfl rfl) (F.qn rfl (r_move rfl) (F.nil (Nrm.round ?_)))
       refine Rnd.only [1,2,4,5,6,15,18] rfl ?_
       refine Rnd.pick [0,1,2] rfl rfl ?_
       exact ih_2 _ _ ⟨w64 (x18 + 1),yb5_1_0,hE_2,rfl,rfl⟩
      ·refine Tri.cond (b:=y35) rfl (fun g_3=>?_) (fun g_3=>?_)
       ·replace hE_4:=if_tt g_3 hE_4
        obtain ⟨hb38,hE_4⟩:=ck hE_4
        obtain ⟨hb39,hE_4⟩:=ck hE_4
        refine Tri.reg (l:=[0,1,2,3,4]) rfl ?_
        refine F.qn rfl (r_move rfl) (F.qn rfl (r_move rfl) (F.qn rfl (r_indexAddrA Tryz.underlying132 ti130 rfl rfl hb38.1 hb38.2) (F.qn rfl (r_indexAddrA Tryz.underlying130 ti3 rfl rfl hb39.1 hb39.2) ?_)))
        refine F.ef0 rfl rfl (wanted_none rfl) (d_storeTab (i:=0) (m:=64) (g:=(Arr.put xb5_1_0r (x15 * 64 + x18) (-1))) (r:=x15) (j:=x18) (u:=0) ti3 rfl rfl rfl (tabB 12 64 768 hb38 rfl) hb39) ?_
        rintro _ _ ⟨rfl,rfl⟩
        refine F.nil ?_
        cases hE_4
        refine Nrm.only [1,2,4,5,6,15,18] rfl ?_
        refine Nrm.pick [0,1,2] rfl rfl ?_
        exact hj_2 _ _ ⟨rfl,rfl⟩
       ·replace hE_4:=if_ff g_3 hE_4
        refine Tri.skip ?_
        cases hE_4
        refine Nrm.only [1,2,4,5,6,15,18] rfl ?_
        refine Nrm.pick [0,1,2] rfl rfl ?_
        exact hj_2 _ _ ⟨rfl,rfl⟩
     ·rcases Bool.eq_false_or_eq_true (decide (x15 < a0_0)) with g30 | g30
      ·replace hE_3:=if_tt g30 hE_3
       obtain ⟨t34,h34,hE_3⟩:=bind_some hE_3
       refine Tri.reg (l:=[0,1,2,3,4,5,6,7,8,9,10]) rfl ?_
       refine F.qn rfl (r_move rfl) (F.qn rfl (r_fieldAddr tf65_0 rfl) (F.qn rfl (r_fieldAddr tf27_0 rfl) (F.qn rfl (r_load ta3 rfl (fun w hw=>cell_2 (box_cells (i:=2) rfl w hw) rfl)) (F.qn rfl (r_lss rfl rfl) (F.qn rfl (r_move rfl) ?_)))))
       iterate 3 refine F.qg rfl g30 (r_move rfl) ?_
       refine F.qc rfl rfl rfl (wg rfl rfl rfl g30) (q_callC (xs:=_) rfl ho_a1 rfl rfl (fun w hw=>hf_a1 w hw.ext _ _  _ h34)) ?_
       refine F.qn rfl (r_pick rfl rfl g30) (F.nil ?_)
       cases hE_3
       refine Nrm.only [1,2,4,5,6,7,15,18,35] rfl ?_
       refine Nrm.pick [0,1,2] rfl rfl ?_
       exact hj_1 _ _ ⟨rfl,rfl⟩
      ·replace hE_3:=if_ff g30 hE_3
       refine Tri.reg (l:=[0,1,2,3,4,5,6,7,8,9,10]) rfl ?_
       refine F.qn rfl (r_move rfl) (F.qn rfl (r_fieldAddr tf65_0 rfl) (F.qn rfl (r_fieldAddr tf27_0 rfl) (F.qn rfl (r_load ta3 rfl (fun w hw=>cell_2 (box_cells (i:=2) rfl w hw) rfl)) (F.qn rfl (r_lss rfl rfl) (F.qn rfl (r_move rfl) ?_)))))
       iterate 4 refine F.skf rfl g30 ?_
       refine F.qn rfl (r_pickf rfl rfl g30) (F.nil ?_)
       cases hE_3
       refine Nrm.only [1,2,4,5,6,7,15,18,35] rfl ?_
       refine Nrm.pick [0,1,2] rfl rfl ?_
       exact hj_1 _ _ ⟨rfl,rfl⟩
    ·replace hE_2:=if_ff g_2 hE_2
     refine Tri.exit ?_
     refine Exi.then ?_
     refine Exi.then ?_
     refine Exi.same ?_
     cases hE_2
     refine Nrm.block ?_
     refine Nrm.seq (Tri.reg (l:=[0,1]) rfl ?_)
     refine F.qn rfl (r_add rfl rfl) (F.qn rfl (r_move rfl) (F.nil (Nrm.round ?_)))
     refine Rnd.only [1,2,4,5,15] rfl ?_
     refine Rnd.pick [0,1,2] rfl rfl ?_
     exact ih_1 _ _ ⟨w64 (x15 + 1),xb5_1_0r,hE_1,rfl,rfl⟩
  ·replace hE_1:=if_ff g_1 hE_1
   refine Tri.exit ?_
   refine Exi.then ?_
   refine Exi.then ?_
   refine Exi.same ?_
   cases hE_1
   refine Nrm.seq (Tri.seq (Tri.seq (Tri.reg (l:=[0]) rfl ?_)))
   refine F.qn rfl (r_assign rfl) (F.nil (Nrm.seq ?_))
   obtain ⟨xb5_1_0rr,hE_5,h⟩:=bind_some h
   refine Tri.block ?_
   refine Tri.only [2,4,5,8] rfl ?_
   refine Tri.pick [0,1,2] rfl rfl ?_
   refine Tri.rounds (fun n e' C'=>∃ (x8' : Bool) (xb5_1_0rr' : Arr 768),impl_trapTo.l2 k a0_0 a0_1 a0_2 a0_3 n x8' xb5_1_0rr' = some xb5_1_0rr∧e' = [(2,.pointer (some ⟨b2_1,0,none⟩)),(4,.pointer (some ⟨b4_1,0,none⟩)),(5,.pointer (some ⟨b5_1,0,none⟩)),(8,.bool x8')]∧C' = Sep w noM [R.box b5_1 132 (encA xb5_1_0rr'),R.box b4_1 132 (encA (Arr.rep 768 0)),R.box b2_1 65 [.int .i64 a0_0,va0_1,va0_2,va0_3]]) k ?_ ?_ ?_
   ·exact ⟨true,xb5_1_0,hE_5,rfl,rfl⟩
   ·rintro _ _ ⟨_,_,hE_5,_⟩
    rw [impl_trapTo.l2.eq_1] at hE_5; cases hE_5
   ·rintro n_3 _ _ ⟨x8,xb5_1_0rr,hE_5,rfl,rfl⟩ ih_3
    rw [impl_trapTo.l2.eq_2] at hE_5
    refine Tri.seq (Tri.seq (Tri.reg (l:=[0]) rfl ?_))
    refine F.qn rfl (r_move rfl) (F.nil (Nrm.seq (Tri.cond (b:=x8) rfl (fun g_4=>?_) (fun g_4=>?_))))
    ·replace hE_5:=if_tt g_4 hE_5
     refine Tri.skip (Nrm.seq (Tri.block ?_))
     refine Tri.seq (Tri.reg (l:=[0]) rfl ?_)
     refine F.qn rfl (r_assign rfl) (F.nil (Nrm.seq (Tri.seq (Tri.reg (l:=[0,1,2,3]) rfl ?_))))
     refine F.qn rfl (r_fieldAddr tf65_0 rfl) (F.qn rfl (r_fieldAddr tf27_0 rfl) (F.qn rfl (r_load ta3 rfl (fun w hw=>cell_2 (box_cells (i:=2) rfl w hw) rfl)) (F.qn rfl (r_move rfl) (F.nil (Nrm.seq ?_)))))
     obtain ⟨⟨xb5_1_0rrr,x8r⟩,hE_6,hE_5⟩:=bind_some hE_5
     refine Tri.block ?_
     refine Tri.only [2,4,5,8,45,46] rfl ?_
     refine Tri.pick [0,1,2] rfl rfl ?_
     refine Tri.rounds (fun n e' C'=>∃ (x8r' : Bool) (x46' : Int) (xb5_1_0rrr' : Arr 768),impl_trapTo.l3 k a0_0 a0_1 a0_2 a0_3 n x8r' x46' xb5_1_0rrr' = some (xb5_1_0rrr,x8r)∧e' = [(2,.pointer (some ⟨b2_1,0,none⟩)),(4,.pointer (some ⟨b4_1,0,none⟩)),(5,.pointer (some ⟨b5_1,0,none⟩)),(8,.bool x8r'),(45,.int .i64 a0_0),(46,.int .i64 x46')]∧C' = Sep w noM [R.box b5_1 132 (encA xb5_1_0rrr'),R.box b4_1 132 (encA (Arr.rep 768 0)),R.box b2_1 65 [.int .i64 a0_0,va0_1,va0_2,va0_3]]) k ?_ ?_ ?_
     ·exact ⟨false,0,xb5_1_0rr,hE_6,rfl,rfl⟩
     ·rintro _ _ ⟨_,_,_,hE_6,_⟩
      rw [impl_trapTo.l3.eq_1] at hE_6; cases hE_6
     ·rintro n_4 _ _ ⟨x8r,x46,xb5_1_0rrr,hE_6,rfl,rfl⟩ ih_4
      rw [impl_trapTo.l3.eq_2] at hE_6
      refine Tri.seq (Tri.reg (l:=[0]) rfl ?_)
      refine F.qn rfl (r_lss rfl rfl) (F.nil (Nrm.seq (Tri.seq (Tri.cond (b:=decide (x46 < a0_0)) rfl (fun g_5=>?_) (fun g_5=>?_)))))
      ·replace hE_6:=if_tt g_5 hE_6
       refine Tri.skip (Nrm.seq (Tri.seq (Tri.block ?_)))
       refine Tri.seq (Tri.reg (l:=[0,1]) rfl ?_)
       refine F.qn rfl (r_move rfl) (F.qn rfl (r_assign rfl) (F.nil (Nrm.seq (Tri.seq (Tri.reg (l:=[0]) rfl ?_)))))
       refine F.qn rfl (r_move rfl) (F.nil (Nrm.seq ?_))
       obtain ⟨⟨xb5_1_0rrrr,x8rr⟩,hE_7,hE_6⟩:=bind_some hE_6
       refine Tri.block ?_
       refine Tri.only [2,4,5,8,9,45,46,49] rfl ?_
       refine Tri.pick [0,1,2] rfl rfl ?_
       refine Tri.rounds (fun n e' C'=>∃ (x8rr' : Bool) (x49' : Int) (xb5_1_0rrrr' : Arr 768),impl_trapTo.l4 k a0_0 a0_1 a0_2 a0_3 x46 n x8rr' x49' xb5_1_0rrrr' = some (xb5_1_0rrrr,x8rr)∧e' = [(2,.pointer (some ⟨b2_1,0,none⟩)),(4,.pointer (some ⟨b4_1,0,none⟩)),(5,.pointer (some ⟨b5_1,0,none⟩)),(8,.bool x8rr'),(9,.int .i64 x46),(45,.int .i64 a0_0),(46,.int .i64 x46),(49,.int .i64 x49')]∧C' = Sep w noM [R.box b5_1 132 (encA xb5_1_0rrrr'),R.box b4_1 132 (encA (Arr.rep 768 0)),R.box b2_1 65 [.int .i64 a0_0,va0_1,va0_2,va0_3]]) k ?_ ?_ ?_
       ·exact ⟨x8r,0,xb5_1_0rrr,hE_7,rfl,rfl⟩
       ·rintro _ _ ⟨_,_,_,hE_7,_⟩
        rw [impl_trapTo.l4.eq_1] at hE_7; cases hE_7
       ·rintro n_5 _ _ ⟨x8rr,x49,xb5_1_0rrrr,hE_7,rfl,rfl⟩ ih_5
        rw [impl_trapTo.l4.eq_2] at hE_7
        refine Tri.seq (Tri.reg (l:=[0]) rfl ?_)
        refine F.qn rfl (r_lss rfl rfl) (F.nil (Nrm.seq (Tri.seq (Tri.cond (b:=decide (x49 < 64)) rfl (fun g_6=>?_) (fun g_6=>?_)))))
        ·replace hE_7:=if_tt g_6 hE_7
         refine Tri.skip (Nrm.seq (Tri.seq (Tri.block ?_)))
         refine Tri.seq (Tri.reg (l:=[0,1]) rfl ?_)
         refine F.qn rfl (r_move rfl) (F.qn rfl (r_assign rfl) (F.nil (Nrm.seq (Tri.seq ?_))))
         obtain ⟨t55,h55,hE_7⟩:=bind_some hE_7
         obtain ⟨t56,h56,hE_7⟩:=bind_some hE_7
         refine Tri.reg (l:=[0,1,2,3,4,5,6]) rfl ?_
         refine F.qn rfl (r_loadA ta65 ti65 rfl rfl (fun w hw=>(box_cells (i:=2) rfl w hw))) (F.qn rfl (r_move rfl) (F.qn rfl (r_move rfl) ?_))
         refine F.qcn rfl (q_callF (xs:=_) rfl ok127 rfl rfl (fun w hw=>impl_trapSteps.ok h55 w ((fun _ hw=>hr_a0_1.sep hw) w hw) ((fun _ hw=>hr_a0_2.sep hw) w hw) ((fun _ hw=>hr_a0_3.sep hw) w hw))) ?_
         refine F.mn rfl (m_callF (xs:=_) rfl ok119 rfl rfl (fun w hw=>impl_members.ok h56 w)) ?_
         rintro v56_1 _ ⟨_,⟨S56_1,hl_v56_1,rfl⟩,rfl⟩
         refine F.qn rfl (r_len Tryz.underlying25 rfl hl_v56_1) (F.qn rfl (r_move rfl) (F.nil (Nrm.seq ?_)))
         obtain ⟨⟨xb5_1_0rrrrr,x8rrr⟩,hE_8,hE_7⟩:=bind_some hE_7
         refine Tri.block ?_
         refine Tri.only [2,4,5,8,9,10,45,46,49,56,57,58] rfl ?_
         refine Tri.pick [1,2,3,0] rfl rfl ?_
         refine Tri.rounds (fun n e' C'=>∃ (x8rrr' : Bool) (x58' : Int) (xb5_1_0rrrrr' : Arr 768),impl_trapTo.l5 k a0_2 x46 x49 t56 n x8rrr' x58' xb5_1_0rrrrr' = some (xb5_1_0rrrrr,x8rrr)∧e' = [(2,.pointer (some ⟨b2_1,0,none⟩)),(4,.pointer (some ⟨b4_1,0,none⟩)),(5,.pointer (some ⟨b5_1,0,none⟩)),(8,.bool x8rrr'),(9,.int .i64 x46),(10,.int .i64 x49),(45,.int .i64 a0_0),(46,.int .i64 x46),(49,.int .i64 x49),(56,v56_1),(57,.int .i64 (t56.length : Int)),(58,.int .i64 x58')]∧C' = Sep w noM [R.box b5_1 132 (encA xb5_1_0rrrrr'),R.box b4_1 132 (encA (Arr.rep 768 0)),R.box b2_1 65 [.int .i64 a0_0,va0_1,va0_2,va0_3],R.sl S56_1 v56_1 (t56 : List (Int))]) k ?_ ?_ ?_
         ·exact ⟨x8rr,0,xb5_1_0rrrr,hE_8,rfl,rfl⟩
         ·rintro _ _ ⟨_,_,_,hE_8,_⟩
          rw [impl_trapTo.l5.eq_1] at hE_8; cases hE_8
         ·rintro n_6 _ _ ⟨x8rrr,x58,xb5_1_0rrrrr,hE_8,rfl,rfl⟩ ih_6
          rw [impl_trapTo.l5.eq_2] at hE_8
          refine Tri.seq (Tri.reg (l:=[0]) rfl ?_)
          refine F.qn rfl (r_lss rfl rfl) (F.nil (Nrm.seq (Tri.seq (Tri.cond (b:=decide (x58 < (t56.length : Int))) rfl (fun g_7=>?_) (fun g_7=>?_)))))
          ·replace hE_8:=if_tt g_7 hE_8
           refine Tri.skip (Nrm.seq (Tri.seq (Tri.block ?_)))
           refine Tri.seq ?_
           obtain ⟨t60,h60,hE_8⟩:=bind_some hE_8
           refine Tri.reg (l:=[0,1,2]) rfl ?_
           refine F.qn rfl (r_indexAddrS Tryz.underlying25 ti3 rfl hl_v56_1 rfl (rdl_some h60).1 (rdl_some h60).2.1) (F.qn rfl (r_load ta3 rfl (fun w hw=>cell_0 (Rd.flat ((rd_sl (i:=3) rfl) w hw) (rdl_some h60).2.2) rfl)) (F.qn rfl (r_assign rfl) (F.nil (Nrm.seq (Tri.seq ?_)))))
           obtain ⟨t68,h68,hE_8⟩:=bind_some hE_8
           obtain ⟨hb71,hE_8⟩:=ck hE_8
           obtain ⟨hb72,hE_8⟩:=ck hE_8
           refine Tri.drawA mixedT Sep.up [(0,true),(1,true),(2,true),(3,true),(4,true),(5,true),(6,true),(7,true),(8,true),(9,true),(10,true),(11,true),(12,true)] [] (by kernel_rfl) ?_
           refine S.qn rfl (r_move rfl) ?_
           refine S.qn rfl (r_move rfl) (S.qn rfl (r_fieldAddr tf65_0 rfl) (S.qn rfl (r_fieldAddr tf27_2 rfl) (S.qn rfl (r_load ta25 rfl (fun w hw=>cell_2 (box_cells (i:=2) rfl w hw) rfl)) (S.qn rfl (r_move rfl) (S.qn rfl (r_indexAddrS Tryz.underlying25 ti3 rfl hl_va0_2 rfl (rdl_some h68).1 (rdl_some h68).2.1) ?_)))))
           refine S.qn rfl (r_load ta3 rfl (fun w hw=>cell_0 (Rd.flat ((fun _ hw=>hr_a0_2.sep hw) w hw) (rdl_some h68).2.2) rfl)) (S.qn rfl (r_or rfl rfl) (S.qn rfl (r_indexAddrA Tryz.underlying132 ti130 rfl rfl hb71.1 hb71.2) (S.qn rfl (r_indexAddrA Tryz.underlying130 ti3 rfl rfl hb72.1 hb72.2) (S.qn rfl (r_load ta3 rfl (fun w hw=>cell_tab (g:=xb5_1_0rrrrr) (m:=64) (box_cells (i:=0) rfl w hw) (tabB 12 64 768 hb71 rfl) hb72)) (S.qn rfl (r_assign rfl) (S.nil (F.nil (Nrm.seq (Tri.seq ?_)))))))))
           obtain ⟨y85,hE_9,hE_8⟩:=bind_some hE_8
           refine Tri.cut (fun e' C'=>e' = [(2,.pointer (some ⟨b2_1,0,none⟩)),(4,.pointer (some ⟨b4_1,0,none⟩)),(5,.pointer (some ⟨b5_1,0,none⟩)),(8,.bool x8rrr),(9,.int .i64 x46),(10,.int .i64 x49),(13,.int .i64 (Arr.at xb5_1_0rrrrr (t60 * 64 + (bor x49 t68)))),(45,.int .i64 a0_0),(46,.int .i64 x46),(49,.int .i64 x49),(56,v56_1),(57,.int .i64 (t56.length : Int)),(58,.int .i64 x58),(85,.bool y85)]∧C' = Sep w noM [R.box b5_1 132 (encA xb5_1_0rrrrr),R.box b4_1 132 (encA (Arr.rep 768 0)),R.box b2_1 65 [.int .i64 a0_0,va0_1,va0_2,va0_3],R.sl S56_1 v56_1 (t56 : List (Int))]) ?_ (fun hj_3=>?_)
           ·rintro _ _ ⟨rfl,rfl⟩
            refine Nrm.seq ?_
            obtain ⟨⟨y8,yb5_1_0r⟩,hE_10,hE_8⟩:=bind_some hE_8
            refine Tri.cut (fun e' C'=>e' = [(2,.pointer (some ⟨b2_1,0,none⟩)),(4,.pointer (some ⟨b4_1,0,none⟩)),(5,.pointer (some ⟨b5_1,0,none⟩)),(8,.bool y8),(9,.int .i64 x46),(10,.int .i64 x49),(45,.int .i64 a0_0),(46,.int .i64 x46),(49,.int .i64 x49),(56,v56_1),(57,.int .i64 (t56.length : Int)),(58,.int .i64 x58)]∧C' = Sep w noM [R.box b5_1 132 (encA yb5_1_0r),R.box b4_1 132 (encA (Arr.rep 768 0)),R.box b2_1 65 [.int .i64 a0_0,va0_1,va0_2,va0_3],R.sl S56_1 v56_1 (t56 : List (Int))]) ?_ (fun hj_4=>?_)
            ·rintro _ _ ⟨rfl,rfl⟩
             refine Nrm.block ?_
             refine Nrm.seq (Tri.reg (l:=[0,1]) rfl ?_)
             refine F.qn rfl (r_add rfl rfl) (F.qn rfl (r_move rfl) (F.nil (Nrm.round ?_)))
             refine Rnd.only [2,4,5,8,9,10,45,46,49,56,57,58] rfl ?_
             refine Rnd.pick [0,1,2,3] rfl rfl ?_
             exact ih_6 _ _ ⟨y8,w64 (x58 + 1),yb5_1_0r,hE_8,rfl,rfl⟩
            ·refine Tri.cond (b:=y85) rfl (fun g_8=>?_) (fun g_8=>?_)
             ·replace hE_10:=if_tt g_8 hE_10
              refine Tri.seq ?_
              obtain ⟨hb90,hE_10⟩:=ck hE_10
              obtain ⟨hb91,hE_10⟩:=ck hE_10
              refine Tri.reg (l:=[0,1,2,3,4,5,6]) rfl ?_
              iterate 3 refine F.qn rfl (r_move rfl) ?_
              refine F.qn rfl (r_add rfl rfl) (F.qn rfl (r_indexAddrA Tryz.underlying132 ti130 rfl rfl hb90.1 hb90.2) (F.qn rfl (r_indexAddrA Tryz.underlying130 ti3 rfl rfl hb91.1 hb91.2) ?_))
              refine F.ef0 rfl rfl (wanted_none rfl) (d_storeTab (i:=0) (m:=64) (g:=xb5_1_0rrrrr) (r:=x46) (j:=x49) (u:=w64 ((Arr.at xb5_1_0rrrrr (t60 * 64 + (bor x49 t68))) + 1)) ti3 rfl rfl rfl (tabB 12 64 768 hb90 rfl) hb91) ?_
              rintro _ _ ⟨rfl,rfl⟩
              refine F.nil (Nrm.seq (Tri.reg (l:=[0]) rfl ?_))
              refine F.qn rfl (r_assign rfl) (F.nil ?_)
              cases hE_10
              refine Nrm.only [2,4,5,8,9,10,45,46,49,56,57,58] rfl ?_
              refine Nrm.pick [0,1,2,3] rfl rfl ?_
              exact hj_4 _ _ ⟨rfl,rfl⟩
             ·replace hE_10:=if_ff g_8 hE_10
              refine Tri.skip ?_
              cases hE_10
              refine Nrm.only [2,4,5,8,9,10,45,46,49,56,57,58] rfl ?_
              refine Nrm.pick [0,1,2,3] rfl rfl ?_
              exact hj_4 _ _ ⟨rfl,rfl⟩
           ·rcases Bool.eq_false_or_eq_true (decide ((Arr.at xb5_1_0rrrrr (t60 * 64 + (bor x49 t68))) ≥ 0)) with g76 | g76
            ·replace hE_9:=if_tt g76 hE_9
             obtain ⟨hb81,hE_9⟩:=ck hE_9
             obtain ⟨hb82,hE_9⟩:=ck hE_9
             obtain ⟨t84,h84,hE_9⟩:=bind_some hE_9
             refine Tri.reg (l:=List.range 12) rfl ?_
             refine F.qn rfl (r_move rfl) (F.qn rfl (r_geq rfl rfl) (F.qn rfl (r_move rfl) (F.qg rfl g76 (r_move rfl) ?_)))
             refine F.qg rfl g76 (r_add rfl rfl) (F.qg rfl g76 (r_move rfl) (F.qg rfl g76 (r_move rfl) (F.qg rfl g76 (r_indexAddrA Tryz.underlying132 ti130 rfl rfl hb81.1 hb81.2) (F.qg rfl g76 (r_indexAddrA Tryz.underlying130 ti3 rfl rfl hb82.1 hb82.2) (F.qg rfl g76 (r_load ta3 rfl (fun w hw=>cell_tab (g:=xb5_1_0rrrrr) (m:=64) (box_cells (i:=0) rfl w hw) (tabB 12 64 768 hb81 rfl) hb82)) ?_)))))
             refine F.qc rfl rfl rfl (wg rfl rfl rfl g76) (q_callF (xs:=_) rfl ok223 rfl rfl (fun w hw=>impl_better.ok h84 w)) ?_
             refine F.qn rfl (r_pick rfl rfl g76) (F.nil ?_)
             cases hE_9
             refine Nrm.only [2,4,5,8,9,10,13,45,46,49,56,57,58,85] rfl ?_
             refine Nrm.pick [0,1,2,3] rfl rfl ?_
             exact hj_3 _ _ ⟨rfl,rfl⟩
            ·replace hE_9:=if_ff g76 hE_9
             refine Tri.reg (l:=List.range 12) rfl ?_
             refine F.qn rfl (r_move rfl) (F.qn rfl (r_geq rfl rfl) (F.qn rfl (r_move rfl) ?_))
             iterate 8 refine F.skf rfl g76 ?_
             refine F.qn rfl (r_pickf rfl rfl g76) (F.nil ?_)
             cases hE_9
             refine Nrm.only [2,4,5,8,9,10,13,45,46,49,56,57,58,85] rfl ?_
             refine Nrm.pick [0,1,2,3] rfl rfl ?_
             exact hj_3 _ _ ⟨rfl,rfl⟩
          ·replace hE_8:=if_ff g_7 hE_8
           refine Tri.exit ?_
           refine Exi.then ?_
           refine Exi.then ?_
           refine Exi.same ?_
           cases hE_8
           refine Nrm.block ?_
           refine Nrm.seq (Tri.reg (l:=[0,1]) rfl ?_)
           refine F.qn rfl (r_add rfl rfl) (F.qn rfl (r_move rfl) (F.nil (Nrm.round ?_)))
           refine Rnd.only [2,4,5,8,9,45,46,49] rfl ?_
           refine Rnd.pick [0,1,2] rfl rfl ?_
           exact ih_5 _ _ ⟨x8rrr,w64 (x49 + 1),xb5_1_0rrrrr,hE_7,rfl,rfl⟩
        ·replace hE_7:=if_ff g_6 hE_7
         refine Tri.exit ?_
         refine Exi.then ?_
         refine Exi.then ?_
         refine Exi.same ?_
         cases hE_7
         refine Nrm.block ?_
         refine Nrm.seq (Tri.reg (l:=[0,1]) rfl ?_)
         refine F.qn rfl (r_add rfl rfl) (F.qn rfl (r_move rfl) (F.nil (Nrm.round ?_)))
         refine Rnd.only [2,4,5,8,45,46] rfl ?_
         refine Rnd.pick [0,1,2] rfl rfl ?_
         exact ih_4 _ _ ⟨x8rr,w64 (x46 + 1),xb5_1_0rrrr,hE_6,rfl,rfl⟩
      ·replace hE_6:=if_ff g_5 hE_6
       refine Tri.exit ?_
       refine Exi.then ?_
       refine Exi.then ?_
       refine Exi.same ?_
       cases hE_6
       refine Nrm.block ?_
       refine Nrm.round ?_
       refine Rnd.only [2,4,5,8] rfl ?_
       refine Rnd.pick [0,1,2] rfl rfl ?_
       exact ih_3 _ _ ⟨x8r,xb5_1_0rrr,hE_5,rfl,rfl⟩
    ·replace hE_5:=if_ff g_4 hE_5
     refine Tri.exit ?_
     refine Exi.then ?_
     refine Exi.then ?_
     refine Exi.same ?_
     cases hE_5
     refine Nrm.seq (Tri.seq (Tri.reg (l:=[0,1]) rfl ?_))
     refine F.qn rfl (r_loadA (cs:=encA xb5_1_0rr) ta132 ti132 rfl (encA_len _) (fun w hw=>(box_cells (i:=0) rfl w hw))) ?_
     refine F.ef0 rfl rfl (wanted_none rfl) (d_storeArr (i:=1) (g:=(Arr.rep 768 0)) (h:=xb5_1_0rr) ti132 rfl rfl rfl) ?_
     rintro _ _ ⟨rfl,rfl⟩
     refine F.nil (Nrm.seq (Tri.ret ?_))
     cases h
     exact Rtn.body (.cell rfl ta132 ti132 (encA_len _) (fun _ hw=>box_cells (i:=1) rfl _ hw) .nil) (fun w hw=>⟨rfl,hw.ext⟩)


def impl_toTrapGoal_1.f (k : Nat) (a0 : Int) (a1 : Int) (c0_0 : Int) (c0_1 : List (Int × Int × Int)) (c0_2 : List Int) (c0_3 : List Int) : Option (Bool) := some (a0 == (w64 (c0_0 - 1)))

theorem impl_toTrapGoal_1.ok {k : Nat} {pc0 : Addr} {a0 : Int} {a1 : Int} {c0_0 : Int} {c0_1 : List (Int × Int × Int)} {c0_2 : List Int} {c0_3 : List Int} {r0 : Bool} (h : impl_toTrapGoal_1.f k a0 a1 c0_0 c0_1 c0_2 c0_3 = some r0) (w : World) {vc0_1 : Value} {vc0_2 : Value} {vc0_3 : Value} (hb_c0 : CellsAt w pc0 [.int .i64 c0_0, vc0_1, vc0_2, vc0_3]) (hr_c0_1 : Rd w vc0_1 c0_1) (hr_c0_2 : Rd w vc0_2 c0_2) (hr_c0_3 : Rd w vc0_3 c0_3) :
  Calls Tryz.prog 215 ([.int .i64 a0,.int .i64 a1,.pointer (some pc0)] : List Value).toArray w (fun e w'=>e = .returned (.bool r0)∧Ext w w'):=by
 unfold impl_toTrapGoal_1.f at h
 have hl_vc0_1:=hr_c0_1.len
 have hl_vc0_2:=hr_c0_2.len
 have hl_vc0_3:=hr_c0_3.len
 refine Calls.of_tri (N:=12) Tryz.func215 rfl rfl rfl (Sep.nil (M:=noM)) ?_
 refine Tri.seq (Tri.reg (l:=[0]) rfl ?_)
 refine F.qn rfl (r_assign rfl) (F.nil (Nrm.seq (Tri.seq (Tri.reg (l:=[0,1,2,3,4,5,6]) rfl ?_))))
 refine F.qn rfl (r_move rfl) ?_
 refine F.qn rfl (r_fieldAddr tf65_0 rfl) (F.qn rfl (r_fieldAddr tf27_0 rfl) (F.qn rfl (r_load ta3 rfl (fun w hw=>cell_2 (hb_c0.sep hw) rfl)) (F.qn rfl (r_sub rfl rfl) (F.qn rfl (r_eql rfl rfl) (F.qn rfl (r_assign rfl) (F.nil (Nrm.seq (Tri.ret ?_))))))))
 cases h
 exact Rtn.body (.tmp rfl .nil) (fun w hw=>⟨rfl,hw.ext⟩)


def impl_toTrapGoal.f (k : Nat) (a0_0 : Int) (a0_1 : List (Int × Int × Int)) (a0_2 : List Int) (a0_3 : List Int) : Option ((Arr 768)) := (impl_trapTo.f k a0_0 a0_1 a0_2 a0_3 (fun z0 z1 => impl_toTrapGoal_1.f k z0 z1 a0_0 a0_1 a0_2 a0_3)).bind fun t5 => some t5

theorem impl_toTrapGoal.ok {k : Nat}  {a0_0 : Int} {a0_1 : List (Int × Int × Int)} {a0_2 : List Int} {a0_3 : List Int} {r0 : Arr 768} (h : impl_toTrapGoal.f k a0_0 a0_1 a0_2 a0_3 = some r0) (w : World) {va0_1 : Value} {va0_2 : Value} {va0_3 : Value} (hr_a0_1 : Rd w va0_1 a0_1) (hr_a0_2 : Rd w va0_2 a0_2) (hr_a0_3 : Rd w va0_3 a0_3) :
  Calls Tryz.prog 138 ([.agg ([.int .i64 a0_0,va0_1,va0_2,va0_3].toArray)] : List Value).toArray w (fun e w'=>e = .returned (.agg (encA r0).toArray)∧Ext w w'):=by
 unfold impl_toTrapGoal.f at h
 have hl_va0_1:=hr_a0_1.len
 have hl_va0_2:=hr_a0_2.len
 have hl_va0_3:=hr_a0_3.len
 refine Calls.of_tri (N:=6) Tryz.func138 rfl rfl rfl (Sep.nil (M:=noM)) ?_
 refine Tri.seq (Tri.reg (l:=[0,1]) rfl ?_)
 refine F.mn rfl (m_boxG rfl rfl) ?_
 rintro _ _ ⟨b1_1,rfl,rfl⟩
 refine F.mn rfl (m_alloc ti132) ?_
 rintro _ _ ⟨b2_1,rfl,rfl⟩
 refine F.nil (Nrm.seq (Tri.seq ?_))
 obtain ⟨t5,h5,h⟩:=bind_some h
 refine Tri.reg (l:=[0,1,2,3]) rfl ?_
 refine F.qn rfl (r_loadA ta65 ti65 rfl rfl (fun w hw=>(box_cells (i:=1) rfl w hw))) (F.qn rfl (r_makeFunc rfl) ?_)
 refine F.qcn rfl (q_callF (xs:=_) rfl ok210 rfl rfl (fun w hw=>impl_trapTo.ok h5 w ((fun _ hw=>hr_a0_1.sep hw) w hw) ((fun _ hw=>hr_a0_2.sep hw) w hw) ((fun _ hw=>hr_a0_3.sep hw) w hw) ok215 (fun w2 he2 z0 z1 y2 hy2=>impl_toTrapGoal_1.ok hy2 w2 ((box_cells (i:=1) rfl w hw).ext he2) (((fun _ hw=>hr_a0_1.sep hw) w hw).ext he2) (((fun _ hw=>hr_a0_2.sep hw) w hw).ext he2) (((fun _ hw=>hr_a0_3.sep hw) w hw).ext he2)))) ?_
 refine F.ef0 rfl rfl (wanted_none rfl) (d_storeArr (i:=0) (g:=(Arr.rep 768 0)) (h:=t5) ti132 rfl rfl rfl) ?_
 rintro _ _ ⟨rfl,rfl⟩
 refine F.nil (Nrm.seq (Tri.ret ?_))
 cases h
 exact Rtn.body (.cell rfl ta132 ti132 (encA_len _) (fun _ hw=>box_cells (i:=0) rfl _ hw) .nil) (fun w hw=>⟨rfl,hw.ext⟩)


def impl_toLost_1.f (k : Nat) (a0 : Int) (a1 : Int) (c0 : Arr 768) : Option (Bool) := if 0 ≤ a0 ∧ a0 < 12 then if 0 ≤ a1 ∧ a1 < 64 then some (decide ((Arr.at c0 (a0 * 64 + a1)) < 0)) else none else none

theorem impl_toLost_1.ok {k : Nat} {pc0 : Addr} {a0 : Int} {a1 : Int} {c0 : Arr 768} {r0 : Bool} (h : impl_toLost_1.f k a0 a1 c0 = some r0) (w : World) (hb_c0 : CellsAt w pc0 (encA c0)) :
  Calls Tryz.prog 211 ([.int .i64 a0,.int .i64 a1,.pointer (some pc0)] : List Value).toArray w (fun e w'=>e = .returned (.bool r0)∧Ext w w'):=by
 unfold impl_toLost_1.f at h
 refine Calls.of_tri (N:=12) Tryz.func211 rfl rfl rfl (Sep.nil (M:=noM)) ?_
 refine Tri.seq (Tri.reg (l:=[0]) rfl ?_)
 refine F.qn rfl (r_assign rfl) (F.nil (Nrm.seq (Tri.seq ?_)))
 obtain ⟨hb8,h⟩:=ck h
 obtain ⟨hb9,h⟩:=ck h
 refine Tri.reg (l:=[0,1,2,3,4,5,6]) rfl ?_
 refine F.qn rfl (r_move rfl) ?_
 refine F.qn rfl (r_move rfl) (F.qn rfl (r_indexAddrA Tryz.underlying132 ti130 rfl rfl hb8.1 hb8.2) (F.qn rfl (r_indexAddrA Tryz.underlying130 ti3 rfl rfl hb9.1 hb9.2) (F.qn rfl (r_load ta3 rfl (fun w hw=>cell_tab (g:=c0) (m:=64) (hb_c0.sep hw) (tabB 12 64 768 hb8 rfl) hb9)) (F.qn rfl (r_lss rfl rfl) (F.qn rfl (r_assign rfl) (F.nil (Nrm.seq (Tri.ret ?_))))))))
 cases h
 exact Rtn.body (.tmp rfl .nil) (fun w hw=>⟨rfl,hw.ext⟩)


def impl_toLost.f (k : Nat) (a0_0 : Int) (a0_1 : List (Int × Int × Int)) (a0_2 : List Int) (a0_3 : List Int) : Option ((Arr 768)) := (impl_toTrapGoal.f k a0_0 a0_1 a0_2 a0_3).bind fun t5 => (impl_trapTo.f k a0_0 a0_1 a0_2 a0_3 (fun z0 z1 => impl_toLost_1.f k z0 z1 t5)).bind fun t8 => some t8

theorem impl_toLost.ok {k : Nat}  {a0_0 : Int} {a0_1 : List (Int × Int × Int)} {a0_2 : List Int} {a0_3 : List Int} {r0 : Arr 768} (h : impl_toLost.f k a0_0 a0_1 a0_2 a0_3 = some r0) (w : World) {va0_1 : Value} {va0_2 : Value} {va0_3 : Value} (hr_a0_1 : Rd w va0_1 a0_1) (hr_a0_2 : Rd w va0_2 a0_2) (hr_a0_3 : Rd w va0_3 a0_3) :
  Calls Tryz.prog 126 ([.agg ([.int .i64 a0_0,va0_1,va0_2,va0_3].toArray)] : List Value).toArray w (fun e w'=>e = .returned (.agg (encA r0).toArray)∧Ext w w'):=by
 unfold impl_toLost.f at h
 have hl_va0_1:=hr_a0_1.len
 have hl_va0_2:=hr_a0_2.len
 have hl_va0_3:=hr_a0_3.len
 refine Calls.of_tri (N:=9) Tryz.func126 rfl rfl rfl (Sep.nil (M:=noM)) ?_
 refine Tri.seq (Tri.reg (l:=[0,1]) rfl ?_)
 refine F.mn rfl (m_boxG rfl rfl) ?_
 rintro _ _ ⟨b1_1,rfl,rfl⟩
 refine F.mn rfl (m_alloc ti132) ?_
 rintro _ _ ⟨b2_1,rfl,rfl⟩
 refine F.nil (Nrm.seq (Tri.seq ?_))
 obtain ⟨t5,h5,h⟩:=bind_some h
 refine Tri.reg (l:=[0,1,2,3]) rfl ?_
 refine F.qn rfl (r_loadA ta65 ti65 rfl rfl (fun w hw=>(box_cells (i:=1) rfl w hw))) ?_
 refine F.qcn rfl (q_callF (xs:=_) rfl ok138 rfl rfl (fun w hw=>impl_toTrapGoal.ok h5 w ((fun _ hw=>hr_a0_1.sep hw) w hw) ((fun _ hw=>hr_a0_2.sep hw) w hw) ((fun _ hw=>hr_a0_3.sep hw) w hw))) ?_
 refine F.mn rfl (m_alloc ti132) ?_
 rintro _ _ ⟨b3_1,rfl,rfl⟩
 refine F.ef0 rfl rfl (wanted_none rfl) (d_storeArr (i:=0) (g:=(Arr.rep 768 0)) (h:=t5) ti132 rfl rfl rfl) ?_
 rintro _ _ ⟨rfl,rfl⟩
 refine F.nil (Nrm.seq (Tri.seq ?_))
 obtain ⟨t8,h8,h⟩:=bind_some h
 refine Tri.reg (l:=[0,1,2,3]) rfl ?_
 refine F.qn rfl (r_loadA ta65 ti65 rfl rfl (fun w hw=>(box_cells (i:=2) rfl w hw))) (F.qn rfl (r_makeFunc rfl) ?_)
 refine F.qcn rfl (q_callF (xs:=_) rfl ok210 rfl rfl (fun w hw=>impl_trapTo.ok h8 w ((fun _ hw=>hr_a0_1.sep hw) w hw) ((fun _ hw=>hr_a0_2.sep hw) w hw) ((fun _ hw=>hr_a0_3.sep hw) w hw) ok211 (fun w2 he2 z0 z1 y2 hy2=>impl_toLost_1.ok hy2 w2 ((box_cells (i:=0) rfl w hw).ext he2)))) ?_
 refine F.ef0 rfl rfl (wanted_none rfl) (d_storeArr (i:=1) (g:=(Arr.rep 768 0)) (h:=t8) ti132 rfl rfl rfl) ?_
 rintro _ _ ⟨rfl,rfl⟩
 refine F.nil (Nrm.seq (Tri.ret ?_))
 cases h
 exact Rtn.body (.cell rfl ta132 ti132 (encA_len _) (fun _ hw=>box_cells (i:=1) rfl _ hw) .nil) (fun w hw=>⟨rfl,hw.ext⟩)


def impl_FirstToLose.l1 (k : Nat) (a0_2 : List Int) (t14 : Arr 768) (x5 : Int) (x6 : Int) (t37 : List Int) : Nat → Int → Option (Int × Int)
 | 0,_=>none
 | n + 1,x39=>(if (decide (x39 < (t37.length : Int))) = true then (rdl t37 x39).bind fun t41=>(rdl a0_2 t41).bind fun t49=>if 0 ≤ t41∧t41 < 12 then if 0 ≤ bor x6 t49∧bor x6 t49 < 64 then if 0 ≤ x5∧x5 < 12 then if 0 ≤ x6∧x6 < 64 then (if ((Arr.at t14 (t41 * 64 + (bor x6 t49))) == (w64 ((Arr.at t14 (x5 * 64 + x6)) - 1))) = true then (rdl a0_2 t41).bind fun t68=>some (t41,bor x6 t68) else impl_FirstToLose.l1 k a0_2 t14 x5 x6 t37 n (w64 (x39 + 1))) else none else none else none else none else some (x5,x6))

def impl_FirstToLose.l0 (k : Nat) (a0_0 : Int) (a0_1 : List (Int × Int × Int)) (a0_2 : List Int) (a0_3 : List Int) (t14 : Arr 768) : Nat → Int → Int → (List (Int)) → Option ((List (Int)))
 | 0,_,_,_=>none
 | n + 1,x5,x6,x7=>if 0 ≤ x5∧x5 < 12 then if 0 ≤ x6∧x6 < 64 then (if (decide ((Arr.at t14 (x5 * 64 + x6)) > 0)) = true then (impl_trapSteps.f k a0_0 a0_1 a0_2 a0_3 x5 x6).bind fun t36=>(impl_members.f k t36).bind fun t37=>(impl_FirstToLose.l1 k a0_2 t14 x5 x6 t37 k 0).bind fun (y5,y6)=>if (x7 ++ ([y5] : List (Int))).length < 1099511627776 then impl_FirstToLose.l0 k a0_0 a0_1 a0_2 a0_3 t14 n y5 y6 (x7 ++ ([y5] : List (Int))) else none else some x7) else none else none

def impl_FirstToLose.f (k : Nat) (a0_0 : Int) (a0_1 : List (Int × Int × Int)) (a0_2 : List Int) (a0_3 : List Int) : Option ((List Int) × Bool) := (impl_IsTrap.f k a0_0 a0_1 a0_2 a0_3).bind fun t11 => (if (!t11) = true then some ([], false) else (impl_toLost.f k a0_0 a0_1 a0_2 a0_3).bind fun t14 => (rdl a0_2 0).bind fun t18 => if 0 ≤ t18 ∧ t18 < 64 then (if (decide ((Arr.at t14 (0 * 64 + t18)) < 0)) = true then some ([], false) else (impl_FirstToLose.l0 k a0_0 a0_1 a0_2 a0_3 t14 k 0 t18 ([0] : List (Int))).bind fun x7 => some (x7, true)) else none)

theorem impl_FirstToLose.ok {k : Nat}  {a0_0 : Int} {a0_1 : List (Int × Int × Int)} {a0_2 : List Int} {a0_3 : List Int} {r0 : List Int} {r1 : Bool} (h : impl_FirstToLose.f k a0_0 a0_1 a0_2 a0_3 = some (r0, r1)) (w : World) {va0_1 : Value} {va0_2 : Value} {va0_3 : Value} (hr_a0_1 : Rd w va0_1 a0_1) (hr_a0_2 : Rd w va0_2 a0_2) (hr_a0_3 : Rd w va0_3 a0_3) :
  Calls Tryz.prog 49 ([.agg ([.int .i64 a0_0,va0_1,va0_2,va0_3].toArray)] : List Value).toArray w (Post (fun u ns=>∃ (ur0 : Value) (Sr0 : Nat → Prop),u = .tuple #[ur0,.bool r1]∧SlLen ur0 r0.length∧ns = [R.sl Sr0 ur0 r0]) w):=by
 unfold impl_FirstToLose.f at h
 have hl_va0_1:=hr_a0_1.len
 have hl_va0_2:=hr_a0_2.len
 have hl_va0_3:=hr_a0_3.len
 refine Calls.of_tri (N:=77) Tryz.func49 rfl rfl rfl (Sep.nil (M:=noM)) ?_
 refine Tri.seq (Tri.reg (l:=[0,1,2]) rfl ?_)
 refine F.mn rfl (m_boxG rfl rfl) ?_
 rintro _ _ ⟨b1_1,rfl,rfl⟩
 refine F.qn rfl (r_assign rfl) (F.qn rfl (r_assign rfl) (F.nil (Nrm.seq (Tri.seq (Tri.seq ?_)))))
 obtain ⟨t11,h11,h⟩:=bind_some h
 refine Tri.reg (l:=[0,1,2]) rfl ?_
 refine F.qn rfl (r_loadA ta65 ti65 rfl rfl (fun w hw=>(box_cells (i:=0) rfl w hw))) ?_
 refine F.qcn rfl (q_callF (xs:=_) rfl ok56 rfl rfl (fun w hw=>impl_IsTrap.ok h11 w ((fun _ hw=>hr_a0_1.sep hw) w hw) ((fun _ hw=>hr_a0_2.sep hw) w hw) ((fun _ hw=>hr_a0_3.sep hw) w hw))) ?_
 refine F.qn rfl (r_not rfl) (F.nil (Nrm.seq (Tri.cond (b:=!t11) rfl (fun g_1=>?_) (fun g_1=>?_))))
 ·replace h:=if_tt g_1 h
  refine Tri.seq (Tri.reg (l:=[0,1]) rfl ?_)
  refine F.qn rfl (r_assign rfl) (F.qn rfl (r_assign rfl) (F.nil (Nrm.seq (Tri.ret ?_))))
  refine Rtn.then ?_
  cases h
  exact Rtn.body (.tmp rfl (.tmp rfl .nil)) (fun w hw=>⟨_,_,rfl,⟨.slice none 0 0,fun _=>False,rfl,len_nil,rfl⟩,Sep.pick (is:=[0]) rfl rfl hw.pushNil⟩)
 ·replace h:=if_ff g_1 h
  refine Tri.skip (Nrm.seq (Tri.seq ?_))
  obtain ⟨t14,h14,h⟩:=bind_some h
  obtain ⟨t18,h18,h⟩:=bind_some h
  refine Tri.drawB mixedT Sep.up [(0,true),(1,true),(2,true),(3,true),(4,true),(5,true),(6,true),(7,false),(8,false),(9,false)] [10] (by kernel_rfl) ?_
  refine B.q rfl rfl rfl (wanted_none rfl) (r_loadA ta65 ti65 rfl rfl (fun w hw=>(box_cells (i:=0) rfl w hw))) ?_
  refine B.qc rfl rfl rfl (wanted_none rfl) (q_callF (xs:=_) rfl ok126 rfl rfl (fun w hw=>impl_toLost.ok h14 w ((fun _ hw=>hr_a0_1.sep hw) w hw) ((fun _ hw=>hr_a0_2.sep hw) w hw) ((fun _ hw=>hr_a0_3.sep hw) w hw))) ?_
  refine B.q rfl rfl rfl (wanted_none rfl) (r_fieldAddr tf65_0 rfl) ?_
  refine B.q rfl rfl rfl (wanted_none rfl) (r_fieldAddr tf27_2 rfl) ?_
  refine B.q rfl rfl rfl (wanted_none rfl) (r_load ta25 rfl (fun w hw=>cell_2 (box_cells (i:=0) rfl w hw) rfl)) ?_
  refine B.q rfl rfl rfl (wanted_none rfl) (r_indexAddrS Tryz.underlying25 ti3 rfl hl_va0_2 rfl (rdl_some h18).1 (rdl_some h18).2.1) ?_
  refine B.q rfl rfl rfl (wanted_none rfl) (r_load ta3 rfl (fun w hw=>cell_0 (Rd.flat ((fun _ hw=>hr_a0_2.sep hw) w hw) (rdl_some h18).2.2) rfl)) ?_
  refine B.ef rfl rfl rfl (wanted_none rfl) (Makes.does (m_alloc ti132)) (by rintro _ _ ⟨b4_2,rfl,rfl⟩; exact upd rfl [1] rfl rfl) ?_
  rintro _ _ ⟨b4_2,rfl,rfl⟩
  refine B.ef0 rfl rfl (wanted_none rfl) (d_storeArr (i:=0) (g:=(Arr.rep 768 0)) (h:=t14) ti132 rfl rfl rfl) (by rintro _ _ ⟨rfl,rfl⟩; exact upd rfl [1] rfl rfl) ?_
  rintro _ _ ⟨rfl,rfl⟩
  refine B.ef rfl rfl rfl (wanted_none rfl) (Runs.does (r_assign rfl)) (by rintro _ _ ⟨rfl,rfl⟩; exact upd rfl [1] rfl rfl) ?_
  rintro _ _ ⟨rfl,rfl⟩
  refine B.nil ?_
  refine F.qn rfl (r_assign rfl) (F.nil (Nrm.seq (Tri.seq (Tri.seq ?_))))
  obtain ⟨hb23,h⟩:=ck h
  refine Tri.reg (l:=[0,1,2,3,4,5]) rfl ?_
  refine F.qn rfl (r_move rfl) (F.qn rfl (r_move rfl) (F.qn rfl (r_indexAddrA Tryz.underlying132 ti130 rfl rfl (by decide) (by decide)) (F.qn rfl (r_indexAddrA Tryz.underlying130 ti3 rfl rfl hb23.1 hb23.2) (F.qn rfl (r_load ta3 rfl (fun w hw=>cell_tab (g:=t14) (m:=64) (box_cells (i:=0) rfl w hw) (tabB 12 64 768 ⟨by decide,by decide⟩ rfl) hb23)) (F.qn rfl (r_lss rfl rfl) (F.nil (Nrm.seq (Tri.cond (b:=decide ((Arr.at t14 (0 * 64 + t18)) < 0)) rfl (fun g_2=>?_) (fun g_2=>?_)))))))))
  ·replace h:=if_tt g_2 h
   refine Tri.seq (Tri.reg (l:=[0,1]) rfl ?_)
   refine F.qn rfl (r_assign rfl) (F.qn rfl (r_assign rfl) (F.nil (Nrm.seq (Tri.ret ?_))))
   refine Rtn.then ?_
   cases h
   exact Rtn.body (.tmp rfl (.tmp rfl .nil)) (fun w hw=>⟨_,_,rfl,⟨.slice none 0 0,fun _=>False,rfl,len_nil,rfl⟩,Sep.pick (is:=[0]) rfl rfl hw.pushNil⟩)
  ·replace h:=if_ff g_2 h
   refine Tri.skip (Nrm.seq (Tri.seq (Tri.reg (l:=[0,1]) rfl ?_)))
   refine F.mn rfl (m_buildF (l:=([0] : List (Int))) Tryz.underlying25 ti3 rfl rfl rfl rfl rfl) ?_
   rintro v26_1 _ ⟨S26_1,hl_v26_1,rfl⟩
   refine F.qn rfl (r_assign rfl) (F.nil (Nrm.seq (Tri.seq ?_)))
   obtain ⟨x7,hE_1,h⟩:=bind_some h
   refine Tri.block ?_
   refine Tri.only [1,4,5,6,7] rfl ?_
   refine Tri.pick [1,2,0] rfl rfl ?_
   refine Tri.rounds (fun n e' C'=>∃ (x5' : Int) (x6' : Int) (x7' : List (Int)) (w7 : Value) (T7 : Nat → Prop),impl_FirstToLose.l0 k a0_0 a0_1 a0_2 a0_3 t14 n x5' x6' x7' = some x7∧SlLen w7 (x7').length∧e' = [(1,.pointer (some ⟨b1_1,0,none⟩)),(4,.pointer (some ⟨b4_2,0,none⟩)),(5,.int .i64 x5'),(6,.int .i64 x6'),(7,w7)]∧C' = Sep w noM [R.box b4_2 132 (encA t14),R.box b1_1 65 [.int .i64 a0_0,va0_1,va0_2,va0_3],R.sl T7 w7 (x7' : List (Int))]) k ?_ ?_ ?_
   ·exact ⟨0,t18,([0] : List (Int)),v26_1,S26_1,hE_1,hl_v26_1,rfl,rfl⟩
   ·rintro _ _ ⟨_,_,_,_,_,hE_1,_⟩
    rw [impl_FirstToLose.l0.eq_1] at hE_1; cases hE_1
   ·rintro n_1 _ _ ⟨x5,x6,x7,w7,T7,hE_1,hl_w7,rfl,rfl⟩ ih_1
    rw [impl_FirstToLose.l0.eq_2] at hE_1
    refine Tri.seq (Tri.seq ?_)
    obtain ⟨hb29,hE_1⟩:=ck hE_1
    obtain ⟨hb30,hE_1⟩:=ck hE_1
    refine Tri.reg (l:=[0,1,2,3,4,5]) rfl ?_
    refine F.qn rfl (r_move rfl) (F.qn rfl (r_move rfl) (F.qn rfl (r_indexAddrA Tryz.underlying132 ti130 rfl rfl hb29.1 hb29.2) (F.qn rfl (r_indexAddrA Tryz.underlying130 ti3 rfl rfl hb30.1 hb30.2) (F.qn rfl (r_load ta3 rfl (fun w hw=>cell_tab (g:=t14) (m:=64) (box_cells (i:=0) rfl w hw) (tabB 12 64 768 hb29 rfl) hb30)) (F.qn rfl (r_gtr rfl rfl) (F.nil (Nrm.seq (Tri.cond (b:=decide ((Arr.at t14 (x5 * 64 + x6)) > 0)) rfl (fun g_3=>?_) (fun g_3=>?_)))))))))
    ·replace hE_1:=if_tt g_3 hE_1
     refine Tri.skip (Nrm.seq (Tri.block ?_))
     refine Tri.seq (Tri.seq ?_)
     obtain ⟨t36,h36,hE_1⟩:=bind_some hE_1
     obtain ⟨t37,h37,hE_1⟩:=bind_some hE_1
     refine Tri.reg (l:=[0,1,2,3,4,5,6]) rfl ?_
     refine F.qn rfl (r_loadA ta65 ti65 rfl rfl (fun w hw=>(box_cells (i:=1) rfl w hw))) (F.qn rfl (r_move rfl) (F.qn rfl (r_move rfl) ?_))
     refine F.qcn rfl (q_callF (xs:=_) rfl ok127 rfl rfl (fun w hw=>impl_trapSteps.ok h36 w ((fun _ hw=>hr_a0_1.sep hw) w hw) ((fun _ hw=>hr_a0_2.sep hw) w hw) ((fun _ hw=>hr_a0_3.sep hw) w hw))) ?_
     refine F.mn rfl (m_callF (xs:=_) rfl ok119 rfl rfl (fun w hw=>impl_members.ok h37 w)) ?_
     rintro v37_1 _ ⟨_,⟨S37_1,hl_v37_1,rfl⟩,rfl⟩
     refine F.qn rfl (r_len Tryz.underlying25 rfl hl_v37_1) (F.qn rfl (r_move rfl) (F.nil (Nrm.seq ?_)))
     obtain ⟨⟨y5,y6⟩,hE_2,hE_1⟩:=bind_some hE_1
     refine Tri.cut (fun e' C'=>e' = [(1,.pointer (some ⟨b1_1,0,none⟩)),(4,.pointer (some ⟨b4_2,0,none⟩)),(5,.int .i64 y5),(6,.int .i64 y6),(7,w7)]∧C' = Sep w noM [R.box b4_2 132 (encA t14),R.box b1_1 65 [.int .i64 a0_0,va0_1,va0_2,va0_3],R.sl T7 w7 (x7 : List (Int))]) ?_ (fun hj_1=>?_)
     ·rintro _ _ ⟨rfl,rfl⟩
      refine Nrm.seq ?_
      obtain ⟨hs75,hE_1⟩:=ck hE_1
      refine Tri.reg (l:=[0,1,2,3,4]) rfl ?_
      refine F.qn rfl (r_move rfl) (F.qn rfl (r_move rfl) ?_)
      refine F.mn rfl (m_buildF (l:=([y5] : List (Int))) Tryz.underlying25 ti3 rfl rfl rfl rfl rfl) ?_
      rintro v74_1 _ ⟨S74_1,hl_v74_1,rfl⟩
      refine F.efn rfl (d_append (i:=3) Tryz.underlying25 Tryz.underlying25 ti3 rfl (by decide) rfl rfl rfl (rd_sl (i:=0) rfl) hs75) ?_
      rintro v75_1 _ ⟨S75_1,rfl,hl_v75_1⟩
      refine F.qn rfl (r_assign rfl) (F.nil (Nrm.block ?_))
      refine Nrm.round ?_
      refine Rnd.only [1,4,5,6,7] rfl ?_
      refine Rnd.pick [1,2,3] rfl rfl ?_
      exact ih_1 _ _ ⟨y5,y6,x7 ++ ([y5] : List (Int)),v75_1,S75_1,hE_1,hl_v75_1,rfl,rfl⟩
     ·refine Tri.block ?_
      refine Tri.only [1,4,5,6,7,37,38,39] rfl ?_
      refine Tri.pick [1,2,0,3] rfl rfl ?_
      refine Tri.rounds (fun n e' C'=>∃ (x39' : Int),impl_FirstToLose.l1 k a0_2 t14 x5 x6 t37 n x39' = some (y5,y6)∧e' = [(1,.pointer (some ⟨b1_1,0,none⟩)),(4,.pointer (some ⟨b4_2,0,none⟩)),(5,.int .i64 x5),(6,.int .i64 x6),(7,w7),(37,v37_1),(38,.int .i64 (t37.length : Int)),(39,.int .i64 x39')]∧C' = Sep w noM [R.box b4_2 132 (encA t14),R.box b1_1 65 [.int .i64 a0_0,va0_1,va0_2,va0_3],R.sl S37_1 v37_1 (t37 : List (Int)),R.sl T7 w7 (x7 : List (Int))]) k ?_ ?_ ?_
      ·exact ⟨0,hE_2,rfl,rfl⟩
      ·rintro _ _ ⟨_,hE_3,_⟩
       rw [impl_FirstToLose.l1.eq_1] at hE_3; cases hE_3
      ·rintro n_2 _ _ ⟨x39,hE_3,rfl,rfl⟩ ih_2
       rw [impl_FirstToLose.l1.eq_2] at hE_3
       refine Tri.seq (Tri.reg (l:=[0]) rfl ?_)
       refine F.qn rfl (r_lss rfl rfl) (F.nil (Nrm.seq (Tri.seq (Tri.cond (b:=decide (x39 < (t37.length : Int))) rfl (fun g_4=>?_) (fun g_4=>?_)))))
       ·replace hE_3:=if_tt g_4 hE_3
        refine Tri.skip (Nrm.seq (Tri.seq (Tri.block ?_)))
        refine Tri.seq ?_
        obtain ⟨t41,h41,hE_3⟩:=bind_some hE_3
        refine Tri.reg (l:=[0,1,2]) rfl ?_
        refine F.qn rfl (r_indexAddrS Tryz.underlying25 ti3 rfl hl_v37_1 rfl (rdl_some h41).1 (rdl_some h41).2.1) (F.qn rfl (r_load ta3 rfl (fun w hw=>cell_0 (Rd.flat ((rd_sl (i:=2) rfl) w hw) (rdl_some h41).2.2) rfl)) (F.qn rfl (r_assign rfl) (F.nil (Nrm.seq (Tri.seq ?_)))))
        obtain ⟨t49,h49,hE_3⟩:=bind_some hE_3
        obtain ⟨hb52,hE_3⟩:=ck hE_3
        obtain ⟨hb53,hE_3⟩:=ck hE_3
        obtain ⟨hb57,hE_3⟩:=ck hE_3
        obtain ⟨hb58,hE_3⟩:=ck hE_3
        refine Tri.drawA mixedT Sep.up [(0,true),(1,true),(2,true),(3,true),(4,true),(5,true),(6,true),(7,true),(8,true),(9,true),(10,true),(11,true),(12,true),(13,true),(14,true),(15,true),(16,true),(17,true),(18,true)] [] (by kernel_rfl) ?_
        refine S.qn rfl (r_move rfl) ?_
        refine S.qn rfl (r_move rfl) (S.qn rfl (r_fieldAddr tf65_0 rfl) (S.qn rfl (r_fieldAddr tf27_2 rfl) (S.qn rfl (r_load ta25 rfl (fun w hw=>cell_2 (box_cells (i:=1) rfl w hw) rfl)) (S.qn rfl (r_move rfl) (S.qn rfl (r_indexAddrS Tryz.underlying25 ti3 rfl hl_va0_2 rfl (rdl_some h49).1 (rdl_some h49).2.1) ?_)))))
        refine S.qn rfl (r_load ta3 rfl (fun w hw=>cell_0 (Rd.flat ((fun _ hw=>hr_a0_2.sep hw) w hw) (rdl_some h49).2.2) rfl)) (S.qn rfl (r_or rfl rfl) (S.qn rfl (r_indexAddrA Tryz.underlying132 ti130 rfl rfl hb52.1 hb52.2) (S.qn rfl (r_indexAddrA Tryz.underlying130 ti3 rfl rfl hb53.1 hb53.2) (S.qn rfl (r_load ta3 rfl (fun w hw=>cell_tab (g:=t14) (m:=64) (box_cells (i:=0) rfl w hw) (tabB 12 64 768 hb52 rfl) hb53)) (S.qn rfl (r_move rfl) ?_)))))
        refine S.qn rfl (r_move rfl) (S.qn rfl (r_indexAddrA Tryz.underlying132 ti130 rfl rfl hb57.1 hb57.2) (S.qn rfl (r_indexAddrA Tryz.underlying130 ti3 rfl rfl hb58.1 hb58.2) (S.qn rfl (r_load ta3 rfl (fun w hw=>cell_tab (g:=t14) (m:=64) (box_cells (i:=0) rfl w hw) (tabB 12 64 768 hb57 rfl) hb58)) (S.qn rfl (r_sub rfl rfl) (S.qn rfl (r_eql rfl rfl) (S.nil (F.nil (Nrm.seq (Tri.cond (b:=(Arr.at t14 (t41 * 64 + (bor x6 t49))) == (w64 ((Arr.at t14 (x5 * 64 + x6)) - 1))) rfl (fun g_5=>?_) (fun g_5=>?_))))))))))
        ·replace hE_3:=if_tt g_5 hE_3
         refine Tri.seq ?_
         obtain ⟨t68,h68,hE_3⟩:=bind_some hE_3
         refine Tri.drawA mixedT Sep.up [(0,true),(1,true),(2,true),(3,true),(4,true),(5,true),(6,true),(7,true),(8,true),(9,true),(10,true)] [] (by kernel_rfl) ?_
         refine S.qn rfl (r_move rfl) (S.qn rfl (r_move rfl) (S.qn rfl (r_fieldAddr tf65_0 rfl) (S.qn rfl (r_fieldAddr tf27_2 rfl) (S.qn rfl (r_load ta25 rfl (fun w hw=>cell_2 (box_cells (i:=1) rfl w hw) rfl)) ?_))))
         refine S.qn rfl (r_move rfl) (S.qn rfl (r_indexAddrS Tryz.underlying25 ti3 rfl hl_va0_2 rfl (rdl_some h68).1 (rdl_some h68).2.1) (S.qn rfl (r_load ta3 rfl (fun w hw=>cell_0 (Rd.flat ((fun _ hw=>hr_a0_2.sep hw) w hw) (rdl_some h68).2.2) rfl)) (S.qn rfl (r_or rfl rfl) (S.qn rfl (r_assign rfl) (S.qn rfl (r_assign rfl) (S.nil (F.nil (Nrm.seq (Tri.exit ?_)))))))))
         refine Exi.other rfl ?_
         refine Exi.then ?_
         refine Exi.then ?_
         refine Exi.same ?_
         cases hE_3
         refine Nrm.only [1,4,5,6,7] rfl ?_
         refine Nrm.pick [0,1,3] rfl rfl ?_
         exact hj_1 _ _ ⟨rfl,rfl⟩
        ·replace hE_3:=if_ff g_5 hE_3
         refine Tri.skip (Nrm.block ?_)
         refine Nrm.seq (Tri.reg (l:=[0,1]) rfl ?_)
         refine F.qn rfl (r_add rfl rfl) (F.qn rfl (r_move rfl) (F.nil (Nrm.round ?_)))
         refine Rnd.only [1,4,5,6,7,37,38,39] rfl ?_
         refine Rnd.pick [0,1,2,3] rfl rfl ?_
         exact ih_2 _ _ ⟨w64 (x39 + 1),hE_3,rfl,rfl⟩
       ·replace hE_3:=if_ff g_4 hE_3
        refine Tri.exit ?_
        refine Exi.then ?_
        refine Exi.then ?_
        refine Exi.same ?_
        cases hE_3
        refine Nrm.only [1,4,5,6,7] rfl ?_
        refine Nrm.pick [0,1,3] rfl rfl ?_
        exact hj_1 _ _ ⟨rfl,rfl⟩
    ·replace hE_1:=if_ff g_3 hE_1
     refine Tri.exit ?_
     refine Exi.then ?_
     refine Exi.then ?_
     refine Exi.same ?_
     cases hE_1
     refine Nrm.seq (Tri.seq (Tri.reg (l:=[0,1,2]) rfl ?_))
     refine F.qn rfl (r_move rfl) (F.qn rfl (r_assign rfl) (F.qn rfl (r_assign rfl) (F.nil (Nrm.seq (Tri.ret ?_)))))
     cases h
     exact Rtn.body (.tmp rfl (.tmp rfl .nil)) (fun w hw=>⟨_,_,rfl,⟨w7,T7,rfl,hl_w7,rfl⟩,Sep.pick (is:=[2]) rfl rfl hw⟩)


def spec_l1In.f (k : Nat) (a0 : Int) (a1 : Int) (a2 : Int) : Option (Bool) := ((if (decide (a0 ≥ a1)) = true then some (decide (a0 ≤ a2)) else some false)).bind fun y6 => some y6

theorem spec_l1In.ok {k : Nat}  {a0 : Int} {a1 : Int} {a2 : Int} {r0 : Bool} (h : spec_l1In.f k a0 a1 a2 = some r0) (w : World) :
  Calls Tryz.prog 148 ([.int .i64 a0,.int .i64 a1,.int .i64 a2] : List Value).toArray w (fun e w'=>e = .returned (.bool r0)∧Ext w w'):=by
 unfold spec_l1In.f at h
 refine Calls.of_tri (N:=15) Tryz.func148 rfl rfl rfl (Sep.nil (M:=noM)) ?_
 refine Tri.seq (Tri.reg (l:=[0]) rfl ?_)
 refine F.qn rfl (r_assign rfl) (F.nil (Nrm.seq (Tri.seq ?_)))
 obtain ⟨y6,hE_1,h⟩:=bind_some h
 refine Tri.cut (fun e' C'=>e' = [(6,.bool y6)]∧C' = Sep w noM []) ?_ (fun hj_1=>?_)
 ·rintro _ _ ⟨rfl,rfl⟩
  refine Nrm.seq (Tri.ret ?_)
  cases h
  exact Rtn.body (.tmp rfl .nil) (fun w hw=>⟨rfl,hw.ext⟩)
 ·rcases Bool.eq_false_or_eq_true (decide (a0 ≥ a1)) with g10 | g10
  ·replace hE_1:=if_tt g10 hE_1
   refine Tri.reg (l:=[0,1,2,3,4,5,6,7,8]) rfl ?_
   refine F.qn rfl (r_move rfl) (F.qn rfl (r_move rfl) (F.qn rfl (r_geq rfl rfl) ?_))
   refine F.qn rfl (r_move rfl) (F.qg rfl g10 (r_move rfl) (F.qg rfl g10 (r_move rfl) (F.qg rfl g10 (r_leq rfl rfl) (F.qn rfl (r_pick rfl rfl g10) (F.qn rfl (r_assign rfl) (F.nil ?_))))))
   cases hE_1
   refine Nrm.only [6] rfl ?_
   refine Nrm.pick [] rfl rfl ?_
   exact hj_1 _ _ ⟨rfl,rfl⟩
  ·replace hE_1:=if_ff g10 hE_1
   refine Tri.reg (l:=[0,1,2,3,4,5,6,7,8]) rfl ?_
   refine F.qn rfl (r_move rfl) (F.qn rfl (r_move rfl) (F.qn rfl (r_geq rfl rfl) (F.qn rfl (r_move rfl) ?_)))
   iterate 3 refine F.skf rfl g10 ?_
   refine F.qn rfl (r_pickf rfl rfl g10) (F.qn rfl (r_assign rfl) (F.nil ?_))
   cases hE_1
   refine Nrm.only [6] rfl ?_
   refine Nrm.pick [] rfl rfl ?_
   exact hj_1 _ _ ⟨rfl,rfl⟩


def spec_l2Set.f (k : Nat) (a0 : Int) : Option (Bool) := (spec_l1In.f k a0 0 63).bind fun t4 => some t4

theorem spec_l2Set.ok {k : Nat}  {a0 : Int} {r0 : Bool} (h : spec_l2Set.f k a0 = some r0) (w : World) :
  Calls Tryz.prog 178 ([.int .i64 a0] : List Value).toArray w (fun e w'=>e = .returned (.bool r0)∧Ext w w'):=by
 unfold spec_l2Set.f at h
 refine Calls.of_tri (N:=5) Tryz.func178 rfl rfl rfl (Sep.nil (M:=noM)) ?_
 refine Tri.seq (Tri.reg (l:=[0]) rfl ?_)
 refine F.qn rfl (r_assign rfl) (F.nil (Nrm.seq (Tri.seq ?_)))
 obtain ⟨t4,h4,h⟩:=bind_some h
 refine Tri.reg (l:=[0,1,2]) rfl ?_
 refine F.qn rfl (r_move rfl) ?_
 refine F.qcn rfl (q_callF (xs:=_) rfl ok148 rfl rfl (fun w hw=>spec_l1In.ok h4 w)) ?_
 refine F.qn rfl (r_assign rfl) (F.nil (Nrm.seq (Tri.ret ?_)))
 cases h
 exact Rtn.body (.tmp rfl .nil) (fun w hw=>⟨rfl,hw.ext⟩)


def spec_l2Maze.l1 (k : Nat) (a0_0 : Int) (a0_2 : List Int) : Nat → Int → Option ((Unit) ⊕ (Bool))
 | 0,_=>none
 | n + 1,x5=>(if (decide (x5 < a0_0)) = true then (rdl a0_2 x5).bind fun t85=>(spec_l2Set.f k t85).bind fun t87=>(if (!t87) = true then some (Sum.inr false) else spec_l2Maze.l1 k a0_0 a0_2 n (w64 (x5 + 1))) else some (Sum.inl ()))

def spec_l2Maze.l0 (k : Nat) (a0_0 : Int) (a0_1 : List (Int × Int × Int)) : Nat → Int → Option ((Unit) ⊕ (Bool))
 | 0,_=>none
 | n + 1,x3=>(if (decide (x3 < (a0_1.length : Int))) = true then (rdl a0_1 x3).bind fun t34=>((spec_l1In.f k t34.1 0 (w64 (a0_0 - 1))).bind fun t41=>(if (!t41) = true then some true else (spec_l1In.f k t34.2.1 (w64 (t34.1 + 1)) (w64 (a0_0 - 1))).bind fun t52=>(if (!t52) = true then some true else (spec_l2Set.f k t34.2.2).bind fun t58=>(if (!t58) = true then some true else (if (decide (x3 > 0)) = true then (rdl a0_1 (w64 (x3 - 1))).bind fun t69=>(spec_l2Before.f k t69.1 t69.2.1 t69.2.2 t34.1 t34.2.1 t34.2.2).bind fun t72=>some (!t72) else some false))))).bind fun y75=>(if y75 = true then some (Sum.inr false) else spec_l2Maze.l0 k a0_0 a0_1 n (w64 (x3 + 1))) else some (Sum.inl ()))

def spec_l2Maze.f (k : Nat) (a0_0 : Int) (a0_1 : List (Int × Int × Int)) (a0_2 : List Int) : Option (Bool) := ((spec_l1In.f k a0_0 1 12).bind fun t8 => (if (!t8) = true then some true else (if (decide ((a0_1.length : Int) > 30)) = true then some true else some ((a0_2.length : Int) != a0_0)))).bind fun y23 => (if y23 = true then some false else (spec_l2Maze.l0 k a0_0 a0_1 k 0).bind fun s => Lr s some fun _ => (spec_l2Maze.l1 k a0_0 a0_2 k 0).bind fun s => Lr s some fun _ => some true)

theorem spec_l2Maze.ok {k : Nat}  {a0_0 : Int} {a0_1 : List (Int × Int × Int)} {a0_2 : List Int} {r0 : Bool} (h : spec_l2Maze.f k a0_0 a0_1 a0_2 = some r0) (w : World) {va0_1 : Value} {va0_2 : Value} (hr_a0_1 : Rd w va0_1 a0_1) (hr_a0_2 : Rd w va0_2 a0_2) :
  Calls Tryz.prog 108 ([.agg ([.int .i64 a0_0,va0_1,va0_2].toArray)] : List Value).toArray w (fun e w'=>e = .returned (.bool r0)∧Ext w w'):=by
 unfold spec_l2Maze.f at h
 have hl_va0_1:=hr_a0_1.len
 have hl_va0_2:=hr_a0_2.len
 refine Calls.of_tri (N:=89) Tryz.func108 rfl rfl rfl (Sep.nil (M:=noM)) ?_
 refine Tri.seq (Tri.reg (l:=[0,1]) rfl ?_)
 refine F.mn rfl (m_boxG rfl rfl) ?_
 rintro _ _ ⟨b1_1,rfl,rfl⟩
 refine F.qn rfl (r_assign rfl) (F.nil (Nrm.seq (Tri.seq (Tri.seq ?_))))
 obtain ⟨y23,hE_1,h⟩:=bind_some h
 refine Tri.cut (fun e' C'=>e' = [(1,.pointer (some ⟨b1_1,0,none⟩)),(23,.bool y23)]∧C' = Sep w noM [R.box b1_1 27 [.int .i64 a0_0,va0_1,va0_2]]) ?_ (fun hj_1=>?_)
 ·rintro _ _ ⟨rfl,rfl⟩
  refine Nrm.seq (Tri.cond (b:=y23) rfl (fun g_1=>?_) (fun g_1=>?_))
  ·replace h:=if_tt g_1 h
   refine Tri.seq (Tri.reg (l:=[0]) rfl ?_)
   refine F.qn rfl (r_assign rfl) (F.nil (Nrm.seq (Tri.ret ?_)))
   refine Rtn.then ?_
   cases h
   exact Rtn.body (.tmp rfl .nil) (fun w hw=>⟨rfl,hw.ext⟩)
  ·replace h:=if_ff g_1 h
   refine Tri.skip (Nrm.seq (Tri.seq (Tri.seq (Tri.reg (l:=[0]) rfl ?_))))
   refine F.qn rfl (r_assign rfl) (F.nil (Nrm.seq ?_))
   obtain ⟨s0,hE_2,h⟩:=bind_some h
   refine Tri.block ?_
   refine Tri.only [1,3] rfl ?_
   refine Tri.pick [0] rfl rfl ?_
   refine Tri.rounds (fun n e' C'=>∃ (x3' : Int),spec_l2Maze.l0 k a0_0 a0_1 n x3' = some s0∧e' = [(1,.pointer (some ⟨b1_1,0,none⟩)),(3,.int .i64 x3')]∧C' = Sep w noM [R.box b1_1 27 [.int .i64 a0_0,va0_1,va0_2]]) k ?_ ?_ ?_
   ·exact ⟨0,hE_2,rfl,rfl⟩
   ·rintro _ _ ⟨_,hE_2,_⟩
    rw [spec_l2Maze.l0.eq_1] at hE_2; cases hE_2
   ·rintro n_1 _ _ ⟨x3,hE_2,rfl,rfl⟩ ih_1
    rw [spec_l2Maze.l0.eq_2] at hE_2
    refine Tri.seq (Tri.seq (Tri.reg (l:=[0,1,2,3,4]) rfl ?_))
    refine F.qn rfl (r_move rfl) (F.qn rfl (r_fieldAddr tf27_1 rfl) (F.qn rfl (r_load ta24 rfl (fun w hw=>cell_1 (box_cells (i:=0) rfl w hw) rfl)) (F.qn rfl (r_len Tryz.underlying24 rfl hl_va0_1) (F.qn rfl (r_lss rfl rfl) (F.nil (Nrm.seq (Tri.cond (b:=decide (x3 < (a0_1.length : Int))) rfl (fun g_2=>?_) (fun g_2=>?_))))))))
    ·replace hE_2:=if_tt g_2 hE_2
     refine Tri.skip (Nrm.seq (Tri.seq (Tri.block ?_)))
     refine Tri.seq ?_
     obtain ⟨t34,h34,hE_2⟩:=bind_some hE_2
     refine Tri.reg (l:=[0,1,2,3,4,5,6]) rfl ?_
     refine F.qn rfl (r_fieldAddr tf27_1 rfl) (F.qn rfl (r_load ta24 rfl (fun w hw=>cell_1 (box_cells (i:=0) rfl w hw) rfl)) (F.qn rfl (r_move rfl) (F.qn rfl (r_indexAddrS Tryz.underlying24 ti168 rfl hl_va0_1 rfl (rdl_some h34).1 (rdl_some h34).2.1) (F.qn rfl (r_loadA ta168 ti168 rfl rfl (fun w hw=>(Rd.flat ((fun _ hw=>hr_a0_1.sep hw) w hw) (rdl_some h34).2.2))) ?_))))
     refine F.mn rfl (m_alloc ti168) ?_
     rintro _ _ ⟨b4_1,rfl,rfl⟩
     refine F.ef0 rfl rfl (wanted_none rfl) (d_storeG0 (i:=0) (cs2:=[.int .i64 t34.1,.int .i64 t34.2.1,.int .i64 t34.2.2]) ti168 rfl rfl rfl rfl rfl (Nat.le_of_ble_eq_true rfl) (lf_cons rfl (lf_cons rfl (lf_cons rfl lf_nil)))) ?_
     rintro _ _ ⟨rfl,rfl⟩
     refine F.nil (Nrm.seq (Tri.seq ?_))
     obtain ⟨y75,hE_3,hE_2⟩:=bind_some hE_2
     refine Tri.cut (fun e' C'=>e' = [(1,.pointer (some ⟨b1_1,0,none⟩)),(3,.int .i64 x3),(75,.bool y75)]∧C' = Sep w noM [R.box b1_1 27 [.int .i64 a0_0,va0_1,va0_2]]) ?_ (fun hj_2=>?_)
     ·rintro _ _ ⟨rfl,rfl⟩
      refine Nrm.seq (Tri.cond (b:=y75) rfl (fun g_3=>?_) (fun g_3=>?_))
      ·replace hE_2:=if_tt g_3 hE_2
       refine Tri.seq (Tri.reg (l:=[0]) rfl ?_)
       refine F.qn rfl (r_assign rfl) (F.nil (Nrm.seq (Tri.ret ?_)))
       refine Rtn.block ?_
       refine Rtn.then ?_
       refine Rtn.then ?_
       refine Rtn.block ?_
       refine Rtn.then ?_
       cases hE_2
       replace h:=Lr_inr h
       cases h
       exact Rtn.body (.tmp rfl .nil) (fun w hw=>⟨rfl,hw.ext⟩)
      ·replace hE_2:=if_ff g_3 hE_2
       refine Tri.skip (Nrm.block ?_)
       refine Nrm.seq (Tri.reg (l:=[0,1,2]) rfl ?_)
       refine F.qn rfl (r_move rfl) (F.qn rfl (r_add rfl rfl) (F.qn rfl (r_assign rfl) (F.nil (Nrm.round ?_))))
       refine Rnd.only [1,3] rfl ?_
       refine Rnd.pick [0] rfl rfl ?_
       exact ih_1 _ _ ⟨w64 (x3 + 1),hE_2,rfl,rfl⟩
     ·obtain ⟨t41,h41,hE_3⟩:=bind_some hE_3
      rcases Bool.eq_false_or_eq_true (!t41) with g43 | g43
      ·replace hE_3:=if_tt g43 hE_3
       refine Tri.drawA mixedT Sep.up [(0,true),(1,true),(2,true),(3,true),(4,true),(5,true),(6,true),(7,true),(8,true),(9,true),(10,true),(11,true),(12,true),(13,true),(14,true),(15,true),(16,true),(17,true),(18,true),(19,true),(20,true),(21,true),(22,true),(23,true),(24,true),(25,true),(26,true),(27,true),(28,true),(29,true),(30,true),(31,true),(32,true),(33,true),(34,true),(35,true),(36,true),(37,true),(38,true),(39,true)] [] (by kernel_rfl) ?_
       refine S.qn rfl (r_indexAddrA Tryz.underlying168 ti3 rfl rfl (by decide) (by decide)) (S.qn rfl (r_load ta3 rfl (fun w hw=>cell_1 (box_cells (i:=0) rfl w hw) rfl)) (S.qn rfl (r_fieldAddr tf27_0 rfl) (S.qn rfl (r_load ta3 rfl (fun w hw=>cell_1 (box_cells (i:=1) rfl w hw) rfl)) (S.qn rfl (r_sub rfl rfl) ?_))))
       refine S.qcn rfl (q_callF (xs:=_) rfl ok148 rfl rfl (fun w hw=>spec_l1In.ok h41 w)) ?_
       refine S.qn rfl (r_not rfl) (S.qn rfl (r_move rfl) ?_)
       iterate 10 refine S.skf rfl g43 ?_
       refine S.qn rfl (r_pick rfl rfl g43) (S.qn rfl (r_move rfl) ?_)
       iterate 4 refine S.skf rfl rfl ?_
       refine S.qn rfl (r_pick rfl rfl rfl) (S.qn rfl (r_move rfl) ?_)
       iterate 3 refine S.skf rfl rfl ?_
       iterate 9 refine S.sk rfl rfl rfl (wanted_undef rfl rfl rfl) ?_
       refine S.skf rfl rfl (S.qn rfl (r_pick rfl rfl rfl) (S.nil (F.nil ?_)))
       cases hE_3
       refine Nrm.only [1,3,75] rfl ?_
       refine Nrm.pick [1] rfl rfl ?_
       exact hj_2 _ _ ⟨rfl,rfl⟩
      ·replace hE_3:=if_ff g43 hE_3
       obtain ⟨t52,h52,hE_3⟩:=bind_some hE_3
       rcases Bool.eq_false_or_eq_true (!t52) with g55 | g55
       ·replace hE_3:=if_tt g55 hE_3
        refine Tri.drawA mixedT Sep.up [(0,true),(1,true),(2,true),(3,true),(4,true),(5,true),(6,true),(7,true),(8,true),(9,true),(10,true),(11,true),(12,true),(13,true),(14,true),(15,true),(16,true),(17,true),(18,true),(19,true),(20,true),(21,true),(22,true),(23,true),(24,true),(25,true),(26,true),(27,true),(28,true),(29,true),(30,true),(31,true),(32,true),(33,true),(34,true),(35,true),(36,true),(37,true),(38,true),(39,true)] [] (by kernel_rfl) ?_
        refine S.qn rfl (r_indexAddrA Tryz.underlying168 ti3 rfl rfl (by decide) (by decide)) (S.qn rfl (r_load ta3 rfl (fun w hw=>cell_1 (box_cells (i:=0) rfl w hw) rfl)) (S.qn rfl (r_fieldAddr tf27_0 rfl) (S.qn rfl (r_load ta3 rfl (fun w hw=>cell_1 (box_cells (i:=1) rfl w hw) rfl)) (S.qn rfl (r_sub rfl rfl) ?_))))
        refine S.qcn rfl (q_callF (xs:=_) rfl ok148 rfl rfl (fun w hw=>spec_l1In.ok h41 w)) ?_
        refine S.qn rfl (r_not rfl) (S.qn rfl (r_move rfl) (S.qg rfl g43 (r_indexAddrA Tryz.underlying168 ti3 rfl rfl (by decide) (by decide)) (S.qg rfl g43 (r_load ta3 rfl (fun w hw=>cell_1 (box_cells (i:=0) rfl w hw) rfl)) ?_)))
        refine S.qg rfl g43 (r_indexAddrA Tryz.underlying168 ti3 rfl rfl (by decide) (by decide)) (S.qg rfl g43 (r_load ta3 rfl (fun w hw=>cell_1 (box_cells (i:=0) rfl w hw) rfl)) (S.qg rfl g43 (r_add rfl rfl) (S.qg rfl g43 (r_fieldAddr tf27_0 rfl) (S.qg rfl g43 (r_load ta3 rfl (fun w hw=>cell_1 (box_cells (i:=1) rfl w hw) rfl)) (S.qg rfl g43 (r_sub rfl rfl) ?_)))))
        refine S.qc rfl rfl rfl (wg rfl rfl rfl g43) (q_callF (xs:=_) rfl ok148 rfl rfl (fun w hw=>spec_l1In.ok h52 w)) ?_
        refine S.qg rfl g43 (r_not rfl) (S.qn rfl (r_pickf rfl rfl g43) (S.qn rfl (r_move rfl) ?_))
        iterate 4 refine S.skf rfl g55 ?_
        refine S.qn rfl (r_pick rfl rfl g55) (S.qn rfl (r_move rfl) ?_)
        iterate 3 refine S.skf rfl rfl ?_
        iterate 9 refine S.sk rfl rfl rfl (wanted_undef rfl rfl rfl) ?_
        refine S.skf rfl rfl (S.qn rfl (r_pick rfl rfl rfl) (S.nil (F.nil ?_)))
        cases hE_3
        refine Nrm.only [1,3,75] rfl ?_
        refine Nrm.pick [1] rfl rfl ?_
        exact hj_2 _ _ ⟨rfl,rfl⟩
       ·replace hE_3:=if_ff g55 hE_3
        obtain ⟨t58,h58,hE_3⟩:=bind_some hE_3
        rcases Bool.eq_false_or_eq_true (!t58) with g61 | g61
        ·replace hE_3:=if_tt g61 hE_3
         refine Tri.drawA mixedT Sep.up [(0,true),(1,true),(2,true),(3,true),(4,true),(5,true),(6,true),(7,true),(8,true),(9,true),(10,true),(11,true),(12,true),(13,true),(14,true),(15,true),(16,true),(17,true),(18,true),(19,true),(20,true),(21,true),(22,true),(23,true),(24,true),(25,true),(26,true),(27,true),(28,true),(29,true),(30,true),(31,true),(32,true),(33,true),(34,true),(35,true),(36,true),(37,true),(38,true),(39,true)] [] (by kernel_rfl) ?_
         refine S.qn rfl (r_indexAddrA Tryz.underlying168 ti3 rfl rfl (by decide) (by decide)) (S.qn rfl (r_load ta3 rfl (fun w hw=>cell_1 (box_cells (i:=0) rfl w hw) rfl)) (S.qn rfl (r_fieldAddr tf27_0 rfl) (S.qn rfl (r_load ta3 rfl (fun w hw=>cell_1 (box_cells (i:=1) rfl w hw) rfl)) (S.qn rfl (r_sub rfl rfl) ?_))))
         refine S.qcn rfl (q_callF (xs:=_) rfl ok148 rfl rfl (fun w hw=>spec_l1In.ok h41 w)) ?_
         refine S.qn rfl (r_not rfl) (S.qn rfl (r_move rfl) (S.qg rfl g43 (r_indexAddrA Tryz.underlying168 ti3 rfl rfl (by decide) (by decide)) (S.qg rfl g43 (r_load ta3 rfl (fun w hw=>cell_1 (box_cells (i:=0) rfl w hw) rfl)) ?_)))
         refine S.qg rfl g43 (r_indexAddrA Tryz.underlying168 ti3 rfl rfl (by decide) (by decide)) (S.qg rfl g43 (r_load ta3 rfl (fun w hw=>cell_1 (box_cells (i:=0) rfl w hw) rfl)) (S.qg rfl g43 (r_add rfl rfl) (S.qg rfl g43 (r_fieldAddr tf27_0 rfl) (S.qg rfl g43 (r_load ta3 rfl (fun w hw=>cell_1 (box_cells (i:=1) rfl w hw) rfl)) (S.qg rfl g43 (r_sub rfl rfl) ?_)))))
         refine S.qc rfl rfl rfl (wg rfl rfl rfl g43) (q_callF (xs:=_) rfl ok148 rfl rfl (fun w hw=>spec_l1In.ok h52 w)) ?_
         refine S.qg rfl g43 (r_not rfl) (S.qn rfl (r_pickf rfl rfl g43) (S.qn rfl (r_move rfl) (S.qg rfl g55 (r_indexAddrA Tryz.underlying168 ti3 rfl rfl (by decide) (by decide)) (S.qg rfl g55 (r_load ta3 rfl (fun w hw=>cell_1 (box_cells (i:=0) rfl w hw) rfl)) ?_))))
         refine S.qc rfl rfl rfl (wg rfl rfl rfl g55) (q_callF (xs:=_) rfl ok178 rfl rfl (fun w hw=>spec_l2Set.ok h58 w)) ?_
         refine S.qg rfl g55 (r_not rfl) (S.qn rfl (r_pickf rfl rfl g55) (S.qn rfl (r_move rfl) ?_))
         iterate 3 refine S.skf rfl g61 ?_
         iterate 9 refine S.sk rfl rfl rfl (wanted_undef rfl rfl rfl) ?_
         refine S.skf rfl g61 (S.qn rfl (r_pick rfl rfl g61) (S.nil (F.nil ?_)))
         cases hE_3
         refine Nrm.only [1,3,75] rfl ?_
         refine Nrm.pick [1] rfl rfl ?_
         exact hj_2 _ _ ⟨rfl,rfl⟩
        ·replace hE_3:=if_ff g61 hE_3
         rcases Bool.eq_false_or_eq_true (decide (x3 > 0)) with g64 | g64
         ·replace hE_3:=if_tt g64 hE_3
          obtain ⟨t69,h69,hE_3⟩:=bind_some hE_3
          obtain ⟨t72,h72,hE_3⟩:=bind_some hE_3
          refine Tri.drawA mixedT Sep.up [(0,true),(1,true),(2,true),(3,true),(4,true),(5,true),(6,true),(7,true),(8,true),(9,true),(10,true),(11,true),(12,true),(13,true),(14,true),(15,true),(16,true),(17,true),(18,true),(19,true),(20,true),(21,true),(22,true),(23,true),(24,true),(25,true),(26,true),(27,true),(28,true),(29,true),(30,true),(31,true),(32,true),(33,true),(34,true),(35,true),(36,true),(37,true),(38,true),(39,true)] [] (by kernel_rfl) ?_
          refine S.qn rfl (r_indexAddrA Tryz.underlying168 ti3 rfl rfl (by decide) (by decide)) (S.qn rfl (r_load ta3 rfl (fun w hw=>cell_1 (box_cells (i:=0) rfl w hw) rfl)) (S.qn rfl (r_fieldAddr tf27_0 rfl) (S.qn rfl (r_load ta3 rfl (fun w hw=>cell_1 (box_cells (i:=1) rfl w hw) rfl)) (S.qn rfl (r_sub rfl rfl) ?_))))
          refine S.qcn rfl (q_callF (xs:=_) rfl ok148 rfl rfl (fun w hw=>spec_l1In.ok h41 w)) ?_
          refine S.qn rfl (r_not rfl) (S.qn rfl (r_move rfl) (S.qg rfl g43 (r_indexAddrA Tryz.underlying168 ti3 rfl rfl (by decide) (by decide)) (S.qg rfl g43 (r_load ta3 rfl (fun w hw=>cell_1 (box_cells (i:=0) rfl w hw) rfl)) ?_)))
          refine S.qg rfl g43 (r_indexAddrA Tryz.underlying168 ti3 rfl rfl (by decide) (by decide)) (S.qg rfl g43 (r_load ta3 rfl (fun w hw=>cell_1 (box_cells (i:=0) rfl w hw) rfl)) (S.qg rfl g43 (r_add rfl rfl) (S.qg rfl g43 (r_fieldAddr tf27_0 rfl) (S.qg rfl g43 (r_load ta3 rfl (fun w hw=>cell_1 (box_cells (i:=1) rfl w hw) rfl)) (S.qg rfl g43 (r_sub rfl rfl) ?_)))))
          refine S.qc rfl rfl rfl (wg rfl rfl rfl g43) (q_callF (xs:=_) rfl ok148 rfl rfl (fun w hw=>spec_l1In.ok h52 w)) ?_
          refine S.qg rfl g43 (r_not rfl) (S.qn rfl (r_pickf rfl rfl g43) (S.qn rfl (r_move rfl) (S.qg rfl g55 (r_indexAddrA Tryz.underlying168 ti3 rfl rfl (by decide) (by decide)) (S.qg rfl g55 (r_load ta3 rfl (fun w hw=>cell_1 (box_cells (i:=0) rfl w hw) rfl)) ?_))))
          refine S.qc rfl rfl rfl (wg rfl rfl rfl g55) (q_callF (xs:=_) rfl ok178 rfl rfl (fun w hw=>spec_l2Set.ok h58 w)) ?_
          refine S.qg rfl g55 (r_not rfl) ?_
          refine S.qn rfl (r_pickf rfl rfl g55) (S.qn rfl (r_move rfl) (S.qg rfl g61 (r_move rfl) (S.qg rfl g61 (r_gtr rfl rfl) (S.qg rfl g61 (r_move rfl) (S.qg rfl g64 (r_fieldAddr tf27_1 rfl) ?_)))))
          refine S.qg rfl g64 (r_load ta24 rfl (fun w hw=>cell_1 (box_cells (i:=1) rfl w hw) rfl)) (S.qg rfl g64 (r_move rfl) (S.qg rfl g64 (r_sub rfl rfl) (S.qg rfl g64 (r_indexAddrS Tryz.underlying24 ti168 rfl hl_va0_1 rfl (rdl_some h69).1 (rdl_some h69).2.1) (S.qg rfl g64 (r_loadA ta168 ti168 rfl rfl (fun w hw=>(Rd.flat ((fun _ hw=>hr_a0_1.sep hw) w hw) (rdl_some h69).2.2))) (S.qg rfl g64 (r_loadA ta168 ti168 rfl rfl (fun w hw=>(box_cells (i:=0) rfl w hw))) ?_)))))
          refine S.qc rfl rfl rfl (wg rfl rfl rfl g64) (q_callF (xs:=_) rfl ok196 rfl rfl (fun w hw=>spec_l2Before.ok h72 w)) ?_
          refine S.qg rfl g64 (r_not rfl) (S.qg rfl g61 (r_pick rfl rfl g64) (S.qn rfl (r_pickf rfl rfl g61) (S.nil (F.nil ?_))))
          cases hE_3
          refine Nrm.only [1,3,75] rfl ?_
          refine Nrm.pick [1] rfl rfl ?_
          exact hj_2 _ _ ⟨rfl,rfl⟩
         ·replace hE_3:=if_ff g64 hE_3
          refine Tri.drawA mixedT Sep.up [(0,true),(1,true),(2,true),(3,true),(4,true),(5,true),(6,true),(7,true),(8,true),(9,true),(10,true),(11,true),(12,true),(13,true),(14,true),(15,true),(16,true),(17,true),(18,true),(19,true),(20,true),(21,true),(22,true),(23,true),(24,true),(25,true),(26,true),(27,true),(28,true),(29,true),(30,true),(31,true),(32,true),(33,true),(34,true),(35,true),(36,true),(37,true),(38,true),(39,true)] [] (by kernel_rfl) ?_
          refine S.qn rfl (r_indexAddrA Tryz.underlying168 ti3 rfl rfl (by decide) (by decide)) (S.qn rfl (r_load ta3 rfl (fun w hw=>cell_1 (box_cells (i:=0) rfl w hw) rfl)) (S.qn rfl (r_fieldAddr tf27_0 rfl) (S.qn rfl (r_load ta3 rfl (fun w hw=>cell_1 (box_cells (i:=1) rfl w hw) rfl)) (S.qn rfl (r_sub rfl rfl) ?_))))
          refine S.qcn rfl (q_callF (xs:=_) rfl ok148 rfl rfl (fun w hw=>spec_l1In.ok h41 w)) ?_
          refine S.qn rfl (r_not rfl) (S.qn rfl (r_move rfl) (S.qg rfl g43 (r_indexAddrA Tryz.underlying168 ti3 rfl rfl (by decide) (by decide)) (S.qg rfl g43 (r_load ta3 rfl (fun w hw=>cell_1 (box_cells (i:=0) rfl w hw) rfl)) ?_)))
          refine S.qg rfl g43 (r_indexAddrA Tryz.underlying168 ti3 rfl rfl (by decide) (by decide)) (S.qg rfl g43 (r_load ta3 rfl (fun w hw=>cell_1 (box_cells (i:=0) rfl w hw) rfl)) (S.qg rfl g43 (r_add rfl rfl) (S.qg rfl g43 (r_fieldAddr tf27_0 rfl) (S.qg rfl g43 (r_load ta3 rfl (fun w hw=>cell_1 (box_cells (i:=1) rfl w hw) rfl)) (S.qg rfl g43 (r_sub rfl rfl) ?_)))))
          refine S.qc rfl rfl rfl (wg rfl rfl rfl g43) (q_callF (xs:=_) rfl ok148 rfl rfl (fun w hw=>spec_l1In.ok h52 w)) ?_
          refine S.qg rfl g43 (r_not rfl) (S.qn rfl (r_pickf rfl rfl g43) (S.qn rfl (r_move rfl) (S.qg rfl g55 (r_indexAddrA Tryz.underlying168 ti3 rfl rfl (by decide) (by decide)) (S.qg rfl g55 (r_load ta3 rfl (fun w hw=>cell_1 (box_cells (i:=0) rfl w hw) rfl)) ?_))))
          refine S.qc rfl rfl rfl (wg rfl rfl rfl g55) (q_callF (xs:=_) rfl ok178 rfl rfl (fun w hw=>spec_l2Set.ok h58 w)) ?_
          refine S.qg rfl g55 (r_not rfl) (S.qn rfl (r_pickf rfl rfl g55) (S.qn rfl (r_move rfl) (S.qg rfl g61 (r_move rfl) (S.qg rfl g61 (r_gtr rfl rfl) (S.qg rfl g61 (r_move rfl) ?_)))))
          iterate 9 refine S.skf rfl g64 ?_
          refine S.qg rfl g61 (r_pickf rfl rfl g64) (S.qn rfl (r_pickf rfl rfl g61) (S.nil (F.nil ?_)))
          cases hE_3
          refine Nrm.only [1,3,75] rfl ?_
          refine Nrm.pick [1] rfl rfl ?_
          exact hj_2 _ _ ⟨rfl,rfl⟩
    ·replace hE_2:=if_ff g_2 hE_2
     refine Tri.exit ?_
     refine Exi.then ?_
     refine Exi.then ?_
     refine Exi.same ?_
     cases hE_2
     replace h:=Lr_inl h
     refine Nrm.seq (Tri.seq (Tri.seq (Tri.reg (l:=[0]) rfl ?_)))
     refine F.qn rfl (r_assign rfl) (F.nil (Nrm.seq ?_))
     obtain ⟨s1,hE_4,h⟩:=bind_some h
     refine Tri.block ?_
     refine Tri.only [1,5] rfl ?_
     refine Tri.pick [0] rfl rfl ?_
     refine Tri.rounds (fun n e' C'=>∃ (x5' : Int),spec_l2Maze.l1 k a0_0 a0_2 n x5' = some s1∧e' = [(1,.pointer (some ⟨b1_1,0,none⟩)),(5,.int .i64 x5')]∧C' = Sep w noM [R.box b1_1 27 [.int .i64 a0_0,va0_1,va0_2]]) k ?_ ?_ ?_
     ·exact ⟨0,hE_4,rfl,rfl⟩
     ·rintro _ _ ⟨_,hE_4,_⟩
      rw [spec_l2Maze.l1.eq_1] at hE_4; cases hE_4
     ·rintro n_2 _ _ ⟨x5,hE_4,rfl,rfl⟩ ih_2
      rw [spec_l2Maze.l1.eq_2] at hE_4
      refine Tri.seq (Tri.seq (Tri.reg (l:=[0,1,2,3]) rfl ?_))
      refine F.qn rfl (r_move rfl) (F.qn rfl (r_fieldAddr tf27_0 rfl) (F.qn rfl (r_load ta3 rfl (fun w hw=>cell_1 (box_cells (i:=0) rfl w hw) rfl)) (F.qn rfl (r_lss rfl rfl) (F.nil (Nrm.seq (Tri.cond (b:=decide (x5 < a0_0)) rfl (fun g_4=>?_) (fun g_4=>?_)))))))
      ·replace hE_4:=if_tt g_4 hE_4
       refine Tri.skip (Nrm.seq (Tri.seq (Tri.block ?_)))
       refine Tri.seq ?_
       obtain ⟨t85,h85,hE_4⟩:=bind_some hE_4
       obtain ⟨t87,h87,hE_4⟩:=bind_some hE_4
       refine Tri.reg (l:=[0,1,2,3,4,5,6]) rfl ?_
       refine F.qn rfl (r_fieldAddr tf27_2 rfl) (F.qn rfl (r_load ta25 rfl (fun w hw=>cell_1 (box_cells (i:=0) rfl w hw) rfl)) (F.qn rfl (r_move rfl) (F.qn rfl (r_indexAddrS Tryz.underlying25 ti3 rfl hl_va0_2 rfl (rdl_some h85).1 (rdl_some h85).2.1) (F.qn rfl (r_load ta3 rfl (fun w hw=>cell_0 (Rd.flat ((fun _ hw=>hr_a0_2.sep hw) w hw) (rdl_some h85).2.2) rfl)) ?_))))
       refine F.qcn rfl (q_callF (xs:=_) rfl ok178 rfl rfl (fun w hw=>spec_l2Set.ok h87 w)) ?_
       refine F.qn rfl (r_not rfl) (F.nil (Nrm.seq (Tri.cond (b:=!t87) rfl (fun g_5=>?_) (fun g_5=>?_))))
       ·replace hE_4:=if_tt g_5 hE_4
        refine Tri.seq (Tri.reg (l:=[0]) rfl ?_)
        refine F.qn rfl (r_assign rfl) (F.nil (Nrm.seq (Tri.ret ?_)))
        refine Rtn.block ?_
        refine Rtn.then ?_
        refine Rtn.then ?_
        refine Rtn.block ?_
        refine Rtn.then ?_
        cases hE_4
        replace h:=Lr_inr h
        cases h
        exact Rtn.body (.tmp rfl .nil) (fun w hw=>⟨rfl,hw.ext⟩)
       ·replace hE_4:=if_ff g_5 hE_4
        refine Tri.skip (Nrm.block ?_)
        refine Nrm.seq (Tri.reg (l:=[0,1,2]) rfl ?_)
        refine F.qn rfl (r_move rfl) (F.qn rfl (r_add rfl rfl) (F.qn rfl (r_assign rfl) (F.nil (Nrm.round ?_))))
        refine Rnd.only [1,5] rfl ?_
        refine Rnd.pick [0] rfl rfl ?_
        exact ih_2 _ _ ⟨w64 (x5 + 1),hE_4,rfl,rfl⟩
      ·replace hE_4:=if_ff g_4 hE_4
       refine Tri.exit ?_
       refine Exi.then ?_
       refine Exi.then ?_
       refine Exi.same ?_
       cases hE_4
       replace h:=Lr_inl h
       refine Nrm.seq (Tri.seq (Tri.reg (l:=[0]) rfl ?_))
       refine F.qn rfl (r_assign rfl) (F.nil (Nrm.seq (Tri.ret ?_)))
       cases h
       exact Rtn.body (.tmp rfl .nil) (fun w hw=>⟨rfl,hw.ext⟩)
 ·obtain ⟨t8,h8,hE_1⟩:=bind_some hE_1
  rcases Bool.eq_false_or_eq_true (!t8) with g10 | g10
  ·replace hE_1:=if_tt g10 hE_1
   refine Tri.reg (l:=List.range 18) rfl ?_
   refine F.qn rfl (r_fieldAddr tf27_0 rfl) (F.qn rfl (r_load ta3 rfl (fun w hw=>cell_1 (box_cells (i:=0) rfl w hw) rfl)) ?_)
   refine F.qcn rfl (q_callF (xs:=_) rfl ok148 rfl rfl (fun w hw=>spec_l1In.ok h8 w)) ?_
   refine F.qn rfl (r_not rfl) (F.qn rfl (r_move rfl) ?_)
   iterate 4 refine F.skf rfl g10 ?_
   refine F.qn rfl (r_pick rfl rfl g10) (F.qn rfl (r_move rfl) ?_)
   iterate 6 refine F.skf rfl rfl ?_
   refine F.qn rfl (r_pick rfl rfl rfl) (F.nil ?_)
   cases hE_1
   refine Nrm.only [1,23] rfl ?_
   refine Nrm.pick [0] rfl rfl ?_
   exact hj_1 _ _ ⟨rfl,rfl⟩
  ·replace hE_1:=if_ff g10 hE_1
   rcases Bool.eq_false_or_eq_true (decide ((a0_1.length : Int) > 30)) with g16 | g16
   ·replace hE_1:=if_tt g16 hE_1
    refine Tri.reg (l:=List.range 18) rfl ?_
    refine F.qn rfl (r_fieldAddr tf27_0 rfl) (F.qn rfl (r_load ta3 rfl (fun w hw=>cell_1 (box_cells (i:=0) rfl w hw) rfl)) ?_)
    refine F.qcn rfl (q_callF (xs:=_) rfl ok148 rfl rfl (fun w hw=>spec_l1In.ok h8 w)) ?_
    refine F.qn rfl (r_not rfl) (F.qn rfl (r_move rfl) ?_)
    refine F.qg rfl g10 (r_fieldAddr tf27_1 rfl) (F.qg rfl g10 (r_load ta24 rfl (fun w hw=>cell_1 (box_cells (i:=0) rfl w hw) rfl)) (F.qg rfl g10 (r_len Tryz.underlying24 rfl hl_va0_1) (F.qg rfl g10 (r_gtr rfl rfl) (F.qn rfl (r_pickf rfl rfl g10) (F.qn rfl (r_move rfl) ?_)))))
    iterate 6 refine F.skf rfl g16 ?_
    refine F.qn rfl (r_pick rfl rfl g16) (F.nil ?_)
    cases hE_1
    refine Nrm.only [1,23] rfl ?_
    refine Nrm.pick [0] rfl rfl ?_
    exact hj_1 _ _ ⟨rfl,rfl⟩
   ·replace hE_1:=if_ff g16 hE_1
    refine Tri.reg (l:=List.range 18) rfl ?_
    refine F.qn rfl (r_fieldAddr tf27_0 rfl) (F.qn rfl (r_load ta3 rfl (fun w hw=>cell_1 (box_cells (i:=0) rfl w hw) rfl)) ?_)
    refine F.qcn rfl (q_callF (xs:=_) rfl ok148 rfl rfl (fun w hw=>spec_l1In.ok h8 w)) ?_
    refine F.qn rfl (r_not rfl) (F.qn rfl (r_move rfl) (F.qg rfl g10 (r_fieldAddr tf27_1 rfl) ?_))
    refine F.qg rfl g10 (r_load ta24 rfl (fun w hw=>cell_1 (box_cells (i:=0) rfl w hw) rfl)) (F.qg rfl g10 (r_len Tryz.underlying24 rfl hl_va0_1) (F.qg rfl g10 (r_gtr rfl rfl) (F.qn rfl (r_pickf rfl rfl g10) (F.qn rfl (r_move rfl) (F.qg rfl g16 (r_fieldAddr tf27_2 rfl) ?_)))))
    refine F.qg rfl g16 (r_load ta25 rfl (fun w hw=>cell_1 (box_cells (i:=0) rfl w hw) rfl)) (F.qg rfl g16 (r_len Tryz.underlying25 rfl hl_va0_2) (F.qg rfl g16 (r_fieldAddr tf27_0 rfl) (F.qg rfl g16 (r_load ta3 rfl (fun w hw=>cell_1 (box_cells (i:=0) rfl w hw) rfl)) (F.qg rfl g16 (r_neq rfl rfl) (F.qn rfl (r_pickf rfl rfl g16) (F.nil ?_))))))
    cases hE_1
    refine Nrm.only [1,23] rfl ?_
    refine Nrm.pick [0] rfl rfl ?_
    exact hj_1 _ _ ⟨rfl,rfl⟩


def spec_l1Rising.l0 (k : Nat) (a0 : List Int) (a1 : Int) (a2 : Int) : Nat → Int → Option ((Unit) ⊕ (Bool))
 | 0,_=>none
 | n + 1,x7=>(if (decide (x7 < (a0.length : Int))) = true then ((rdl a0 x7).bind fun t16=>(spec_l1In.f k t16 a1 a2).bind fun t20=>(if (!t20) = true then some true else (if (decide (x7 > 0)) = true then (rdl a0 (w64 (x7 - 1))).bind fun t29=>(rdl a0 x7).bind fun t33=>some (decide (t29 ≥ t33)) else some false))).bind fun y37=>(if y37 = true then some (Sum.inr false) else spec_l1Rising.l0 k a0 a1 a2 n (w64 (x7 + 1))) else some (Sum.inl ()))

def spec_l1Rising.f (k : Nat) (a0 : List Int) (a1 : Int) (a2 : Int) : Option (Bool) := (spec_l1Rising.l0 k a0 a1 a2 k 0).bind fun s => Lr s some fun _ => some true

theorem spec_l1Rising.ok {k : Nat}  {a0 : List Int} {a1 : Int} {a2 : Int} {r0 : Bool} (h : spec_l1Rising.f k a0 a1 a2 = some r0) (w : World) {va0 : Value} (hr_a0 : Rd w va0 a0) :
  Calls Tryz.prog 212 ([va0,.int .i64 a1,.int .i64 a2] : List Value).toArray w (fun e w'=>e = .returned (.bool r0)∧Ext w w'):=by
 unfold spec_l1Rising.f at h
 have hl_va0:=hr_a0.len
 refine Calls.of_tri (N:=38) Tryz.func212 rfl rfl rfl (Sep.nil (M:=noM)) ?_
 refine Tri.seq (Tri.reg (l:=[0]) rfl ?_)
 refine F.qn rfl (r_assign rfl) (F.nil (Nrm.seq (Tri.seq (Tri.seq (Tri.reg (l:=[0]) rfl ?_)))))
 refine F.qn rfl (r_assign rfl) (F.nil (Nrm.seq ?_))
 obtain ⟨s0,hE_1,h⟩:=bind_some h
 refine Tri.block ?_
 refine Tri.only [0,1,2,7] rfl ?_
 refine Tri.pick [] rfl rfl ?_
 refine Tri.rounds (fun n e' C'=>∃ (x7' : Int),spec_l1Rising.l0 k a0 a1 a2 n x7' = some s0∧e' = [(0,va0),(1,.int .i64 a1),(2,.int .i64 a2),(7,.int .i64 x7')]∧C' = Sep w noM []) k ?_ ?_ ?_
 ·exact ⟨0,hE_1,rfl,rfl⟩
 ·rintro _ _ ⟨_,hE_1,_⟩
  rw [spec_l1Rising.l0.eq_1] at hE_1; cases hE_1
 ·rintro n_1 _ _ ⟨x7,hE_1,rfl,rfl⟩ ih_1
  rw [spec_l1Rising.l0.eq_2] at hE_1
  refine Tri.seq (Tri.seq (Tri.reg (l:=[0,1,2,3]) rfl ?_))
  refine F.qn rfl (r_move rfl) (F.qn rfl (r_move rfl) (F.qn rfl (r_len Tryz.underlying25 rfl hl_va0) (F.qn rfl (r_lss rfl rfl) (F.nil (Nrm.seq (Tri.cond (b:=decide (x7 < (a0.length : Int))) rfl (fun g_1=>?_) (fun g_1=>?_)))))))
  ·replace hE_1:=if_tt g_1 hE_1
   refine Tri.skip (Nrm.seq (Tri.seq (Tri.block ?_)))
   refine Tri.seq ?_
   obtain ⟨y37,hE_2,hE_1⟩:=bind_some hE_1
   refine Tri.cut (fun e' C'=>e' = [(0,va0),(1,.int .i64 a1),(2,.int .i64 a2),(7,.int .i64 x7),(37,.bool y37)]∧C' = Sep w noM []) ?_ (fun hj_1=>?_)
   ·rintro _ _ ⟨rfl,rfl⟩
    refine Nrm.seq (Tri.cond (b:=y37) rfl (fun g_2=>?_) (fun g_2=>?_))
    ·replace hE_1:=if_tt g_2 hE_1
     refine Tri.seq (Tri.reg (l:=[0]) rfl ?_)
     refine F.qn rfl (r_assign rfl) (F.nil (Nrm.seq (Tri.ret ?_)))
     refine Rtn.block ?_
     refine Rtn.then ?_
     refine Rtn.then ?_
     refine Rtn.block ?_
     refine Rtn.then ?_
     cases hE_1
     replace h:=Lr_inr h
     cases h
     exact Rtn.body (.tmp rfl .nil) (fun w hw=>⟨rfl,hw.ext⟩)
    ·replace hE_1:=if_ff g_2 hE_1
     refine Tri.skip (Nrm.block ?_)
     refine Nrm.seq (Tri.reg (l:=[0,1,2]) rfl ?_)
     refine F.qn rfl (r_move rfl) (F.qn rfl (r_add rfl rfl) (F.qn rfl (r_assign rfl) (F.nil (Nrm.round ?_))))
     refine Rnd.only [0,1,2,7] rfl ?_
     refine Rnd.pick [] rfl rfl ?_
     exact ih_1 _ _ ⟨w64 (x7 + 1),hE_1,rfl,rfl⟩
   ·obtain ⟨t16,h16,hE_2⟩:=bind_some hE_2
    obtain ⟨t20,h20,hE_2⟩:=bind_some hE_2
    rcases Bool.eq_false_or_eq_true (!t20) with g22 | g22
    ·replace hE_2:=if_tt g22 hE_2
     refine Tri.drawA mixedT Sep.up [(0,true),(1,true),(2,true),(3,true),(4,true),(5,true),(6,true),(7,true),(8,true),(9,true),(10,true),(11,true),(12,true),(13,true),(14,true),(15,true),(16,true),(17,true),(18,true),(19,true),(20,true),(21,true),(22,true),(23,true)] [] (by kernel_rfl) ?_
     refine S.qn rfl (r_move rfl) (S.qn rfl (r_move rfl) (S.qn rfl (r_indexAddrS Tryz.underlying25 ti3 rfl hl_va0 rfl (rdl_some h16).1 (rdl_some h16).2.1) (S.qn rfl (r_load ta3 rfl (fun w hw=>cell_0 (Rd.flat ((fun _ hw=>hr_a0.sep hw) w hw) (rdl_some h16).2.2) rfl)) (S.qn rfl (r_move rfl) (S.qn rfl (r_move rfl) ?_)))))
     refine S.qcn rfl (q_callF (xs:=_) rfl ok148 rfl rfl (fun w hw=>spec_l1In.ok h20 w)) ?_
     refine S.qn rfl (r_not rfl) (S.qn rfl (r_move rfl) ?_)
     iterate 3 refine S.skf rfl g22 ?_
     iterate 10 refine S.sk rfl rfl rfl (wanted_undef rfl rfl rfl) ?_
     refine S.skf rfl g22 (S.qn rfl (r_pick rfl rfl g22) (S.nil (F.nil ?_)))
     cases hE_2
     refine Nrm.only [0,1,2,7,37] rfl ?_
     refine Nrm.pick [] rfl rfl ?_
     exact hj_1 _ _ ⟨rfl,rfl⟩
    ·replace hE_2:=if_ff g22 hE_2
     rcases Bool.eq_false_or_eq_true (decide (x7 > 0)) with g25 | g25
     ·replace hE_2:=if_tt g25 hE_2
      obtain ⟨t29,h29,hE_2⟩:=bind_some hE_2
      obtain ⟨t33,h33,hE_2⟩:=bind_some hE_2
      refine Tri.drawA mixedT Sep.up [(0,true),(1,true),(2,true),(3,true),(4,true),(5,true),(6,true),(7,true),(8,true),(9,true),(10,true),(11,true),(12,true),(13,true),(14,true),(15,true),(16,true),(17,true),(18,true),(19,true),(20,true),(21,true),(22,true),(23,true)] [] (by kernel_rfl) ?_
      refine S.qn rfl (r_move rfl) (S.qn rfl (r_move rfl) (S.qn rfl (r_indexAddrS Tryz.underlying25 ti3 rfl hl_va0 rfl (rdl_some h16).1 (rdl_some h16).2.1) (S.qn rfl (r_load ta3 rfl (fun w hw=>cell_0 (Rd.flat ((fun _ hw=>hr_a0.sep hw) w hw) (rdl_some h16).2.2) rfl)) (S.qn rfl (r_move rfl) (S.qn rfl (r_move rfl) ?_)))))
      refine S.qcn rfl (q_callF (xs:=_) rfl ok148 rfl rfl (fun w hw=>spec_l1In.ok h20 w)) ?_
      refine S.qn rfl (r_not rfl) (S.qn rfl (r_move rfl) (S.qg rfl g22 (r_move rfl) (S.qg rfl g22 (r_gtr rfl rfl) (S.qg rfl g22 (r_move rfl) ?_))))
      refine S.qg rfl g25 (r_move rfl) (S.qg rfl g25 (r_move rfl) (S.qg rfl g25 (r_sub rfl rfl) (S.qg rfl g25 (r_indexAddrS Tryz.underlying25 ti3 rfl hl_va0 rfl (rdl_some h29).1 (rdl_some h29).2.1) (S.qg rfl g25 (r_load ta3 rfl (fun w hw=>cell_0 (Rd.flat ((fun _ hw=>hr_a0.sep hw) w hw) (rdl_some h29).2.2) rfl)) (S.qg rfl g25 (r_move rfl) ?_)))))
      refine S.qg rfl g25 (r_move rfl) (S.qg rfl g25 (r_indexAddrS Tryz.underlying25 ti3 rfl hl_va0 rfl (rdl_some h33).1 (rdl_some h33).2.1) (S.qg rfl g25 (r_load ta3 rfl (fun w hw=>cell_0 (Rd.flat ((fun _ hw=>hr_a0.sep hw) w hw) (rdl_some h33).2.2) rfl)) (S.qg rfl g25 (r_geq rfl rfl) (S.qg rfl g22 (r_pick rfl rfl g25) (S.qn rfl (r_pickf rfl rfl g22) (S.nil (F.nil ?_)))))))
      cases hE_2
      refine Nrm.only [0,1,2,7,37] rfl ?_
      refine Nrm.pick [] rfl rfl ?_
      exact hj_1 _ _ ⟨rfl,rfl⟩
     ·replace hE_2:=if_ff g25 hE_2
      refine Tri.drawA mixedT Sep.up [(0,true),(1,true),(2,true),(3,true),(4,true),(5,true),(6,true),(7,true),(8,true),(9,true),(10,true),(11,true),(12,true),(13,true),(14,true),(15,true),(16,true),(17,true),(18,true),(19,true),(20,true),(21,true),(22,true),(23,true)] [] (by kernel_rfl) ?_
      refine S.qn rfl (r_move rfl) (S.qn rfl (r_move rfl) (S.qn rfl (r_indexAddrS Tryz.underlying25 ti3 rfl hl_va0 rfl (rdl_some h16).1 (rdl_some h16).2.1) (S.qn rfl (r_load ta3 rfl (fun w hw=>cell_0 (Rd.flat ((fun _ hw=>hr_a0.sep hw) w hw) (rdl_some h16).2.2) rfl)) (S.qn rfl (r_move rfl) (S.qn rfl (r_move rfl) ?_)))))
      refine S.qcn rfl (q_callF (xs:=_) rfl ok148 rfl rfl (fun w hw=>spec_l1In.ok h20 w)) ?_
      refine S.qn rfl (r_not rfl) (S.qn rfl (r_move rfl) (S.qg rfl g22 (r_move rfl) (S.qg rfl g22 (r_gtr rfl rfl) (S.qg rfl g22 (r_move rfl) ?_))))
      iterate 10 refine S.skf rfl g25 ?_
      refine S.qg rfl g22 (r_pickf rfl rfl g25) (S.qn rfl (r_pickf rfl rfl g22) (S.nil (F.nil ?_)))
      cases hE_2
      refine Nrm.only [0,1,2,7,37] rfl ?_
      refine Nrm.pick [] rfl rfl ?_
      exact hj_1 _ _ ⟨rfl,rfl⟩
  ·replace hE_1:=if_ff g_1 hE_1
   refine Tri.exit ?_
   refine Exi.then ?_
   refine Exi.then ?_
   refine Exi.same ?_
   cases hE_1
   replace h:=Lr_inl h
   refine Nrm.seq (Tri.seq (Tri.reg (l:=[0]) rfl ?_))
   refine F.qn rfl (r_assign rfl) (F.nil (Nrm.seq (Tri.ret ?_)))
   cases h
   exact Rtn.body (.tmp rfl .nil) (fun w hw=>⟨rfl,hw.ext⟩)


def spec_l11Trap.f (k : Nat) (a0_0 : Int) (a0_1 : List (Int × Int × Int)) (a0_2 : List Int) (a0_3 : List Int) : Option (Bool) := ((spec_l2Maze.f k a0_0 a0_1 a0_2).bind fun t5 => (if t5 = true then (spec_l1Rising.f k a0_3 0 (w64 ((a0_1.length : Int) - 1))).bind fun t14 => some t14 else some false)).bind fun y2 => some y2

theorem spec_l11Trap.ok {k : Nat}  {a0_0 : Int} {a0_1 : List (Int × Int × Int)} {a0_2 : List Int} {a0_3 : List Int} {r0 : Bool} (h : spec_l11Trap.f k a0_0 a0_1 a0_2 a0_3 = some r0) (w : World) {va0_1 : Value} {va0_2 : Value} {va0_3 : Value} (hr_a0_1 : Rd w va0_1 a0_1) (hr_a0_2 : Rd w va0_2 a0_2) (hr_a0_3 : Rd w va0_3 a0_3) :
  Calls Tryz.prog 128 ([.agg ([.int .i64 a0_0,va0_1,va0_2,va0_3].toArray)] : List Value).toArray w (fun e w'=>e = .returned (.bool r0)∧Ext w w'):=by
 unfold spec_l11Trap.f at h
 have hl_va0_1:=hr_a0_1.len
 have hl_va0_2:=hr_a0_2.len
 have hl_va0_3:=hr_a0_3.len
 refine Calls.of_tri (N:=16) Tryz.func128 rfl rfl rfl (Sep.nil (M:=noM)) ?_
 refine Tri.seq (Tri.reg (l:=[0,1]) rfl ?_)
 refine F.mn rfl (m_boxG rfl rfl) ?_
 rintro _ _ ⟨b1_1,rfl,rfl⟩
 refine F.qn rfl (r_assign rfl) (F.nil (Nrm.seq (Tri.seq ?_)))
 obtain ⟨y2,hE_1,h⟩:=bind_some h
 refine Tri.cut (fun e' C'=>e' = [(2,.bool y2)]∧C' = Sep w noM []) ?_ (fun hj_1=>?_)
 ·rintro _ _ ⟨rfl,rfl⟩
  refine Nrm.seq (Tri.ret ?_)
  cases h
  exact Rtn.body (.tmp rfl .nil) (fun w hw=>⟨rfl,hw.ext⟩)
 ·obtain ⟨t5,h5,hE_1⟩:=bind_some hE_1
  rcases Bool.eq_false_or_eq_true (t5) with g6 | g6
  ·replace hE_1:=if_tt g6 hE_1
   obtain ⟨t14,h14,hE_1⟩:=bind_some hE_1
   refine Tri.reg (l:=List.range 14) rfl ?_
   refine F.qn rfl (r_fieldAddr tf65_0 rfl) (F.qn rfl (r_loadA ta27 ti27 rfl rfl (fun w hw=>cells_1 (cs':=[.int .i64 a0_0,va0_1,va0_2]) (box_cells (i:=0) rfl w hw) rfl)) ?_)
   refine F.qcn rfl (q_callF (xs:=_) rfl ok108 rfl rfl (fun w hw=>spec_l2Maze.ok h5 w ((fun _ hw=>hr_a0_1.sep hw) w hw) ((fun _ hw=>hr_a0_2.sep hw) w hw))) ?_
   refine F.qn rfl (r_move rfl) (F.qg rfl g6 (r_fieldAddr tf65_1 rfl) ?_)
   refine F.qg rfl g6 (r_load ta25 rfl (fun w hw=>cell_1 (box_cells (i:=0) rfl w hw) rfl)) (F.qg rfl g6 (r_fieldAddr tf65_0 rfl) (F.qg rfl g6 (r_fieldAddr tf27_1 rfl) (F.qg rfl g6 (r_load ta24 rfl (fun w hw=>cell_2 (box_cells (i:=0) rfl w hw) rfl)) (F.qg rfl g6 (r_len Tryz.underlying24 rfl hl_va0_1) (F.qg rfl g6 (r_sub rfl rfl) ?_)))))
   refine F.qc rfl rfl rfl (wg rfl rfl rfl g6) (q_callF (xs:=_) rfl ok212 rfl rfl (fun w hw=>spec_l1Rising.ok h14 w ((fun _ hw=>hr_a0_3.sep hw) w hw))) ?_
   refine F.qn rfl (r_pick rfl rfl g6) (F.qn rfl (r_assign rfl) (F.nil ?_))
   cases hE_1
   refine Nrm.only [2] rfl ?_
   refine Nrm.pick [] rfl rfl ?_
   exact hj_1 _ _ ⟨rfl,rfl⟩
  ·replace hE_1:=if_ff g6 hE_1
   refine Tri.reg (l:=List.range 14) rfl ?_
   refine F.qn rfl (r_fieldAddr tf65_0 rfl) (F.qn rfl (r_loadA ta27 ti27 rfl rfl (fun w hw=>cells_1 (cs':=[.int .i64 a0_0,va0_1,va0_2]) (box_cells (i:=0) rfl w hw) rfl)) ?_)
   refine F.qcn rfl (q_callF (xs:=_) rfl ok108 rfl rfl (fun w hw=>spec_l2Maze.ok h5 w ((fun _ hw=>hr_a0_1.sep hw) w hw) ((fun _ hw=>hr_a0_2.sep hw) w hw))) ?_
   refine F.qn rfl (r_move rfl) ?_
   iterate 8 refine F.skf rfl g6 ?_
   refine F.qn rfl (r_pickf rfl rfl g6) (F.qn rfl (r_assign rfl) (F.nil ?_))
   cases hE_1
   refine Nrm.only [2] rfl ?_
   refine Nrm.pick [] rfl rfl ?_
   exact hj_1 _ _ ⟨rfl,rfl⟩


def spec_l4Id.f (k : Nat) (a0 : Int) (a1 : Int) : Option (Int) := some (w64 ((w64 (a0 * 64)) + a1))

theorem spec_l4Id.ok {k : Nat}  {a0 : Int} {a1 : Int} {r0 : Int} (h : spec_l4Id.f k a0 a1 = some r0) (w : World) :
  Calls Tryz.prog 130 ([.int .i64 a0,.int .i64 a1] : List Value).toArray w (fun e w'=>e = .returned (.int .i64 r0)∧Ext w w'):=by
 unfold spec_l4Id.f at h
 refine Calls.of_tri (N:=9) Tryz.func130 rfl rfl rfl (Sep.nil (M:=noM)) ?_
 refine Tri.seq (Tri.reg (l:=[0]) rfl ?_)
 refine F.qn rfl (r_assign rfl) (F.nil (Nrm.seq (Tri.seq (Tri.reg (l:=[0,1,2,3,4]) rfl ?_))))
 refine F.qn rfl (r_move rfl) (F.qn rfl (r_mul rfl rfl) (F.qn rfl (r_move rfl) (F.qn rfl (r_add rfl rfl) (F.qn rfl (r_assign rfl) (F.nil (Nrm.seq (Tri.ret ?_)))))))
 cases h
 exact Rtn.body (.tmp rfl .nil) (fun w hw=>⟨rfl,hw.ext⟩)


def spec_l1Has.l0 (k : Nat) (a0 : List Int) (a1 : Int) : Nat → Int → Option ((Unit) ⊕ (Bool))
 | 0,_=>none
 | n + 1,x5=>(if (decide (x5 < (a0.length : Int))) = true then (rdl a0 x5).bind fun t14=>(if (t14 == a1) = true then some (Sum.inr true) else spec_l1Has.l0 k a0 a1 n (w64 (x5 + 1))) else some (Sum.inl ()))

def spec_l1Has.f (k : Nat) (a0 : List Int) (a1 : Int) : Option (Bool) := (spec_l1Has.l0 k a0 a1 k 0).bind fun s => Lr s some fun _ => some false

theorem spec_l1Has.ok {k : Nat}  {a0 : List Int} {a1 : Int} {r0 : Bool} (h : spec_l1Has.f k a0 a1 = some r0) (w : World) {va0 : Value} (hr_a0 : Rd w va0 a0) :
  Calls Tryz.prog 149 ([va0,.int .i64 a1] : List Value).toArray w (fun e w'=>e = .returned (.bool r0)∧Ext w w'):=by
 unfold spec_l1Has.f at h
 have hl_va0:=hr_a0.len
 refine Calls.of_tri (N:=18) Tryz.func149 rfl rfl rfl (Sep.nil (M:=noM)) ?_
 refine Tri.seq (Tri.reg (l:=[0]) rfl ?_)
 refine F.qn rfl (r_assign rfl) (F.nil (Nrm.seq (Tri.seq (Tri.seq (Tri.reg (l:=[0]) rfl ?_)))))
 refine F.qn rfl (r_assign rfl) (F.nil (Nrm.seq ?_))
 obtain ⟨s0,hE_1,h⟩:=bind_some h
 refine Tri.block ?_
 refine Tri.only [0,1,5] rfl ?_
 refine Tri.pick [] rfl rfl ?_
 refine Tri.rounds (fun n e' C'=>∃ (x5' : Int),spec_l1Has.l0 k a0 a1 n x5' = some s0∧e' = [(0,va0),(1,.int .i64 a1),(5,.int .i64 x5')]∧C' = Sep w noM []) k ?_ ?_ ?_
 ·exact ⟨0,hE_1,rfl,rfl⟩
 ·rintro _ _ ⟨_,hE_1,_⟩
  rw [spec_l1Has.l0.eq_1] at hE_1; cases hE_1
 ·rintro n_1 _ _ ⟨x5,hE_1,rfl,rfl⟩ ih_1
  rw [spec_l1Has.l0.eq_2] at hE_1
  refine Tri.seq (Tri.seq (Tri.reg (l:=[0,1,2,3]) rfl ?_))
  refine F.qn rfl (r_move rfl) (F.qn rfl (r_move rfl) (F.qn rfl (r_len Tryz.underlying25 rfl hl_va0) (F.qn rfl (r_lss rfl rfl) (F.nil (Nrm.seq (Tri.cond (b:=decide (x5 < (a0.length : Int))) rfl (fun g_1=>?_) (fun g_1=>?_)))))))
  ·replace hE_1:=if_tt g_1 hE_1
   refine Tri.skip (Nrm.seq (Tri.seq (Tri.block ?_)))
   refine Tri.seq ?_
   obtain ⟨t14,h14,hE_1⟩:=bind_some hE_1
   refine Tri.reg (l:=[0,1,2,3,4,5]) rfl ?_
   refine F.qn rfl (r_move rfl) (F.qn rfl (r_move rfl) (F.qn rfl (r_indexAddrS Tryz.underlying25 ti3 rfl hl_va0 rfl (rdl_some h14).1 (rdl_some h14).2.1) (F.qn rfl (r_load ta3 rfl (fun w hw=>cell_0 (Rd.flat ((fun _ hw=>hr_a0.sep hw) w hw) (rdl_some h14).2.2) rfl)) (F.qn rfl (r_move rfl) (F.qn rfl (r_eql rfl rfl) (F.nil (Nrm.seq (Tri.cond (b:=t14 == a1) rfl (fun g_2=>?_) (fun g_2=>?_)))))))))
   ·replace hE_1:=if_tt g_2 hE_1
    refine Tri.seq (Tri.reg (l:=[0]) rfl ?_)
    refine F.qn rfl (r_assign rfl) (F.nil (Nrm.seq (Tri.ret ?_)))
    refine Rtn.block ?_
    refine Rtn.then ?_
    refine Rtn.then ?_
    refine Rtn.block ?_
    refine Rtn.then ?_
    cases hE_1
    replace h:=Lr_inr h
    cases h
    exact Rtn.body (.tmp rfl .nil) (fun w hw=>⟨rfl,hw.ext⟩)
   ·replace hE_1:=if_ff g_2 hE_1
    refine Tri.skip (Nrm.block ?_)
    refine Nrm.seq (Tri.reg (l:=[0,1,2]) rfl ?_)
    refine F.qn rfl (r_move rfl) (F.qn rfl (r_add rfl rfl) (F.qn rfl (r_assign rfl) (F.nil (Nrm.round ?_))))
    refine Rnd.only [0,1,5] rfl ?_
    refine Rnd.pick [] rfl rfl ?_
    exact ih_1 _ _ ⟨w64 (x5 + 1),hE_1,rfl,rfl⟩
  ·replace hE_1:=if_ff g_1 hE_1
   refine Tri.exit ?_
   refine Exi.then ?_
   refine Exi.then ?_
   refine Exi.same ?_
   cases hE_1
   replace h:=Lr_inl h
   refine Nrm.seq (Tri.seq (Tri.reg (l:=[0]) rfl ?_))
   refine F.qn rfl (r_assign rfl) (F.nil (Nrm.seq (Tri.ret ?_)))
   cases h
   exact Rtn.body (.tmp rfl .nil) (fun w hw=>⟨rfl,hw.ext⟩)


def spec_l2Has.f (k : Nat) (a0 : Int) (a1 : Int) : Option (Bool) := some ((band a0 a1) == a1)

theorem spec_l2Has.ok {k : Nat}  {a0 : Int} {a1 : Int} {r0 : Bool} (h : spec_l2Has.f k a0 a1 = some r0) (w : World) :
  Calls Tryz.prog 216 ([.int .i64 a0,.int .i64 a1] : List Value).toArray w (fun e w'=>e = .returned (.bool r0)∧Ext w w'):=by
 unfold spec_l2Has.f at h
 refine Calls.of_tri (N:=10) Tryz.func216 rfl rfl rfl (Sep.nil (M:=noM)) ?_
 refine Tri.seq (Tri.reg (l:=[0]) rfl ?_)
 refine F.qn rfl (r_assign rfl) (F.nil (Nrm.seq (Tri.seq (Tri.reg (l:=[0,1,2,3,4,5]) rfl ?_))))
 refine F.qn rfl (r_move rfl) (F.qn rfl (r_move rfl) (F.qn rfl (r_and rfl rfl) (F.qn rfl (r_move rfl) (F.qn rfl (r_eql rfl rfl) (F.qn rfl (r_assign rfl) (F.nil (Nrm.seq (Tri.ret ?_))))))))
 cases h
 exact Rtn.body (.tmp rfl .nil) (fun w hw=>⟨rfl,hw.ext⟩)


def spec_l11Goes.l0 (k : Nat) (a0_1 : List (Int × Int × Int)) (a0_3 : List Int) (a1 : Int) (a2 : Int) (a3 : Int) : Nat → Int → Option ((Unit) ⊕ (Bool))
 | 0,_=>none
 | n + 1,x9=>(if (decide (x9 < (a0_1.length : Int))) = true then (rdl a0_1 x9).bind fun t23=>((spec_l2Has.f k a3 t23.2.2).bind fun t28=>(if t28 = true then (if (t23.1 == a1) = true then (if (t23.2.1 == a2) = true then some true else (if (t23.1 == a2) = true then (if (t23.2.1 == a1) = true then (spec_l1Has.f k a0_3 x9).bind fun t55=>some (!t55) else some false) else some false)) else (if (t23.1 == a2) = true then (if (t23.2.1 == a1) = true then (spec_l1Has.f k a0_3 x9).bind fun t55=>some (!t55) else some false) else some false)) else some false)).bind fun y59=>(if y59 = true then some (Sum.inr true) else spec_l11Goes.l0 k a0_1 a0_3 a1 a2 a3 n (w64 (x9 + 1))) else some (Sum.inl ()))

def spec_l11Goes.f (k : Nat) (a0_0 : Int) (a0_1 : List (Int × Int × Int)) (a0_2 : List Int) (a0_3 : List Int) (a1 : Int) (a2 : Int) (a3 : Int) : Option (Bool) := (spec_l11Goes.l0 k a0_1 a0_3 a1 a2 a3 k 0).bind fun s => Lr s some fun _ => some false

theorem spec_l11Goes.ok {k : Nat}  {a0_0 : Int} {a0_1 : List (Int × Int × Int)} {a0_2 : List Int} {a0_3 : List Int} {a1 : Int} {a2 : Int} {a3 : Int} {r0 : Bool} (h : spec_l11Goes.f k a0_0 a0_1 a0_2 a0_3 a1 a2 a3 = some r0) (w : World) {va0_1 : Value} {va0_2 : Value} {va0_3 : Value} (hr_a0_1 : Rd w va0_1 a0_1) (hr_a0_2 : Rd w va0_2 a0_2) (hr_a0_3 : Rd w va0_3 a0_3) :
  Calls Tryz.prog 213 ([.agg ([.int .i64 a0_0,va0_1,va0_2,va0_3].toArray),.int .i64 a1,.int .i64 a2,.int .i64 a3] : List Value).toArray w (fun e w'=>e = .returned (.bool r0)∧Ext w w'):=by
 unfold spec_l11Goes.f at h
 have hl_va0_1:=hr_a0_1.len
 have hl_va0_2:=hr_a0_2.len
 have hl_va0_3:=hr_a0_3.len
 refine Calls.of_tri (N:=60) Tryz.func213 rfl rfl rfl (Sep.nil (M:=noM)) ?_
 refine Tri.seq (Tri.reg (l:=[0,1]) rfl ?_)
 refine F.mn rfl (m_boxG rfl rfl) ?_
 rintro _ _ ⟨b4_1,rfl,rfl⟩
 refine F.qn rfl (r_assign rfl) (F.nil (Nrm.seq (Tri.seq (Tri.seq (Tri.reg (l:=[0]) rfl ?_)))))
 refine F.qn rfl (r_assign rfl) (F.nil (Nrm.seq ?_))
 obtain ⟨s0,hE_1,h⟩:=bind_some h
 refine Tri.block ?_
 refine Tri.only [1,2,3,4,9] rfl ?_
 refine Tri.pick [0] rfl rfl ?_
 refine Tri.rounds (fun n e' C'=>∃ (x9' : Int),spec_l11Goes.l0 k a0_1 a0_3 a1 a2 a3 n x9' = some s0∧e' = [(1,.int .i64 a1),(2,.int .i64 a2),(3,.int .i64 a3),(4,.pointer (some ⟨b4_1,0,none⟩)),(9,.int .i64 x9')]∧C' = Sep w noM [R.box b4_1 65 [.int .i64 a0_0,va0_1,va0_2,va0_3]]) k ?_ ?_ ?_
 ·exact ⟨0,hE_1,rfl,rfl⟩
 ·rintro _ _ ⟨_,hE_1,_⟩
  rw [spec_l11Goes.l0.eq_1] at hE_1; cases hE_1
 ·rintro n_1 _ _ ⟨x9,hE_1,rfl,rfl⟩ ih_1
  rw [spec_l11Goes.l0.eq_2] at hE_1
  refine Tri.seq (Tri.seq (Tri.reg (l:=[0,1,2,3,4,5]) rfl ?_))
  refine F.qn rfl (r_move rfl) (F.qn rfl (r_fieldAddr tf65_0 rfl) (F.qn rfl (r_fieldAddr tf27_1 rfl) (F.qn rfl (r_load ta24 rfl (fun w hw=>cell_2 (box_cells (i:=0) rfl w hw) rfl)) (F.qn rfl (r_len Tryz.underlying24 rfl hl_va0_1) (F.qn rfl (r_lss rfl rfl) (F.nil (Nrm.seq (Tri.cond (b:=decide (x9 < (a0_1.length : Int))) rfl (fun g_1=>?_) (fun g_1=>?_)))))))))
  ·replace hE_1:=if_tt g_1 hE_1
   refine Tri.skip (Nrm.seq (Tri.seq (Tri.block ?_)))
   refine Tri.seq ?_
   obtain ⟨t23,h23,hE_1⟩:=bind_some hE_1
   refine Tri.reg (l:=[0,1,2,3,4,5,6,7]) rfl ?_
   refine F.qn rfl (r_fieldAddr tf65_0 rfl) (F.qn rfl (r_fieldAddr tf27_1 rfl) (F.qn rfl (r_load ta24 rfl (fun w hw=>cell_2 (box_cells (i:=0) rfl w hw) rfl)) (F.qn rfl (r_move rfl) (F.qn rfl (r_indexAddrS Tryz.underlying24 ti168 rfl hl_va0_1 rfl (rdl_some h23).1 (rdl_some h23).2.1) (F.qn rfl (r_loadA ta168 ti168 rfl rfl (fun w hw=>(Rd.flat ((fun _ hw=>hr_a0_1.sep hw) w hw) (rdl_some h23).2.2))) ?_)))))
   refine F.mn rfl (m_alloc ti168) ?_
   rintro _ _ ⟨b10_1,rfl,rfl⟩
   refine F.ef0 rfl rfl (wanted_none rfl) (d_storeG0 (i:=0) (cs2:=[.int .i64 t23.1,.int .i64 t23.2.1,.int .i64 t23.2.2]) ti168 rfl rfl rfl rfl rfl (Nat.le_of_ble_eq_true rfl) (lf_cons rfl (lf_cons rfl (lf_cons rfl lf_nil)))) ?_
   rintro _ _ ⟨rfl,rfl⟩
   refine F.nil (Nrm.seq (Tri.seq ?_))
   obtain ⟨y59,hE_2,hE_1⟩:=bind_some hE_1
   refine Tri.cut (fun e' C'=>e' = [(1,.int .i64 a1),(2,.int .i64 a2),(3,.int .i64 a3),(4,.pointer (some ⟨b4_1,0,none⟩)),(9,.int .i64 x9),(59,.bool y59)]∧C' = Sep w noM [R.box b4_1 65 [.int .i64 a0_0,va0_1,va0_2,va0_3]]) ?_ (fun hj_1=>?_)
   ·rintro _ _ ⟨rfl,rfl⟩
    refine Nrm.seq (Tri.cond (b:=y59) rfl (fun g_2=>?_) (fun g_2=>?_))
    ·replace hE_1:=if_tt g_2 hE_1
     refine Tri.seq (Tri.reg (l:=[0]) rfl ?_)
     refine F.qn rfl (r_assign rfl) (F.nil (Nrm.seq (Tri.ret ?_)))
     refine Rtn.block ?_
     refine Rtn.then ?_
     refine Rtn.then ?_
     refine Rtn.block ?_
     refine Rtn.then ?_
     cases hE_1
     replace h:=Lr_inr h
     cases h
     exact Rtn.body (.tmp rfl .nil) (fun w hw=>⟨rfl,hw.ext⟩)
    ·replace hE_1:=if_ff g_2 hE_1
     refine Tri.skip (Nrm.block ?_)
     refine Nrm.seq (Tri.reg (l:=[0,1,2]) rfl ?_)
     refine F.qn rfl (r_move rfl) (F.qn rfl (r_add rfl rfl) (F.qn rfl (r_assign rfl) (F.nil (Nrm.round ?_))))
     refine Rnd.only [1,2,3,4,9] rfl ?_
     refine Rnd.pick [0] rfl rfl ?_
     exact ih_1 _ _ ⟨w64 (x9 + 1),hE_1,rfl,rfl⟩
   ·obtain ⟨t28,h28,hE_2⟩:=bind_some hE_2
    rcases Bool.eq_false_or_eq_true (t28) with g29 | g29
    ·replace hE_2:=if_tt g29 hE_2
     rcases Bool.eq_false_or_eq_true (t23.1 == a1) with g34 | g34
     ·replace hE_2:=if_tt g34 hE_2
      rcases Bool.eq_false_or_eq_true (t23.2.1 == a2) with g40 | g40
      ·replace hE_2:=if_tt g40 hE_2
       refine Tri.reg (l:=List.range 35) rfl ?_
       refine F.qn rfl (r_move rfl) (F.qn rfl (r_indexAddrA Tryz.underlying168 ti3 rfl rfl (by decide) (by decide)) (F.qn rfl (r_load ta3 rfl (fun w hw=>cell_1 (box_cells (i:=0) rfl w hw) rfl)) ?_))
       refine F.qcn rfl (q_callF (xs:=_) rfl ok216 rfl rfl (fun w hw=>spec_l2Has.ok h28 w)) ?_
       refine F.qn rfl (r_move rfl) (F.qg rfl g29 (r_indexAddrA Tryz.underlying168 ti3 rfl rfl (by decide) (by decide)) (F.qg rfl g29 (r_load ta3 rfl (fun w hw=>cell_1 (box_cells (i:=0) rfl w hw) rfl)) (F.qg rfl g29 (r_move rfl) (F.qg rfl g29 (r_eql rfl rfl) (F.qg rfl g29 (r_move rfl) ?_)))))
       refine F.qg rfl g34 (r_indexAddrA Tryz.underlying168 ti3 rfl rfl (by decide) (by decide)) (F.qg rfl g34 (r_load ta3 rfl (fun w hw=>cell_1 (box_cells (i:=0) rfl w hw) rfl)) (F.qg rfl g34 (r_move rfl) (F.qg rfl g34 (r_eql rfl rfl) (F.qg rfl g29 (r_pick rfl rfl g34) (F.qg rfl g29 (r_move rfl) ?_)))))
       iterate 5 refine F.skf rfl g40 ?_
       iterate 4 refine F.sk rfl rfl rfl (wanted_undef rfl rfl rfl) ?_
       refine F.skf rfl g40 (F.skf rfl g40 ?_)
       iterate 5 refine F.sk rfl rfl rfl (wanted_undef rfl rfl rfl) ?_
       refine F.skf rfl g40 (F.qg rfl g29 (r_pick rfl rfl g40) (F.qn rfl (r_pick rfl rfl g29) (F.nil ?_)))
       cases hE_2
       refine Nrm.only [1,2,3,4,9,59] rfl ?_
       refine Nrm.pick [1] rfl rfl ?_
       exact hj_1 _ _ ⟨rfl,rfl⟩
      ·replace hE_2:=if_ff g40 hE_2
       rcases Bool.eq_false_or_eq_true (t23.1 == a2) with g45 | g45
       ·replace hE_2:=if_tt g45 hE_2
        rcases Bool.eq_false_or_eq_true (t23.2.1 == a1) with g51 | g51
        ·replace hE_2:=if_tt g51 hE_2
         obtain ⟨t55,h55,hE_2⟩:=bind_some hE_2
         refine Tri.reg (l:=List.range 35) rfl ?_
         refine F.qn rfl (r_move rfl) (F.qn rfl (r_indexAddrA Tryz.underlying168 ti3 rfl rfl (by decide) (by decide)) (F.qn rfl (r_load ta3 rfl (fun w hw=>cell_1 (box_cells (i:=0) rfl w hw) rfl)) ?_))
         refine F.qcn rfl (q_callF (xs:=_) rfl ok216 rfl rfl (fun w hw=>spec_l2Has.ok h28 w)) ?_
         refine F.qn rfl (r_move rfl) (F.qg rfl g29 (r_indexAddrA Tryz.underlying168 ti3 rfl rfl (by decide) (by decide)) ?_)
         refine F.qg rfl g29 (r_load ta3 rfl (fun w hw=>cell_1 (box_cells (i:=0) rfl w hw) rfl)) (F.qg rfl g29 (r_move rfl) (F.qg rfl g29 (r_eql rfl rfl) (F.qg rfl g29 (r_move rfl) (F.qg rfl g34 (r_indexAddrA Tryz.underlying168 ti3 rfl rfl (by decide) (by decide)) (F.qg rfl g34 (r_load ta3 rfl (fun w hw=>cell_1 (box_cells (i:=0) rfl w hw) rfl)) ?_)))))
         refine F.qg rfl g34 (r_move rfl) (F.qg rfl g34 (r_eql rfl rfl) (F.qg rfl g29 (r_pick rfl rfl g34) (F.qg rfl g29 (r_move rfl) (F.qg rfl g40 (r_indexAddrA Tryz.underlying168 ti3 rfl rfl (by decide) (by decide)) (F.qg rfl g40 (r_load ta3 rfl (fun w hw=>cell_1 (box_cells (i:=0) rfl w hw) rfl)) ?_)))))
         refine F.qg rfl g40 (r_move rfl) (F.qg rfl g40 (r_eql rfl rfl) (F.qg rfl g40 (r_move rfl) (F.qg rfl g45 (r_indexAddrA Tryz.underlying168 ti3 rfl rfl (by decide) (by decide)) (F.qg rfl g45 (r_load ta3 rfl (fun w hw=>cell_1 (box_cells (i:=0) rfl w hw) rfl)) (F.qg rfl g45 (r_move rfl) ?_)))))
         refine F.qg rfl g45 (r_eql rfl rfl) (F.qg rfl g40 (r_pick rfl rfl g45) (F.qg rfl g40 (r_move rfl) (F.qg rfl g51 (r_fieldAddr tf65_1 rfl) (F.qg rfl g51 (r_load ta25 rfl (fun w hw=>cell_1 (box_cells (i:=1) rfl w hw) rfl)) (F.qg rfl g51 (r_move rfl) ?_)))))
         refine F.qc rfl rfl rfl (wg rfl rfl rfl g51) (q_callF (xs:=_) rfl ok149 rfl rfl (fun w hw=>spec_l1Has.ok h55 w ((fun _ hw=>hr_a0_3.sep hw) w hw))) ?_
         refine F.qg rfl g51 (r_not rfl) (F.qg rfl g40 (r_pick rfl rfl g51) (F.qg rfl g29 (r_pickf rfl rfl g40) (F.qn rfl (r_pick rfl rfl g29) (F.nil ?_))))
         cases hE_2
         refine Nrm.only [1,2,3,4,9,59] rfl ?_
         refine Nrm.pick [1] rfl rfl ?_
         exact hj_1 _ _ ⟨rfl,rfl⟩
        ·replace hE_2:=if_ff g51 hE_2
         refine Tri.reg (l:=List.range 35) rfl ?_
         refine F.qn rfl (r_move rfl) (F.qn rfl (r_indexAddrA Tryz.underlying168 ti3 rfl rfl (by decide) (by decide)) (F.qn rfl (r_load ta3 rfl (fun w hw=>cell_1 (box_cells (i:=0) rfl w hw) rfl)) ?_))
         refine F.qcn rfl (q_callF (xs:=_) rfl ok216 rfl rfl (fun w hw=>spec_l2Has.ok h28 w)) ?_
         refine F.qn rfl (r_move rfl) (F.qg rfl g29 (r_indexAddrA Tryz.underlying168 ti3 rfl rfl (by decide) (by decide)) (F.qg rfl g29 (r_load ta3 rfl (fun w hw=>cell_1 (box_cells (i:=0) rfl w hw) rfl)) (F.qg rfl g29 (r_move rfl) (F.qg rfl g29 (r_eql rfl rfl) ?_))))
         refine F.qg rfl g29 (r_move rfl) (F.qg rfl g34 (r_indexAddrA Tryz.underlying168 ti3 rfl rfl (by decide) (by decide)) (F.qg rfl g34 (r_load ta3 rfl (fun w hw=>cell_1 (box_cells (i:=0) rfl w hw) rfl)) (F.qg rfl g34 (r_move rfl) (F.qg rfl g34 (r_eql rfl rfl) (F.qg rfl g29 (r_pick rfl rfl g34) ?_)))))
         refine F.qg rfl g29 (r_move rfl) (F.qg rfl g40 (r_indexAddrA Tryz.underlying168 ti3 rfl rfl (by decide) (by decide)) (F.qg rfl g40 (r_load ta3 rfl (fun w hw=>cell_1 (box_cells (i:=0) rfl w hw) rfl)) (F.qg rfl g40 (r_move rfl) (F.qg rfl g40 (r_eql rfl rfl) (F.qg rfl g40 (r_move rfl) ?_)))))
         refine F.qg rfl g45 (r_indexAddrA Tryz.underlying168 ti3 rfl rfl (by decide) (by decide)) (F.qg rfl g45 (r_load ta3 rfl (fun w hw=>cell_1 (box_cells (i:=0) rfl w hw) rfl)) (F.qg rfl g45 (r_move rfl) (F.qg rfl g45 (r_eql rfl rfl) (F.qg rfl g40 (r_pick rfl rfl g45) (F.qg rfl g40 (r_move rfl) ?_)))))
         iterate 5 refine F.skf rfl g51 ?_
         refine F.qg rfl g40 (r_pickf rfl rfl g51) (F.qg rfl g29 (r_pickf rfl rfl g40) (F.qn rfl (r_pick rfl rfl g29) (F.nil ?_)))
         cases hE_2
         refine Nrm.only [1,2,3,4,9,59] rfl ?_
         refine Nrm.pick [1] rfl rfl ?_
         exact hj_1 _ _ ⟨rfl,rfl⟩
       ·replace hE_2:=if_ff g45 hE_2
        refine Tri.reg (l:=List.range 35) rfl ?_
        refine F.qn rfl (r_move rfl) (F.qn rfl (r_indexAddrA Tryz.underlying168 ti3 rfl rfl (by decide) (by decide)) (F.qn rfl (r_load ta3 rfl (fun w hw=>cell_1 (box_cells (i:=0) rfl w hw) rfl)) ?_))
        refine F.qcn rfl (q_callF (xs:=_) rfl ok216 rfl rfl (fun w hw=>spec_l2Has.ok h28 w)) ?_
        refine F.qn rfl (r_move rfl) (F.qg rfl g29 (r_indexAddrA Tryz.underlying168 ti3 rfl rfl (by decide) (by decide)) (F.qg rfl g29 (r_load ta3 rfl (fun w hw=>cell_1 (box_cells (i:=0) rfl w hw) rfl)) (F.qg rfl g29 (r_move rfl) (F.qg rfl g29 (r_eql rfl rfl) ?_))))
        refine F.qg rfl g29 (r_move rfl) (F.qg rfl g34 (r_indexAddrA Tryz.underlying168 ti3 rfl rfl (by decide) (by decide)) (F.qg rfl g34 (r_load ta3 rfl (fun w hw=>cell_1 (box_cells (i:=0) rfl w hw) rfl)) (F.qg rfl g34 (r_move rfl) (F.qg rfl g34 (r_eql rfl rfl) (F.qg rfl g29 (r_pick rfl rfl g34) ?_)))))
        refine F.qg rfl g29 (r_move rfl) (F.qg rfl g40 (r_indexAddrA Tryz.underlying168 ti3 rfl rfl (by decide) (by decide)) (F.qg rfl g40 (r_load ta3 rfl (fun w hw=>cell_1 (box_cells (i:=0) rfl w hw) rfl)) (F.qg rfl g40 (r_move rfl) (F.qg rfl g40 (r_eql rfl rfl) (F.qg rfl g40 (r_move rfl) ?_)))))
        iterate 4 refine F.skf rfl g45 ?_
        refine F.qg rfl g40 (r_pickf rfl rfl g45) (F.qg rfl g40 (r_move rfl) ?_)
        iterate 5 refine F.skf rfl rfl ?_
        refine F.qg rfl g40 (r_pickf rfl rfl rfl) (F.qg rfl g29 (r_pickf rfl rfl g40) (F.qn rfl (r_pick rfl rfl g29) (F.nil ?_)))
        cases hE_2
        refine Nrm.only [1,2,3,4,9,59] rfl ?_
        refine Nrm.pick [1] rfl rfl ?_
        exact hj_1 _ _ ⟨rfl,rfl⟩
     ·replace hE_2:=if_ff g34 hE_2
      rcases Bool.eq_false_or_eq_true (t23.1 == a2) with g45 | g45
      ·replace hE_2:=if_tt g45 hE_2
       rcases Bool.eq_false_or_eq_true (t23.2.1 == a1) with g51 | g51
       ·replace hE_2:=if_tt g51 hE_2
        obtain ⟨t55,h55,hE_2⟩:=bind_some hE_2
        refine Tri.reg (l:=List.range 35) rfl ?_
        refine F.qn rfl (r_move rfl) (F.qn rfl (r_indexAddrA Tryz.underlying168 ti3 rfl rfl (by decide) (by decide)) (F.qn rfl (r_load ta3 rfl (fun w hw=>cell_1 (box_cells (i:=0) rfl w hw) rfl)) ?_))
        refine F.qcn rfl (q_callF (xs:=_) rfl ok216 rfl rfl (fun w hw=>spec_l2Has.ok h28 w)) ?_
        refine F.qn rfl (r_move rfl) (F.qg rfl g29 (r_indexAddrA Tryz.underlying168 ti3 rfl rfl (by decide) (by decide)) (F.qg rfl g29 (r_load ta3 rfl (fun w hw=>cell_1 (box_cells (i:=0) rfl w hw) rfl)) (F.qg rfl g29 (r_move rfl) (F.qg rfl g29 (r_eql rfl rfl) (F.qg rfl g29 (r_move rfl) ?_)))))
        iterate 4 refine F.skf rfl g34 ?_
        refine F.qg rfl g29 (r_pickf rfl rfl g34) (F.qg rfl g29 (r_move rfl) (F.qg rfl rfl (r_indexAddrA Tryz.underlying168 ti3 rfl rfl (by decide) (by decide)) (F.qg rfl rfl (r_load ta3 rfl (fun w hw=>cell_1 (box_cells (i:=0) rfl w hw) rfl)) ?_)))
        refine F.qg rfl rfl (r_move rfl) (F.qg rfl rfl (r_eql rfl rfl) (F.qg rfl rfl (r_move rfl) (F.qg rfl g45 (r_indexAddrA Tryz.underlying168 ti3 rfl rfl (by decide) (by decide)) (F.qg rfl g45 (r_load ta3 rfl (fun w hw=>cell_1 (box_cells (i:=0) rfl w hw) rfl)) (F.qg rfl g45 (r_move rfl) ?_)))))
        refine F.qg rfl g45 (r_eql rfl rfl) (F.qg rfl rfl (r_pick rfl rfl g45) (F.qg rfl rfl (r_move rfl) (F.qg rfl g51 (r_fieldAddr tf65_1 rfl) (F.qg rfl g51 (r_load ta25 rfl (fun w hw=>cell_1 (box_cells (i:=1) rfl w hw) rfl)) (F.qg rfl g51 (r_move rfl) ?_)))))
        refine F.qc rfl rfl rfl (wg rfl rfl rfl g51) (q_callF (xs:=_) rfl ok149 rfl rfl (fun w hw=>spec_l1Has.ok h55 w ((fun _ hw=>hr_a0_3.sep hw) w hw))) ?_
        refine F.qg rfl g51 (r_not rfl) (F.qg rfl rfl (r_pick rfl rfl g51) (F.qg rfl g29 (r_pickf rfl rfl rfl) (F.qn rfl (r_pick rfl rfl g29) (F.nil ?_))))
        cases hE_2
        refine Nrm.only [1,2,3,4,9,59] rfl ?_
        refine Nrm.pick [1] rfl rfl ?_
        exact hj_1 _ _ ⟨rfl,rfl⟩
       ·replace hE_2:=if_ff g51 hE_2
        refine Tri.reg (l:=List.range 35) rfl ?_
        refine F.qn rfl (r_move rfl) (F.qn rfl (r_indexAddrA Tryz.underlying168 ti3 rfl rfl (by decide) (by decide)) (F.qn rfl (r_load ta3 rfl (fun w hw=>cell_1 (box_cells (i:=0) rfl w hw) rfl)) ?_))
        refine F.qcn rfl (q_callF (xs:=_) rfl ok216 rfl rfl (fun w hw=>spec_l2Has.ok h28 w)) ?_
        refine F.qn rfl (r_move rfl) (F.qg rfl g29 (r_indexAddrA Tryz.underlying168 ti3 rfl rfl (by decide) (by decide)) (F.qg rfl g29 (r_load ta3 rfl (fun w hw=>cell_1 (box_cells (i:=0) rfl w hw) rfl)) (F.qg rfl g29 (r_move rfl) (F.qg rfl g29 (r_eql rfl rfl) (F.qg rfl g29 (r_move rfl) ?_)))))
        iterate 4 refine F.skf rfl g34 ?_
        refine F.qg rfl g29 (r_pickf rfl rfl g34) ?_
        refine F.qg rfl g29 (r_move rfl) (F.qg rfl rfl (r_indexAddrA Tryz.underlying168 ti3 rfl rfl (by decide) (by decide)) (F.qg rfl rfl (r_load ta3 rfl (fun w hw=>cell_1 (box_cells (i:=0) rfl w hw) rfl)) (F.qg rfl rfl (r_move rfl) (F.qg rfl rfl (r_eql rfl rfl) (F.qg rfl rfl (r_move rfl) ?_)))))
        refine F.qg rfl g45 (r_indexAddrA Tryz.underlying168 ti3 rfl rfl (by decide) (by decide)) (F.qg rfl g45 (r_load ta3 rfl (fun w hw=>cell_1 (box_cells (i:=0) rfl w hw) rfl)) (F.qg rfl g45 (r_move rfl) (F.qg rfl g45 (r_eql rfl rfl) (F.qg rfl rfl (r_pick rfl rfl g45) (F.qg rfl rfl (r_move rfl) ?_)))))
        iterate 5 refine F.skf rfl g51 ?_
        refine F.qg rfl rfl (r_pickf rfl rfl g51) (F.qg rfl g29 (r_pickf rfl rfl rfl) (F.qn rfl (r_pick rfl rfl g29) (F.nil ?_)))
        cases hE_2
        refine Nrm.only [1,2,3,4,9,59] rfl ?_
        refine Nrm.pick [1] rfl rfl ?_
        exact hj_1 _ _ ⟨rfl,rfl⟩
      ·replace hE_2:=if_ff g45 hE_2
       refine Tri.reg (l:=List.range 35) rfl ?_
       refine F.qn rfl (r_move rfl) (F.qn rfl (r_indexAddrA Tryz.underlying168 ti3 rfl rfl (by decide) (by decide)) (F.qn rfl (r_load ta3 rfl (fun w hw=>cell_1 (box_cells (i:=0) rfl w hw) rfl)) ?_))
       refine F.qcn rfl (q_callF (xs:=_) rfl ok216 rfl rfl (fun w hw=>spec_l2Has.ok h28 w)) ?_
       refine F.qn rfl (r_move rfl) (F.qg rfl g29 (r_indexAddrA Tryz.underlying168 ti3 rfl rfl (by decide) (by decide)) (F.qg rfl g29 (r_load ta3 rfl (fun w hw=>cell_1 (box_cells (i:=0) rfl w hw) rfl)) (F.qg rfl g29 (r_move rfl) (F.qg rfl g29 (r_eql rfl rfl) (F.qg rfl g29 (r_move rfl) ?_)))))
       iterate 4 refine F.skf rfl g34 ?_
       refine F.qg rfl g29 (r_pickf rfl rfl g34) ?_
       refine F.qg rfl g29 (r_move rfl) (F.qg rfl rfl (r_indexAddrA Tryz.underlying168 ti3 rfl rfl (by decide) (by decide)) (F.qg rfl rfl (r_load ta3 rfl (fun w hw=>cell_1 (box_cells (i:=0) rfl w hw) rfl)) (F.qg rfl rfl (r_move rfl) (F.qg rfl rfl (r_eql rfl rfl) (F.qg rfl rfl (r_move rfl) ?_)))))
       iterate 4 refine F.skf rfl g45 ?_
       refine F.qg rfl rfl (r_pickf rfl rfl g45) (F.qg rfl rfl (r_move rfl) ?_)
       iterate 5 refine F.skf rfl rfl ?_
       refine F.qg rfl rfl (r_pickf rfl rfl rfl) (F.qg rfl g29 (r_pickf rfl rfl rfl) (F.qn rfl (r_pick rfl rfl g29) (F.nil ?_)))
       cases hE_2
       refine Nrm.only [1,2,3,4,9,59] rfl ?_
       refine Nrm.pick [1] rfl rfl ?_
       exact hj_1 _ _ ⟨rfl,rfl⟩
    ·replace hE_2:=if_ff g29 hE_2
     refine Tri.reg (l:=List.range 35) rfl ?_
     refine F.qn rfl (r_move rfl) (F.qn rfl (r_indexAddrA Tryz.underlying168 ti3 rfl rfl (by decide) (by decide)) (F.qn rfl (r_load ta3 rfl (fun w hw=>cell_1 (box_cells (i:=0) rfl w hw) rfl)) ?_))
     refine F.qcn rfl (q_callF (xs:=_) rfl ok216 rfl rfl (fun w hw=>spec_l2Has.ok h28 w)) ?_
     refine F.qn rfl (r_move rfl) ?_
     iterate 5 refine F.skf rfl g29 ?_
     iterate 4 refine F.sk rfl rfl rfl (wanted_undef rfl rfl rfl) ?_
     refine F.skf rfl g29 (F.skf rfl g29 ?_)
     iterate 17 refine F.sk rfl rfl rfl (wanted_undef rfl rfl rfl) ?_
     refine F.skf rfl g29 (F.qn rfl (r_pickf rfl rfl g29) (F.nil ?_))
     cases hE_2
     refine Nrm.only [1,2,3,4,9,59] rfl ?_
     refine Nrm.pick [1] rfl rfl ?_
     exact hj_1 _ _ ⟨rfl,rfl⟩
  ·replace hE_1:=if_ff g_1 hE_1
   refine Tri.exit ?_
   refine Exi.then ?_
   refine Exi.then ?_
   refine Exi.same ?_
   cases hE_1
   replace h:=Lr_inl h
   refine Nrm.seq (Tri.seq (Tri.reg (l:=[0]) rfl ?_))
   refine F.qn rfl (r_assign rfl) (F.nil (Nrm.seq (Tri.ret ?_)))
   cases h
   exact Rtn.body (.tmp rfl .nil) (fun w hw=>⟨rfl,hw.ext⟩)


def spec_l11Step.l0 (k : Nat) (a0_0 : Int) (a0_1 : List (Int × Int × Int)) (a0_2 : List Int) (a0_3 : List Int) (a1 : Int) (a2 : Int) : Nat → (List (Int)) → Int → Option ((List (Int)))
 | 0,_,_=>none
 | n + 1,x7,x8=>(if (decide (x8 < a0_0)) = true then (spec_l11Goes.f k a0_0 a0_1 a0_2 a0_3 a1 x8 a2).bind fun t21=>((if t21 = true then (rdl a0_2 x8).bind fun t29=>(spec_l4Id.f k x8 (bor a2 t29)).bind fun t32=>if (x7 ++ ([t32] : List (Int))).length < 1099511627776 then some (x7 ++ ([t32] : List (Int))) else none else some x7)).bind fun y7=>spec_l11Step.l0 k a0_0 a0_1 a0_2 a0_3 a1 a2 n y7 (w64 (x8 + 1)) else some x7)

def spec_l11Step.f (k : Nat) (a0_0 : Int) (a0_1 : List (Int × Int × Int)) (a0_2 : List Int) (a0_3 : List Int) (a1 : Int) (a2 : Int) : Option ((List Int)) := (spec_l11Step.l0 k a0_0 a0_1 a0_2 a0_3 a1 a2 k ([] : List (Int)) 0).bind fun x7 => some x7

theorem spec_l11Step.ok {k : Nat}  {a0_0 : Int} {a0_1 : List (Int × Int × Int)} {a0_2 : List Int} {a0_3 : List Int} {a1 : Int} {a2 : Int} {r0 : List Int} (h : spec_l11Step.f k a0_0 a0_1 a0_2 a0_3 a1 a2 = some r0) (w : World) {va0_1 : Value} {va0_2 : Value} {va0_3 : Value} (hr_a0_1 : Rd w va0_1 a0_1) (hr_a0_2 : Rd w va0_2 a0_2) (hr_a0_3 : Rd w va0_3 a0_3) :
  Calls Tryz.prog 132 ([.agg ([.int .i64 a0_0,va0_1,va0_2,va0_3].toArray),.int .i64 a1,.int .i64 a2] : List Value).toArray w (Post (fun u ns=>∃ (Sr0 : Nat → Prop),SlLen u r0.length∧ns = [R.sl Sr0 u r0]) w):=by
 unfold spec_l11Step.f at h
 have hl_va0_1:=hr_a0_1.len
 have hl_va0_2:=hr_a0_2.len
 have hl_va0_3:=hr_a0_3.len
 refine Calls.of_tri (N:=36) Tryz.func132 rfl rfl rfl (Sep.nil (M:=noM)) ?_
 refine Tri.seq (Tri.reg (l:=[0,1]) rfl ?_)
 refine F.mn rfl (m_boxG rfl rfl) ?_
 rintro _ _ ⟨b3_1,rfl,rfl⟩
 refine F.qn rfl (r_assign rfl) (F.nil (Nrm.seq (Tri.seq (Tri.reg (l:=[0,1]) rfl ?_))))
 refine F.mn rfl (m_build0 (α:=Int) Tryz.underlying25 ti3) ?_
 rintro v9_1 _ ⟨S9_1,hl_v9_1,rfl⟩
 refine F.qn rfl (r_assign rfl) (F.nil (Nrm.seq (Tri.seq (Tri.seq (Tri.reg (l:=[0]) rfl ?_)))))
 refine F.qn rfl (r_assign rfl) (F.nil (Nrm.seq ?_))
 obtain ⟨x7,hE_1,h⟩:=bind_some h
 refine Tri.block ?_
 refine Tri.only [1,2,3,7,8] rfl ?_
 refine Tri.pick [1,0] rfl rfl ?_
 refine Tri.rounds (fun n e' C'=>∃ (x7' : List (Int)) (x8' : Int) (w7 : Value) (T7 : Nat → Prop),spec_l11Step.l0 k a0_0 a0_1 a0_2 a0_3 a1 a2 n x7' x8' = some x7∧SlLen w7 (x7').length∧e' = [(1,.int .i64 a1),(2,.int .i64 a2),(3,.pointer (some ⟨b3_1,0,none⟩)),(7,w7),(8,.int .i64 x8')]∧C' = Sep w noM [R.box b3_1 65 [.int .i64 a0_0,va0_1,va0_2,va0_3],R.sl T7 w7 (x7' : List (Int))]) k ?_ ?_ ?_
 ·exact ⟨([] : List (Int)),0,v9_1,S9_1,hE_1,hl_v9_1,rfl,rfl⟩
 ·rintro _ _ ⟨_,_,_,_,hE_1,_⟩
  rw [spec_l11Step.l0.eq_1] at hE_1; cases hE_1
 ·rintro n_1 _ _ ⟨x7,x8,w7,T7,hE_1,hl_w7,rfl,rfl⟩ ih_1
  rw [spec_l11Step.l0.eq_2] at hE_1
  refine Tri.seq (Tri.seq (Tri.reg (l:=[0,1,2,3,4]) rfl ?_))
  refine F.qn rfl (r_move rfl) (F.qn rfl (r_fieldAddr tf65_0 rfl) (F.qn rfl (r_fieldAddr tf27_0 rfl) (F.qn rfl (r_load ta3 rfl (fun w hw=>cell_2 (box_cells (i:=0) rfl w hw) rfl)) (F.qn rfl (r_lss rfl rfl) (F.nil (Nrm.seq (Tri.cond (b:=decide (x8 < a0_0)) rfl (fun g_1=>?_) (fun g_1=>?_))))))))
  ·replace hE_1:=if_tt g_1 hE_1
   refine Tri.skip (Nrm.seq (Tri.seq (Tri.block ?_)))
   refine Tri.seq ?_
   obtain ⟨t21,h21,hE_1⟩:=bind_some hE_1
   refine Tri.reg (l:=[0,1,2,3,4]) rfl ?_
   refine F.qn rfl (r_loadA ta65 ti65 rfl rfl (fun w hw=>(box_cells (i:=0) rfl w hw))) ?_
   iterate 3 refine F.qn rfl (r_move rfl) ?_
   refine F.qcn rfl (q_callF (xs:=_) rfl ok213 rfl rfl (fun w hw=>spec_l11Goes.ok h21 w ((fun _ hw=>hr_a0_1.sep hw) w hw) ((fun _ hw=>hr_a0_2.sep hw) w hw) ((fun _ hw=>hr_a0_3.sep hw) w hw))) ?_
   refine F.nil (Nrm.seq ?_)
   obtain ⟨y7,hE_2,hE_1⟩:=bind_some hE_1
   refine Tri.cut (fun e' C'=>∃ (v7_1 : Value) (S7_1 : Nat → Prop),SlLen v7_1 (y7).length∧e' = [(1,.int .i64 a1),(2,.int .i64 a2),(3,.pointer (some ⟨b3_1,0,none⟩)),(7,v7_1),(8,.int .i64 x8)]∧C' = Sep w noM [R.box b3_1 65 [.int .i64 a0_0,va0_1,va0_2,va0_3],R.sl S7_1 v7_1 (y7 : List (Int))]) ?_ (fun hj_1=>?_)
   ·rintro _ _ ⟨v7_1,S7_1,hl_v7_1,rfl,rfl⟩
    refine Nrm.block ?_
    refine Nrm.seq (Tri.reg (l:=[0,1,2]) rfl ?_)
    refine F.qn rfl (r_move rfl) (F.qn rfl (r_add rfl rfl) (F.qn rfl (r_assign rfl) (F.nil (Nrm.round ?_))))
    refine Rnd.only [1,2,3,7,8] rfl ?_
    refine Rnd.pick [0,1] rfl rfl ?_
    exact ih_1 _ _ ⟨y7,w64 (x8 + 1),v7_1,S7_1,hE_1,hl_v7_1,rfl,rfl⟩
   ·refine Tri.cond (b:=t21) rfl (fun g_2=>?_) (fun g_2=>?_)
    ·replace hE_2:=if_tt g_2 hE_2
     obtain ⟨t29,h29,hE_2⟩:=bind_some hE_2
     obtain ⟨t32,h32,hE_2⟩:=bind_some hE_2
     obtain ⟨hs34,hE_2⟩:=ck hE_2
     refine Tri.reg (l:=List.range 14) rfl ?_
     iterate 3 refine F.qn rfl (r_move rfl) ?_
     refine F.qn rfl (r_fieldAddr tf65_0 rfl) ?_
     refine F.qn rfl (r_fieldAddr tf27_2 rfl) (F.qn rfl (r_load ta25 rfl (fun w hw=>cell_2 (box_cells (i:=0) rfl w hw) rfl)) (F.qn rfl (r_move rfl) (F.qn rfl (r_indexAddrS Tryz.underlying25 ti3 rfl hl_va0_2 rfl (rdl_some h29).1 (rdl_some h29).2.1) (F.qn rfl (r_load ta3 rfl (fun w hw=>cell_0 (Rd.flat ((fun _ hw=>hr_a0_2.sep hw) w hw) (rdl_some h29).2.2) rfl)) (F.qn rfl (r_or rfl rfl) ?_)))))
     refine F.qcn rfl (q_callF (xs:=_) rfl ok130 rfl rfl (fun w hw=>spec_l4Id.ok h32 w)) ?_
     refine F.mn rfl (m_buildF (l:=([t32] : List (Int))) Tryz.underlying25 ti3 rfl rfl rfl rfl rfl) ?_
     rintro v33_1 _ ⟨S33_1,hl_v33_1,rfl⟩
     refine F.efn rfl (d_append (i:=2) Tryz.underlying25 Tryz.underlying25 ti3 rfl (by decide) rfl rfl rfl (rd_sl (i:=0) rfl) hs34) ?_
     rintro v34_1 _ ⟨S34_1,rfl,hl_v34_1⟩
     refine F.qn rfl (r_assign rfl) (F.nil ?_)
     cases hE_2
     refine Nrm.only [1,2,3,7,8] rfl ?_
     refine Nrm.pick [1,2] rfl rfl ?_
     exact hj_1 _ _ ⟨v34_1,S34_1,hl_v34_1,rfl,rfl⟩
    ·replace hE_2:=if_ff g_2 hE_2
     refine Tri.skip ?_
     cases hE_2
     refine Nrm.only [1,2,3,7,8] rfl ?_
     refine Nrm.pick [0,1] rfl rfl ?_
     exact hj_1 _ _ ⟨w7,T7,hl_w7,rfl,rfl⟩
  ·replace hE_1:=if_ff g_1 hE_1
   refine Tri.exit ?_
   refine Exi.then ?_
   refine Exi.then ?_
   refine Exi.same ?_
   cases hE_1
   refine Nrm.seq (Tri.seq (Tri.reg (l:=[0,1]) rfl ?_))
   refine F.qn rfl (r_move rfl) (F.qn rfl (r_assign rfl) (F.nil (Nrm.seq (Tri.ret ?_))))
   cases h
   exact Rtn.body (.tmp rfl .nil) (fun w hw=>⟨_,_,rfl,⟨T7,hl_w7,rfl⟩,Sep.pick (is:=[1]) rfl rfl hw⟩)


def spec_l11Good.l2 (k : Nat) (x3r : List (Bool)) (t40 : List Int) : Nat → Bool → Int → Option (Bool)
 | 0,_,_=>none
 | n + 1,x8,x10=>(if (decide (x10 < (t40.length : Int))) = true then ((if x8 = true then some true else (rdl t40 x10).bind fun t52=>(rdl x3r t52).bind fun t54=>some t54)).bind fun y8=>spec_l11Good.l2 k x3r t40 n y8 (w64 (x10 + 1)) else some x8)

def spec_l11Good.l1 (k : Nat) (a0_0 : Int) (a0_1 : List (Int × Int × Int)) (a0_2 : List Int) (a0_3 : List Int) : Nat → (List (Bool)) → Bool → Int → Option ((List (Bool)) × Bool)
 | 0,_,_,_=>none
 | n + 1,x3r,x4r,x5=>(if (decide (x5 < (x3r.length : Int))) = true then ((rdl x3r x5).bind fun t25=>(if t25 = true then some (x3r,x4r) else (spec_l11Step.f k a0_0 a0_1 a0_2 a0_3 (quo x5 64) (rem x5 64)).bind fun t40=>(spec_l11Good.l2 k x3r t40 k ((quo x5 64) == (w64 (a0_0 - 1))) 0).bind fun x8=>((if x8 = true then (rdl x3r x5).bind fun t60=>some (x3r.set x5.toNat true,true) else some (x3r,x4r))).bind fun (y3,y4)=>some (y3,y4))).bind fun (y3,y4)=>spec_l11Good.l1 k a0_0 a0_1 a0_2 a0_3 n y3 y4 (w64 (x5 + 1)) else some (x3r,x4r))

def spec_l11Good.l0 (k : Nat) (a0_0 : Int) (a0_1 : List (Int × Int × Int)) (a0_2 : List Int) (a0_3 : List Int) : Nat → (List (Bool)) → Bool → Option ((List (Bool)))
 | 0,_,_=>none
 | n + 1,x3,x4=>(if x4 = true then (spec_l11Good.l1 k a0_0 a0_1 a0_2 a0_3 k x3 false 0).bind fun (x3r,x4r)=>spec_l11Good.l0 k a0_0 a0_1 a0_2 a0_3 n x3r x4r else some x3)

def spec_l11Good.f (k : Nat) (a0_0 : Int) (a0_1 : List (Int × Int × Int)) (a0_2 : List Int) (a0_3 : List Int) : Option ((List Bool)) := if 0 ≤ w64 (a0_0 * 64) ∧ w64 (a0_0 * 64) < 1099511627776 then (spec_l11Good.l0 k a0_0 a0_1 a0_2 a0_3 k (List.replicate (w64 (a0_0 * 64)).toNat (false : Bool)) true).bind fun x3 => some x3 else none

theorem spec_l11Good.ok {k : Nat}  {a0_0 : Int} {a0_1 : List (Int × Int × Int)} {a0_2 : List Int} {a0_3 : List Int} {r0 : List Bool} (h : spec_l11Good.f k a0_0 a0_1 a0_2 a0_3 = some r0) (w : World) {va0_1 : Value} {va0_2 : Value} {va0_3 : Value} (hr_a0_1 : Rd w va0_1 a0_1) (hr_a0_2 : Rd w va0_2 a0_2) (hr_a0_3 : Rd w va0_3 a0_3) :
  Calls Tryz.prog 129 ([.agg ([.int .i64 a0_0,va0_1,va0_2,va0_3].toArray)] : List Value).toArray w (Post (fun u ns=>∃ (Sr0 : Nat → Prop),SlLen u r0.length∧ns = [R.sl Sr0 u r0]) w):=by
 unfold spec_l11Good.f at h
 have hl_va0_1:=hr_a0_1.len
 have hl_va0_2:=hr_a0_2.len
 have hl_va0_3:=hr_a0_3.len
 refine Calls.of_tri (N:=62) Tryz.func129 rfl rfl rfl (Sep.nil (M:=noM)) ?_
 refine Tri.seq (Tri.reg (l:=[0,1]) rfl ?_)
 refine F.mn rfl (m_boxG rfl rfl) ?_
 rintro _ _ ⟨b1_1,rfl,rfl⟩
 refine F.qn rfl (r_assign rfl) (F.nil (Nrm.seq (Tri.seq ?_)))
 obtain ⟨hm15,h⟩:=ck h
 refine Tri.reg (l:=[0,1,2,3,4,5]) rfl ?_
 refine F.qn rfl (r_fieldAddr tf65_0 rfl) (F.qn rfl (r_fieldAddr tf27_0 rfl) (F.qn rfl (r_load ta3 rfl (fun w hw=>cell_2 (box_cells (i:=0) rfl w hw) rfl)) (F.qn rfl (r_mul rfl rfl) ?_)))
 refine F.mn rfl (m_make (x0:=(false : Bool)) Tryz.underlying135 ti4 rfl rfl rfl hm15.1 hm15.2 (by decide)) ?_
 rintro v15_1 _ ⟨S15_1,hl_v15_1,rfl⟩
 refine F.qn rfl (r_assign rfl) (F.nil (Nrm.seq (Tri.seq (Tri.seq (Tri.reg (l:=[0]) rfl ?_)))))
 refine F.qn rfl (r_assign rfl) (F.nil (Nrm.seq ?_))
 obtain ⟨x3,hE_1,h⟩:=bind_some h
 refine Tri.block ?_
 refine Tri.only [1,3,4] rfl ?_
 refine Tri.pick [1,0] rfl rfl ?_
 refine Tri.rounds (fun n e' C'=>∃ (x3' : List (Bool)) (x4' : Bool) (w3 : Value) (T3 : Nat → Prop),spec_l11Good.l0 k a0_0 a0_1 a0_2 a0_3 n x3' x4' = some x3∧SlLen w3 (x3').length∧e' = [(1,.pointer (some ⟨b1_1,0,none⟩)),(3,w3),(4,.bool x4')]∧C' = Sep w noM [R.box b1_1 65 [.int .i64 a0_0,va0_1,va0_2,va0_3],R.sl T3 w3 (x3' : List (Bool))]) k ?_ ?_ ?_
 ·exact ⟨List.replicate (w64 (a0_0 * 64)).toNat (false : Bool),true,v15_1,S15_1,hE_1,hl_v15_1,rfl,rfl⟩
 ·rintro _ _ ⟨_,_,_,_,hE_1,_⟩
  rw [spec_l11Good.l0.eq_1] at hE_1; cases hE_1
 ·rintro n_1 _ _ ⟨x3,x4,w3,T3,hE_1,hl_w3,rfl,rfl⟩ ih_1
  rw [spec_l11Good.l0.eq_2] at hE_1
  refine Tri.seq (Tri.seq (Tri.reg (l:=[0]) rfl ?_))
  refine F.qn rfl (r_move rfl) (F.nil (Nrm.seq (Tri.cond (b:=x4) rfl (fun g_1=>?_) (fun g_1=>?_))))
  ·replace hE_1:=if_tt g_1 hE_1
   refine Tri.skip (Nrm.seq (Tri.block ?_))
   refine Tri.seq (Tri.reg (l:=[0]) rfl ?_)
   refine F.qn rfl (r_assign rfl) (F.nil (Nrm.seq (Tri.seq (Tri.reg (l:=[0]) rfl ?_))))
   refine F.qn rfl (r_assign rfl) (F.nil (Nrm.seq ?_))
   obtain ⟨⟨x3r,x4r⟩,hE_2,hE_1⟩:=bind_some hE_1
   refine Tri.block ?_
   refine Tri.only [1,3,4,5] rfl ?_
   refine Tri.pick [0,1] rfl rfl ?_
   refine Tri.rounds (fun n e' C'=>∃ (x3r' : List (Bool)) (x4r' : Bool) (x5' : Int) (w3r : Value) (T3r : Nat → Prop),spec_l11Good.l1 k a0_0 a0_1 a0_2 a0_3 n x3r' x4r' x5' = some (x3r,x4r)∧SlLen w3r (x3r').length∧e' = [(1,.pointer (some ⟨b1_1,0,none⟩)),(3,w3r),(4,.bool x4r'),(5,.int .i64 x5')]∧C' = Sep w noM [R.box b1_1 65 [.int .i64 a0_0,va0_1,va0_2,va0_3],R.sl T3r w3r (x3r' : List (Bool))]) k ?_ ?_ ?_
   ·exact ⟨x3,false,0,w3,T3,hE_2,hl_w3,rfl,rfl⟩
   ·rintro _ _ ⟨_,_,_,_,_,hE_2,_⟩
    rw [spec_l11Good.l1.eq_1] at hE_2; cases hE_2
   ·rintro n_2 _ _ ⟨x3r,x4r,x5,w3r,T3r,hE_2,hl_w3r,rfl,rfl⟩ ih_2
    rw [spec_l11Good.l1.eq_2] at hE_2
    refine Tri.seq (Tri.seq (Tri.reg (l:=[0,1,2,3]) rfl ?_))
    refine F.qn rfl (r_move rfl) (F.qn rfl (r_move rfl) (F.qn rfl (r_len Tryz.underlying135 rfl hl_w3r) (F.qn rfl (r_lss rfl rfl) (F.nil (Nrm.seq (Tri.cond (b:=decide (x5 < (x3r.length : Int))) rfl (fun g_2=>?_) (fun g_2=>?_)))))))
    ·replace hE_2:=if_tt g_2 hE_2
     refine Tri.skip (Nrm.seq (Tri.seq ?_))
     obtain ⟨⟨y3,y4⟩,hE_3,hE_2⟩:=bind_some hE_2
     refine Tri.cut (fun e' C'=>∃ (v3_1 : Value) (S3_1 : Nat → Prop),SlLen v3_1 (y3).length∧e' = [(1,.pointer (some ⟨b1_1,0,none⟩)),(3,v3_1),(4,.bool y4),(5,.int .i64 x5)]∧C' = Sep w noM [R.box b1_1 65 [.int .i64 a0_0,va0_1,va0_2,va0_3],R.sl S3_1 v3_1 (y3 : List (Bool))]) ?_ (fun hj_1=>?_)
     ·rintro _ _ ⟨v3_1,S3_1,hl_v3_1,rfl,rfl⟩
      refine Nrm.seq (Tri.reg (l:=[0,1,2]) rfl ?_)
      refine F.qn rfl (r_move rfl) (F.qn rfl (r_add rfl rfl) (F.qn rfl (r_assign rfl) (F.nil (Nrm.round ?_))))
      refine Rnd.only [1,3,4,5] rfl ?_
      refine Rnd.pick [0,1] rfl rfl ?_
      exact ih_2 _ _ ⟨y3,y4,w64 (x5 + 1),v3_1,S3_1,hE_2,hl_v3_1,rfl,rfl⟩
     ·refine Tri.block ?_
      refine Tri.seq (Tri.seq ?_)
      obtain ⟨t25,h25,hE_3⟩:=bind_some hE_3
      refine Tri.reg (l:=[0,1,2,3]) rfl ?_
      refine F.qn rfl (r_move rfl) (F.qn rfl (r_move rfl) (F.qn rfl (r_indexAddrS Tryz.underlying135 ti4 rfl hl_w3r rfl (rdl_some h25).1 (rdl_some h25).2.1) (F.qn rfl (r_load ta4 rfl (fun w hw=>cell_0 (Rd.flat ((rd_sl (i:=1) rfl) w hw) (rdl_some h25).2.2) rfl)) (F.nil (Nrm.seq (Tri.cond (b:=t25) rfl (fun g_3=>?_) (fun g_3=>?_)))))))
      ·replace hE_3:=if_tt g_3 hE_3
       refine Tri.exit ?_
       refine Exi.then ?_
       refine Exi.same ?_
       cases hE_3
       refine Nrm.only [1,3,4,5] rfl ?_
       refine Nrm.pick [0,1] rfl rfl ?_
       exact hj_1 _ _ ⟨w3r,T3r,hl_w3r,rfl,rfl⟩
      ·replace hE_3:=if_ff g_3 hE_3
       refine Tri.skip (Nrm.seq (Tri.seq (Tri.reg (l:=[0,1,2,3,4,5]) rfl ?_)))
       refine F.qn rfl (r_move rfl) (F.qn rfl (r_quo rfl rfl (by decide)) (F.qn rfl (r_move rfl) (F.qn rfl (r_rem rfl rfl (by decide)) (F.qn rfl (r_assign rfl) (F.qn rfl (r_assign rfl) (F.nil (Nrm.seq (Tri.seq (Tri.reg (l:=[0,1,2,3,4,5,6]) rfl ?_)))))))))
       refine F.qn rfl (r_move rfl) ?_
       refine F.qn rfl (r_fieldAddr tf65_0 rfl) (F.qn rfl (r_fieldAddr tf27_0 rfl) (F.qn rfl (r_load ta3 rfl (fun w hw=>cell_2 (box_cells (i:=0) rfl w hw) rfl)) (F.qn rfl (r_sub rfl rfl) (F.qn rfl (r_eql rfl rfl) (F.qn rfl (r_assign rfl) (F.nil (Nrm.seq (Tri.seq ?_))))))))
       obtain ⟨t40,h40,hE_3⟩:=bind_some hE_3
       refine Tri.reg (l:=[0,1,2,3,4]) rfl ?_
       refine F.qn rfl (r_loadA ta65 ti65 rfl rfl (fun w hw=>(box_cells (i:=0) rfl w hw))) (F.qn rfl (r_move rfl) (F.qn rfl (r_move rfl) ?_))
       refine F.mn rfl (m_callF (xs:=_) rfl ok132 rfl rfl (fun w hw=>spec_l11Step.ok h40 w ((fun _ hw=>hr_a0_1.sep hw) w hw) ((fun _ hw=>hr_a0_2.sep hw) w hw) ((fun _ hw=>hr_a0_3.sep hw) w hw))) ?_
       rintro v40_1 _ ⟨_,⟨S40_1,hl_v40_1,rfl⟩,rfl⟩
       refine F.qn rfl (r_assign rfl) (F.nil (Nrm.seq (Tri.seq (Tri.seq (Tri.reg (l:=[0]) rfl ?_)))))
       refine F.qn rfl (r_assign rfl) (F.nil (Nrm.seq ?_))
       obtain ⟨x8,hE_4,hE_3⟩:=bind_some hE_3
       refine Tri.block ?_
       refine Tri.only [1,3,4,5,8,9,10] rfl ?_
       refine Tri.pick [1,0,2] rfl rfl ?_
       refine Tri.rounds (fun n e' C'=>∃ (x8' : Bool) (x10' : Int),spec_l11Good.l2 k x3r t40 n x8' x10' = some x8∧e' = [(1,.pointer (some ⟨b1_1,0,none⟩)),(3,w3r),(4,.bool x4r),(5,.int .i64 x5),(8,.bool x8'),(9,v40_1),(10,.int .i64 x10')]∧C' = Sep w noM [R.box b1_1 65 [.int .i64 a0_0,va0_1,va0_2,va0_3],R.sl S40_1 v40_1 (t40 : List (Int)),R.sl T3r w3r (x3r : List (Bool))]) k ?_ ?_ ?_
       ·exact ⟨(quo x5 64) == (w64 (a0_0 - 1)),0,hE_4,rfl,rfl⟩
       ·rintro _ _ ⟨_,_,hE_4,_⟩
        rw [spec_l11Good.l2.eq_1] at hE_4; cases hE_4
       ·rintro n_3 _ _ ⟨x8,x10,hE_4,rfl,rfl⟩ ih_3
        rw [spec_l11Good.l2.eq_2] at hE_4
        refine Tri.seq (Tri.seq (Tri.reg (l:=[0,1,2,3]) rfl ?_))
        refine F.qn rfl (r_move rfl) (F.qn rfl (r_move rfl) (F.qn rfl (r_len Tryz.underlying25 rfl hl_v40_1) (F.qn rfl (r_lss rfl rfl) (F.nil (Nrm.seq (Tri.cond (b:=decide (x10 < (t40.length : Int))) rfl (fun g_4=>?_) (fun g_4=>?_)))))))
        ·replace hE_4:=if_tt g_4 hE_4
         refine Tri.skip (Nrm.seq (Tri.seq (Tri.block ?_)))
         obtain ⟨y8,hE_5,hE_4⟩:=bind_some hE_4
         refine Tri.cut (fun e' C'=>e' = [(1,.pointer (some ⟨b1_1,0,none⟩)),(3,w3r),(4,.bool x4r),(5,.int .i64 x5),(8,.bool y8),(9,v40_1),(10,.int .i64 x10)]∧C' = Sep w noM [R.box b1_1 65 [.int .i64 a0_0,va0_1,va0_2,va0_3],R.sl S40_1 v40_1 (t40 : List (Int)),R.sl T3r w3r (x3r : List (Bool))]) ?_ (fun hj_2=>?_)
         ·rintro _ _ ⟨rfl,rfl⟩
          refine Nrm.block ?_
          refine Nrm.seq (Tri.reg (l:=[0,1,2]) rfl ?_)
          refine F.qn rfl (r_move rfl) (F.qn rfl (r_add rfl rfl) (F.qn rfl (r_assign rfl) (F.nil (Nrm.round ?_))))
          refine Rnd.only [1,3,4,5,8,9,10] rfl ?_
          refine Rnd.pick [0,1,2] rfl rfl ?_
          exact ih_3 _ _ ⟨y8,w64 (x10 + 1),hE_4,rfl,rfl⟩
         ·rcases Bool.eq_false_or_eq_true (x8) with g48 | g48
          ·replace hE_5:=if_tt g48 hE_5
           refine Tri.reg (l:=[0,1,2,3,4,5,6,7,8,9,10]) rfl ?_
           refine F.qn rfl (r_move rfl) (F.qn rfl (r_move rfl) ?_)
           iterate 7 refine F.skf rfl g48 ?_
           refine F.qn rfl (r_pick rfl rfl g48) (F.qn rfl (r_assign rfl) (F.nil ?_))
           cases hE_5
           refine Nrm.only [1,3,4,5,8,9,10] rfl ?_
           refine Nrm.pick [0,1,2] rfl rfl ?_
           exact hj_2 _ _ ⟨rfl,rfl⟩
          ·replace hE_5:=if_ff g48 hE_5
           obtain ⟨t52,h52,hE_5⟩:=bind_some hE_5
           obtain ⟨t54,h54,hE_5⟩:=bind_some hE_5
           refine Tri.reg (l:=[0,1,2,3,4,5,6,7,8,9,10]) rfl ?_
           refine F.qn rfl (r_move rfl) (F.qn rfl (r_move rfl) ?_)
           iterate 3 refine F.qg rfl g48 (r_move rfl) ?_
           refine F.qg rfl g48 (r_indexAddrS Tryz.underlying25 ti3 rfl hl_v40_1 rfl (rdl_some h52).1 (rdl_some h52).2.1) (F.qg rfl g48 (r_load ta3 rfl (fun w hw=>cell_0 (Rd.flat ((rd_sl (i:=1) rfl) w hw) (rdl_some h52).2.2) rfl)) (F.qg rfl g48 (r_indexAddrS Tryz.underlying135 ti4 rfl hl_w3r rfl (rdl_some h54).1 (rdl_some h54).2.1) (F.qg rfl g48 (r_load ta4 rfl (fun w hw=>cell_0 (Rd.flat ((rd_sl (i:=2) rfl) w hw) (rdl_some h54).2.2) rfl)) (F.qn rfl (r_pickf rfl rfl g48) (F.qn rfl (r_assign rfl) (F.nil ?_))))))
           cases hE_5
           refine Nrm.only [1,3,4,5,8,9,10] rfl ?_
           refine Nrm.pick [0,1,2] rfl rfl ?_
           exact hj_2 _ _ ⟨rfl,rfl⟩
        ·replace hE_4:=if_ff g_4 hE_4
         refine Tri.exit ?_
         refine Exi.then ?_
         refine Exi.then ?_
         refine Exi.same ?_
         cases hE_4
         refine Nrm.seq (Tri.seq (Tri.reg (l:=[0]) rfl ?_))
         refine F.qn rfl (r_move rfl) (F.nil (Nrm.seq ?_))
         obtain ⟨⟨y3,y4⟩,hE_6,hE_3⟩:=bind_some hE_3
         refine Tri.cut (fun e' C'=>∃ (v3_2 : Value) (S3_2 : Nat → Prop),SlLen v3_2 (y3).length∧e' = [(1,.pointer (some ⟨b1_1,0,none⟩)),(3,v3_2),(4,.bool y4),(5,.int .i64 x5)]∧C' = Sep w noM [R.box b1_1 65 [.int .i64 a0_0,va0_1,va0_2,va0_3],R.sl S3_2 v3_2 (y3 : List (Bool))]) ?_ (fun hj_3=>?_)
         ·rintro _ _ ⟨v3_2,S3_2,hl_v3_2,rfl,rfl⟩
          refine Nrm.block ?_
          cases hE_3
          refine Nrm.only [1,3,4,5] rfl ?_
          refine Nrm.pick [0,1] rfl rfl ?_
          exact hj_1 _ _ ⟨v3_2,S3_2,hl_v3_2,rfl,rfl⟩
         ·refine Tri.cond (b:=x8) rfl (fun g_5=>?_) (fun g_5=>?_)
          ·replace hE_6:=if_tt g_5 hE_6
           refine Tri.seq ?_
           obtain ⟨t60,h60,hE_6⟩:=bind_some hE_6
           refine Tri.reg (l:=[0,1,2,3]) rfl ?_
           refine F.qn rfl (r_move rfl) (F.qn rfl (r_move rfl) (F.qn rfl (r_indexAddrS Tryz.underlying135 ti4 rfl hl_w3r rfl (rdl_some h60).1 (rdl_some h60).2.1) ?_))
           refine F.ef0 rfl rfl (wanted_none rfl) (d_storeE (i:=2) (x1:=true) ti4 rfl rfl rfl (rdl_some h60) rfl) ?_
           rintro _ _ ⟨rfl,rfl⟩
           refine F.nil (Nrm.seq (Tri.reg (l:=[0]) rfl ?_))
           refine F.qn rfl (r_assign rfl) (F.nil ?_)
           cases hE_6
           refine Nrm.only [1,3,4,5] rfl ?_
           refine Nrm.pick [0,2] rfl rfl ?_
           exact hj_3 _ _ ⟨w3r,T3r,(len_set hl_w3r),rfl,rfl⟩
          ·replace hE_6:=if_ff g_5 hE_6
           refine Tri.skip ?_
           cases hE_6
           refine Nrm.only [1,3,4,5] rfl ?_
           refine Nrm.pick [0,2] rfl rfl ?_
           exact hj_3 _ _ ⟨w3r,T3r,hl_w3r,rfl,rfl⟩
    ·replace hE_2:=if_ff g_2 hE_2
     refine Tri.exit ?_
     refine Exi.then ?_
     refine Exi.then ?_
     refine Exi.same ?_
     cases hE_2
     refine Nrm.block ?_
     refine Nrm.round ?_
     refine Rnd.only [1,3,4] rfl ?_
     refine Rnd.pick [0,1] rfl rfl ?_
     exact ih_1 _ _ ⟨x3r,x4r,w3r,T3r,hE_1,hl_w3r,rfl,rfl⟩
  ·replace hE_1:=if_ff g_1 hE_1
   refine Tri.exit ?_
   refine Exi.then ?_
   refine Exi.then ?_
   refine Exi.same ?_
   cases hE_1
   refine Nrm.seq (Tri.seq (Tri.reg (l:=[0,1]) rfl ?_))
   refine F.qn rfl (r_move rfl) (F.qn rfl (r_assign rfl) (F.nil (Nrm.seq (Tri.ret ?_))))
   cases h
   exact Rtn.body (.tmp rfl .nil) (fun w hw=>⟨_,_,rfl,⟨T3,hl_w3,rfl⟩,Sep.pick (is:=[1]) rfl rfl hw⟩)


def spec_l10None.l0 (k : Nat) (a0 : Int) : Nat → (List (Int)) → Int → Option ((List (Int)))
 | 0,_,_=>none
 | n + 1,x3,x4=>(if (decide (x4 < a0)) = true then if (x3 ++ ([(-1)] : List (Int))).length < 1099511627776 then spec_l10None.l0 k a0 n (x3 ++ ([(-1)] : List (Int))) (w64 (x4 + 1)) else none else some x3)

def spec_l10None.f (k : Nat) (a0 : Int) : Option ((List Int)) := (spec_l10None.l0 k a0 k ([] : List (Int)) 0).bind fun x3 => some x3

theorem spec_l10None.ok {k : Nat}  {a0 : Int} {r0 : List Int} (h : spec_l10None.f k a0 = some r0) (w : World) :
  Calls Tryz.prog 131 ([.int .i64 a0] : List Value).toArray w (Post (fun u ns=>∃ (Sr0 : Nat → Prop),SlLen u r0.length∧ns = [R.sl Sr0 u r0]) w):=by
 unfold spec_l10None.f at h
 refine Calls.of_tri (N:=15) Tryz.func131 rfl rfl rfl (Sep.nil (M:=noM)) ?_
 refine Tri.seq (Tri.reg (l:=[0]) rfl ?_)
 refine F.qn rfl (r_assign rfl) (F.nil (Nrm.seq (Tri.seq (Tri.reg (l:=[0,1]) rfl ?_))))
 refine F.mn rfl (m_build0 (α:=Int) Tryz.underlying25 ti3) ?_
 rintro v5_1 _ ⟨S5_1,hl_v5_1,rfl⟩
 refine F.qn rfl (r_assign rfl) (F.nil (Nrm.seq (Tri.seq (Tri.seq (Tri.reg (l:=[0]) rfl ?_)))))
 refine F.qn rfl (r_assign rfl) (F.nil (Nrm.seq ?_))
 obtain ⟨x3,hE_1,h⟩:=bind_some h
 refine Tri.block ?_
 refine Tri.only [0,3,4] rfl ?_
 refine Tri.pick [0] rfl rfl ?_
 refine Tri.rounds (fun n e' C'=>∃ (x3' : List (Int)) (x4' : Int) (w3 : Value) (T3 : Nat → Prop),spec_l10None.l0 k a0 n x3' x4' = some x3∧SlLen w3 (x3').length∧e' = [(0,.int .i64 a0),(3,w3),(4,.int .i64 x4')]∧C' = Sep w noM [R.sl T3 w3 (x3' : List (Int))]) k ?_ ?_ ?_
 ·exact ⟨([] : List (Int)),0,v5_1,S5_1,hE_1,hl_v5_1,rfl,rfl⟩
 ·rintro _ _ ⟨_,_,_,_,hE_1,_⟩
  rw [spec_l10None.l0.eq_1] at hE_1; cases hE_1
 ·rintro n_1 _ _ ⟨x3,x4,w3,T3,hE_1,hl_w3,rfl,rfl⟩ ih_1
  rw [spec_l10None.l0.eq_2] at hE_1
  refine Tri.seq (Tri.seq (Tri.reg (l:=[0,1,2]) rfl ?_))
  refine F.qn rfl (r_move rfl) (F.qn rfl (r_move rfl) (F.qn rfl (r_lss rfl rfl) (F.nil (Nrm.seq (Tri.cond (b:=decide (x4 < a0)) rfl (fun g_1=>?_) (fun g_1=>?_))))))
  ·replace hE_1:=if_tt g_1 hE_1
   refine Tri.skip (Nrm.seq (Tri.seq (Tri.block ?_)))
   obtain ⟨hs13,hE_1⟩:=ck hE_1
   refine Tri.reg (l:=[0,1,2,3]) rfl ?_
   refine F.qn rfl (r_move rfl) ?_
   refine F.mn rfl (m_buildF (l:=([(-1)] : List (Int))) Tryz.underlying25 ti3 rfl rfl rfl rfl rfl) ?_
   rintro v12_1 _ ⟨S12_1,hl_v12_1,rfl⟩
   refine F.efn rfl (d_append (i:=1) Tryz.underlying25 Tryz.underlying25 ti3 rfl (by decide) rfl rfl rfl (rd_sl (i:=0) rfl) hs13) ?_
   rintro v13_1 _ ⟨S13_1,rfl,hl_v13_1⟩
   refine F.qn rfl (r_assign rfl) (F.nil (Nrm.block ?_))
   refine Nrm.seq (Tri.reg (l:=[0,1,2]) rfl ?_)
   refine F.qn rfl (r_move rfl) (F.qn rfl (r_add rfl rfl) (F.qn rfl (r_assign rfl) (F.nil (Nrm.round ?_))))
   refine Rnd.only [0,3,4] rfl ?_
   refine Rnd.pick [1] rfl rfl ?_
   exact ih_1 _ _ ⟨x3 ++ ([(-1)] : List (Int)),w64 (x4 + 1),v13_1,S13_1,hE_1,hl_v13_1,rfl,rfl⟩
  ·replace hE_1:=if_ff g_1 hE_1
   refine Tri.exit ?_
   refine Exi.then ?_
   refine Exi.then ?_
   refine Exi.same ?_
   cases hE_1
   refine Nrm.seq (Tri.seq (Tri.reg (l:=[0,1]) rfl ?_))
   refine F.qn rfl (r_move rfl) (F.qn rfl (r_assign rfl) (F.nil (Nrm.seq (Tri.ret ?_))))
   cases h
   exact Rtn.body (.tmp rfl .nil) (fun w hw=>⟨_,_,rfl,⟨T3,hl_w3,rfl⟩,Sep.pick (is:=[0]) rfl rfl hw⟩)


def spec_FirstToLose.l1 (k : Nat) (t25 : Int) (x8 : List (Int)) : Nat → (List (Int)) → Int → Option ((List (Int)))
 | 0,_,_=>none
 | n + 1,x4,x10=>(if (x10 != t25) = true then if (([quo x10 64] : List (Int)) ++ x4).length < 1099511627776 then (rdl x8 x10).bind fun t60=>spec_FirstToLose.l1 k t25 x8 n (([quo x10 64] : List (Int)) ++ x4) t60 else none else some x4)

def spec_FirstToLose.l2 (k : Nat) (t43 : Int) (t70 : List Int) : Nat → (List (Int)) → (List (Int)) → Int → Option ((List (Int)) × (List (Int)))
 | 0,_,_,_=>none
 | n + 1,x7r,x8r,x12=>(if (decide (x12 < (t70.length : Int))) = true then (rdl t70 x12).bind fun t80=>(rdl x8r t80).bind fun t82=>((if (decide (t82 < 0)) = true then (rdl t70 x12).bind fun t88=>(rdl x8r t88).bind fun t91=>(rdl t70 x12).bind fun t95=>if (x7r ++ ([t95] : List (Int))).length < 1099511627776 then some (x7r ++ ([t95] : List (Int)),x8r.set t88.toNat t43) else none else some (x7r,x8r))).bind fun (y7,y8)=>spec_FirstToLose.l2 k t43 t70 n y7 y8 (w64 (x12 + 1)) else some (x7r,x8r))

def spec_FirstToLose.l0 (k : Nat) (a0_0 : Int) (a0_1 : List (Int × Int × Int)) (a0_2 : List Int) (a0_3 : List Int) (t19 : List Bool) (t25 : Int) : Nat → (List (Int)) → (List (Int)) → Int → Option ((Unit) ⊕ ((List Int) × Bool))
 | 0,_,_,_=>none
 | n + 1,x7,x8,x9=>(if (decide (x9 < (x7.length : Int))) = true then (rdl x7 x9).bind fun t43=>(rdl t19 t43).bind fun t47=>(if (!t47) = true then (spec_FirstToLose.l1 k t25 x8 k ([] : List (Int)) t43).bind fun x4=>if (([0] : List (Int)) ++ x4).length < 1099511627776 then some (Sum.inr (([0] : List (Int)) ++ x4,true)) else none else (spec_l11Step.f k a0_0 a0_1 a0_2 a0_3 (quo t43 64) (rem t43 64)).bind fun t70=>(spec_FirstToLose.l2 k t43 t70 k x7 x8 0).bind fun (x7r,x8r)=>spec_FirstToLose.l0 k a0_0 a0_1 a0_2 a0_3 t19 t25 n x7r x8r (w64 (x9 + 1))) else some (Sum.inl ()))

def spec_FirstToLose.f (k : Nat) (a0_0 : Int) (a0_1 : List (Int × Int × Int)) (a0_2 : List Int) (a0_3 : List Int) : Option ((List Int) × Bool) := (spec_l11Trap.f k a0_0 a0_1 a0_2 a0_3).bind fun t15 => (if (!t15) = true then some (([] : List (Int)), false) else (rdl a0_2 0).bind fun t23 => (spec_l11Good.f k a0_0 a0_1 a0_2 a0_3).bind fun t19 => (spec_l4Id.f k 0 t23).bind fun t25 => (spec_l10None.f k (t19.length : Int)).bind fun t30 => (rdl t30 t25).bind fun t34 => (spec_FirstToLose.l0 k a0_0 a0_1 a0_2 a0_3 t19 t25 k ([t25] : List (Int)) (t30.set t25.toNat t25) 0).bind fun s => Lr s some fun _ => some (([] : List (Int)), false))

theorem spec_FirstToLose.ok {k : Nat}  {a0_0 : Int} {a0_1 : List (Int × Int × Int)} {a0_2 : List Int} {a0_3 : List Int} {r0 : List Int} {r1 : Bool} (h : spec_FirstToLose.f k a0_0 a0_1 a0_2 a0_3 = some (r0, r1)) (w : World) {va0_1 : Value} {va0_2 : Value} {va0_3 : Value} (hr_a0_1 : Rd w va0_1 a0_1) (hr_a0_2 : Rd w va0_2 a0_2) (hr_a0_3 : Rd w va0_3 a0_3) :
  Calls Tryz.prog 50 ([.agg ([.int .i64 a0_0,va0_1,va0_2,va0_3].toArray)] : List Value).toArray w (Post (fun u ns=>∃ (ur0 : Value) (Sr0 : Nat → Prop),u = .tuple #[ur0,.bool r1]∧SlLen ur0 r0.length∧ns = [R.sl Sr0 ur0 r0]) w):=by
 unfold spec_FirstToLose.f at h
 have hl_va0_1:=hr_a0_1.len
 have hl_va0_2:=hr_a0_2.len
 have hl_va0_3:=hr_a0_3.len
 refine Calls.of_tri (N:=100) Tryz.func50 rfl rfl rfl (Sep.nil (M:=noM)) ?_
 refine Tri.seq (Tri.reg (l:=[0,1,2]) rfl ?_)
 refine F.mn rfl (m_boxG rfl rfl) ?_
 rintro _ _ ⟨b1_1,rfl,rfl⟩
 refine F.qn rfl (r_assign rfl) (F.qn rfl (r_assign rfl) (F.nil (Nrm.seq (Tri.seq (Tri.reg (l:=[0,1]) rfl ?_)))))
 refine F.mn rfl (m_build0 (α:=Int) Tryz.underlying25 ti3) ?_
 rintro v13_1 _ ⟨S13_1,hl_v13_1,rfl⟩
 refine F.qn rfl (r_assign rfl) (F.nil (Nrm.seq (Tri.seq (Tri.seq ?_))))
 obtain ⟨t15,h15,h⟩:=bind_some h
 refine Tri.reg (l:=[0,1,2]) rfl ?_
 refine F.qn rfl (r_loadA ta65 ti65 rfl rfl (fun w hw=>(box_cells (i:=1) rfl w hw))) ?_
 refine F.qcn rfl (q_callF (xs:=_) rfl ok128 rfl rfl (fun w hw=>spec_l11Trap.ok h15 w ((fun _ hw=>hr_a0_1.sep hw) w hw) ((fun _ hw=>hr_a0_2.sep hw) w hw) ((fun _ hw=>hr_a0_3.sep hw) w hw))) ?_
 refine F.qn rfl (r_not rfl) (F.nil (Nrm.seq (Tri.cond (b:=!t15) rfl (fun g_1=>?_) (fun g_1=>?_))))
 ·replace h:=if_tt g_1 h
  refine Tri.seq (Tri.reg (l:=[0,1,2]) rfl ?_)
  refine F.qn rfl (r_move rfl) (F.qn rfl (r_assign rfl) (F.qn rfl (r_assign rfl) (F.nil (Nrm.seq (Tri.ret ?_)))))
  refine Rtn.then ?_
  cases h
  exact Rtn.body (.tmp rfl (.tmp rfl .nil)) (fun w hw=>⟨_,_,rfl,⟨v13_1,S13_1,rfl,hl_v13_1,rfl⟩,Sep.pick (is:=[0]) rfl rfl hw⟩)
 ·replace h:=if_ff g_1 h
  refine Tri.skip (Nrm.seq (Tri.seq ?_))
  obtain ⟨t23,h23,h⟩:=bind_some h
  obtain ⟨t19,h19,h⟩:=bind_some h
  obtain ⟨t25,h25,h⟩:=bind_some h
  refine Tri.drawA mixedT Sep.up [(0,true),(2,true),(3,true),(4,true),(5,true),(6,true),(1,false),(7,true),(8,true),(9,true)] [] (by kernel_rfl) ?_
  refine S.qn rfl (r_loadA ta65 ti65 rfl rfl (fun w hw=>(box_cells (i:=1) rfl w hw))) (S.qn rfl (r_fieldAddr tf65_0 rfl) (S.qn rfl (r_fieldAddr tf27_2 rfl) (S.qn rfl (r_load ta25 rfl (fun w hw=>cell_2 (box_cells (i:=1) rfl w hw) rfl)) (S.qn rfl (r_indexAddrS Tryz.underlying25 ti3 rfl hl_va0_2 rfl (rdl_some h23).1 (rdl_some h23).2.1) (S.qn rfl (r_load ta3 rfl (fun w hw=>cell_0 (Rd.flat ((fun _ hw=>hr_a0_2.sep hw) w hw) (rdl_some h23).2.2) rfl)) ?_)))))
  refine S.m rfl rfl rfl (wanted_none rfl) (m_callF (xs:=_) rfl ok129 rfl rfl (fun w hw=>spec_l11Good.ok h19 w ((fun _ hw=>hr_a0_1.sep hw) w hw) ((fun _ hw=>hr_a0_2.sep hw) w hw) ((fun _ hw=>hr_a0_3.sep hw) w hw))) ?_
  rintro v19_2 _ ⟨_,⟨S19_2,hl_v19_2,rfl⟩,rfl⟩
  refine S.qcn rfl (q_callF (xs:=_) rfl ok130 rfl rfl (fun w hw=>spec_l4Id.ok h25 w)) ?_
  refine S.qn rfl (r_assign rfl) (S.qn rfl (r_assign rfl) (S.nil (F.nil (Nrm.seq (Tri.seq ?_)))))
  obtain ⟨t30,h30,h⟩:=bind_some h
  refine Tri.reg (l:=[0,1,2,3,4,5,6]) rfl ?_
  refine F.qn rfl (r_move rfl) ?_
  refine F.mn rfl (m_buildF (l:=([t25] : List (Int))) Tryz.underlying25 ti3 rfl rfl rfl rfl rfl) ?_
  rintro v27_1 _ ⟨S27_1,hl_v27_1,rfl⟩
  refine F.qn rfl (r_move rfl) (F.qn rfl (r_len Tryz.underlying135 rfl hl_v19_2) ?_)
  refine F.mn rfl (m_callF (xs:=_) rfl ok131 rfl rfl (fun w hw=>spec_l10None.ok h30 w)) ?_
  rintro v30_1 _ ⟨_,⟨S30_1,hl_v30_1,rfl⟩,rfl⟩
  refine F.qn rfl (r_assign rfl) (F.qn rfl (r_assign rfl) (F.nil (Nrm.seq (Tri.seq ?_))))
  obtain ⟨t34,h34,h⟩:=bind_some h
  refine Tri.reg (l:=[0,1,2,3,4]) rfl ?_
  iterate 3 refine F.qn rfl (r_move rfl) ?_
  refine F.qn rfl (r_indexAddrS Tryz.underlying25 ti3 rfl hl_v30_1 rfl (rdl_some h34).1 (rdl_some h34).2.1) ?_
  refine F.ef0 rfl rfl (wanted_none rfl) (d_storeE (i:=0) (x1:=t25) ti3 rfl rfl rfl (rdl_some h34) rfl) ?_
  rintro _ _ ⟨rfl,rfl⟩
  refine F.nil (Nrm.seq (Tri.seq (Tri.seq (Tri.reg (l:=[0]) rfl ?_))))
  refine F.qn rfl (r_assign rfl) (F.nil (Nrm.seq ?_))
  obtain ⟨s0,hE_1,h⟩:=bind_some h
  refine Tri.block ?_
  refine Tri.only [1,4,5,6,7,8,9] rfl ?_
  refine Tri.pick [4,0,1,2,3] rfl rfl ?_
  refine Tri.rounds (fun n e' C'=>∃ (x7' : List (Int)) (x8' : List (Int)) (x9' : Int) (w7 : Value) (T7 : Nat → Prop) (w8 : Value) (T8 : Nat → Prop),spec_FirstToLose.l0 k a0_0 a0_1 a0_2 a0_3 t19 t25 n x7' x8' x9' = some s0∧SlLen w7 (x7').length∧SlLen w8 (x8').length∧e' = [(1,.pointer (some ⟨b1_1,0,none⟩)),(4,v13_1),(5,v19_2),(6,.int .i64 t25),(7,w7),(8,w8),(9,.int .i64 x9')]∧C' = Sep w noM [R.box b1_1 65 [.int .i64 a0_0,va0_1,va0_2,va0_3],R.sl T8 w8 (x8' : List (Int)),R.sl T7 w7 (x7' : List (Int)),R.sl S19_2 v19_2 (t19 : List (Bool)),R.sl S13_1 v13_1 (([] : List (Int)) : List (Int))]) k ?_ ?_ ?_
  ·exact ⟨([t25] : List (Int)),t30.set t25.toNat t25,0,v27_1,S27_1,v30_1,S30_1,hE_1,hl_v27_1,(len_set hl_v30_1),rfl,rfl⟩
  ·rintro _ _ ⟨_,_,_,_,_,_,_,hE_1,_⟩
   rw [spec_FirstToLose.l0.eq_1] at hE_1; cases hE_1
  ·rintro n_1 _ _ ⟨x7,x8,x9,w7,T7,w8,T8,hE_1,hl_w7,hl_w8,rfl,rfl⟩ ih_1
   rw [spec_FirstToLose.l0.eq_2] at hE_1
   refine Tri.seq (Tri.seq (Tri.reg (l:=[0,1,2,3]) rfl ?_))
   refine F.qn rfl (r_move rfl) (F.qn rfl (r_move rfl) (F.qn rfl (r_len Tryz.underlying25 rfl hl_w7) (F.qn rfl (r_lss rfl rfl) (F.nil (Nrm.seq (Tri.cond (b:=decide (x9 < (x7.length : Int))) rfl (fun g_2=>?_) (fun g_2=>?_)))))))
   ·replace hE_1:=if_tt g_2 hE_1
    refine Tri.skip (Nrm.seq (Tri.seq (Tri.block ?_)))
    refine Tri.seq ?_
    obtain ⟨t43,h43,hE_1⟩:=bind_some hE_1
    refine Tri.reg (l:=[0,1,2,3,4]) rfl ?_
    refine F.qn rfl (r_move rfl) (F.qn rfl (r_move rfl) (F.qn rfl (r_indexAddrS Tryz.underlying25 ti3 rfl hl_w7 rfl (rdl_some h43).1 (rdl_some h43).2.1) (F.qn rfl (r_load ta3 rfl (fun w hw=>cell_0 (Rd.flat ((rd_sl (i:=2) rfl) w hw) (rdl_some h43).2.2) rfl)) (F.qn rfl (r_assign rfl) (F.nil (Nrm.seq (Tri.seq (Tri.seq ?_))))))))
    obtain ⟨t47,h47,hE_1⟩:=bind_some hE_1
    refine Tri.reg (l:=[0,1,2,3,4]) rfl ?_
    refine F.qn rfl (r_move rfl) (F.qn rfl (r_move rfl) (F.qn rfl (r_indexAddrS Tryz.underlying135 ti4 rfl hl_v19_2 rfl (rdl_some h47).1 (rdl_some h47).2.1) (F.qn rfl (r_load ta4 rfl (fun w hw=>cell_0 (Rd.flat ((rd_sl (i:=3) rfl) w hw) (rdl_some h47).2.2) rfl)) (F.qn rfl (r_not rfl) (F.nil (Nrm.seq (Tri.cond (b:=!t47) rfl (fun g_3=>?_) (fun g_3=>?_))))))))
    ·replace hE_1:=if_tt g_3 hE_1
     refine Tri.seq ?_
     obtain ⟨x4,hE_2,hE_1⟩:=bind_some hE_1
     refine Tri.block ?_
     refine Tri.only [4,6,8,10] rfl ?_
     refine Tri.pick [1,4] rfl rfl ?_
     refine Tri.rounds (fun n e' C'=>∃ (x4' : List (Int)) (x10' : Int) (w4 : Value) (T4 : Nat → Prop),spec_FirstToLose.l1 k t25 x8 n x4' x10' = some x4∧SlLen w4 (x4').length∧e' = [(4,w4),(6,.int .i64 t25),(8,w8),(10,.int .i64 x10')]∧C' = Sep w noM [R.sl T8 w8 (x8 : List (Int)),R.sl T4 w4 (x4' : List (Int))]) k ?_ ?_ ?_
     ·exact ⟨([] : List (Int)),t43,v13_1,S13_1,hE_2,hl_v13_1,rfl,rfl⟩
     ·rintro _ _ ⟨_,_,_,_,hE_2,_⟩
      rw [spec_FirstToLose.l1.eq_1] at hE_2; cases hE_2
     ·rintro n_2 _ _ ⟨x4,x10,w4,T4,hE_2,hl_w4,rfl,rfl⟩ ih_2
      rw [spec_FirstToLose.l1.eq_2] at hE_2
      refine Tri.seq (Tri.seq (Tri.reg (l:=[0,1,2]) rfl ?_))
      refine F.qn rfl (r_move rfl) (F.qn rfl (r_move rfl) (F.qn rfl (r_neq rfl rfl) (F.nil (Nrm.seq (Tri.cond (b:=x10 != t25) rfl (fun g_4=>?_) (fun g_4=>?_))))))
      ·replace hE_2:=if_tt g_4 hE_2
       refine Tri.skip (Nrm.seq (Tri.block ?_))
       refine Tri.seq ?_
       obtain ⟨hs57,hE_2⟩:=ck hE_2
       refine Tri.reg (l:=[0,1,2,3,4,5]) rfl ?_
       refine F.qn rfl (r_move rfl) (F.qn rfl (r_quo rfl rfl (by decide)) ?_)
       refine F.mn rfl (m_buildF (l:=([quo x10 64] : List (Int))) Tryz.underlying25 ti3 rfl rfl rfl rfl rfl) ?_
       rintro v55_1 _ ⟨S55_1,hl_v55_1,rfl⟩
       refine F.qn rfl (r_move rfl) ?_
       refine F.efn rfl (d_append (i:=0) Tryz.underlying25 Tryz.underlying25 ti3 rfl (by decide) rfl rfl rfl (rd_sl (i:=2) rfl) hs57) ?_
       rintro v57_1 _ ⟨S57_1,rfl,hl_v57_1⟩
       refine F.qn rfl (r_assign rfl) (F.nil (Nrm.seq ?_))
       obtain ⟨t60,h60,hE_2⟩:=bind_some hE_2
       refine Tri.reg (l:=[0,1,2,3,4]) rfl ?_
       refine F.qn rfl (r_move rfl) (F.qn rfl (r_move rfl) (F.qn rfl (r_indexAddrS Tryz.underlying25 ti3 rfl hl_w8 rfl (rdl_some h60).1 (rdl_some h60).2.1) (F.qn rfl (r_load ta3 rfl (fun w hw=>cell_0 (Rd.flat ((rd_sl (i:=1) rfl) w hw) (rdl_some h60).2.2) rfl)) (F.qn rfl (r_assign rfl) (F.nil (Nrm.block ?_))))))
       refine Nrm.round ?_
       refine Rnd.only [4,6,8,10] rfl ?_
       refine Rnd.pick [1,0] rfl rfl ?_
       exact ih_2 _ _ ⟨([quo x10 64] : List (Int)) ++ x4,t60,v57_1,S57_1,hE_2,hl_v57_1,rfl,rfl⟩
      ·replace hE_2:=if_ff g_4 hE_2
       refine Tri.exit ?_
       refine Exi.then ?_
       refine Exi.then ?_
       refine Exi.same ?_
       cases hE_2
       refine Nrm.seq (Tri.seq ?_)
       obtain ⟨hs64,hE_1⟩:=ck hE_1
       refine Tri.reg (l:=[0,1,2,3,4]) rfl ?_
       refine F.mn rfl (m_buildF (l:=([0] : List (Int))) Tryz.underlying25 ti3 rfl rfl rfl rfl rfl) ?_
       rintro v62_1 _ ⟨S62_1,hl_v62_1,rfl⟩
       refine F.qn rfl (r_move rfl) ?_
       refine F.efn rfl (d_append (i:=0) Tryz.underlying25 Tryz.underlying25 ti3 rfl (by decide) rfl rfl rfl (rd_sl (i:=2) rfl) hs64) ?_
       rintro v64_1 _ ⟨S64_1,rfl,hl_v64_1⟩
       refine F.qn rfl (r_assign rfl) (F.qn rfl (r_assign rfl) (F.nil (Nrm.seq (Tri.ret ?_))))
       refine Rtn.then ?_
       refine Rtn.block ?_
       refine Rtn.then ?_
       refine Rtn.then ?_
       refine Rtn.block ?_
       refine Rtn.then ?_
       cases hE_1
       replace h:=Lr_inr h
       cases h
       exact Rtn.body (.tmp rfl (.tmp rfl .nil)) (fun w hw=>⟨_,_,rfl,⟨v64_1,S64_1,rfl,hl_v64_1,rfl⟩,Sep.pick (is:=[0]) rfl rfl hw⟩)
    ·replace hE_1:=if_ff g_3 hE_1
     refine Tri.skip (Nrm.seq (Tri.seq ?_))
     obtain ⟨t70,h70,hE_1⟩:=bind_some hE_1
     refine Tri.reg (l:=[0,1,2,3,4,5,6]) rfl ?_
     refine F.qn rfl (r_loadA ta65 ti65 rfl rfl (fun w hw=>(box_cells (i:=0) rfl w hw))) (F.qn rfl (r_move rfl) (F.qn rfl (r_quo rfl rfl (by decide)) (F.qn rfl (r_move rfl) (F.qn rfl (r_rem rfl rfl (by decide)) ?_))))
     refine F.mn rfl (m_callF (xs:=_) rfl ok132 rfl rfl (fun w hw=>spec_l11Step.ok h70 w ((fun _ hw=>hr_a0_1.sep hw) w hw) ((fun _ hw=>hr_a0_2.sep hw) w hw) ((fun _ hw=>hr_a0_3.sep hw) w hw))) ?_
     rintro v70_1 _ ⟨_,⟨S70_1,hl_v70_1,rfl⟩,rfl⟩
     refine F.qn rfl (r_assign rfl) (F.nil (Nrm.seq (Tri.seq (Tri.reg (l:=[0]) rfl ?_))))
     refine F.qn rfl (r_assign rfl) (F.nil (Nrm.seq ?_))
     obtain ⟨⟨x7r,x8r⟩,hE_3,hE_1⟩:=bind_some hE_1
     refine Tri.block ?_
     refine Tri.only [1,4,5,6,7,8,9,10,11,12] rfl ?_
     refine Tri.pick [1,0,2,3,4,5] rfl rfl ?_
     refine Tri.rounds (fun n e' C'=>∃ (x7r' : List (Int)) (x8r' : List (Int)) (x12' : Int) (w7r : Value) (T7r : Nat → Prop) (w8r : Value) (T8r : Nat → Prop),spec_FirstToLose.l2 k t43 t70 n x7r' x8r' x12' = some (x7r,x8r)∧SlLen w7r (x7r').length∧SlLen w8r (x8r').length∧e' = [(1,.pointer (some ⟨b1_1,0,none⟩)),(4,v13_1),(5,v19_2),(6,.int .i64 t25),(7,w7r),(8,w8r),(9,.int .i64 x9),(10,.int .i64 t43),(11,v70_1),(12,.int .i64 x12')]∧C' = Sep w noM [R.box b1_1 65 [.int .i64 a0_0,va0_1,va0_2,va0_3],R.sl S70_1 v70_1 (t70 : List (Int)),R.sl T8r w8r (x8r' : List (Int)),R.sl T7r w7r (x7r' : List (Int)),R.sl S19_2 v19_2 (t19 : List (Bool)),R.sl S13_1 v13_1 (([] : List (Int)) : List (Int))]) k ?_ ?_ ?_
     ·exact ⟨x7,x8,0,w7,T7,w8,T8,hE_3,hl_w7,hl_w8,rfl,rfl⟩
     ·rintro _ _ ⟨_,_,_,_,_,_,_,hE_3,_⟩
      rw [spec_FirstToLose.l2.eq_1] at hE_3; cases hE_3
     ·rintro n_3 _ _ ⟨x7r,x8r,x12,w7r,T7r,w8r,T8r,hE_3,hl_w7r,hl_w8r,rfl,rfl⟩ ih_3
      rw [spec_FirstToLose.l2.eq_2] at hE_3
      refine Tri.seq (Tri.seq (Tri.reg (l:=[0,1,2,3]) rfl ?_))
      refine F.qn rfl (r_move rfl) (F.qn rfl (r_move rfl) (F.qn rfl (r_len Tryz.underlying25 rfl hl_v70_1) (F.qn rfl (r_lss rfl rfl) (F.nil (Nrm.seq (Tri.cond (b:=decide (x12 < (t70.length : Int))) rfl (fun g_5=>?_) (fun g_5=>?_)))))))
      ·replace hE_3:=if_tt g_5 hE_3
       refine Tri.skip (Nrm.seq (Tri.seq (Tri.block ?_)))
       refine Tri.seq ?_
       obtain ⟨t80,h80,hE_3⟩:=bind_some hE_3
       obtain ⟨t82,h82,hE_3⟩:=bind_some hE_3
       refine Tri.reg (l:=[0,1,2,3,4,5,6,7]) rfl ?_
       iterate 3 refine F.qn rfl (r_move rfl) ?_
       refine F.qn rfl (r_indexAddrS Tryz.underlying25 ti3 rfl hl_v70_1 rfl (rdl_some h80).1 (rdl_some h80).2.1) (F.qn rfl (r_load ta3 rfl (fun w hw=>cell_0 (Rd.flat ((rd_sl (i:=1) rfl) w hw) (rdl_some h80).2.2) rfl)) (F.qn rfl (r_indexAddrS Tryz.underlying25 ti3 rfl hl_w8r rfl (rdl_some h82).1 (rdl_some h82).2.1) (F.qn rfl (r_load ta3 rfl (fun w hw=>cell_0 (Rd.flat ((rd_sl (i:=2) rfl) w hw) (rdl_some h82).2.2) rfl)) (F.qn rfl (r_lss rfl rfl) (F.nil (Nrm.seq ?_))))))
       obtain ⟨⟨y7,y8⟩,hE_4,hE_3⟩:=bind_some hE_3
       refine Tri.cut (fun e' C'=>∃ (v7_1 : Value) (S7_1 : Nat → Prop) (v8_1 : Value) (S8_1 : Nat → Prop),SlLen v7_1 (y7).length∧SlLen v8_1 (y8).length∧e' = [(1,.pointer (some ⟨b1_1,0,none⟩)),(4,v13_1),(5,v19_2),(6,.int .i64 t25),(7,v7_1),(8,v8_1),(9,.int .i64 x9),(10,.int .i64 t43),(11,v70_1),(12,.int .i64 x12)]∧C' = Sep w noM [R.box b1_1 65 [.int .i64 a0_0,va0_1,va0_2,va0_3],R.sl S7_1 v7_1 (y7 : List (Int)),R.sl S8_1 v8_1 (y8 : List (Int)),R.sl S13_1 v13_1 (([] : List (Int)) : List (Int)),R.sl S19_2 v19_2 (t19 : List (Bool)),R.sl S70_1 v70_1 (t70 : List (Int))]) ?_ (fun hj_1=>?_)
       ·rintro _ _ ⟨v7_1,S7_1,v8_1,S8_1,hl_v7_1,hl_v8_1,rfl,rfl⟩
        refine Nrm.block ?_
        refine Nrm.seq (Tri.reg (l:=[0,1,2]) rfl ?_)
        refine F.qn rfl (r_move rfl) (F.qn rfl (r_add rfl rfl) (F.qn rfl (r_assign rfl) (F.nil (Nrm.round ?_))))
        refine Rnd.only [1,4,5,6,7,8,9,10,11,12] rfl ?_
        refine Rnd.pick [0,5,2,1,4,3] rfl rfl ?_
        exact ih_3 _ _ ⟨y7,y8,w64 (x12 + 1),v7_1,S7_1,v8_1,S8_1,hE_3,hl_v7_1,hl_v8_1,rfl,rfl⟩
       ·refine Tri.cond (b:=decide (t82 < 0)) rfl (fun g_6=>?_) (fun g_6=>?_)
        ·replace hE_4:=if_tt g_6 hE_4
         refine Tri.seq ?_
         obtain ⟨t88,h88,hE_4⟩:=bind_some hE_4
         obtain ⟨t91,h91,hE_4⟩:=bind_some hE_4
         refine Tri.reg (l:=[0,1,2,3,4,5,6,7]) rfl ?_
         iterate 3 refine F.qn rfl (r_move rfl) ?_
         refine F.qn rfl (r_indexAddrS Tryz.underlying25 ti3 rfl hl_v70_1 rfl (rdl_some h88).1 (rdl_some h88).2.1) (F.qn rfl (r_load ta3 rfl (fun w hw=>cell_0 (Rd.flat ((rd_sl (i:=1) rfl) w hw) (rdl_some h88).2.2) rfl)) (F.qn rfl (r_move rfl) (F.qn rfl (r_indexAddrS Tryz.underlying25 ti3 rfl hl_w8r rfl (rdl_some h91).1 (rdl_some h91).2.1) ?_)))
         refine F.ef0 rfl rfl (wanted_none rfl) (d_storeE (i:=2) (x1:=t43) ti3 rfl rfl rfl (rdl_some h91) rfl) ?_
         rintro _ _ ⟨rfl,rfl⟩
         refine F.nil (Nrm.seq ?_)
         obtain ⟨t95,h95,hE_4⟩:=bind_some hE_4
         obtain ⟨hs98,hE_4⟩:=ck hE_4
         refine Tri.reg (l:=[0,1,2,3,4,5,6,7]) rfl ?_
         iterate 3 refine F.qn rfl (r_move rfl) ?_
         refine F.qn rfl (r_indexAddrS Tryz.underlying25 ti3 rfl hl_v70_1 rfl (rdl_some h95).1 (rdl_some h95).2.1) (F.qn rfl (r_load ta3 rfl (fun w hw=>cell_0 (Rd.flat ((rd_sl (i:=1) rfl) w hw) (rdl_some h95).2.2) rfl)) ?_)
         refine F.mn rfl (m_buildF (l:=([t95] : List (Int))) Tryz.underlying25 ti3 rfl rfl rfl rfl rfl) ?_
         rintro v97_1 _ ⟨S97_1,hl_v97_1,rfl⟩
         refine F.efn rfl (d_append (i:=4) Tryz.underlying25 Tryz.underlying25 ti3 rfl (by decide) rfl rfl rfl (rd_sl (i:=0) rfl) hs98) ?_
         rintro v98_1 _ ⟨S98_1,rfl,hl_v98_1⟩
         refine F.qn rfl (r_assign rfl) (F.nil ?_)
         cases hE_4
         refine Nrm.only [1,4,5,6,7,8,9,10,11,12] rfl ?_
         refine Nrm.pick [1,4,3,6,5,2] rfl rfl ?_
         exact hj_1 _ _ ⟨v98_1,S98_1,w8r,T8r,hl_v98_1,(len_set hl_w8r),rfl,rfl⟩
        ·replace hE_4:=if_ff g_6 hE_4
         refine Tri.skip ?_
         cases hE_4
         refine Nrm.only [1,4,5,6,7,8,9,10,11,12] rfl ?_
         refine Nrm.pick [0,3,2,5,4,1] rfl rfl ?_
         exact hj_1 _ _ ⟨w7r,T7r,w8r,T8r,hl_w7r,hl_w8r,rfl,rfl⟩
      ·replace hE_3:=if_ff g_5 hE_3
       refine Tri.exit ?_
       refine Exi.then ?_
       refine Exi.then ?_
       refine Exi.same ?_
       cases hE_3
       refine Nrm.block ?_
       refine Nrm.seq (Tri.reg (l:=[0,1,2]) rfl ?_)
       refine F.qn rfl (r_move rfl) (F.qn rfl (r_add rfl rfl) (F.qn rfl (r_assign rfl) (F.nil (Nrm.round ?_))))
       refine Rnd.only [1,4,5,6,7,8,9] rfl ?_
       refine Rnd.pick [0,2,3,4,5] rfl rfl ?_
       exact ih_1 _ _ ⟨x7r,x8r,w64 (x9 + 1),w7r,T7r,w8r,T8r,hE_1,hl_w7r,hl_w8r,rfl,rfl⟩
   ·replace hE_1:=if_ff g_2 hE_1
    refine Tri.exit ?_
    refine Exi.then ?_
    refine Exi.then ?_
    refine Exi.same ?_
    cases hE_1
    replace h:=Lr_inl h
    refine Nrm.seq (Tri.seq (Tri.reg (l:=[0,1,2]) rfl ?_))
    refine F.qn rfl (r_move rfl) (F.qn rfl (r_assign rfl) (F.qn rfl (r_assign rfl) (F.nil (Nrm.seq (Tri.ret ?_)))))
    cases h
    exact Rtn.body (.tmp rfl (.tmp rfl .nil)) (fun w hw=>⟨_,_,rfl,⟨v13_1,S13_1,rfl,hl_v13_1,rfl⟩,Sep.pick (is:=[4]) rfl rfl hw⟩)


def laws_rInts.l0 (k : Nat) (a0 : List Int) (a1 : List Int) : Nat → Int → Option ((Unit) ⊕ (Bool))
 | 0,_=>none
 | n + 1,x5=>(if (decide (x5 < (a0.length : Int))) = true then (rdl a0 x5).bind fun t19=>(rdl a1 x5).bind fun t23=>(if (t19 != t23) = true then some (Sum.inr false) else laws_rInts.l0 k a0 a1 n (w64 (x5 + 1))) else some (Sum.inl ()))

def laws_rInts.f (k : Nat) (a0 : List Int) (a1 : List Int) : Option (Bool) := (if ((a0.length : Int) != (a1.length : Int)) = true then some false else (laws_rInts.l0 k a0 a1 k 0).bind fun s => Lr s some fun _ => some true)

theorem laws_rInts.ok {k : Nat}  {a0 : List Int} {a1 : List Int} {r0 : Bool} (h : laws_rInts.f k a0 a1 = some r0) (w : World) {va0 : Value} {va1 : Value} (hr_a0 : Rd w va0 a0) (hr_a1 : Rd w va1 a1) :
  Calls Tryz.prog 51 ([va0,va1] : List Value).toArray w (fun e w'=>e = .returned (.bool r0)∧Ext w w'):=by
 unfold laws_rInts.f at h
 have hl_va0:=hr_a0.len
 have hl_va1:=hr_a1.len
 refine Calls.of_tri (N:=26) Tryz.func51 rfl rfl rfl (Sep.nil (M:=noM)) ?_
 refine Tri.seq (Tri.reg (l:=[0]) rfl ?_)
 refine F.qn rfl (r_assign rfl) (F.nil (Nrm.seq (Tri.seq (Tri.seq (Tri.reg (l:=[0,1,2,3,4]) rfl ?_)))))
 refine F.qn rfl (r_move rfl) (F.qn rfl (r_len Tryz.underlying25 rfl hl_va0) (F.qn rfl (r_move rfl) (F.qn rfl (r_len Tryz.underlying25 rfl hl_va1) (F.qn rfl (r_neq rfl rfl) (F.nil (Nrm.seq (Tri.cond (b:=(a0.length : Int) != (a1.length : Int)) rfl (fun g_1=>?_) (fun g_1=>?_))))))))
 ·replace h:=if_tt g_1 h
  refine Tri.seq (Tri.reg (l:=[0]) rfl ?_)
  refine F.qn rfl (r_assign rfl) (F.nil (Nrm.seq (Tri.ret ?_)))
  refine Rtn.then ?_
  cases h
  exact Rtn.body (.tmp rfl .nil) (fun w hw=>⟨rfl,hw.ext⟩)
 ·replace h:=if_ff g_1 h
  refine Tri.skip (Nrm.seq (Tri.seq (Tri.seq (Tri.reg (l:=[0]) rfl ?_))))
  refine F.qn rfl (r_assign rfl) (F.nil (Nrm.seq ?_))
  obtain ⟨s0,hE_1,h⟩:=bind_some h
  refine Tri.block ?_
  refine Tri.only [0,1,5] rfl ?_
  refine Tri.pick [] rfl rfl ?_
  refine Tri.rounds (fun n e' C'=>∃ (x5' : Int),laws_rInts.l0 k a0 a1 n x5' = some s0∧e' = [(0,va0),(1,va1),(5,.int .i64 x5')]∧C' = Sep w noM []) k ?_ ?_ ?_
  ·exact ⟨0,hE_1,rfl,rfl⟩
  ·rintro _ _ ⟨_,hE_1,_⟩
   rw [laws_rInts.l0.eq_1] at hE_1; cases hE_1
  ·rintro n_1 _ _ ⟨x5,hE_1,rfl,rfl⟩ ih_1
   rw [laws_rInts.l0.eq_2] at hE_1
   refine Tri.seq (Tri.seq (Tri.reg (l:=[0,1,2,3]) rfl ?_))
   refine F.qn rfl (r_move rfl) (F.qn rfl (r_move rfl) (F.qn rfl (r_len Tryz.underlying25 rfl hl_va0) (F.qn rfl (r_lss rfl rfl) (F.nil (Nrm.seq (Tri.cond (b:=decide (x5 < (a0.length : Int))) rfl (fun g_2=>?_) (fun g_2=>?_)))))))
   ·replace hE_1:=if_tt g_2 hE_1
    refine Tri.skip (Nrm.seq (Tri.seq (Tri.block ?_)))
    refine Tri.seq ?_
    obtain ⟨t19,h19,hE_1⟩:=bind_some hE_1
    obtain ⟨t23,h23,hE_1⟩:=bind_some hE_1
    refine Tri.drawA mixedT Sep.up [(0,true),(1,true),(2,true),(3,true),(4,true),(5,true),(6,true),(7,true),(8,true)] [] (by kernel_rfl) ?_
    refine S.qn rfl (r_move rfl) (S.qn rfl (r_move rfl) (S.qn rfl (r_indexAddrS Tryz.underlying25 ti3 rfl hl_va0 rfl (rdl_some h19).1 (rdl_some h19).2.1) ?_))
    refine S.qn rfl (r_load ta3 rfl (fun w hw=>cell_0 (Rd.flat ((fun _ hw=>hr_a0.sep hw) w hw) (rdl_some h19).2.2) rfl)) (S.qn rfl (r_move rfl) (S.qn rfl (r_move rfl) (S.qn rfl (r_indexAddrS Tryz.underlying25 ti3 rfl hl_va1 rfl (rdl_some h23).1 (rdl_some h23).2.1) (S.qn rfl (r_load ta3 rfl (fun w hw=>cell_0 (Rd.flat ((fun _ hw=>hr_a1.sep hw) w hw) (rdl_some h23).2.2) rfl)) (S.qn rfl (r_neq rfl rfl) (S.nil (F.nil (Nrm.seq (Tri.cond (b:=t19 != t23) rfl (fun g_3=>?_) (fun g_3=>?_))))))))))
    ·replace hE_1:=if_tt g_3 hE_1
     refine Tri.seq (Tri.reg (l:=[0]) rfl ?_)
     refine F.qn rfl (r_assign rfl) (F.nil (Nrm.seq (Tri.ret ?_)))
     refine Rtn.block ?_
     refine Rtn.then ?_
     refine Rtn.then ?_
     refine Rtn.block ?_
     refine Rtn.then ?_
     cases hE_1
     replace h:=Lr_inr h
     cases h
     exact Rtn.body (.tmp rfl .nil) (fun w hw=>⟨rfl,hw.ext⟩)
    ·replace hE_1:=if_ff g_3 hE_1
     refine Tri.skip (Nrm.block ?_)
     refine Nrm.seq (Tri.reg (l:=[0,1,2]) rfl ?_)
     refine F.qn rfl (r_move rfl) (F.qn rfl (r_add rfl rfl) (F.qn rfl (r_assign rfl) (F.nil (Nrm.round ?_))))
     refine Rnd.only [0,1,5] rfl ?_
     refine Rnd.pick [] rfl rfl ?_
     exact ih_1 _ _ ⟨w64 (x5 + 1),hE_1,rfl,rfl⟩
   ·replace hE_1:=if_ff g_2 hE_1
    refine Tri.exit ?_
    refine Exi.then ?_
    refine Exi.then ?_
    refine Exi.same ?_
    cases hE_1
    replace h:=Lr_inl h
    refine Nrm.seq (Tri.seq (Tri.reg (l:=[0]) rfl ?_))
    refine F.qn rfl (r_assign rfl) (F.nil (Nrm.seq (Tri.ret ?_)))
    cases h
    exact Rtn.body (.tmp rfl .nil) (fun w hw=>⟨rfl,hw.ext⟩)


def impl_told.f (k : Nat) (a0 : Int) : Option (Int × Bool) := some (imax a0 0, decide (a0 ≥ 0))

theorem impl_told.ok {k : Nat}  {a0 : Int} {r0 : Int} {r1 : Bool} (h : impl_told.f k a0 = some (r0, r1)) (w : World) :
  Calls Tryz.prog 133 ([.int .i64 a0] : List Value).toArray w (fun e w'=>e = .returned (.tuple #[.int .i64 r0,.bool r1])∧Ext w w'):=by
 unfold impl_told.f at h
 refine Calls.of_tri (N:=8) Tryz.func133 rfl rfl rfl (Sep.nil (M:=noM)) ?_
 refine Tri.seq (Tri.reg (l:=[0,1]) rfl ?_)
 refine F.qn rfl (r_assign rfl) (F.qn rfl (r_assign rfl) (F.nil (Nrm.seq (Tri.seq (Tri.reg (l:=[0,1,2,3,4,5]) rfl ?_)))))
 refine F.qn rfl (r_move rfl) (F.qn rfl (r_max rfl rfl) (F.qn rfl (r_move rfl) (F.qn rfl (r_geq rfl rfl) (F.qn rfl (r_assign rfl) (F.qn rfl (r_assign rfl) (F.nil (Nrm.seq (Tri.ret ?_))))))))
 cases h
 exact Rtn.body (.tmp rfl (.tmp rfl .nil)) (fun w hw=>⟨rfl,hw.ext⟩)


def impl_FewestToLose.f (k : Nat) (a0_0 : Int) (a0_1 : List (Int × Int × Int)) (a0_2 : List Int) (a0_3 : List Int) : Option (Int × Bool) := (impl_IsTrap.f k a0_0 a0_1 a0_2 a0_3).bind fun t5 => (if (!t5) = true then some (0, false) else (impl_toLost.f k a0_0 a0_1 a0_2 a0_3).bind fun t8 => (rdl a0_2 0).bind fun t13 => if 0 ≤ t13 ∧ t13 < 64 then (impl_told.f k (Arr.at t8 (0 * 64 + t13))).bind fun (t16_1, t16_2) => some (t16_1, t16_2) else none)

theorem impl_FewestToLose.ok {k : Nat}  {a0_0 : Int} {a0_1 : List (Int × Int × Int)} {a0_2 : List Int} {a0_3 : List Int} {r0 : Int} {r1 : Bool} (h : impl_FewestToLose.f k a0_0 a0_1 a0_2 a0_3 = some (r0, r1)) (w : World) {va0_1 : Value} {va0_2 : Value} {va0_3 : Value} (hr_a0_1 : Rd w va0_1 a0_1) (hr_a0_2 : Rd w va0_2 a0_2) (hr_a0_3 : Rd w va0_3 a0_3) :
  Calls Tryz.prog 52 ([.agg ([.int .i64 a0_0,va0_1,va0_2,va0_3].toArray)] : List Value).toArray w (fun e w'=>e = .returned (.tuple #[.int .i64 r0,.bool r1])∧Ext w w'):=by
 unfold impl_FewestToLose.f at h
 have hl_va0_1:=hr_a0_1.len
 have hl_va0_2:=hr_a0_2.len
 have hl_va0_3:=hr_a0_3.len
 refine Calls.of_tri (N:=19) Tryz.func52 rfl rfl rfl (Sep.nil (M:=noM)) ?_
 refine Tri.seq (Tri.reg (l:=[0,1,2]) rfl ?_)
 refine F.mn rfl (m_boxG rfl rfl) ?_
 rintro _ _ ⟨b1_1,rfl,rfl⟩
 refine F.qn rfl (r_assign rfl) (F.qn rfl (r_assign rfl) (F.nil (Nrm.seq (Tri.seq (Tri.seq ?_)))))
 obtain ⟨t5,h5,h⟩:=bind_some h
 refine Tri.reg (l:=[0,1,2]) rfl ?_
 refine F.qn rfl (r_loadA ta65 ti65 rfl rfl (fun w hw=>(box_cells (i:=0) rfl w hw))) ?_
 refine F.qcn rfl (q_callF (xs:=_) rfl ok56 rfl rfl (fun w hw=>impl_IsTrap.ok h5 w ((fun _ hw=>hr_a0_1.sep hw) w hw) ((fun _ hw=>hr_a0_2.sep hw) w hw) ((fun _ hw=>hr_a0_3.sep hw) w hw))) ?_
 refine F.qn rfl (r_not rfl) (F.nil (Nrm.seq (Tri.cond (b:=!t5) rfl (fun g_1=>?_) (fun g_1=>?_))))
 ·replace h:=if_tt g_1 h
  refine Tri.seq (Tri.reg (l:=[0,1]) rfl ?_)
  refine F.qn rfl (r_assign rfl) (F.qn rfl (r_assign rfl) (F.nil (Nrm.seq (Tri.ret ?_))))
  refine Rtn.then ?_
  cases h
  exact Rtn.body (.tmp rfl (.tmp rfl .nil)) (fun w hw=>⟨rfl,hw.ext⟩)
 ·replace h:=if_ff g_1 h
  refine Tri.skip (Nrm.seq (Tri.seq ?_))
  obtain ⟨t8,h8,h⟩:=bind_some h
  obtain ⟨t13,h13,h⟩:=bind_some h
  obtain ⟨hb15,h⟩:=ck h
  obtain ⟨⟨t16_1,t16_2⟩,h16,h⟩:=bind_some h
  refine Tri.drawA mixedT Sep.up [(0,true),(1,true),(2,true),(3,true),(4,true),(5,true),(6,true),(7,true),(8,true),(9,true),(10,true),(11,true),(12,true),(13,true)] [] (by kernel_rfl) ?_
  refine S.qn rfl (r_loadA ta65 ti65 rfl rfl (fun w hw=>(box_cells (i:=0) rfl w hw))) ?_
  refine S.qcn rfl (q_callF (xs:=_) rfl ok126 rfl rfl (fun w hw=>impl_toLost.ok h8 w ((fun _ hw=>hr_a0_1.sep hw) w hw) ((fun _ hw=>hr_a0_2.sep hw) w hw) ((fun _ hw=>hr_a0_3.sep hw) w hw))) ?_
  refine S.qn rfl (r_indexT (g:=t8) Tryz.underlying132 ti130 ta130 rfl rfl ⟨by decide,by decide⟩) ?_
  refine S.qn rfl (r_fieldAddr tf65_0 rfl) (S.qn rfl (r_fieldAddr tf27_2 rfl) (S.qn rfl (r_load ta25 rfl (fun w hw=>cell_2 (box_cells (i:=0) rfl w hw) rfl)) (S.qn rfl (r_indexAddrS Tryz.underlying25 ti3 rfl hl_va0_2 rfl (rdl_some h13).1 (rdl_some h13).2.1) (S.qn rfl (r_load ta3 rfl (fun w hw=>cell_0 (Rd.flat ((fun _ hw=>hr_a0_2.sep hw) w hw) (rdl_some h13).2.2) rfl)) (S.qn rfl (r_indexR (g:=t8) (i:=0) (m:=64) Tryz.underlying130 ti3 ta3 rfl rfl (tabB 12 64 768 ⟨by decide,by decide⟩ rfl) hb15) ?_)))))
  refine S.qcn rfl (q_callF (xs:=_) rfl ok133 rfl rfl (fun w hw=>impl_told.ok h16 w)) ?_
  refine S.qn rfl (r_extract rfl rfl) (S.qn rfl (r_extract rfl rfl) (S.qn rfl (r_assign rfl) (S.qn rfl (r_assign rfl) (S.nil (F.nil (Nrm.seq (Tri.ret ?_)))))))
  cases h
  exact Rtn.body (.tmp rfl (.tmp rfl .nil)) (fun w hw=>⟨rfl,hw.ext⟩)


def spec_FewestToLose.f (k : Nat) (a0_0 : Int) (a0_1 : List (Int × Int × Int)) (a0_2 : List Int) (a0_3 : List Int) : Option (Int × Bool) := (spec_FirstToLose.f k a0_0 a0_1 a0_2 a0_3).bind fun (t8_1, t8_2) => (if (!t8_2) = true then some (0, false) else some (w64 ((t8_1.length : Int) - 1), true))

theorem spec_FewestToLose.ok {k : Nat}  {a0_0 : Int} {a0_1 : List (Int × Int × Int)} {a0_2 : List Int} {a0_3 : List Int} {r0 : Int} {r1 : Bool} (h : spec_FewestToLose.f k a0_0 a0_1 a0_2 a0_3 = some (r0, r1)) (w : World) {va0_1 : Value} {va0_2 : Value} {va0_3 : Value} (hr_a0_1 : Rd w va0_1 a0_1) (hr_a0_2 : Rd w va0_2 a0_2) (hr_a0_3 : Rd w va0_3 a0_3) :
  Calls Tryz.prog 53 ([.agg ([.int .i64 a0_0,va0_1,va0_2,va0_3].toArray)] : List Value).toArray w (fun e w'=>e = .returned (.tuple #[.int .i64 r0,.bool r1])∧Ext w w'):=by
 unfold spec_FewestToLose.f at h
 have hl_va0_1:=hr_a0_1.len
 have hl_va0_2:=hr_a0_2.len
 have hl_va0_3:=hr_a0_3.len
 refine Calls.of_tri (N:=16) Tryz.func53 rfl rfl rfl (Sep.nil (M:=noM)) ?_
 refine Tri.seq (Tri.reg (l:=[0,1,2]) rfl ?_)
 refine F.mn rfl (m_boxG rfl rfl) ?_
 rintro _ _ ⟨b1_1,rfl,rfl⟩
 refine F.qn rfl (r_assign rfl) (F.qn rfl (r_assign rfl) (F.nil (Nrm.seq (Tri.seq ?_))))
 obtain ⟨⟨t8_1,t8_2⟩,h8,h⟩:=bind_some h
 refine Tri.reg (l:=[0,1,2,3,4,5,6]) rfl ?_
 refine F.qn rfl (r_loadA ta65 ti65 rfl rfl (fun w hw=>(box_cells (i:=0) rfl w hw))) ?_
 refine F.mn rfl (m_callF (xs:=_) rfl ok50 rfl rfl (fun w hw=>spec_FirstToLose.ok h8 w ((fun _ hw=>hr_a0_1.sep hw) w hw) ((fun _ hw=>hr_a0_2.sep hw) w hw) ((fun _ hw=>hr_a0_3.sep hw) w hw))) ?_
 rintro _ _ ⟨_,⟨v8_1,S8_1,rfl,hl_v8_1,rfl⟩,rfl⟩
 refine F.qn rfl (r_move rfl) (F.qn rfl (r_extract rfl rfl) (F.qn rfl (r_extract rfl rfl) (F.qn rfl (r_assign rfl) (F.qn rfl (r_assign rfl) (F.nil (Nrm.seq (Tri.seq (Tri.seq (Tri.reg (l:=[0,1]) rfl ?_)))))))))
 refine F.qn rfl (r_move rfl) (F.qn rfl (r_not rfl) (F.nil (Nrm.seq (Tri.cond (b:=!t8_2) rfl (fun g_1=>?_) (fun g_1=>?_)))))
 ·replace h:=if_tt g_1 h
  refine Tri.seq (Tri.reg (l:=[0,1]) rfl ?_)
  refine F.qn rfl (r_assign rfl) (F.qn rfl (r_assign rfl) (F.nil (Nrm.seq (Tri.ret ?_))))
  refine Rtn.then ?_
  cases h
  exact Rtn.body (.tmp rfl (.tmp rfl .nil)) (fun w hw=>⟨rfl,hw.ext⟩)
 ·replace h:=if_ff g_1 h
  refine Tri.skip (Nrm.seq (Tri.seq (Tri.reg (l:=[0,1,2,3,4]) rfl ?_)))
  refine F.qn rfl (r_move rfl) (F.qn rfl (r_len Tryz.underlying25 rfl hl_v8_1) (F.qn rfl (r_sub rfl rfl) (F.qn rfl (r_assign rfl) (F.qn rfl (r_assign rfl) (F.nil (Nrm.seq (Tri.ret ?_)))))))
  cases h
  exact Rtn.body (.tmp rfl (.tmp rfl .nil)) (fun w hw=>⟨rfl,hw.ext⟩)

end Go.Proofs
