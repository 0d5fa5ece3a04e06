/- A part of the proof of FnTraps: what the functions of the program compute, walked on the model. No condition. -/
import Derived.Shelf.SlGeneric
import Derived.Shelf.Slices.Empties
import Derived.Shelf.Slices.SearchI
import Derived.Shelf.Spec.SlicesInsert
import Derived.Shelf.Spec.SlicesInsertGrow
import Derived.Test.YtebbaacgalipaaaGreatChecked
import Derived.Test.YtebbaacgalipaaaGreatFnTrapsB
import Derived.Test.YtebbaacgalipaaaGreatFnTrapsC
import Derived.Test.YtebbaacgalipaaaGreatFnTrapsD
set_option linter.unusedSimpArgs false
/- loop.example/g01158/impl.trapFrom -/
namespace Go.Proofs
open Go Go.Ga
set_option linter.unusedVariables false
set_option maxRecDepth 100000
set_option maxHeartbeats 4000000
def impl_trapFrom.l1 (k : Nat) (x17 : Int) : Nat → Int → (Arr 768) → Option ((Arr 768))
 | 0,_,_=>none
 | n + 1,x20,xb7_1_0r=>(if (decide (x20 < 64)) = true then if 0 ≤ x17∧x17 < 12 then if 0 ≤ x20∧x20 < 64 then impl_trapFrom.l1 k x17 n (w64 (x20 + 1)) (Arr.put xb7_1_0r (x17 * 64 + x20) (-1)) else none else none else some xb7_1_0r)

def impl_trapFrom.l3 (k : Nat) (a0_2 : List Int) (t43 : Int × Int) (t47 : Int × Int) (t54 : List Int) : Nat → (List (Int × Int)) → Int → (Arr 768) → Option ((Arr 768) × (List (Int × Int)))
 | 0,_,_,_=>none
 | n + 1,x10r,x56,xb7_1_0rrr=>(if (decide (x56 < (t54.length : Int))) = true then (rdl t54 x56).bind fun t58=>(rdl a0_2 t58).bind fun t65=>if 0 ≤ t58∧t58 < 12 then if 0 ≤ bor t47.2 t65∧bor t47.2 t65 < 64 then ((if (decide ((Arr.at xb7_1_0rrr (t58 * 64 + (bor t47.2 t65))) < 0)) = true then if 0 ≤ t43.1∧t43.1 < 12 then if 0 ≤ t47.2∧t47.2 < 64 then if 0 ≤ t58∧t58 < 12 then if 0 ≤ bor t47.2 t65∧bor t47.2 t65 < 64 then if (x10r ++ ([(t58,bor t47.2 t65)] : List (Int × Int))).length < 1099511627776 then some (x10r ++ ([(t58,bor t47.2 t65)] : List (Int × Int)),(Arr.put xb7_1_0rrr (t58 * 64 + (bor t47.2 t65)) (w64 ((Arr.at xb7_1_0rrr (t43.1 * 64 + t47.2)) + 1)))) else none else none else none else none else none else some (x10r,xb7_1_0rrr))).bind fun (y10,yb7_1_0)=>impl_trapFrom.l3 k a0_2 t43 t47 t54 n y10 (w64 (x56 + 1)) yb7_1_0 else none else none else some (xb7_1_0rrr,x10r))

def impl_trapFrom.l2 (k : Nat) (a0_0 : Int) (a0_1 : List (Int × Int × Int)) (a0_2 : List Int) (a0_3 : List Int) : Nat → (List (Int × Int)) → (Arr 768) → Option ((Arr 768))
 | 0,_,_=>none
 | n + 1,x10,xb7_1_0rr=>(if (decide ((x10.length : Int) > 0)) = true then (rdl x10 0).bind fun t43=>(rdl x10 0).bind fun t47=>(impl_trapSteps.f k a0_0 a0_1 a0_2 a0_3 t43.1 t47.2).bind fun t53=>(impl_members.f k t53).bind fun t54=>(impl_trapFrom.l3 k a0_2 t43 t47 t54 k x10 0 xb7_1_0rr).bind fun (xb7_1_0rrr,x10r)=>(slc x10r 1 (x10r.length : Int)).bind fun t41=>impl_trapFrom.l2 k a0_0 a0_1 a0_2 a0_3 n t41 xb7_1_0rrr else some xb7_1_0rr)

def impl_trapFrom.l0 (k : Nat) : Nat → Int → (Arr 768) → Option ((Arr 768))
 | 0,_,_=>none
 | n + 1,x17,xb7_1_0=>(if (decide (x17 < 12)) = true then (impl_trapFrom.l1 k x17 k 0 xb7_1_0).bind fun xb7_1_0r=>impl_trapFrom.l0 k n (w64 (x17 + 1)) xb7_1_0r else some xb7_1_0)

def impl_trapFrom.f (k : Nat) (a0_0 : Int) (a0_1 : List (Int × Int × Int)) (a0_2 : List Int) (a0_3 : List Int) (a1 : Int) (a2 : Int) : Option ((Arr 768)) := (impl_trapFrom.l0 k k 0 (Arr.rep 768 0)).bind fun xb7_1_0 => if 0 ≤ a1 ∧ a1 < 12 then if 0 ≤ a2 ∧ a2 < 64 then (impl_trapFrom.l2 k a0_0 a0_1 a0_2 a0_3 k ([(a1, a2)] : List (Int × Int)) (Arr.put xb7_1_0 (a1 * 64 + a2) 0)).bind fun xb7_1_0rr => some xb7_1_0rr else none else none

theorem impl_trapFrom.ok {k : Nat}  {a0_0 : Int} {a0_1 : List (Int × Int × Int)} {a0_2 : List Int} {a0_3 : List Int} {a1 : Int} {a2 : Int} {r0 : Arr 768} (h : impl_trapFrom.f k a0_0 a0_1 a0_2 a0_3 a1 a2 = some r0) (w : World) {va0_1 : Value} {va0_2 : Value} {va0_3 : Value} (hr_a0_1 : Rd w va0_1 a0_1) (hr_a0_2 : Rd w va0_2 a0_2) (hr_a0_3 : Rd w va0_3 a0_3) :
  Calls Tryz.prog 214 ([.agg ([.int .i64 a0_0,va0_1,va0_2,va0_3].toArray),.int .i64 a1,.int .i64 a2] : List Value).toArray w (fun e w'=>e = .returned (.agg (encA r0).toArray)∧Ext w w'):=by
 unfold impl_trapFrom.f at h
 have hl_va0_1:=hr_a0_1.len
 have hl_va0_2:=hr_a0_2.len
 have hl_va0_3:=hr_a0_3.len
 refine Calls.of_tri (N:=92) Tryz.func214 rfl rfl rfl (Sep.nil (M:=noM)) ?_
 refine Tri.seq (Tri.reg (l:=[0,1]) rfl ?_)
 refine F.mn rfl (m_boxG rfl rfl) ?_
 rintro _ _ ⟨b3_1,rfl,rfl⟩
 refine F.mn rfl (m_alloc ti132) ?_
 rintro _ _ ⟨b6_1,rfl,rfl⟩
 refine F.nil (Nrm.seq (Tri.seq (Tri.reg (l:=[0,1,2]) rfl ?_)))
 refine F.qn rfl (r_buildA (qs:=[]) (cs:=encA (Arr.rep 768 0)) Tryz.underlying132 ti130 ti132 rfl .nil (encA_len _) rfl) ?_
 refine F.mn rfl (m_alloc ti132) ?_
 rintro _ _ ⟨b7_1,rfl,rfl⟩
 refine F.ef0 rfl rfl (wanted_none rfl) (d_storeArr (i:=0) (g:=(Arr.rep 768 0)) (h:=(Arr.rep 768 0)) ti132 rfl rfl rfl) ?_
 rintro _ _ ⟨rfl,rfl⟩
 refine F.nil (Nrm.seq (Tri.seq (Tri.seq (Tri.reg (l:=[0]) rfl ?_))))
 refine F.qn rfl (r_move rfl) (F.nil (Nrm.seq ?_))
 obtain ⟨xb7_1_0,hE_1,h⟩:=bind_some h
 refine Tri.block ?_
 refine Tri.only [1,2,3,6,7,17] rfl ?_
 refine Tri.pick [0,1,2] rfl rfl ?_
 refine Tri.rounds (fun n e' C'=>∃ (x17' : Int) (xb7_1_0' : Arr 768),impl_trapFrom.l0 k n x17' xb7_1_0' = some xb7_1_0∧e' = [(1,.int .i64 a1),(2,.int .i64 a2),(3,.pointer (some ⟨b3_1,0,none⟩)),(6,.pointer (some ⟨b6_1,0,none⟩)),(7,.pointer (some ⟨b7_1,0,none⟩)),(17,.int .i64 x17')]∧C' = Sep w noM [R.box b7_1 132 (encA xb7_1_0'),R.box b6_1 132 (encA (Arr.rep 768 0)),R.box b3_1 65 [.int .i64 a0_0,va0_1,va0_2,va0_3]]) k ?_ ?_ ?_
 ·exact ⟨0,(Arr.rep 768 0),hE_1,rfl,rfl⟩
 ·rintro _ _ ⟨_,_,hE_1,_⟩
  rw [impl_trapFrom.l0.eq_1] at hE_1; cases hE_1
 ·rintro n_1 _ _ ⟨x17,xb7_1_0,hE_1,rfl,rfl⟩ ih_1
  rw [impl_trapFrom.l0.eq_2] at hE_1
  refine Tri.seq (Tri.reg (l:=[0]) rfl ?_)
  refine F.qn rfl (r_lss rfl rfl) (F.nil (Nrm.seq (Tri.seq (Tri.cond (b:=decide (x17 < 12)) rfl (fun g_1=>?_) (fun g_1=>?_)))))
  ·replace hE_1:=if_tt g_1 hE_1
   refine Tri.skip (Nrm.seq (Tri.seq (Tri.block ?_)))
   refine Tri.seq (Tri.reg (l:=[0,1]) rfl ?_)
   refine F.qn rfl (r_move rfl) (F.qn rfl (r_assign rfl) (F.nil (Nrm.seq (Tri.seq (Tri.reg (l:=[0]) rfl ?_)))))
   refine F.qn rfl (r_move rfl) (F.nil (Nrm.seq ?_))
   obtain ⟨xb7_1_0r,hE_2,hE_1⟩:=bind_some hE_1
   refine Tri.block ?_
   refine Tri.only [1,2,3,6,7,8,17,20] rfl ?_
   refine Tri.pick [0,1,2] rfl rfl ?_
   refine Tri.rounds (fun n e' C'=>∃ (x20' : Int) (xb7_1_0r' : Arr 768),impl_trapFrom.l1 k x17 n x20' xb7_1_0r' = some xb7_1_0r∧e' = [(1,.int .i64 a1),(2,.int .i64 a2),(3,.pointer (some ⟨b3_1,0,none⟩)),(6,.pointer (some ⟨b6_1,0,none⟩)),(7,.pointer (some ⟨b7_1,0,none⟩)),(8,.int .i64 x17),(17,.int .i64 x17),(20,.int .i64 x20')]∧C' = Sep w noM [R.box b7_1 132 (encA xb7_1_0r'),R.box b6_1 132 (encA (Arr.rep 768 0)),R.box b3_1 65 [.int .i64 a0_0,va0_1,va0_2,va0_3]]) k ?_ ?_ ?_
   ·exact ⟨0,xb7_1_0,hE_2,rfl,rfl⟩
   ·rintro _ _ ⟨_,_,hE_2,_⟩
    rw [impl_trapFrom.l1.eq_1] at hE_2; cases hE_2
   ·rintro n_2 _ _ ⟨x20,xb7_1_0r,hE_2,rfl,rfl⟩ ih_2
    rw [impl_trapFrom.l1.eq_2] at hE_2
    refine Tri.seq (Tri.reg (l:=[0]) rfl ?_)
    refine F.qn rfl (r_lss rfl rfl) (F.nil (Nrm.seq (Tri.seq (Tri.cond (b:=decide (x20 < 64)) rfl (fun g_2=>?_) (fun g_2=>?_)))))
    ·replace hE_2:=if_tt g_2 hE_2
     refine Tri.skip (Nrm.seq (Tri.seq (Tri.block ?_)))
     refine Tri.seq (Tri.reg (l:=[0,1]) rfl ?_)
     refine F.qn rfl (r_move rfl) (F.qn rfl (r_assign rfl) (F.nil (Nrm.seq ?_)))
     obtain ⟨hb25,hE_2⟩:=ck hE_2
     obtain ⟨hb26,hE_2⟩:=ck hE_2
     refine Tri.reg (l:=[0,1,2,3,4]) rfl ?_
     refine F.qn rfl (r_move rfl) (F.qn rfl (r_move rfl) (F.qn rfl (r_indexAddrA Tryz.underlying132 ti130 rfl rfl hb25.1 hb25.2) (F.qn rfl (r_indexAddrA Tryz.underlying130 ti3 rfl rfl hb26.1 hb26.2) ?_)))
     refine F.ef0 rfl rfl (wanted_none rfl) (d_storeTab (i:=0) (m:=64) (g:=xb7_1_0r) (r:=x17) (j:=x20) (u:=(-1)) ti3 rfl rfl rfl (tabB 12 64 768 hb25 rfl) hb26) ?_
     rintro _ _ ⟨rfl,rfl⟩
     refine F.nil (Nrm.block ?_)
     refine Nrm.seq (Tri.reg (l:=[0,1]) rfl ?_)
     refine F.qn rfl (r_add rfl rfl) (F.qn rfl (r_move rfl) (F.nil (Nrm.round ?_)))
     refine Rnd.only [1,2,3,6,7,8,17,20] rfl ?_
     refine Rnd.pick [0,1,2] rfl rfl ?_
     exact ih_2 _ _ ⟨w64 (x20 + 1),(Arr.put xb7_1_0r (x17 * 64 + x20) (-1)),hE_2,rfl,rfl⟩
    ·replace hE_2:=if_ff g_2 hE_2
     refine Tri.exit ?_
     refine Exi.then ?_
     refine Exi.then ?_
     refine Exi.same ?_
     cases hE_2
     refine Nrm.block ?_
     refine Nrm.seq (Tri.reg (l:=[0,1]) rfl ?_)
     refine F.qn rfl (r_add rfl rfl) (F.qn rfl (r_move rfl) (F.nil (Nrm.round ?_)))
     refine Rnd.only [1,2,3,6,7,17] rfl ?_
     refine Rnd.pick [0,1,2] rfl rfl ?_
     exact ih_1 _ _ ⟨w64 (x17 + 1),xb7_1_0r,hE_1,rfl,rfl⟩
  ·replace hE_1:=if_ff g_1 hE_1
   refine Tri.exit ?_
   refine Exi.then ?_
   refine Exi.then ?_
   refine Exi.same ?_
   cases hE_1
   refine Nrm.seq (Tri.seq ?_)
   obtain ⟨hb31,h⟩:=ck h
   obtain ⟨hb32,h⟩:=ck h
   refine Tri.reg (l:=[0,1,2,3,4]) rfl ?_
   refine F.qn rfl (r_move rfl) (F.qn rfl (r_move rfl) (F.qn rfl (r_indexAddrA Tryz.underlying132 ti130 rfl rfl hb31.1 hb31.2) (F.qn rfl (r_indexAddrA Tryz.underlying130 ti3 rfl rfl hb32.1 hb32.2) ?_)))
   refine F.ef0 rfl rfl (wanted_none rfl) (d_storeTab (i:=0) (m:=64) (g:=xb7_1_0) (r:=a1) (j:=a2) (u:=0) ti3 rfl rfl rfl (tabB 12 64 768 hb31 rfl) hb32) ?_
   rintro _ _ ⟨rfl,rfl⟩
   refine F.nil (Nrm.seq (Tri.seq (Tri.seq (Tri.reg (l:=[0,1,2,3,4]) rfl ?_))))
   refine F.qn rfl (r_move rfl) (F.qn rfl (r_move rfl) (F.qn rfl (r_buildA (qs:=[(0,[.int .i64 a1]),(1,[.int .i64 a2])]) (cs:=[.int .i64 a1,.int .i64 a2]) Tryz.underlying75 ti3 ti75 rfl (.cons rfl rfl (Nat.le_of_ble_eq_true rfl) (.cons rfl rfl (Nat.le_of_ble_eq_true rfl) .nil)) rfl rfl) ?_))
   refine F.mn rfl (m_buildF (l:=([(a1,a2)] : List (Int × Int))) Tryz.underlying72 ti75 rfl rfl rfl rfl rfl) ?_
   rintro v36_1 _ ⟨S36_1,hl_v36_1,rfl⟩
   refine F.qn rfl (r_assign rfl) (F.nil (Nrm.seq ?_))
   obtain ⟨xb7_1_0rr,hE_3,h⟩:=bind_some h
   refine Tri.block ?_
   refine Tri.only [3,6,7,10] rfl ?_
   refine Tri.pick [1,2,3,0] rfl rfl ?_
   refine Tri.rounds (fun n e' C'=>∃ (x10' : List (Int × Int)) (xb7_1_0rr' : Arr 768) (w10 : Value) (T10 : Nat → Prop),impl_trapFrom.l2 k a0_0 a0_1 a0_2 a0_3 n x10' xb7_1_0rr' = some xb7_1_0rr∧SlLen w10 (x10').length∧e' = [(3,.pointer (some ⟨b3_1,0,none⟩)),(6,.pointer (some ⟨b6_1,0,none⟩)),(7,.pointer (some ⟨b7_1,0,none⟩)),(10,w10)]∧C' = Sep w noM [R.box b7_1 132 (encA xb7_1_0rr'),R.box b6_1 132 (encA (Arr.rep 768 0)),R.box b3_1 65 [.int .i64 a0_0,va0_1,va0_2,va0_3],R.sl T10 w10 (x10' : List (Int × Int))]) k ?_ ?_ ?_
   ·exact ⟨([(a1,a2)] : List (Int × Int)),(Arr.put xb7_1_0 (a1 * 64 + a2) 0),v36_1,S36_1,hE_3,hl_v36_1,rfl,rfl⟩
   ·rintro _ _ ⟨_,_,_,_,hE_3,_⟩
    rw [impl_trapFrom.l2.eq_1] at hE_3; cases hE_3
   ·rintro n_3 _ _ ⟨x10,xb7_1_0rr,w10,T10,hE_3,hl_w10,rfl,rfl⟩ ih_3
    rw [impl_trapFrom.l2.eq_2] at hE_3
    refine Tri.seq (Tri.seq (Tri.reg (l:=[0,1,2]) rfl ?_))
    refine F.qn rfl (r_move rfl) (F.qn rfl (r_len Tryz.underlying72 rfl hl_w10) (F.qn rfl (r_gtr rfl rfl) (F.nil (Nrm.seq (Tri.cond (b:=decide ((x10.length : Int) > 0)) rfl (fun g_3=>?_) (fun g_3=>?_))))))
    ·replace hE_3:=if_tt g_3 hE_3
     refine Tri.skip (Nrm.seq (Tri.seq (Tri.block ?_)))
     refine Tri.seq ?_
     obtain ⟨t43,h43,hE_3⟩:=bind_some hE_3
     obtain ⟨t47,h47,hE_3⟩:=bind_some hE_3
     refine Tri.drawA mixedT Sep.up [(0,true),(1,true),(2,true),(3,true),(4,true),(5,true),(6,true),(7,true),(8,true),(9,true)] [] (by kernel_rfl) ?_
     refine S.qn rfl (r_move rfl) (S.qn rfl (r_indexAddrS Tryz.underlying72 ti75 rfl hl_w10 rfl (rdl_some h43).1 (rdl_some h43).2.1) (S.qn rfl (r_indexAddrA Tryz.underlying75 ti3 rfl rfl (by decide) (by decide)) (S.qn rfl (r_load ta3 rfl (fun w hw=>cell_1 (Rd.flat ((rd_sl (i:=3) rfl) w hw) (rdl_some h43).2.2) rfl)) ?_)))
     refine S.qn rfl (r_move rfl) (S.qn rfl (r_indexAddrS Tryz.underlying72 ti75 rfl hl_w10 rfl (rdl_some h47).1 (rdl_some h47).2.1) (S.qn rfl (r_indexAddrA Tryz.underlying75 ti3 rfl rfl (by decide) (by decide)) (S.qn rfl (r_load ta3 rfl (fun w hw=>cell_1 (Rd.flat ((rd_sl (i:=3) rfl) w hw) (rdl_some h47).2.2) rfl)) (S.qn rfl (r_assign rfl) (S.qn rfl (r_assign rfl) (S.nil (F.nil (Nrm.seq (Tri.seq ?_)))))))))
     obtain ⟨t53,h53,hE_3⟩:=bind_some hE_3
     obtain ⟨t54,h54,hE_3⟩:=bind_some hE_3
     refine Tri.reg (l:=[0,1,2,3,4,5,6]) rfl ?_
     refine F.qn rfl (r_loadA ta65 ti65 rfl rfl (fun w hw=>(box_cells (i:=2) rfl w hw))) (F.qn rfl (r_move rfl) (F.qn rfl (r_move rfl) ?_))
     refine F.qcn rfl (q_callF (xs:=_) rfl ok127 rfl rfl (fun w hw=>impl_trapSteps.ok h53 w ((fun _ hw=>hr_a0_1.sep hw) w hw) ((fun _ hw=>hr_a0_2.sep hw) w hw) ((fun _ hw=>hr_a0_3.sep hw) w hw))) ?_
     refine F.mn rfl (m_callF (xs:=_) rfl ok119 rfl rfl (fun w hw=>impl_members.ok h54 w)) ?_
     rintro v54_1 _ ⟨_,⟨S54_1,hl_v54_1,rfl⟩,rfl⟩
     refine F.qn rfl (r_len Tryz.underlying25 rfl hl_v54_1) (F.qn rfl (r_move rfl) (F.nil (Nrm.seq ?_)))
     obtain ⟨⟨xb7_1_0rrr,x10r⟩,hE_4,hE_3⟩:=bind_some hE_3
     refine Tri.block ?_
     refine Tri.only [3,6,7,10,11,12,54,55,56] rfl ?_
     refine Tri.pick [1,2,3,0,4] rfl rfl ?_
     refine Tri.rounds (fun n e' C'=>∃ (x10r' : List (Int × Int)) (x56' : Int) (xb7_1_0rrr' : Arr 768) (w10r : Value) (T10r : Nat → Prop),impl_trapFrom.l3 k a0_2 t43 t47 t54 n x10r' x56' xb7_1_0rrr' = some (xb7_1_0rrr,x10r)∧SlLen w10r (x10r').length∧e' = [(3,.pointer (some ⟨b3_1,0,none⟩)),(6,.pointer (some ⟨b6_1,0,none⟩)),(7,.pointer (some ⟨b7_1,0,none⟩)),(10,w10r),(11,.int .i64 t43.1),(12,.int .i64 t47.2),(54,v54_1),(55,.int .i64 (t54.length : Int)),(56,.int .i64 x56')]∧C' = Sep w noM [R.box b7_1 132 (encA xb7_1_0rrr'),R.box b6_1 132 (encA (Arr.rep 768 0)),R.box b3_1 65 [.int .i64 a0_0,va0_1,va0_2,va0_3],R.sl S54_1 v54_1 (t54 : List (Int)),R.sl T10r w10r (x10r' : List (Int × Int))]) k ?_ ?_ ?_
     ·exact ⟨x10,0,xb7_1_0rr,w10,T10,hE_4,hl_w10,rfl,rfl⟩
     ·rintro _ _ ⟨_,_,_,_,_,hE_4,_⟩
      rw [impl_trapFrom.l3.eq_1] at hE_4; cases hE_4
     ·rintro n_4 _ _ ⟨x10r,x56,xb7_1_0rrr,w10r,T10r,hE_4,hl_w10r,rfl,rfl⟩ ih_4
      rw [impl_trapFrom.l3.eq_2] at hE_4
      refine Tri.seq (Tri.reg (l:=[0]) rfl ?_)
      refine F.qn rfl (r_lss rfl rfl) (F.nil (Nrm.seq (Tri.seq (Tri.cond (b:=decide (x56 < (t54.length : Int))) rfl (fun g_4=>?_) (fun g_4=>?_)))))
      ·replace hE_4:=if_tt g_4 hE_4
       refine Tri.skip (Nrm.seq (Tri.seq (Tri.block ?_)))
       refine Tri.seq ?_
       obtain ⟨t58,h58,hE_4⟩:=bind_some hE_4
       refine Tri.reg (l:=[0,1,2]) rfl ?_
       refine F.qn rfl (r_indexAddrS Tryz.underlying25 ti3 rfl hl_v54_1 rfl (rdl_some h58).1 (rdl_some h58).2.1) (F.qn rfl (r_load ta3 rfl (fun w hw=>cell_0 (Rd.flat ((rd_sl (i:=3) rfl) w hw) (rdl_some h58).2.2) rfl)) (F.qn rfl (r_assign rfl) (F.nil (Nrm.seq (Tri.seq ?_)))))
       obtain ⟨t65,h65,hE_4⟩:=bind_some hE_4
       refine Tri.reg (l:=[0,1,2,3,4,5,6,7,8]) rfl ?_
       refine F.qn rfl (r_move rfl) (F.qn rfl (r_fieldAddr tf65_0 rfl) (F.qn rfl (r_fieldAddr tf27_2 rfl) ?_))
       refine F.qn rfl (r_load ta25 rfl (fun w hw=>cell_2 (box_cells (i:=2) rfl w hw) rfl)) (F.qn rfl (r_move rfl) (F.qn rfl (r_indexAddrS Tryz.underlying25 ti3 rfl hl_va0_2 rfl (rdl_some h65).1 (rdl_some h65).2.1) (F.qn rfl (r_load ta3 rfl (fun w hw=>cell_0 (Rd.flat ((fun _ hw=>hr_a0_2.sep hw) w hw) (rdl_some h65).2.2) rfl)) (F.qn rfl (r_or rfl rfl) (F.qn rfl (r_assign rfl) (F.nil (Nrm.seq (Tri.seq ?_))))))))
       obtain ⟨hb70,hE_4⟩:=ck hE_4
       obtain ⟨hb71,hE_4⟩:=ck hE_4
       refine Tri.reg (l:=[0,1,2,3,4,5]) rfl ?_
       refine F.qn rfl (r_move rfl) (F.qn rfl (r_move rfl) (F.qn rfl (r_indexAddrA Tryz.underlying132 ti130 rfl rfl hb70.1 hb70.2) (F.qn rfl (r_indexAddrA Tryz.underlying130 ti3 rfl rfl hb71.1 hb71.2) (F.qn rfl (r_load ta3 rfl (fun w hw=>cell_tab (g:=xb7_1_0rrr) (m:=64) (box_cells (i:=0) rfl w hw) (tabB 12 64 768 hb70 rfl) hb71)) (F.qn rfl (r_lss rfl rfl) (F.nil (Nrm.seq ?_)))))))
       obtain ⟨⟨y10,yb7_1_0⟩,hE_5,hE_4⟩:=bind_some hE_4
       refine Tri.cut (fun e' C'=>∃ (v10_1 : Value) (S10_1 : Nat → Prop),SlLen v10_1 (y10).length∧e' = [(3,.pointer (some ⟨b3_1,0,none⟩)),(6,.pointer (some ⟨b6_1,0,none⟩)),(7,.pointer (some ⟨b7_1,0,none⟩)),(10,v10_1),(11,.int .i64 t43.1),(12,.int .i64 t47.2),(54,v54_1),(55,.int .i64 (t54.length : Int)),(56,.int .i64 x56)]∧C' = Sep w noM [R.box b7_1 132 (encA yb7_1_0),R.box b6_1 132 (encA (Arr.rep 768 0)),R.box b3_1 65 [.int .i64 a0_0,va0_1,va0_2,va0_3],R.sl S10_1 v10_1 (y10 : List (Int × Int)),R.sl S54_1 v54_1 (t54 : List (Int))]) ?_ (fun hj_1=>?_)
       ·rintro _ _ ⟨v10_1,S10_1,hl_v10_1,rfl,rfl⟩
        refine Nrm.block ?_
        refine Nrm.seq (Tri.reg (l:=[0,1]) rfl ?_)
        refine F.qn rfl (r_add rfl rfl) (F.qn rfl (r_move rfl) (F.nil (Nrm.round ?_)))
        refine Rnd.only [3,6,7,10,11,12,54,55,56] rfl ?_
        refine Rnd.pick [0,1,2,4,3] rfl rfl ?_
        exact ih_4 _ _ ⟨y10,w64 (x56 + 1),yb7_1_0,v10_1,S10_1,hE_4,hl_v10_1,rfl,rfl⟩
       ·refine Tri.cond (b:=decide ((Arr.at xb7_1_0rrr (t58 * 64 + (bor t47.2 t65))) < 0)) rfl (fun g_5=>?_) (fun g_5=>?_)
        ·replace hE_5:=if_tt g_5 hE_5
         refine Tri.seq ?_
         obtain ⟨hb78,hE_5⟩:=ck hE_5
         obtain ⟨hb79,hE_5⟩:=ck hE_5
         obtain ⟨hb82,hE_5⟩:=ck hE_5
         obtain ⟨hb83,hE_5⟩:=ck hE_5
         refine Tri.drawA mixedT Sep.up [(0,true),(1,true),(2,true),(3,true),(4,true),(5,true),(6,true),(7,true),(8,true),(9,true)] [10] (by kernel_rfl) ?_
         iterate 4 refine S.qn rfl (r_move rfl) ?_
         refine S.qn rfl (r_indexAddrA Tryz.underlying132 ti130 rfl rfl hb78.1 hb78.2) ?_
         refine S.qn rfl (r_indexAddrA Tryz.underlying130 ti3 rfl rfl hb79.1 hb79.2) (S.qn rfl (r_load ta3 rfl (fun w hw=>cell_tab (g:=xb7_1_0rrr) (m:=64) (box_cells (i:=0) rfl w hw) (tabB 12 64 768 hb78 rfl) hb79)) (S.qn rfl (r_add rfl rfl) (S.qn rfl (r_indexAddrA Tryz.underlying132 ti130 rfl rfl hb82.1 hb82.2) (S.qn rfl (r_indexAddrA Tryz.underlying130 ti3 rfl rfl hb83.1 hb83.2) (S.nil (F.ef0 rfl rfl (wanted_none rfl) (d_storeTab (i:=0) (m:=64) (g:=xb7_1_0rrr) (r:=t58) (j:=bor t47.2 t65) (u:=w64 ((Arr.at xb7_1_0rrr (t43.1 * 64 + t47.2)) + 1)) ti3 rfl rfl rfl (tabB 12 64 768 hb82 rfl) hb83) ?_))))))
         rintro _ _ ⟨rfl,rfl⟩
         refine F.nil (Nrm.seq ?_)
         obtain ⟨hs89,hE_5⟩:=ck hE_5
         refine Tri.reg (l:=[0,1,2,3,4,5,6]) rfl ?_
         iterate 3 refine F.qn rfl (r_move rfl) ?_
         refine F.qn rfl (r_buildA (qs:=[(0,[.int .i64 t58]),(1,[.int .i64 (bor t47.2 t65)])]) (cs:=[.int .i64 t58,.int .i64 (bor t47.2 t65)]) Tryz.underlying75 ti3 ti75 rfl (.cons rfl rfl (Nat.le_of_ble_eq_true rfl) (.cons rfl rfl (Nat.le_of_ble_eq_true rfl) .nil)) rfl rfl) ?_
         refine F.mn rfl (m_buildF (l:=([(t58,bor t47.2 t65)] : List (Int × Int))) Tryz.underlying72 ti75 rfl rfl rfl rfl rfl) ?_
         rintro v88_1 _ ⟨S88_1,hl_v88_1,rfl⟩
         refine F.efn rfl (d_append (i:=5) Tryz.underlying72 Tryz.underlying72 ti75 rfl (by decide) rfl rfl rfl (rd_sl (i:=0) rfl) hs89) ?_
         rintro v89_1 _ ⟨S89_1,rfl,hl_v89_1⟩
         refine F.qn rfl (r_assign rfl) (F.nil ?_)
         cases hE_5
         refine Nrm.only [3,6,7,10,11,12,54,55,56] rfl ?_
         refine Nrm.pick [1,2,3,5,4] rfl rfl ?_
         exact hj_1 _ _ ⟨v89_1,S89_1,hl_v89_1,rfl,rfl⟩
        ·replace hE_5:=if_ff g_5 hE_5
         refine Tri.skip ?_
         cases hE_5
         refine Nrm.only [3,6,7,10,11,12,54,55,56] rfl ?_
         refine Nrm.pick [0,1,2,4,3] rfl rfl ?_
         exact hj_1 _ _ ⟨w10r,T10r,hl_w10r,rfl,rfl⟩
      ·replace hE_4:=if_ff g_4 hE_4
       refine Tri.exit ?_
       refine Exi.then ?_
       refine Exi.then ?_
       refine Exi.same ?_
       cases hE_4
       refine Nrm.block ?_
       refine Nrm.seq ?_
       obtain ⟨t41,h41,hE_3⟩:=bind_some hE_3
       refine Tri.reg (l:=[0,1,2]) rfl ?_
       refine F.qn rfl (r_move rfl) (F.qn rfl (r_sliceL Tryz.underlying72 ti75 rfl (rd_sl (i:=4) rfl) rfl h41) (F.qn rfl (r_assign rfl) (F.nil (Nrm.imp (fun w hw=>Sep.resl (i:=4) rfl h41 hw) ?_))))
       refine Nrm.round ?_
       refine Rnd.only [3,6,7,10] rfl ?_
       refine Rnd.pick [0,1,2,4] rfl rfl ?_
       exact ih_3 _ _ ⟨t41,xb7_1_0rrr,(slSub w10r 2 (1 : Int).toNat (x10r.length : Int).toNat),T10r,hE_3,(slc_len hl_w10r h41),rfl,rfl⟩
    ·replace hE_3:=if_ff g_3 hE_3
     refine Tri.exit ?_
     refine Exi.then ?_
     refine Exi.then ?_
     refine Exi.same ?_
     cases hE_3
     refine Nrm.seq (Tri.seq (Tri.reg (l:=[0,1]) rfl ?_))
     refine F.qn rfl (r_loadA (cs:=encA xb7_1_0rr) ta132 ti132 rfl (encA_len _) (fun w hw=>(box_cells (i:=0) rfl w hw))) ?_
     refine F.ef0 rfl rfl (wanted_none rfl) (d_storeArr (i:=1) (g:=(Arr.rep 768 0)) (h:=xb7_1_0rr) ti132 rfl rfl rfl) ?_
     rintro _ _ ⟨rfl,rfl⟩
     refine F.nil (Nrm.seq (Tri.ret ?_))
     cases h
     exact Rtn.body (.cell rfl ta132 ti132 (encA_len _) (fun _ hw=>box_cells (i:=1) rfl _ hw) .nil) (fun w hw=>⟨rfl,hw.ext⟩)


def impl_lostStates.l1 (k : Nat) (yb6_2_0 : Arr 768) (yb7_2_0 : Arr 768) (x27 : Int) : Nat → (List (Int × Int)) → Int → Int → Option ((List (Int × Int)) × Int)
 | 0,_,_,_=>none
 | n + 1,x8r,x9r,x30=>(if (decide (x30 < 64)) = true then (if 0 ≤ x27∧x27 < 12 then if 0 ≤ x30∧x30 < 64 then (if (decide ((Arr.at yb6_2_0 (x27 * 64 + x30)) < 0)) = true then some (x8r,x9r) else if 0 ≤ x27∧x27 < 12 then if 0 ≤ x30∧x30 < 64 then ((if (decide ((Arr.at yb7_2_0 (x27 * 64 + x30)) < 0)) = true then if (x8r ++ ([(x27,x30)] : List (Int × Int))).length < 1099511627776 then some (x8r ++ ([(x27,x30)] : List (Int × Int))) else none else some x8r)).bind fun y8r=>some (y8r,w64 (x9r + 1)) else none else none) else none else none).bind fun (y8r,y9r)=>impl_lostStates.l1 k yb6_2_0 yb7_2_0 x27 n y8r y9r (w64 (x30 + 1)) else some (x8r,x9r))

def impl_lostStates.l0 (k : Nat) (a0_0 : Int) (yb6_2_0 : Arr 768) (yb7_2_0 : Arr 768) : Nat → (List (Int × Int)) → Int → Int → Option ((List (Int × Int)) × Int)
 | 0,_,_,_=>none
 | n + 1,x8,x9,x27=>(if (decide (x27 < a0_0)) = true then (impl_lostStates.l1 k yb6_2_0 yb7_2_0 x27 k x8 x9 0).bind fun (x8r,x9r)=>impl_lostStates.l0 k a0_0 yb6_2_0 yb7_2_0 n x8r x9r (w64 (x27 + 1)) else some (x8,x9))

def impl_lostStates.f (k : Nat) (a0_0 : Int) (a0_1 : List (Int × Int × Int)) (a0_2 : List Int) (a0_3 : List Int) (a1 : Int) : Option ((List (Int × Int)) × Int) := ((rdl a0_2 0).bind fun t16 => (impl_trapFrom.f k a0_0 a0_1 a0_2 a0_3 0 (bor t16 a1)).bind fun t20 => (impl_toTrapGoal.f k a0_0 a0_1 a0_2 a0_3).bind fun t22 => some (([] : List (Int × Int)), (0 : Int), t20, t22)).bind fun (y8, y9, yb6_2_0, yb7_2_0) => (impl_lostStates.l0 k a0_0 yb6_2_0 yb7_2_0 k y8 y9 0).bind fun (x8, x9) => some (x8, x9)

theorem impl_lostStates.ok {k : Nat}  {a0_0 : Int} {a0_1 : List (Int × Int × Int)} {a0_2 : List Int} {a0_3 : List Int} {a1 : Int} {r0 : List (Int × Int)} {r1 : Int} (h : impl_lostStates.f k a0_0 a0_1 a0_2 a0_3 a1 = some (r0, r1)) (w : World) {va0_1 : Value} {va0_2 : Value} {va0_3 : Value} (hr_a0_1 : Rd w va0_1 a0_1) (hr_a0_2 : Rd w va0_2 a0_2) (hr_a0_3 : Rd w va0_3 a0_3) :
  Calls Tryz.prog 134 ([.agg ([.int .i64 a0_0,va0_1,va0_2,va0_3].toArray),.int .i64 a1] : List Value).toArray w (Post (fun u ns=>∃ (ur0 : Value) (Sr0 : Nat → Prop),u = .tuple #[ur0,.int .i64 r1]∧SlLen ur0 r0.length∧ns = [R.sl Sr0 ur0 r0]) w):=by
 unfold impl_lostStates.f at h
 have hl_va0_1:=hr_a0_1.len
 have hl_va0_2:=hr_a0_2.len
 have hl_va0_3:=hr_a0_3.len
 refine Calls.of_tri (N:=57) Tryz.func134 rfl rfl rfl (Sep.nil (M:=noM)) ?_
 refine Tri.seq (Tri.reg (l:=[0,1,2]) rfl ?_)
 refine F.mn rfl (m_boxG rfl rfl) ?_
 rintro _ _ ⟨b2_1,rfl,rfl⟩
 refine F.qn rfl (r_assign rfl) (F.qn rfl (r_assign rfl) (F.nil (Nrm.seq (Tri.seq ?_))))
 obtain ⟨⟨y8,y9,yb6_2_0,yb7_2_0⟩,hE_1,h⟩:=bind_some h
 refine Tri.cut (fun e' C'=>∃ (v8_1 : Value) (S8_1 : Nat → Prop) (b6_2 : Nat) (b7_2 : Nat),SlLen v8_1 (y8).length∧e' = [(2,.pointer (some ⟨b2_1,0,none⟩)),(6,.pointer (some ⟨b6_2,0,none⟩)),(7,.pointer (some ⟨b7_2,0,none⟩)),(8,v8_1),(9,.int .i64 y9)]∧C' = Sep w noM [R.box b2_1 65 [.int .i64 a0_0,va0_1,va0_2,va0_3],R.box b6_2 132 (encA yb6_2_0),R.box b7_2 132 (encA yb7_2_0),R.sl S8_1 v8_1 (y8 : List (Int × Int))]) ?_ (fun hj_1=>?_)
 ·rintro _ _ ⟨v8_1,S8_1,b6_2,b7_2,hl_v8_1,rfl,rfl⟩
  refine Nrm.seq (Tri.seq (Tri.seq (Tri.reg (l:=[0,1,2,3]) rfl ?_)))
  refine F.qn rfl (r_fieldAddr tf65_0 rfl) (F.qn rfl (r_fieldAddr tf27_0 rfl) (F.qn rfl (r_load ta3 rfl (fun w hw=>cell_2 (box_cells (i:=0) rfl w hw) rfl)) (F.qn rfl (r_move rfl) (F.nil (Nrm.seq ?_)))))
  obtain ⟨⟨x8,x9⟩,hE_2,h⟩:=bind_some h
  refine Tri.block ?_
  refine Tri.only [6,7,8,9,26,27] rfl ?_
  refine Tri.pick [1,2,3] rfl rfl ?_
  refine Tri.rounds (fun n e' C'=>∃ (x8' : List (Int × Int)) (x9' : Int) (x27' : Int) (w8 : Value) (T8 : Nat → Prop),impl_lostStates.l0 k a0_0 yb6_2_0 yb7_2_0 n x8' x9' x27' = some (x8,x9)∧SlLen w8 (x8').length∧e' = [(6,.pointer (some ⟨b6_2,0,none⟩)),(7,.pointer (some ⟨b7_2,0,none⟩)),(8,w8),(9,.int .i64 x9'),(26,.int .i64 a0_0),(27,.int .i64 x27')]∧C' = Sep w noM [R.box b6_2 132 (encA yb6_2_0),R.box b7_2 132 (encA yb7_2_0),R.sl T8 w8 (x8' : List (Int × Int))]) k ?_ ?_ ?_
  ·exact ⟨y8,y9,0,v8_1,S8_1,hE_2,hl_v8_1,rfl,rfl⟩
  ·rintro _ _ ⟨_,_,_,_,_,hE_2,_⟩
   rw [impl_lostStates.l0.eq_1] at hE_2; cases hE_2
  ·rintro n_1 _ _ ⟨x8,x9,x27,w8,T8,hE_2,hl_w8,rfl,rfl⟩ ih_1
   rw [impl_lostStates.l0.eq_2] at hE_2
   refine Tri.seq (Tri.reg (l:=[0]) rfl ?_)
   refine F.qn rfl (r_lss rfl rfl) (F.nil (Nrm.seq (Tri.seq (Tri.cond (b:=decide (x27 < a0_0)) rfl (fun g_1=>?_) (fun g_1=>?_)))))
   ·replace hE_2:=if_tt g_1 hE_2
    refine Tri.skip (Nrm.seq (Tri.seq (Tri.block ?_)))
    refine Tri.seq (Tri.reg (l:=[0,1]) rfl ?_)
    refine F.qn rfl (r_move rfl) (F.qn rfl (r_assign rfl) (F.nil (Nrm.seq (Tri.seq (Tri.reg (l:=[0]) rfl ?_)))))
    refine F.qn rfl (r_move rfl) (F.nil (Nrm.seq ?_))
    obtain ⟨⟨x8r,x9r⟩,hE_3,hE_2⟩:=bind_some hE_2
    refine Tri.block ?_
    refine Tri.only [6,7,8,9,10,26,27,30] rfl ?_
    refine Tri.pick [0,1,2] rfl rfl ?_
    refine Tri.rounds (fun n e' C'=>∃ (x8r' : List (Int × Int)) (x9r' : Int) (x30' : Int) (w8r : Value) (T8r : Nat → Prop),impl_lostStates.l1 k yb6_2_0 yb7_2_0 x27 n x8r' x9r' x30' = some (x8r,x9r)∧SlLen w8r (x8r').length∧e' = [(6,.pointer (some ⟨b6_2,0,none⟩)),(7,.pointer (some ⟨b7_2,0,none⟩)),(8,w8r),(9,.int .i64 x9r'),(10,.int .i64 x27),(26,.int .i64 a0_0),(27,.int .i64 x27),(30,.int .i64 x30')]∧C' = Sep w noM [R.box b6_2 132 (encA yb6_2_0),R.box b7_2 132 (encA yb7_2_0),R.sl T8r w8r (x8r' : List (Int × Int))]) k ?_ ?_ ?_
    ·exact ⟨x8,x9,0,w8,T8,hE_3,hl_w8,rfl,rfl⟩
    ·rintro _ _ ⟨_,_,_,_,_,hE_3,_⟩
     rw [impl_lostStates.l1.eq_1] at hE_3; cases hE_3
    ·rintro n_2 _ _ ⟨x8r,x9r,x30,w8r,T8r,hE_3,hl_w8r,rfl,rfl⟩ ih_2
     rw [impl_lostStates.l1.eq_2] at hE_3
     refine Tri.seq (Tri.reg (l:=[0]) rfl ?_)
     refine F.qn rfl (r_lss rfl rfl) (F.nil (Nrm.seq (Tri.seq (Tri.cond (b:=decide (x30 < 64)) rfl (fun g_2=>?_) (fun g_2=>?_)))))
     ·replace hE_3:=if_tt g_2 hE_3
      refine Tri.skip (Nrm.seq (Tri.seq ?_))
      obtain ⟨⟨y8r,y9r⟩,hE_4,hE_3⟩:=bind_some hE_3
      refine Tri.cut (fun e' C'=>∃ (v8_2 : Value) (S8_2 : Nat → Prop),SlLen v8_2 (y8r).length∧e' = [(6,.pointer (some ⟨b6_2,0,none⟩)),(7,.pointer (some ⟨b7_2,0,none⟩)),(8,v8_2),(9,.int .i64 y9r),(10,.int .i64 x27),(26,.int .i64 a0_0),(27,.int .i64 x27),(30,.int .i64 x30)]∧C' = Sep w noM [R.box b6_2 132 (encA yb6_2_0),R.box b7_2 132 (encA yb7_2_0),R.sl S8_2 v8_2 (y8r : List (Int × Int))]) ?_ (fun hj_2=>?_)
      ·rintro _ _ ⟨v8_2,S8_2,hl_v8_2,rfl,rfl⟩
       refine Nrm.seq (Tri.reg (l:=[0,1]) rfl ?_)
       refine F.qn rfl (r_add rfl rfl) (F.qn rfl (r_move rfl) (F.nil (Nrm.round ?_)))
       refine Rnd.only [6,7,8,9,10,26,27,30] rfl ?_
       refine Rnd.pick [0,1,2] rfl rfl ?_
       exact ih_2 _ _ ⟨y8r,y9r,w64 (x30 + 1),v8_2,S8_2,hE_3,hl_v8_2,rfl,rfl⟩
      ·refine Tri.block ?_
       refine Tri.seq (Tri.reg (l:=[0,1]) rfl ?_)
       refine F.qn rfl (r_move rfl) (F.qn rfl (r_assign rfl) (F.nil (Nrm.seq (Tri.seq (Tri.seq ?_)))))
       obtain ⟨hb35,hE_4⟩:=ck hE_4
       obtain ⟨hb36,hE_4⟩:=ck hE_4
       refine Tri.reg (l:=[0,1,2,3,4,5]) rfl ?_
       refine F.qn rfl (r_move rfl) (F.qn rfl (r_move rfl) (F.qn rfl (r_indexAddrA Tryz.underlying132 ti130 rfl rfl hb35.1 hb35.2) (F.qn rfl (r_indexAddrA Tryz.underlying130 ti3 rfl rfl hb36.1 hb36.2) (F.qn rfl (r_load ta3 rfl (fun w hw=>cell_tab (g:=yb6_2_0) (m:=64) (box_cells (i:=0) rfl w hw) (tabB 12 64 768 hb35 rfl) hb36)) (F.qn rfl (r_lss rfl rfl) (F.nil (Nrm.seq (Tri.cond (b:=decide ((Arr.at yb6_2_0 (x27 * 64 + x30)) < 0)) rfl (fun g_3=>?_) (fun g_3=>?_)))))))))
       ·replace hE_4:=if_tt g_3 hE_4
        refine Tri.exit ?_
        refine Exi.then ?_
        refine Exi.same ?_
        cases hE_4
        refine Nrm.only [6,7,8,9,10,26,27,30] rfl ?_
        refine Nrm.pick [0,1,2] rfl rfl ?_
        exact hj_2 _ _ ⟨w8r,T8r,hl_w8r,rfl,rfl⟩
       ·replace hE_4:=if_ff g_3 hE_4
        refine Tri.skip (Nrm.seq (Tri.seq (Tri.reg (l:=[0,1,2]) rfl ?_)))
        refine F.qn rfl (r_move rfl) (F.qn rfl (r_add rfl rfl) (F.qn rfl (r_assign rfl) (F.nil (Nrm.seq (Tri.seq ?_)))))
        obtain ⟨hb43,hE_4⟩:=ck hE_4
        obtain ⟨hb44,hE_4⟩:=ck hE_4
        refine Tri.reg (l:=[0,1,2,3,4,5]) rfl ?_
        refine F.qn rfl (r_move rfl) (F.qn rfl (r_move rfl) (F.qn rfl (r_indexAddrA Tryz.underlying132 ti130 rfl rfl hb43.1 hb43.2) (F.qn rfl (r_indexAddrA Tryz.underlying130 ti3 rfl rfl hb44.1 hb44.2) (F.qn rfl (r_load ta3 rfl (fun w hw=>cell_tab (g:=yb7_2_0) (m:=64) (box_cells (i:=1) rfl w hw) (tabB 12 64 768 hb43 rfl) hb44)) (F.qn rfl (r_lss rfl rfl) (F.nil (Nrm.seq ?_)))))))
        obtain ⟨y8r,hE_5,hE_4⟩:=bind_some hE_4
        refine Tri.cut (fun e' C'=>∃ (v8_3 : Value) (S8_3 : Nat → Prop),SlLen v8_3 (y8r).length∧e' = [(6,.pointer (some ⟨b6_2,0,none⟩)),(7,.pointer (some ⟨b7_2,0,none⟩)),(8,v8_3),(9,.int .i64 (w64 (x9r + 1))),(10,.int .i64 x27),(26,.int .i64 a0_0),(27,.int .i64 x27),(30,.int .i64 x30)]∧C' = Sep w noM [R.box b6_2 132 (encA yb6_2_0),R.box b7_2 132 (encA yb7_2_0),R.sl S8_3 v8_3 (y8r : List (Int × Int))]) ?_ (fun hj_3=>?_)
        ·rintro _ _ ⟨v8_3,S8_3,hl_v8_3,rfl,rfl⟩
         refine Nrm.block ?_
         cases hE_4
         refine Nrm.only [6,7,8,9,10,26,27,30] rfl ?_
         refine Nrm.pick [0,1,2] rfl rfl ?_
         exact hj_2 _ _ ⟨v8_3,S8_3,hl_v8_3,rfl,rfl⟩
        ·refine Tri.cond (b:=decide ((Arr.at yb7_2_0 (x27 * 64 + x30)) < 0)) rfl (fun g_4=>?_) (fun g_4=>?_)
         ·replace hE_5:=if_tt g_4 hE_5
          obtain ⟨hs52,hE_5⟩:=ck hE_5
          refine Tri.reg (l:=[0,1,2,3,4,5,6]) rfl ?_
          iterate 3 refine F.qn rfl (r_move rfl) ?_
          refine F.qn rfl (r_buildA (qs:=[(0,[.int .i64 x27]),(1,[.int .i64 x30])]) (cs:=[.int .i64 x27,.int .i64 x30]) Tryz.underlying75 ti3 ti75 rfl (.cons rfl rfl (Nat.le_of_ble_eq_true rfl) (.cons rfl rfl (Nat.le_of_ble_eq_true rfl) .nil)) rfl rfl) ?_
          refine F.mn rfl (m_buildF (l:=([(x27,x30)] : List (Int × Int))) Tryz.underlying72 ti75 rfl rfl rfl rfl rfl) ?_
          rintro v51_1 _ ⟨S51_1,hl_v51_1,rfl⟩
          refine F.efn rfl (d_append (i:=3) Tryz.underlying72 Tryz.underlying72 ti75 rfl (by decide) rfl rfl rfl (rd_sl (i:=0) rfl) hs52) ?_
          rintro v52_1 _ ⟨S52_1,rfl,hl_v52_1⟩
          refine F.qn rfl (r_assign rfl) (F.nil ?_)
          cases hE_5
          refine Nrm.only [6,7,8,9,10,26,27,30] rfl ?_
          refine Nrm.pick [1,2,3] rfl rfl ?_
          exact hj_3 _ _ ⟨v52_1,S52_1,hl_v52_1,rfl,rfl⟩
         ·replace hE_5:=if_ff g_4 hE_5
          refine Tri.skip ?_
          cases hE_5
          refine Nrm.only [6,7,8,9,10,26,27,30] rfl ?_
          refine Nrm.pick [0,1,2] rfl rfl ?_
          exact hj_3 _ _ ⟨w8r,T8r,hl_w8r,rfl,rfl⟩
     ·replace hE_3:=if_ff g_2 hE_3
      refine Tri.exit ?_
      refine Exi.then ?_
      refine Exi.then ?_
      refine Exi.same ?_
      cases hE_3
      refine Nrm.block ?_
      refine Nrm.seq (Tri.reg (l:=[0,1]) rfl ?_)
      refine F.qn rfl (r_add rfl rfl) (F.qn rfl (r_move rfl) (F.nil (Nrm.round ?_)))
      refine Rnd.only [6,7,8,9,26,27] rfl ?_
      refine Rnd.pick [0,1,2] rfl rfl ?_
      exact ih_1 _ _ ⟨x8r,x9r,w64 (x27 + 1),w8r,T8r,hE_2,hl_w8r,rfl,rfl⟩
   ·replace hE_2:=if_ff g_1 hE_2
    refine Tri.exit ?_
    refine Exi.then ?_
    refine Exi.then ?_
    refine Exi.same ?_
    cases hE_2
    refine Nrm.seq (Tri.seq (Tri.reg (l:=[0,1,2,3]) rfl ?_))
    refine F.qn rfl (r_move rfl) (F.qn rfl (r_move rfl) (F.qn rfl (r_assign rfl) (F.qn rfl (r_assign rfl) (F.nil (Nrm.seq (Tri.ret ?_))))))
    cases h
    exact Rtn.body (.tmp rfl (.tmp rfl .nil)) (fun w hw=>⟨_,_,rfl,⟨w8,T8,rfl,hl_w8,rfl⟩,Sep.pick (is:=[2]) rfl rfl hw⟩)
 ·obtain ⟨t16,h16,hE_1⟩:=bind_some hE_1
  obtain ⟨t20,h20,hE_1⟩:=bind_some hE_1
  obtain ⟨t22,h22,hE_1⟩:=bind_some hE_1
  refine Tri.drawT mixedT Sep.up [0,1,2,3,4,5,6,7,8,9,10,11,12,13,14,15] [16,17] (.q 0 (.q 1 (.q 2 (.q 3 (.q 4 (.q 5 (.q 6 (.q 7 (.q 8 (.q 9 (.q 10 (.alt 11 (.alt 12 (.alt 13 (.alt 14 (.alt 15 .nil .stop) .stop) .stop) (.alt 13 (.alt 12 (.alt 14 (.alt 15 .nil .stop) .stop) .stop) .stop)) (.alt 12 (.alt 11 (.alt 13 (.alt 14 (.alt 15 .nil .stop) .stop) .stop) (.alt 13 (.alt 11 (.alt 14 (.alt 15 .nil .stop) .stop) (.alt 14 (.alt 11 (.alt 15 .nil .stop) (.alt 15 (.alt 11 .nil .stop) .stop)) .stop)) .stop)) (.alt 13 (.alt 11 (.alt 12 (.alt 14 (.alt 15 .nil .stop) .stop) .stop) (.alt 12 (.alt 11 (.alt 14 (.alt 15 .nil .stop) .stop) (.alt 14 (.alt 11 (.alt 15 .nil .stop) (.alt 15 (.alt 11 .nil .stop) .stop)) .stop)) .stop)) .stop)))))))))))))) (by kernel_rfl) ?_
  refine T.q rfl rfl rfl (wanted_none rfl) (r_loadA ta65 ti65 rfl rfl (fun w hw=>(box_cells (i:=0) rfl w hw))) ?_
  refine T.q rfl rfl rfl (wanted_none rfl) (r_fieldAddr tf65_0 rfl) ?_
  refine T.q rfl rfl rfl (wanted_none rfl) (r_fieldAddr tf27_2 rfl) ?_
  refine T.q rfl rfl rfl (wanted_none rfl) (r_load ta25 rfl (fun w hw=>cell_2 (box_cells (i:=0) rfl w hw) rfl)) ?_
  refine T.q rfl rfl rfl (wanted_none rfl) (r_indexAddrS Tryz.underlying25 ti3 rfl hl_va0_2 rfl (rdl_some h16).1 (rdl_some h16).2.1) ?_
  refine T.q rfl rfl rfl (wanted_none rfl) (r_load ta3 rfl (fun w hw=>cell_0 (Rd.flat ((fun _ hw=>hr_a0_2.sep hw) w hw) (rdl_some h16).2.2) rfl)) ?_
  refine T.q rfl rfl rfl (wanted_none rfl) (r_move rfl) ?_
  refine T.q rfl rfl rfl (wanted_none rfl) (r_or rfl rfl) ?_
  refine T.qc rfl rfl rfl (wanted_none rfl) (q_callF (xs:=_) rfl ok214 rfl rfl (fun w hw=>impl_trapFrom.ok h20 w ((fun _ hw=>hr_a0_1.sep hw) w hw) ((fun _ hw=>hr_a0_2.sep hw) w hw) ((fun _ hw=>hr_a0_3.sep hw) w hw))) ?_
  refine T.q rfl rfl rfl (wanted_none rfl) (r_loadA ta65 ti65 rfl rfl (fun w hw=>(box_cells (i:=0) rfl w hw))) ?_
  refine T.qc rfl rfl rfl (wanted_none rfl) (q_callF (xs:=_) rfl ok138 rfl rfl (fun w hw=>impl_toTrapGoal.ok h22 w ((fun _ hw=>hr_a0_1.sep hw) w hw) ((fun _ hw=>hr_a0_2.sep hw) w hw) ((fun _ hw=>hr_a0_3.sep hw) w hw))) ?_
  refine T.ef rfl rfl rfl (wanted_none rfl) (Makes.does (m_build0 (α:=Int × Int) Tryz.underlying72 ti75)) (by rintro v23_2 _ ⟨S23_2,hl_v23_2,rfl⟩; exact upd rfl [1] rfl rfl) ?_ ?_
  ·rintro v23_2 _ ⟨S23_2,hl_v23_2,rfl⟩
   refine T.ef rfl rfl rfl (wanted_none rfl) (Makes.does (m_alloc ti132)) (by rintro _ _ ⟨b6_3,rfl,rfl⟩; exact upd rfl [2] rfl rfl) ?_ ?_
   ·rintro _ _ ⟨b6_3,rfl,rfl⟩
    refine T.ef rfl rfl rfl (wanted_none rfl) (Makes.does (m_alloc ti132)) (by rintro _ _ ⟨b7_3,rfl,rfl⟩; exact upd rfl [3] rfl rfl) ?_ ?_
    ·rintro _ _ ⟨b7_3,rfl,rfl⟩
     refine T.ef0 rfl rfl (wanted_none rfl) (d_storeArr (i:=1) (g:=(Arr.rep 768 0)) (h:=t20) ti132 rfl rfl rfl) (by rintro _ _ ⟨rfl,rfl⟩; exact upd rfl [3] rfl rfl) ?_ ?_
     ·rintro _ _ ⟨rfl,rfl⟩
      refine T.ef0 rfl rfl (wanted_none rfl) (d_storeArr (i:=0) (g:=(Arr.rep 768 0)) (h:=t22) ti132 rfl rfl rfl) (by rintro _ _ ⟨rfl,rfl⟩; exact upd rfl [3] rfl rfl) ?_ ?_
      ·rintro _ _ ⟨rfl,rfl⟩
       refine T.nil ?_
       refine F.qn rfl (r_assign rfl) (F.qn rfl (r_assign rfl) (F.nil ?_))
       cases hE_1
       refine Nrm.only [2,6,7,8,9] rfl ?_
       refine Nrm.pick [3,1,0,2] rfl rfl ?_
       exact hj_1 _ _ ⟨v23_2,S23_2,b6_3,b7_3,hl_v23_2,rfl,rfl⟩
      exact T.stop
     exact T.stop
    exact T.stop
   ·refine T.ef rfl rfl rfl (wanted_none rfl) (Makes.does (m_alloc ti132)) (by rintro _ _ ⟨b7_4,rfl,rfl⟩; exact upd rfl [2] rfl rfl) ?_ ?_
    ·rintro _ _ ⟨b7_4,rfl,rfl⟩
     refine T.ef rfl rfl rfl (wanted_none rfl) (Makes.does (m_alloc ti132)) (by rintro _ _ ⟨b6_4,rfl,rfl⟩; exact upd rfl [3] rfl rfl) ?_ ?_
     ·rintro _ _ ⟨b6_4,rfl,rfl⟩
      refine T.ef0 rfl rfl (wanted_none rfl) (d_storeArr (i:=0) (g:=(Arr.rep 768 0)) (h:=t20) ti132 rfl rfl rfl) (by rintro _ _ ⟨rfl,rfl⟩; exact upd rfl [3] rfl rfl) ?_ ?_
      ·rintro _ _ ⟨rfl,rfl⟩
       refine T.ef0 rfl rfl (wanted_none rfl) (d_storeArr (i:=1) (g:=(Arr.rep 768 0)) (h:=t22) ti132 rfl rfl rfl) (by rintro _ _ ⟨rfl,rfl⟩; exact upd rfl [3] rfl rfl) ?_ ?_
       ·rintro _ _ ⟨rfl,rfl⟩
        refine T.nil ?_
        refine F.qn rfl (r_assign rfl) (F.qn rfl (r_assign rfl) (F.nil ?_))
        cases hE_1
        refine Nrm.only [2,6,7,8,9] rfl ?_
        refine Nrm.pick [3,0,1,2] rfl rfl ?_
        exact hj_1 _ _ ⟨v23_2,S23_2,b6_4,b7_4,hl_v23_2,rfl,rfl⟩
       exact T.stop
      exact T.stop
     exact T.stop
    exact T.stop
  ·refine T.ef rfl rfl rfl (wanted_none rfl) (Makes.does (m_alloc ti132)) (by rintro _ _ ⟨b6_5,rfl,rfl⟩; exact upd rfl [1] rfl rfl) ?_ ?_
   ·rintro _ _ ⟨b6_5,rfl,rfl⟩
    refine T.ef rfl rfl rfl (wanted_none rfl) (Makes.does (m_build0 (α:=Int × Int) Tryz.underlying72 ti75)) (by rintro v23_3 _ ⟨S23_3,hl_v23_3,rfl⟩; exact upd rfl [2] rfl rfl) ?_ ?_
    ·rintro v23_3 _ ⟨S23_3,hl_v23_3,rfl⟩
     refine T.ef rfl rfl rfl (wanted_none rfl) (Makes.does (m_alloc ti132)) (by rintro _ _ ⟨b7_5,rfl,rfl⟩; exact upd rfl [3] rfl rfl) ?_ ?_
     ·rintro _ _ ⟨b7_5,rfl,rfl⟩
      refine T.ef0 rfl rfl (wanted_none rfl) (d_storeArr (i:=2) (g:=(Arr.rep 768 0)) (h:=t20) ti132 rfl rfl rfl) (by rintro _ _ ⟨rfl,rfl⟩; exact upd rfl [3] rfl rfl) ?_ ?_
      ·rintro _ _ ⟨rfl,rfl⟩
       refine T.ef0 rfl rfl (wanted_none rfl) (d_storeArr (i:=0) (g:=(Arr.rep 768 0)) (h:=t22) ti132 rfl rfl rfl) (by rintro _ _ ⟨rfl,rfl⟩; exact upd rfl [3] rfl rfl) ?_ ?_
       ·rintro _ _ ⟨rfl,rfl⟩
        refine T.nil ?_
        refine F.qn rfl (r_assign rfl) (F.qn rfl (r_assign rfl) (F.nil ?_))
        cases hE_1
        refine Nrm.only [2,6,7,8,9] rfl ?_
        refine Nrm.pick [3,2,0,1] rfl rfl ?_
        exact hj_1 _ _ ⟨v23_3,S23_3,b6_5,b7_5,hl_v23_3,rfl,rfl⟩
       exact T.stop
      exact T.stop
     exact T.stop
    ·refine T.ef rfl rfl rfl (wanted_none rfl) (Makes.does (m_alloc ti132)) (by rintro _ _ ⟨b7_6,rfl,rfl⟩; exact upd rfl [2] rfl rfl) ?_ ?_
     ·rintro _ _ ⟨b7_6,rfl,rfl⟩
      refine T.ef rfl rfl rfl (wanted_none rfl) (Makes.does (m_build0 (α:=Int × Int) Tryz.underlying72 ti75)) (by rintro v23_4 _ ⟨S23_4,hl_v23_4,rfl⟩; exact upd rfl [3] rfl rfl) ?_ ?_
      ·rintro v23_4 _ ⟨S23_4,hl_v23_4,rfl⟩
       refine T.ef0 rfl rfl (wanted_none rfl) (d_storeArr (i:=2) (g:=(Arr.rep 768 0)) (h:=t20) ti132 rfl rfl rfl) (by rintro _ _ ⟨rfl,rfl⟩; exact upd rfl [3] rfl rfl) ?_ ?_
       ·rintro _ _ ⟨rfl,rfl⟩
        refine T.ef0 rfl rfl (wanted_none rfl) (d_storeArr (i:=1) (g:=(Arr.rep 768 0)) (h:=t22) ti132 rfl rfl rfl) (by rintro _ _ ⟨rfl,rfl⟩; exact upd rfl [3] rfl rfl) ?_ ?_
        ·rintro _ _ ⟨rfl,rfl⟩
         refine T.nil ?_
         refine F.qn rfl (r_assign rfl) (F.qn rfl (r_assign rfl) (F.nil ?_))
         cases hE_1
         refine Nrm.only [2,6,7,8,9] rfl ?_
         refine Nrm.pick [3,2,1,0] rfl rfl ?_
         exact hj_1 _ _ ⟨v23_4,S23_4,b6_5,b7_6,hl_v23_4,rfl,rfl⟩
        exact T.stop
       exact T.stop
      ·refine T.ef0 rfl rfl (wanted_none rfl) (d_storeArr (i:=1) (g:=(Arr.rep 768 0)) (h:=t20) ti132 rfl rfl rfl) (by rintro _ _ ⟨rfl,rfl⟩; exact upd rfl [2] rfl rfl) ?_ ?_
       ·rintro _ _ ⟨rfl,rfl⟩
        refine T.ef rfl rfl rfl (wanted_none rfl) (Makes.does (m_build0 (α:=Int × Int) Tryz.underlying72 ti75)) (by rintro v23_5 _ ⟨S23_5,hl_v23_5,rfl⟩; exact upd rfl [3] rfl rfl) ?_ ?_
        ·rintro v23_5 _ ⟨S23_5,hl_v23_5,rfl⟩
         refine T.ef0 rfl rfl (wanted_none rfl) (d_storeArr (i:=1) (g:=(Arr.rep 768 0)) (h:=t22) ti132 rfl rfl rfl) (by rintro _ _ ⟨rfl,rfl⟩; exact upd rfl [3] rfl rfl) ?_ ?_
         ·rintro _ _ ⟨rfl,rfl⟩
          refine T.nil ?_
          refine F.qn rfl (r_assign rfl) (F.qn rfl (r_assign rfl) (F.nil ?_))
          cases hE_1
          refine Nrm.only [2,6,7,8,9] rfl ?_
          refine Nrm.pick [3,2,1,0] rfl rfl ?_
          exact hj_1 _ _ ⟨v23_5,S23_5,b6_5,b7_6,hl_v23_5,rfl,rfl⟩
         exact T.stop
        ·refine T.ef0 rfl rfl (wanted_none rfl) (d_storeArr (i:=0) (g:=(Arr.rep 768 0)) (h:=t22) ti132 rfl rfl rfl) (by rintro _ _ ⟨rfl,rfl⟩; exact upd rfl [2] rfl rfl) ?_ ?_
         ·rintro _ _ ⟨rfl,rfl⟩
          refine T.ef rfl rfl rfl (wanted_none rfl) (Makes.does (m_build0 (α:=Int × Int) Tryz.underlying72 ti75)) (by rintro v23_6 _ ⟨S23_6,hl_v23_6,rfl⟩; exact upd rfl [3] rfl rfl) ?_ ?_
          ·rintro v23_6 _ ⟨S23_6,hl_v23_6,rfl⟩
           refine T.nil ?_
           refine F.qn rfl (r_assign rfl) (F.qn rfl (r_assign rfl) (F.nil ?_))
           cases hE_1
           refine Nrm.only [2,6,7,8,9] rfl ?_
           refine Nrm.pick [3,2,1,0] rfl rfl ?_
           exact hj_1 _ _ ⟨v23_6,S23_6,b6_5,b7_6,hl_v23_6,rfl,rfl⟩
          exact T.stop
         exact T.stop
       exact T.stop
     exact T.stop
   ·refine T.ef rfl rfl rfl (wanted_none rfl) (Makes.does (m_alloc ti132)) (by rintro _ _ ⟨b7_7,rfl,rfl⟩; exact upd rfl [1] rfl rfl) ?_ ?_
    ·rintro _ _ ⟨b7_7,rfl,rfl⟩
     refine T.ef rfl rfl rfl (wanted_none rfl) (Makes.does (m_build0 (α:=Int × Int) Tryz.underlying72 ti75)) (by rintro v23_7 _ ⟨S23_7,hl_v23_7,rfl⟩; exact upd rfl [2] rfl rfl) ?_ ?_
     ·rintro v23_7 _ ⟨S23_7,hl_v23_7,rfl⟩
      refine T.ef rfl rfl rfl (wanted_none rfl) (Makes.does (m_alloc ti132)) (by rintro _ _ ⟨b6_6,rfl,rfl⟩; exact upd rfl [3] rfl rfl) ?_ ?_
      ·rintro _ _ ⟨b6_6,rfl,rfl⟩
       refine T.ef0 rfl rfl (wanted_none rfl) (d_storeArr (i:=0) (g:=(Arr.rep 768 0)) (h:=t20) ti132 rfl rfl rfl) (by rintro _ _ ⟨rfl,rfl⟩; exact upd rfl [3] rfl rfl) ?_ ?_
       ·rintro _ _ ⟨rfl,rfl⟩
        refine T.ef0 rfl rfl (wanted_none rfl) (d_storeArr (i:=2) (g:=(Arr.rep 768 0)) (h:=t22) ti132 rfl rfl rfl) (by rintro _ _ ⟨rfl,rfl⟩; exact upd rfl [3] rfl rfl) ?_ ?_
        ·rintro _ _ ⟨rfl,rfl⟩
         refine T.nil ?_
         refine F.qn rfl (r_assign rfl) (F.qn rfl (r_assign rfl) (F.nil ?_))
         cases hE_1
         refine Nrm.only [2,6,7,8,9] rfl ?_
         refine Nrm.pick [3,0,2,1] rfl rfl ?_
         exact hj_1 _ _ ⟨v23_7,S23_7,b6_6,b7_7,hl_v23_7,rfl,rfl⟩
        exact T.stop
       exact T.stop
      exact T.stop
     ·refine T.ef rfl rfl rfl (wanted_none rfl) (Makes.does (m_alloc ti132)) (by rintro _ _ ⟨b6_7,rfl,rfl⟩; exact upd rfl [2] rfl rfl) ?_ ?_
      ·rintro _ _ ⟨b6_7,rfl,rfl⟩
       refine T.ef rfl rfl rfl (wanted_none rfl) (Makes.does (m_build0 (α:=Int × Int) Tryz.underlying72 ti75)) (by rintro v23_8 _ ⟨S23_8,hl_v23_8,rfl⟩; exact upd rfl [3] rfl rfl) ?_ ?_
       ·rintro v23_8 _ ⟨S23_8,hl_v23_8,rfl⟩
        refine T.ef0 rfl rfl (wanted_none rfl) (d_storeArr (i:=1) (g:=(Arr.rep 768 0)) (h:=t20) ti132 rfl rfl rfl) (by rintro _ _ ⟨rfl,rfl⟩; exact upd rfl [3] rfl rfl) ?_ ?_
        ·rintro _ _ ⟨rfl,rfl⟩
         refine T.ef0 rfl rfl (wanted_none rfl) (d_storeArr (i:=2) (g:=(Arr.rep 768 0)) (h:=t22) ti132 rfl rfl rfl) (by rintro _ _ ⟨rfl,rfl⟩; exact upd rfl [3] rfl rfl) ?_ ?_
         ·rintro _ _ ⟨rfl,rfl⟩
          refine T.nil ?_
          refine F.qn rfl (r_assign rfl) (F.qn rfl (r_assign rfl) (F.nil ?_))
          cases hE_1
          refine Nrm.only [2,6,7,8,9] rfl ?_
          refine Nrm.pick [3,1,2,0] rfl rfl ?_
          exact hj_1 _ _ ⟨v23_8,S23_8,b6_7,b7_7,hl_v23_8,rfl,rfl⟩
         exact T.stop
        exact T.stop
       ·refine T.ef0 rfl rfl (wanted_none rfl) (d_storeArr (i:=0) (g:=(Arr.rep 768 0)) (h:=t20) ti132 rfl rfl rfl) (by rintro _ _ ⟨rfl,rfl⟩; exact upd rfl [2] rfl rfl) ?_ ?_
        ·rintro _ _ ⟨rfl,rfl⟩
         refine T.ef rfl rfl rfl (wanted_none rfl) (Makes.does (m_build0 (α:=Int × Int) Tryz.underlying72 ti75)) (by rintro v23_9 _ ⟨S23_9,hl_v23_9,rfl⟩; exact upd rfl [3] rfl rfl) ?_ ?_
         ·rintro v23_9 _ ⟨S23_9,hl_v23_9,rfl⟩
          refine T.ef0 rfl rfl (wanted_none rfl) (d_storeArr (i:=2) (g:=(Arr.rep 768 0)) (h:=t22) ti132 rfl rfl rfl) (by rintro _ _ ⟨rfl,rfl⟩; exact upd rfl [3] rfl rfl) ?_ ?_
          ·rintro _ _ ⟨rfl,rfl⟩
           refine T.nil ?_
           refine F.qn rfl (r_assign rfl) (F.qn rfl (r_assign rfl) (F.nil ?_))
           cases hE_1
           refine Nrm.only [2,6,7,8,9] rfl ?_
           refine Nrm.pick [3,1,2,0] rfl rfl ?_
           exact hj_1 _ _ ⟨v23_9,S23_9,b6_7,b7_7,hl_v23_9,rfl,rfl⟩
          exact T.stop
         ·refine T.ef0 rfl rfl (wanted_none rfl) (d_storeArr (i:=1) (g:=(Arr.rep 768 0)) (h:=t22) ti132 rfl rfl rfl) (by rintro _ _ ⟨rfl,rfl⟩; exact upd rfl [2] rfl rfl) ?_ ?_
          ·rintro _ _ ⟨rfl,rfl⟩
           refine T.ef rfl rfl rfl (wanted_none rfl) (Makes.does (m_build0 (α:=Int × Int) Tryz.underlying72 ti75)) (by rintro v23_10 _ ⟨S23_10,hl_v23_10,rfl⟩; exact upd rfl [3] rfl rfl) ?_ ?_
           ·rintro v23_10 _ ⟨S23_10,hl_v23_10,rfl⟩
            refine T.nil ?_
            refine F.qn rfl (r_assign rfl) (F.qn rfl (r_assign rfl) (F.nil ?_))
            cases hE_1
            refine Nrm.only [2,6,7,8,9] rfl ?_
            refine Nrm.pick [3,1,2,0] rfl rfl ?_
            exact hj_1 _ _ ⟨v23_10,S23_10,b6_7,b7_7,hl_v23_10,rfl,rfl⟩
           exact T.stop
          exact T.stop
        exact T.stop
      exact T.stop
    exact T.stop


def impl_CountMet.f (k : Nat) (a0_0 : Int) (a0_1 : List (Int × Int × Int)) (a0_2 : List Int) (a0_3 : List Int) : Option (Int × Int × Bool) := (impl_IsTrap.f k a0_0 a0_1 a0_2 a0_3).bind fun t8 => (if (!t8) = true then some (0, 0, false) else (impl_lostStates.f k a0_0 a0_1 a0_2 a0_3 0).bind fun (t12_1, t12_2) => some (t12_2, (t12_1.length : Int), true))

theorem impl_CountMet.ok {k : Nat}  {a0_0 : Int} {a0_1 : List (Int × Int × Int)} {a0_2 : List Int} {a0_3 : List Int} {r0 : Int} {r1 : Int} {r2 : Bool} (h : impl_CountMet.f k a0_0 a0_1 a0_2 a0_3 = some (r0, r1, r2)) (w : World) {va0_1 : Value} {va0_2 : Value} {va0_3 : Value} (hr_a0_1 : Rd w va0_1 a0_1) (hr_a0_2 : Rd w va0_2 a0_2) (hr_a0_3 : Rd w va0_3 a0_3) :
  Calls Tryz.prog 54 ([.agg ([.int .i64 a0_0,va0_1,va0_2,va0_3].toArray)] : List Value).toArray w (fun e w'=>e = .returned (.tuple #[.int .i64 r0,.int .i64 r1,.bool r2])∧Ext w w'):=by
 unfold impl_CountMet.f at h
 have hl_va0_1:=hr_a0_1.len
 have hl_va0_2:=hr_a0_2.len
 have hl_va0_3:=hr_a0_3.len
 refine Calls.of_tri (N:=18) Tryz.func54 rfl rfl rfl (Sep.nil (M:=noM)) ?_
 refine Tri.seq (Tri.reg (l:=[0,1,2,3]) rfl ?_)
 refine F.mn rfl (m_boxG rfl rfl) ?_
 rintro _ _ ⟨b1_1,rfl,rfl⟩
 iterate 3 refine F.qn rfl (r_assign rfl) ?_
 refine F.nil (Nrm.seq (Tri.seq (Tri.seq ?_)))
 obtain ⟨t8,h8,h⟩:=bind_some h
 refine Tri.reg (l:=[0,1,2]) rfl ?_
 refine F.qn rfl (r_loadA ta65 ti65 rfl rfl (fun w hw=>(box_cells (i:=0) rfl w hw))) ?_
 refine F.qcn rfl (q_callF (xs:=_) rfl ok56 rfl rfl (fun w hw=>impl_IsTrap.ok h8 w ((fun _ hw=>hr_a0_1.sep hw) w hw) ((fun _ hw=>hr_a0_2.sep hw) w hw) ((fun _ hw=>hr_a0_3.sep hw) w hw))) ?_
 refine F.qn rfl (r_not rfl) (F.nil (Nrm.seq (Tri.cond (b:=!t8) rfl (fun g_1=>?_) (fun g_1=>?_))))
 ·replace h:=if_tt g_1 h
  refine Tri.seq (Tri.reg (l:=[0,1,2]) rfl ?_)
  iterate 3 refine F.qn rfl (r_assign rfl) ?_
  refine F.nil (Nrm.seq (Tri.ret ?_))
  refine Rtn.then ?_
  cases h
  exact Rtn.body (.tmp rfl (.tmp rfl (.tmp rfl .nil))) (fun w hw=>⟨rfl,hw.ext⟩)
 ·replace h:=if_ff g_1 h
  refine Tri.skip (Nrm.seq (Tri.seq ?_))
  obtain ⟨⟨t12_1,t12_2⟩,h12,h⟩:=bind_some h
  refine Tri.reg (l:=[0,1,2,3,4,5,6]) rfl ?_
  refine F.qn rfl (r_loadA ta65 ti65 rfl rfl (fun w hw=>(box_cells (i:=0) rfl w hw))) ?_
  refine F.mn rfl (m_callF (xs:=_) rfl ok134 rfl rfl (fun w hw=>impl_lostStates.ok h12 w ((fun _ hw=>hr_a0_1.sep hw) w hw) ((fun _ hw=>hr_a0_2.sep hw) w hw) ((fun _ hw=>hr_a0_3.sep hw) w hw))) ?_
  rintro _ _ ⟨_,⟨v12_1,S12_1,rfl,hl_v12_1,rfl⟩,rfl⟩
  refine F.qn rfl (r_move rfl) (F.qn rfl (r_extract rfl rfl) (F.qn rfl (r_extract rfl rfl) (F.qn rfl (r_assign rfl) (F.qn rfl (r_assign rfl) (F.nil (Nrm.seq (Tri.seq (Tri.reg (l:=[0,1,2,3,4,5]) rfl ?_))))))))
  refine F.qn rfl (r_move rfl) (F.qn rfl (r_move rfl) (F.qn rfl (r_len Tryz.underlying72 rfl hl_v12_1) ?_))
  iterate 3 refine F.qn rfl (r_assign rfl) ?_
  refine F.nil (Nrm.seq (Tri.ret ?_))
  cases h
  exact Rtn.body (.tmp rfl (.tmp rfl (.tmp rfl .nil))) (fun w hw=>⟨rfl,hw.ext⟩)


def spec_l11Spread.l2 (k : Nat) (x8 : Int) (t56 : List Int) : Nat → (List (Int)) → (List (Int)) → Int → Option ((List (Int)) × (List (Int)))
 | 0,_,_,_=>none
 | n + 1,x5rr,x7r,x10=>(if (decide (x10 < (t56.length : Int))) = true then (rdl t56 x10).bind fun t66=>(rdl x5rr t66).bind fun t68=>((if (decide (t68 < 0)) = true then (rdl t56 x10).bind fun t74=>(rdl x7r x8).bind fun t79=>(rdl x5rr t79).bind fun t81=>(rdl x5rr t74).bind fun t84=>(rdl t56 x10).bind fun t88=>if (x7r ++ ([t88] : List (Int))).length < 1099511627776 then some (x5rr.set t74.toNat (w64 (t81 + 1)),x7r ++ ([t88] : List (Int))) else none else some (x5rr,x7r))).bind fun (y5,y7)=>spec_l11Spread.l2 k x8 t56 n y5 y7 (w64 (x10 + 1)) else some (x5rr,x7r))

def spec_l11Spread.l1 (k : Nat) (a0_0 : Int) (a0_1 : List (Int × Int × Int)) (a0_2 : List Int) (a0_3 : List Int) : Nat → (List (Int)) → (List (Int)) → Int → Option ((List (Int)))
 | 0,_,_,_=>none
 | n + 1,x5r,x7,x8=>(if (decide (x8 < (x7.length : Int))) = true then (rdl x7 x8).bind fun t48=>(rdl x7 x8).bind fun t53=>(spec_l11Step.f k a0_0 a0_1 a0_2 a0_3 (quo t48 64) (rem t53 64)).bind fun t56=>(spec_l11Spread.l2 k x8 t56 k x5r x7 0).bind fun (x5rr,x7r)=>spec_l11Spread.l1 k a0_0 a0_1 a0_2 a0_3 n x5rr x7r (w64 (x8 + 1)) else some x5r)

def spec_l11Spread.l0 (k : Nat) : Nat → (List (Int)) → Int → Option ((List (Int)))
 | 0,_,_=>none
 | n + 1,x5,x6=>(if (decide (x6 < (x5.length : Int))) = true then (rdl x5 x6).bind fun t24=>spec_l11Spread.l0 k n (x5.set x6.toNat (-1)) (w64 (x6 + 1)) else some x5)

def spec_l11Spread.f (k : Nat) (a0_0 : Int) (a0_1 : List (Int × Int × Int)) (a0_2 : List Int) (a0_3 : List Int) (a1 : Int) : Option ((List Int)) := if 0 ≤ w64 (a0_0 * 64) ∧ w64 (a0_0 * 64) < 1099511627776 then (spec_l11Spread.l0 k k (List.replicate (w64 (a0_0 * 64)).toNat (0 : Int)) 0).bind fun x5 => (rdl a0_2 0).bind fun t29 => (spec_l4Id.f k 0 (bor a1 t29)).bind fun t32 => (rdl ([t32] : List (Int)) 0).bind fun t36 => (rdl x5 t36).bind fun t38 => (spec_l11Spread.l1 k a0_0 a0_1 a0_2 a0_3 k (x5.set t36.toNat 0) ([t32] : List (Int)) 0).bind fun x5r => some x5r else none

theorem spec_l11Spread.ok {k : Nat}  {a0_0 : Int} {a0_1 : List (Int × Int × Int)} {a0_2 : List Int} {a0_3 : List Int} {a1 : Int} {r0 : List Int} (h : spec_l11Spread.f k a0_0 a0_1 a0_2 a0_3 a1 = some r0) (w : World) {va0_1 : Value} {va0_2 : Value} {va0_3 : Value} (hr_a0_1 : Rd w va0_1 a0_1) (hr_a0_2 : Rd w va0_2 a0_2) (hr_a0_3 : Rd w va0_3 a0_3) :
  Calls Tryz.prog 135 ([.agg ([.int .i64 a0_0,va0_1,va0_2,va0_3].toArray),.int .i64 a1] : List Value).toArray w (Post (fun u ns=>∃ (Sr0 : Nat → Prop),SlLen u r0.length∧ns = [R.sl Sr0 u r0]) w):=by
 unfold spec_l11Spread.f at h
 have hl_va0_1:=hr_a0_1.len
 have hl_va0_2:=hr_a0_2.len
 have hl_va0_3:=hr_a0_3.len
 refine Calls.of_tri (N:=93) Tryz.func135 rfl rfl rfl (Sep.nil (M:=noM)) ?_
 refine Tri.seq (Tri.reg (l:=[0,1]) rfl ?_)
 refine F.mn rfl (m_boxG rfl rfl) ?_
 rintro _ _ ⟨b2_1,rfl,rfl⟩
 refine F.qn rfl (r_assign rfl) (F.nil (Nrm.seq (Tri.seq ?_)))
 obtain ⟨hm15,h⟩:=ck h
 refine Tri.reg (l:=[0,1,2,3,4,5]) rfl ?_
 refine F.qn rfl (r_fieldAddr tf65_0 rfl) (F.qn rfl (r_fieldAddr tf27_0 rfl) (F.qn rfl (r_load ta3 rfl (fun w hw=>cell_2 (box_cells (i:=0) rfl w hw) rfl)) (F.qn rfl (r_mul rfl rfl) ?_)))
 refine F.mn rfl (m_make (x0:=(0 : Int)) Tryz.underlying25 ti3 rfl rfl rfl hm15.1 hm15.2 (by decide)) ?_
 rintro v15_1 _ ⟨S15_1,hl_v15_1,rfl⟩
 refine F.qn rfl (r_assign rfl) (F.nil (Nrm.seq (Tri.seq (Tri.seq (Tri.reg (l:=[0]) rfl ?_)))))
 refine F.qn rfl (r_assign rfl) (F.nil (Nrm.seq ?_))
 obtain ⟨x5,hE_1,h⟩:=bind_some h
 refine Tri.block ?_
 refine Tri.only [1,2,5,6] rfl ?_
 refine Tri.pick [1,0] rfl rfl ?_
 refine Tri.rounds (fun n e' C'=>∃ (x5' : List (Int)) (x6' : Int),spec_l11Spread.l0 k n x5' x6' = some x5∧SlLen v15_1 (x5').length∧e' = [(1,.int .i64 a1),(2,.pointer (some ⟨b2_1,0,none⟩)),(5,v15_1),(6,.int .i64 x6')]∧C' = Sep w noM [R.box b2_1 65 [.int .i64 a0_0,va0_1,va0_2,va0_3],R.sl S15_1 v15_1 (x5' : List (Int))]) k ?_ ?_ ?_
 ·exact ⟨List.replicate (w64 (a0_0 * 64)).toNat (0 : Int),0,hE_1,hl_v15_1,rfl,rfl⟩
 ·rintro _ _ ⟨_,_,hE_1,_⟩
  rw [spec_l11Spread.l0.eq_1] at hE_1; cases hE_1
 ·rintro n_1 _ _ ⟨x5,x6,hE_1,hl_x5,rfl,rfl⟩ ih_1
  rw [spec_l11Spread.l0.eq_2] at hE_1
  refine Tri.seq (Tri.seq (Tri.reg (l:=[0,1,2,3]) rfl ?_))
  refine F.qn rfl (r_move rfl) (F.qn rfl (r_move rfl) (F.qn rfl (r_len Tryz.underlying25 rfl hl_x5) (F.qn rfl (r_lss rfl rfl) (F.nil (Nrm.seq (Tri.cond (b:=decide (x6 < (x5.length : Int))) rfl (fun g_1=>?_) (fun g_1=>?_)))))))
  ·replace hE_1:=if_tt g_1 hE_1
   refine Tri.skip (Nrm.seq (Tri.seq (Tri.block ?_)))
   obtain ⟨t24,h24,hE_1⟩:=bind_some hE_1
   refine Tri.reg (l:=[0,1,2,3]) rfl ?_
   refine F.qn rfl (r_move rfl) (F.qn rfl (r_move rfl) (F.qn rfl (r_indexAddrS Tryz.underlying25 ti3 rfl hl_x5 rfl (rdl_some h24).1 (rdl_some h24).2.1) ?_))
   refine F.ef0 rfl rfl (wanted_none rfl) (d_storeE (i:=1) (x1:=(-1)) ti3 rfl rfl rfl (rdl_some h24) rfl) ?_
   rintro _ _ ⟨rfl,rfl⟩
   refine F.nil (Nrm.block ?_)
   refine Nrm.seq (Tri.reg (l:=[0,1,2]) rfl ?_)
   refine F.qn rfl (r_move rfl) (F.qn rfl (r_add rfl rfl) (F.qn rfl (r_assign rfl) (F.nil (Nrm.round ?_))))
   refine Rnd.only [1,2,5,6] rfl ?_
   refine Rnd.pick [0,1] rfl rfl ?_
   exact ih_1 _ _ ⟨x5.set x6.toNat (-1),w64 (x6 + 1),hE_1,(len_set hl_x5),rfl,rfl⟩
  ·replace hE_1:=if_ff g_1 hE_1
   refine Tri.exit ?_
   refine Exi.then ?_
   refine Exi.then ?_
   refine Exi.same ?_
   cases hE_1
   refine Nrm.seq (Tri.seq ?_)
   obtain ⟨t29,h29,h⟩:=bind_some h
   obtain ⟨t32,h32,h⟩:=bind_some h
   refine Tri.reg (l:=[0,1,2,3,4,5,6,7,8,9]) rfl ?_
   refine F.qn rfl (r_move rfl) ?_
   refine F.qn rfl (r_fieldAddr tf65_0 rfl) (F.qn rfl (r_fieldAddr tf27_2 rfl) (F.qn rfl (r_load ta25 rfl (fun w hw=>cell_2 (box_cells (i:=0) rfl w hw) rfl)) (F.qn rfl (r_indexAddrS Tryz.underlying25 ti3 rfl hl_va0_2 rfl (rdl_some h29).1 (rdl_some h29).2.1) (F.qn rfl (r_load ta3 rfl (fun w hw=>cell_0 (Rd.flat ((fun _ hw=>hr_a0_2.sep hw) w hw) (rdl_some h29).2.2) rfl)) (F.qn rfl (r_or rfl rfl) ?_)))))
   refine F.qcn rfl (q_callF (xs:=_) rfl ok130 rfl rfl (fun w hw=>spec_l4Id.ok h32 w)) ?_
   refine F.mn rfl (m_buildF (l:=([t32] : List (Int))) Tryz.underlying25 ti3 rfl rfl rfl rfl rfl) ?_
   rintro v33_1 _ ⟨S33_1,hl_v33_1,rfl⟩
   refine F.qn rfl (r_assign rfl) (F.nil (Nrm.seq (Tri.seq ?_)))
   obtain ⟨t36,h36,h⟩:=bind_some h
   obtain ⟨t38,h38,h⟩:=bind_some h
   refine Tri.reg (l:=[0,1,2,3,4,5]) rfl ?_
   refine F.qn rfl (r_move rfl) (F.qn rfl (r_move rfl) (F.qn rfl (r_indexAddrS Tryz.underlying25 ti3 rfl hl_v33_1 rfl (rdl_some h36).1 (rdl_some h36).2.1) (F.qn rfl (r_load ta3 rfl (fun w hw=>cell_0 (Rd.flat ((rd_sl (i:=0) rfl) w hw) (rdl_some h36).2.2) rfl)) (F.qn rfl (r_indexAddrS Tryz.underlying25 ti3 rfl hl_x5 rfl (rdl_some h38).1 (rdl_some h38).2.1) ?_))))
   refine F.ef0 rfl rfl (wanted_none rfl) (d_storeE (i:=2) (x1:=0) ti3 rfl rfl rfl (rdl_some h38) rfl) ?_
   rintro _ _ ⟨rfl,rfl⟩
   refine F.nil (Nrm.seq (Tri.seq (Tri.seq (Tri.reg (l:=[0]) rfl ?_))))
   refine F.qn rfl (r_assign rfl) (F.nil (Nrm.seq ?_))
   obtain ⟨x5r,hE_2,h⟩:=bind_some h
   refine Tri.block ?_
   refine Tri.only [2,5,7,8] rfl ?_
   refine Tri.pick [1,0,2] rfl rfl ?_
   refine Tri.rounds (fun n e' C'=>∃ (x5r' : List (Int)) (x7' : List (Int)) (x8' : Int) (w5r : Value) (T5r : Nat → Prop) (w7 : Value) (T7 : Nat → Prop),spec_l11Spread.l1 k a0_0 a0_1 a0_2 a0_3 n x5r' x7' x8' = some x5r∧SlLen w5r (x5r').length∧SlLen w7 (x7').length∧e' = [(2,.pointer (some ⟨b2_1,0,none⟩)),(5,w5r),(7,w7),(8,.int .i64 x8')]∧C' = Sep w noM [R.box b2_1 65 [.int .i64 a0_0,va0_1,va0_2,va0_3],R.sl T7 w7 (x7' : List (Int)),R.sl T5r w5r (x5r' : List (Int))]) k ?_ ?_ ?_
   ·exact ⟨x5.set t36.toNat 0,([t32] : List (Int)),0,v15_1,S15_1,v33_1,S33_1,hE_2,(len_set hl_x5),hl_v33_1,rfl,rfl⟩
   ·rintro _ _ ⟨_,_,_,_,_,_,_,hE_2,_⟩
    rw [spec_l11Spread.l1.eq_1] at hE_2; cases hE_2
   ·rintro n_2 _ _ ⟨x5r,x7,x8,w5r,T5r,w7,T7,hE_2,hl_w5r,hl_w7,rfl,rfl⟩ ih_2
    rw [spec_l11Spread.l1.eq_2] at hE_2
    refine Tri.seq (Tri.seq (Tri.reg (l:=[0,1,2,3]) rfl ?_))
    refine F.qn rfl (r_move rfl) (F.qn rfl (r_move rfl) (F.qn rfl (r_len Tryz.underlying25 rfl hl_w7) (F.qn rfl (r_lss rfl rfl) (F.nil (Nrm.seq (Tri.cond (b:=decide (x8 < (x7.length : Int))) rfl (fun g_2=>?_) (fun g_2=>?_)))))))
    ·replace hE_2:=if_tt g_2 hE_2
     refine Tri.skip (Nrm.seq (Tri.seq (Tri.block ?_)))
     refine Tri.seq ?_
     obtain ⟨t48,h48,hE_2⟩:=bind_some hE_2
     obtain ⟨t53,h53,hE_2⟩:=bind_some hE_2
     obtain ⟨t56,h56,hE_2⟩:=bind_some hE_2
     refine Tri.drawA mixedT Sep.up [(0,true),(1,true),(2,true),(3,true),(4,true),(5,true),(6,true),(7,true),(8,true),(9,true),(10,true),(11,false),(12,true)] [] (by kernel_rfl) ?_
     refine S.qn rfl (r_loadA ta65 ti65 rfl rfl (fun w hw=>(box_cells (i:=0) rfl w hw))) (S.qn rfl (r_move rfl) (S.qn rfl (r_move rfl) (S.qn rfl (r_indexAddrS Tryz.underlying25 ti3 rfl hl_w7 rfl (rdl_some h48).1 (rdl_some h48).2.1) (S.qn rfl (r_load ta3 rfl (fun w hw=>cell_0 (Rd.flat ((rd_sl (i:=1) rfl) w hw) (rdl_some h48).2.2) rfl)) ?_))))
     refine S.qn rfl (r_quo rfl rfl (by decide)) (S.qn rfl (r_move rfl) (S.qn rfl (r_move rfl) (S.qn rfl (r_indexAddrS Tryz.underlying25 ti3 rfl hl_w7 rfl (rdl_some h53).1 (rdl_some h53).2.1) (S.qn rfl (r_load ta3 rfl (fun w hw=>cell_0 (Rd.flat ((rd_sl (i:=1) rfl) w hw) (rdl_some h53).2.2) rfl)) (S.qn rfl (r_rem rfl rfl (by decide)) ?_)))))
     refine S.m rfl rfl rfl (wanted_none rfl) (m_callF (xs:=_) rfl ok132 rfl rfl (fun w hw=>spec_l11Step.ok h56 w ((fun _ hw=>hr_a0_1.sep hw) w hw) ((fun _ hw=>hr_a0_2.sep hw) w hw) ((fun _ hw=>hr_a0_3.sep hw) w hw))) ?_
     rintro v56_2 _ ⟨_,⟨S56_2,hl_v56_2,rfl⟩,rfl⟩
     refine S.qn rfl (r_assign rfl) (S.nil (F.nil (Nrm.seq (Tri.seq (Tri.reg (l:=[0]) rfl ?_)))))
     refine F.qn rfl (r_assign rfl) (F.nil (Nrm.seq ?_))
     obtain ⟨⟨x5rr,x7r⟩,hE_3,hE_2⟩:=bind_some hE_2
     refine Tri.block ?_
     refine Tri.only [2,5,7,8,9,10] rfl ?_
     refine Tri.pick [1,0,2,3] rfl rfl ?_
     refine Tri.rounds (fun n e' C'=>∃ (x5rr' : List (Int)) (x7r' : List (Int)) (x10' : Int) (w5rr : Value) (T5rr : Nat → Prop) (w7r : Value) (T7r : Nat → Prop),spec_l11Spread.l2 k x8 t56 n x5rr' x7r' x10' = some (x5rr,x7r)∧SlLen w5rr (x5rr').length∧SlLen w7r (x7r').length∧e' = [(2,.pointer (some ⟨b2_1,0,none⟩)),(5,w5rr),(7,w7r),(8,.int .i64 x8),(9,v56_2),(10,.int .i64 x10')]∧C' = Sep w noM [R.box b2_1 65 [.int .i64 a0_0,va0_1,va0_2,va0_3],R.sl S56_2 v56_2 (t56 : List (Int)),R.sl T7r w7r (x7r' : List (Int)),R.sl T5rr w5rr (x5rr' : List (Int))]) k ?_ ?_ ?_
     ·exact ⟨x5r,x7,0,w5r,T5r,w7,T7,hE_3,hl_w5r,hl_w7,rfl,rfl⟩
     ·rintro _ _ ⟨_,_,_,_,_,_,_,hE_3,_⟩
      rw [spec_l11Spread.l2.eq_1] at hE_3; cases hE_3
     ·rintro n_3 _ _ ⟨x5rr,x7r,x10,w5rr,T5rr,w7r,T7r,hE_3,hl_w5rr,hl_w7r,rfl,rfl⟩ ih_3
      rw [spec_l11Spread.l2.eq_2] at hE_3
      refine Tri.seq (Tri.seq (Tri.reg (l:=[0,1,2,3]) rfl ?_))
      refine F.qn rfl (r_move rfl) (F.qn rfl (r_move rfl) (F.qn rfl (r_len Tryz.underlying25 rfl hl_v56_2) (F.qn rfl (r_lss rfl rfl) (F.nil (Nrm.seq (Tri.cond (b:=decide (x10 < (t56.length : Int))) rfl (fun g_3=>?_) (fun g_3=>?_)))))))
      ·replace hE_3:=if_tt g_3 hE_3
       refine Tri.skip (Nrm.seq (Tri.seq (Tri.block ?_)))
       refine Tri.seq ?_
       obtain ⟨t66,h66,hE_3⟩:=bind_some hE_3
       obtain ⟨t68,h68,hE_3⟩:=bind_some hE_3
       refine Tri.reg (l:=[0,1,2,3,4,5,6,7]) rfl ?_
       iterate 3 refine F.qn rfl (r_move rfl) ?_
       refine F.qn rfl (r_indexAddrS Tryz.underlying25 ti3 rfl hl_v56_2 rfl (rdl_some h66).1 (rdl_some h66).2.1) (F.qn rfl (r_load ta3 rfl (fun w hw=>cell_0 (Rd.flat ((rd_sl (i:=1) rfl) w hw) (rdl_some h66).2.2) rfl)) (F.qn rfl (r_indexAddrS Tryz.underlying25 ti3 rfl hl_w5rr rfl (rdl_some h68).1 (rdl_some h68).2.1) (F.qn rfl (r_load ta3 rfl (fun w hw=>cell_0 (Rd.flat ((rd_sl (i:=3) rfl) w hw) (rdl_some h68).2.2) rfl)) (F.qn rfl (r_lss rfl rfl) (F.nil (Nrm.seq ?_))))))
       obtain ⟨⟨y5,y7⟩,hE_4,hE_3⟩:=bind_some hE_3
       refine Tri.cut (fun e' C'=>∃ (v5_1 : Value) (S5_1 : Nat → Prop) (v7_1 : Value) (S7_1 : Nat → Prop),SlLen v5_1 (y5).length∧SlLen v7_1 (y7).length∧e' = [(2,.pointer (some ⟨b2_1,0,none⟩)),(5,v5_1),(7,v7_1),(8,.int .i64 x8),(9,v56_2),(10,.int .i64 x10)]∧C' = Sep w noM [R.box b2_1 65 [.int .i64 a0_0,va0_1,va0_2,va0_3],R.sl S5_1 v5_1 (y5 : List (Int)),R.sl S7_1 v7_1 (y7 : List (Int)),R.sl S56_2 v56_2 (t56 : List (Int))]) ?_ (fun hj_1=>?_)
       ·rintro _ _ ⟨v5_1,S5_1,v7_1,S7_1,hl_v5_1,hl_v7_1,rfl,rfl⟩
        refine Nrm.block ?_
        refine Nrm.seq (Tri.reg (l:=[0,1,2]) rfl ?_)
        refine F.qn rfl (r_move rfl) (F.qn rfl (r_add rfl rfl) (F.qn rfl (r_assign rfl) (F.nil (Nrm.round ?_))))
        refine Rnd.only [2,5,7,8,9,10] rfl ?_
        refine Rnd.pick [0,3,2,1] rfl rfl ?_
        exact ih_3 _ _ ⟨y5,y7,w64 (x10 + 1),v5_1,S5_1,v7_1,S7_1,hE_3,hl_v5_1,hl_v7_1,rfl,rfl⟩
       ·refine Tri.cond (b:=decide (t68 < 0)) rfl (fun g_4=>?_) (fun g_4=>?_)
        ·replace hE_4:=if_tt g_4 hE_4
         refine Tri.seq ?_
         obtain ⟨t74,h74,hE_4⟩:=bind_some hE_4
         obtain ⟨t79,h79,hE_4⟩:=bind_some hE_4
         obtain ⟨t81,h81,hE_4⟩:=bind_some hE_4
         obtain ⟨t84,h84,hE_4⟩:=bind_some hE_4
         refine Tri.drawA mixedT Sep.up [(0,true),(1,true),(2,true),(3,true),(4,true),(5,true),(6,true),(7,true),(8,true),(9,true),(10,true),(11,true),(12,true),(13,true)] [14] (by kernel_rfl) ?_
         iterate 3 refine S.qn rfl (r_move rfl) ?_
         refine S.qn rfl (r_indexAddrS Tryz.underlying25 ti3 rfl hl_v56_2 rfl (rdl_some h74).1 (rdl_some h74).2.1) (S.qn rfl (r_load ta3 rfl (fun w hw=>cell_0 (Rd.flat ((rd_sl (i:=1) rfl) w hw) (rdl_some h74).2.2) rfl)) ?_)
         iterate 3 refine S.qn rfl (r_move rfl) ?_
         refine S.qn rfl (r_indexAddrS Tryz.underlying25 ti3 rfl hl_w7r rfl (rdl_some h79).1 (rdl_some h79).2.1) (S.qn rfl (r_load ta3 rfl (fun w hw=>cell_0 (Rd.flat ((rd_sl (i:=2) rfl) w hw) (rdl_some h79).2.2) rfl)) (S.qn rfl (r_indexAddrS Tryz.underlying25 ti3 rfl hl_w5rr rfl (rdl_some h81).1 (rdl_some h81).2.1) (S.qn rfl (r_load ta3 rfl (fun w hw=>cell_0 (Rd.flat ((rd_sl (i:=3) rfl) w hw) (rdl_some h81).2.2) rfl)) (S.qn rfl (r_add rfl rfl) (S.qn rfl (r_indexAddrS Tryz.underlying25 ti3 rfl hl_w5rr rfl (rdl_some h84).1 (rdl_some h84).2.1) (S.nil (F.ef0 rfl rfl (wanted_none rfl) (d_storeE (i:=3) (x1:=w64 (t81 + 1)) ti3 rfl rfl rfl (rdl_some h84) rfl) ?_)))))))
         rintro _ _ ⟨rfl,rfl⟩
         refine F.nil (Nrm.seq ?_)
         obtain ⟨t88,h88,hE_4⟩:=bind_some hE_4
         obtain ⟨hs91,hE_4⟩:=ck hE_4
         refine Tri.reg (l:=[0,1,2,3,4,5,6,7]) rfl ?_
         iterate 3 refine F.qn rfl (r_move rfl) ?_
         refine F.qn rfl (r_indexAddrS Tryz.underlying25 ti3 rfl hl_v56_2 rfl (rdl_some h88).1 (rdl_some h88).2.1) (F.qn rfl (r_load ta3 rfl (fun w hw=>cell_0 (Rd.flat ((rd_sl (i:=1) rfl) w hw) (rdl_some h88).2.2) rfl)) ?_)
         refine F.mn rfl (m_buildF (l:=([t88] : List (Int))) Tryz.underlying25 ti3 rfl rfl rfl rfl rfl) ?_
         rintro v90_1 _ ⟨S90_1,hl_v90_1,rfl⟩
         refine F.efn rfl (d_append (i:=3) Tryz.underlying25 Tryz.underlying25 ti3 rfl (by decide) rfl rfl rfl (rd_sl (i:=0) rfl) hs91) ?_
         rintro v91_1 _ ⟨S91_1,rfl,hl_v91_1⟩
         refine F.qn rfl (r_assign rfl) (F.nil ?_)
         cases hE_4
         refine Nrm.only [2,5,7,8,9,10] rfl ?_
         refine Nrm.pick [1,4,3,2] rfl rfl ?_
         exact hj_1 _ _ ⟨w5rr,T5rr,v91_1,S91_1,(len_set hl_w5rr),hl_v91_1,rfl,rfl⟩
        ·replace hE_4:=if_ff g_4 hE_4
         refine Tri.skip ?_
         cases hE_4
         refine Nrm.only [2,5,7,8,9,10] rfl ?_
         refine Nrm.pick [0,3,2,1] rfl rfl ?_
         exact hj_1 _ _ ⟨w5rr,T5rr,w7r,T7r,hl_w5rr,hl_w7r,rfl,rfl⟩
      ·replace hE_3:=if_ff g_3 hE_3
       refine Tri.exit ?_
       refine Exi.then ?_
       refine Exi.then ?_
       refine Exi.same ?_
       cases hE_3
       refine Nrm.block ?_
       refine Nrm.seq (Tri.reg (l:=[0,1,2]) rfl ?_)
       refine F.qn rfl (r_move rfl) (F.qn rfl (r_add rfl rfl) (F.qn rfl (r_assign rfl) (F.nil (Nrm.round ?_))))
       refine Rnd.only [2,5,7,8] rfl ?_
       refine Rnd.pick [0,2,3] rfl rfl ?_
       exact ih_2 _ _ ⟨x5rr,x7r,w64 (x8 + 1),w5rr,T5rr,w7r,T7r,hE_2,hl_w5rr,hl_w7r,rfl,rfl⟩
    ·replace hE_2:=if_ff g_2 hE_2
     refine Tri.exit ?_
     refine Exi.then ?_
     refine Exi.then ?_
     refine Exi.same ?_
     cases hE_2
     refine Nrm.seq (Tri.seq (Tri.reg (l:=[0,1]) rfl ?_))
     refine F.qn rfl (r_move rfl) (F.qn rfl (r_assign rfl) (F.nil (Nrm.seq (Tri.ret ?_))))
     cases h
     exact Rtn.body (.tmp rfl .nil) (fun w hw=>⟨_,_,rfl,⟨T5r,hl_w5r,rfl⟩,Sep.pick (is:=[2]) rfl rfl hw⟩)


def spec_l11Lost.l0 (k : Nat) (a1 : List Bool) (t13 : List Int) : Nat → (List (Int)) → Int → Option ((List (Int)))
 | 0,_,_=>none
 | n + 1,x7,x9=>(if (decide (x9 < (t13.length : Int))) = true then ((rdl t13 x9).bind fun t22=>(if (decide (t22 ≥ 0)) = true then (rdl a1 x9).bind fun t28=>some (!t28) else some false)).bind fun y31=>((if y31 = true then if (x7 ++ ([x9] : List (Int))).length < 1099511627776 then some (x7 ++ ([x9] : List (Int))) else none else some x7)).bind fun y7=>spec_l11Lost.l0 k a1 t13 n y7 (w64 (x9 + 1)) else some x7)

def spec_l11Lost.f (k : Nat) (a0_0 : Int) (a0_1 : List (Int × Int × Int)) (a0_2 : List Int) (a0_3 : List Int) (a1 : List Bool) (a2 : Int) : Option ((List Int)) := (spec_l11Spread.f k a0_0 a0_1 a0_2 a0_3 a2).bind fun t13 => (spec_l11Lost.l0 k a1 t13 k ([] : List (Int)) 0).bind fun x7 => some x7

theorem spec_l11Lost.ok {k : Nat}  {a0_0 : Int} {a0_1 : List (Int × Int × Int)} {a0_2 : List Int} {a0_3 : List Int} {a1 : List Bool} {a2 : Int} {r0 : List Int} (h : spec_l11Lost.f k a0_0 a0_1 a0_2 a0_3 a1 a2 = some r0) (w : World) {va0_1 : Value} {va0_2 : Value} {va0_3 : Value} {va1 : Value} (hr_a0_1 : Rd w va0_1 a0_1) (hr_a0_2 : Rd w va0_2 a0_2) (hr_a0_3 : Rd w va0_3 a0_3) (hr_a1 : Rd w va1 a1) :
  Calls Tryz.prog 136 ([.agg ([.int .i64 a0_0,va0_1,va0_2,va0_3].toArray),va1,.int .i64 a2] : List Value).toArray w (Post (fun u ns=>∃ (Sr0 : Nat → Prop),SlLen u r0.length∧ns = [R.sl Sr0 u r0]) w):=by
 unfold spec_l11Lost.f at h
 have hl_va0_1:=hr_a0_1.len
 have hl_va0_2:=hr_a0_2.len
 have hl_va0_3:=hr_a0_3.len
 have hl_va1:=hr_a1.len
 refine Calls.of_tri (N:=37) Tryz.func136 rfl rfl rfl (Sep.nil (M:=noM)) ?_
 refine Tri.seq (Tri.reg (l:=[0,1]) rfl ?_)
 refine F.mn rfl (m_boxG rfl rfl) ?_
 rintro _ _ ⟨b3_1,rfl,rfl⟩
 refine F.qn rfl (r_assign rfl) (F.nil (Nrm.seq (Tri.seq ?_)))
 obtain ⟨t13,h13,h⟩:=bind_some h
 refine Tri.reg (l:=[0,1,2,3,4,5]) rfl ?_
 refine F.mn rfl (m_build0 (α:=Int) Tryz.underlying25 ti3) ?_
 rintro v10_1 _ ⟨S10_1,hl_v10_1,rfl⟩
 refine F.qn rfl (r_loadA ta65 ti65 rfl rfl (fun w hw=>(box_cells (i:=1) rfl w hw))) (F.qn rfl (r_move rfl) ?_)
 refine F.mn rfl (m_callF (xs:=_) rfl ok135 rfl rfl (fun w hw=>spec_l11Spread.ok h13 w ((fun _ hw=>hr_a0_1.sep hw) w hw) ((fun _ hw=>hr_a0_2.sep hw) w hw) ((fun _ hw=>hr_a0_3.sep hw) w hw))) ?_
 rintro v13_1 _ ⟨_,⟨S13_1,hl_v13_1,rfl⟩,rfl⟩
 refine F.qn rfl (r_assign rfl) (F.qn rfl (r_assign rfl) (F.nil (Nrm.seq (Tri.seq (Tri.seq (Tri.reg (l:=[0]) rfl ?_))))))
 refine F.qn rfl (r_assign rfl) (F.nil (Nrm.seq ?_))
 obtain ⟨x7,hE_1,h⟩:=bind_some h
 refine Tri.block ?_
 refine Tri.only [1,7,8,9] rfl ?_
 refine Tri.pick [0,1] rfl rfl ?_
 refine Tri.rounds (fun n e' C'=>∃ (x7' : List (Int)) (x9' : Int) (w7 : Value) (T7 : Nat → Prop),spec_l11Lost.l0 k a1 t13 n x7' x9' = some x7∧SlLen w7 (x7').length∧e' = [(1,va1),(7,w7),(8,v13_1),(9,.int .i64 x9')]∧C' = Sep w noM [R.sl S13_1 v13_1 (t13 : List (Int)),R.sl T7 w7 (x7' : List (Int))]) k ?_ ?_ ?_
 ·exact ⟨([] : List (Int)),0,v10_1,S10_1,hE_1,hl_v10_1,rfl,rfl⟩
 ·rintro _ _ ⟨_,_,_,_,hE_1,_⟩
  rw [spec_l11Lost.l0.eq_1] at hE_1; cases hE_1
 ·rintro n_1 _ _ ⟨x7,x9,w7,T7,hE_1,hl_w7,rfl,rfl⟩ ih_1
  rw [spec_l11Lost.l0.eq_2] at hE_1
  refine Tri.seq (Tri.seq (Tri.reg (l:=[0,1,2,3]) rfl ?_))
  refine F.qn rfl (r_move rfl) (F.qn rfl (r_move rfl) (F.qn rfl (r_len Tryz.underlying25 rfl hl_v13_1) (F.qn rfl (r_lss rfl rfl) (F.nil (Nrm.seq (Tri.cond (b:=decide (x9 < (t13.length : Int))) rfl (fun g_1=>?_) (fun g_1=>?_)))))))
  ·replace hE_1:=if_tt g_1 hE_1
   refine Tri.skip (Nrm.seq (Tri.seq (Tri.block ?_)))
   refine Tri.seq ?_
   obtain ⟨y31,hE_2,hE_1⟩:=bind_some hE_1
   refine Tri.cut (fun e' C'=>e' = [(1,va1),(7,w7),(8,v13_1),(9,.int .i64 x9),(31,.bool y31)]∧C' = Sep w noM [R.sl S13_1 v13_1 (t13 : List (Int)),R.sl T7 w7 (x7 : List (Int))]) ?_ (fun hj_1=>?_)
   ·rintro _ _ ⟨rfl,rfl⟩
    refine Nrm.seq ?_
    obtain ⟨y7,hE_3,hE_1⟩:=bind_some hE_1
    refine Tri.cut (fun e' C'=>∃ (v7_1 : Value) (S7_1 : Nat → Prop),SlLen v7_1 (y7).length∧e' = [(1,va1),(7,v7_1),(8,v13_1),(9,.int .i64 x9)]∧C' = Sep w noM [R.sl S7_1 v7_1 (y7 : List (Int)),R.sl S13_1 v13_1 (t13 : List (Int))]) ?_ (fun hj_2=>?_)
    ·rintro _ _ ⟨v7_1,S7_1,hl_v7_1,rfl,rfl⟩
     refine Nrm.block ?_
     refine Nrm.seq (Tri.reg (l:=[0,1,2]) rfl ?_)
     refine F.qn rfl (r_move rfl) (F.qn rfl (r_add rfl rfl) (F.qn rfl (r_assign rfl) (F.nil (Nrm.round ?_))))
     refine Rnd.only [1,7,8,9] rfl ?_
     refine Rnd.pick [1,0] rfl rfl ?_
     exact ih_1 _ _ ⟨y7,w64 (x9 + 1),v7_1,S7_1,hE_1,hl_v7_1,rfl,rfl⟩
    ·refine Tri.cond (b:=y31) rfl (fun g_2=>?_) (fun g_2=>?_)
     ·replace hE_3:=if_tt g_2 hE_3
      obtain ⟨hs35,hE_3⟩:=ck hE_3
      refine Tri.reg (l:=[0,1,2,3,4]) rfl ?_
      refine F.qn rfl (r_move rfl) (F.qn rfl (r_move rfl) ?_)
      refine F.mn rfl (m_buildF (l:=([x9] : List (Int))) Tryz.underlying25 ti3 rfl rfl rfl rfl rfl) ?_
      rintro v34_1 _ ⟨S34_1,hl_v34_1,rfl⟩
      refine F.efn rfl (d_append (i:=2) Tryz.underlying25 Tryz.underlying25 ti3 rfl (by decide) rfl rfl rfl (rd_sl (i:=0) rfl) hs35) ?_
      rintro v35_1 _ ⟨S35_1,rfl,hl_v35_1⟩
      refine F.qn rfl (r_assign rfl) (F.nil ?_)
      cases hE_3
      refine Nrm.only [1,7,8,9] rfl ?_
      refine Nrm.pick [2,1] rfl rfl ?_
      exact hj_2 _ _ ⟨v35_1,S35_1,hl_v35_1,rfl,rfl⟩
     ·replace hE_3:=if_ff g_2 hE_3
      refine Tri.skip ?_
      cases hE_3
      refine Nrm.only [1,7,8,9] rfl ?_
      refine Nrm.pick [1,0] rfl rfl ?_
      exact hj_2 _ _ ⟨w7,T7,hl_w7,rfl,rfl⟩
   ·obtain ⟨t22,h22,hE_2⟩:=bind_some hE_2
    rcases Bool.eq_false_or_eq_true (decide (t22 ≥ 0)) with g25 | g25
    ·replace hE_2:=if_tt g25 hE_2
     obtain ⟨t28,h28,hE_2⟩:=bind_some hE_2
     refine Tri.reg (l:=List.range 12) rfl ?_
     refine F.qn rfl (r_move rfl) (F.qn rfl (r_move rfl) (F.qn rfl (r_indexAddrS Tryz.underlying25 ti3 rfl hl_v13_1 rfl (rdl_some h22).1 (rdl_some h22).2.1) (F.qn rfl (r_load ta3 rfl (fun w hw=>cell_0 (Rd.flat ((rd_sl (i:=0) rfl) w hw) (rdl_some h22).2.2) rfl)) (F.qn rfl (r_geq rfl rfl) (F.qn rfl (r_move rfl) ?_)))))
     refine F.qg rfl g25 (r_move rfl) (F.qg rfl g25 (r_move rfl) (F.qg rfl g25 (r_indexAddrS Tryz.underlying135 ti4 rfl hl_va1 rfl (rdl_some h28).1 (rdl_some h28).2.1) (F.qg rfl g25 (r_load ta4 rfl (fun w hw=>cell_0 (Rd.flat ((fun _ hw=>hr_a1.sep hw) w hw) (rdl_some h28).2.2) rfl)) (F.qg rfl g25 (r_not rfl) (F.qn rfl (r_pick rfl rfl g25) (F.nil ?_))))))
     cases hE_2
     refine Nrm.only [1,7,8,9,31] rfl ?_
     refine Nrm.pick [0,1] rfl rfl ?_
     exact hj_1 _ _ ⟨rfl,rfl⟩
    ·replace hE_2:=if_ff g25 hE_2
     refine Tri.reg (l:=List.range 12) rfl ?_
     refine F.qn rfl (r_move rfl) (F.qn rfl (r_move rfl) (F.qn rfl (r_indexAddrS Tryz.underlying25 ti3 rfl hl_v13_1 rfl (rdl_some h22).1 (rdl_some h22).2.1) (F.qn rfl (r_load ta3 rfl (fun w hw=>cell_0 (Rd.flat ((rd_sl (i:=0) rfl) w hw) (rdl_some h22).2.2) rfl)) (F.qn rfl (r_geq rfl rfl) (F.qn rfl (r_move rfl) ?_)))))
     iterate 5 refine F.skf rfl g25 ?_
     refine F.qn rfl (r_pickf rfl rfl g25) (F.nil ?_)
     cases hE_2
     refine Nrm.only [1,7,8,9,31] rfl ?_
     refine Nrm.pick [0,1] rfl rfl ?_
     exact hj_1 _ _ ⟨rfl,rfl⟩
  ·replace hE_1:=if_ff g_1 hE_1
   refine Tri.exit ?_
   refine Exi.then ?_
   refine Exi.then ?_
   refine Exi.same ?_
   cases hE_1
   refine Nrm.seq (Tri.seq (Tri.reg (l:=[0,1]) rfl ?_))
   refine F.qn rfl (r_move rfl) (F.qn rfl (r_assign rfl) (F.nil (Nrm.seq (Tri.ret ?_))))
   cases h
   exact Rtn.body (.tmp rfl .nil) (fun w hw=>⟨_,_,rfl,⟨T7,hl_w7,rfl⟩,Sep.pick (is:=[1]) rfl rfl hw⟩)


def spec_CountMet.l0 (k : Nat) (t12 : List Int) : Nat → Int → Int → Option (Int)
 | 0,_,_=>none
 | n + 1,x5,x7=>(if (decide (x7 < (t12.length : Int))) = true then (rdl t12 x7).bind fun t21=>((if (decide (t21 ≥ 0)) = true then some (w64 (x5 + 1)) else some x5)).bind fun y5=>spec_CountMet.l0 k t12 n y5 (w64 (x7 + 1)) else some x5)

def spec_CountMet.f (k : Nat) (a0_0 : Int) (a0_1 : List (Int × Int × Int)) (a0_2 : List Int) (a0_3 : List Int) : Option (Int × Int × Bool) := (spec_l11Trap.f k a0_0 a0_1 a0_2 a0_3).bind fun t9 => (if (!t9) = true then some (0, 0, false) else (spec_l11Spread.f k a0_0 a0_1 a0_2 a0_3 0).bind fun t12 => (spec_CountMet.l0 k t12 k 0 0).bind fun x5 => (spec_l11Good.f k a0_0 a0_1 a0_2 a0_3).bind fun t29 => (spec_l11Lost.f k a0_0 a0_1 a0_2 a0_3 t29 0).bind fun t30 => some (x5, (t30.length : Int), true))

theorem spec_CountMet.ok {k : Nat}  {a0_0 : Int} {a0_1 : List (Int × Int × Int)} {a0_2 : List Int} {a0_3 : List Int} {r0 : Int} {r1 : Int} {r2 : Bool} (h : spec_CountMet.f k a0_0 a0_1 a0_2 a0_3 = some (r0, r1, r2)) (w : World) {va0_1 : Value} {va0_2 : Value} {va0_3 : Value} (hr_a0_1 : Rd w va0_1 a0_1) (hr_a0_2 : Rd w va0_2 a0_2) (hr_a0_3 : Rd w va0_3 a0_3) :
  Calls Tryz.prog 55 ([.agg ([.int .i64 a0_0,va0_1,va0_2,va0_3].toArray)] : List Value).toArray w (fun e w'=>e = .returned (.tuple #[.int .i64 r0,.int .i64 r1,.bool r2])∧Ext w w'):=by
 unfold spec_CountMet.f at h
 have hl_va0_1:=hr_a0_1.len
 have hl_va0_2:=hr_a0_2.len
 have hl_va0_3:=hr_a0_3.len
 refine Calls.of_tri (N:=32) Tryz.func55 rfl rfl rfl (Sep.nil (M:=noM)) ?_
 refine Tri.seq (Tri.reg (l:=[0,1,2,3]) rfl ?_)
 refine F.mn rfl (m_boxG rfl rfl) ?_
 rintro _ _ ⟨b1_1,rfl,rfl⟩
 iterate 3 refine F.qn rfl (r_assign rfl) ?_
 refine F.nil (Nrm.seq (Tri.seq (Tri.seq ?_)))
 obtain ⟨t9,h9,h⟩:=bind_some h
 refine Tri.reg (l:=[0,1,2]) rfl ?_
 refine F.qn rfl (r_loadA ta65 ti65 rfl rfl (fun w hw=>(box_cells (i:=0) rfl w hw))) ?_
 refine F.qcn rfl (q_callF (xs:=_) rfl ok128 rfl rfl (fun w hw=>spec_l11Trap.ok h9 w ((fun _ hw=>hr_a0_1.sep hw) w hw) ((fun _ hw=>hr_a0_2.sep hw) w hw) ((fun _ hw=>hr_a0_3.sep hw) w hw))) ?_
 refine F.qn rfl (r_not rfl) (F.nil (Nrm.seq (Tri.cond (b:=!t9) rfl (fun g_1=>?_) (fun g_1=>?_))))
 ·replace h:=if_tt g_1 h
  refine Tri.seq (Tri.reg (l:=[0,1,2]) rfl ?_)
  iterate 3 refine F.qn rfl (r_assign rfl) ?_
  refine F.nil (Nrm.seq (Tri.ret ?_))
  refine Rtn.then ?_
  cases h
  exact Rtn.body (.tmp rfl (.tmp rfl (.tmp rfl .nil))) (fun w hw=>⟨rfl,hw.ext⟩)
 ·replace h:=if_ff g_1 h
  refine Tri.skip (Nrm.seq (Tri.seq ?_))
  obtain ⟨t12,h12,h⟩:=bind_some h
  refine Tri.reg (l:=[0,1,2,3]) rfl ?_
  refine F.qn rfl (r_loadA ta65 ti65 rfl rfl (fun w hw=>(box_cells (i:=0) rfl w hw))) ?_
  refine F.mn rfl (m_callF (xs:=_) rfl ok135 rfl rfl (fun w hw=>spec_l11Spread.ok h12 w ((fun _ hw=>hr_a0_1.sep hw) w hw) ((fun _ hw=>hr_a0_2.sep hw) w hw) ((fun _ hw=>hr_a0_3.sep hw) w hw))) ?_
  rintro v12_1 _ ⟨_,⟨S12_1,hl_v12_1,rfl⟩,rfl⟩
  refine F.qn rfl (r_assign rfl) (F.qn rfl (r_assign rfl) (F.nil (Nrm.seq (Tri.seq (Tri.seq (Tri.reg (l:=[0]) rfl ?_))))))
  refine F.qn rfl (r_assign rfl) (F.nil (Nrm.seq ?_))
  obtain ⟨x5,hE_1,h⟩:=bind_some h
  refine Tri.block ?_
  refine Tri.only [1,5,6,7] rfl ?_
  refine Tri.pick [1,0] rfl rfl ?_
  refine Tri.rounds (fun n e' C'=>∃ (x5' : Int) (x7' : Int),spec_CountMet.l0 k t12 n x5' x7' = some x5∧e' = [(1,.pointer (some ⟨b1_1,0,none⟩)),(5,.int .i64 x5'),(6,v12_1),(7,.int .i64 x7')]∧C' = Sep w noM [R.box b1_1 65 [.int .i64 a0_0,va0_1,va0_2,va0_3],R.sl S12_1 v12_1 (t12 : List (Int))]) k ?_ ?_ ?_
  ·exact ⟨0,0,hE_1,rfl,rfl⟩
  ·rintro _ _ ⟨_,_,hE_1,_⟩
   rw [spec_CountMet.l0.eq_1] at hE_1; cases hE_1
  ·rintro n_1 _ _ ⟨x5,x7,hE_1,rfl,rfl⟩ ih_1
   rw [spec_CountMet.l0.eq_2] at hE_1
   refine Tri.seq (Tri.seq (Tri.reg (l:=[0,1,2,3]) rfl ?_))
   refine F.qn rfl (r_move rfl) (F.qn rfl (r_move rfl) (F.qn rfl (r_len Tryz.underlying25 rfl hl_v12_1) (F.qn rfl (r_lss rfl rfl) (F.nil (Nrm.seq (Tri.cond (b:=decide (x7 < (t12.length : Int))) rfl (fun g_2=>?_) (fun g_2=>?_)))))))
   ·replace hE_1:=if_tt g_2 hE_1
    refine Tri.skip (Nrm.seq (Tri.seq (Tri.block ?_)))
    refine Tri.seq ?_
    obtain ⟨t21,h21,hE_1⟩:=bind_some hE_1
    refine Tri.reg (l:=[0,1,2,3,4]) rfl ?_
    refine F.qn rfl (r_move rfl) (F.qn rfl (r_move rfl) (F.qn rfl (r_indexAddrS Tryz.underlying25 ti3 rfl hl_v12_1 rfl (rdl_some h21).1 (rdl_some h21).2.1) (F.qn rfl (r_load ta3 rfl (fun w hw=>cell_0 (Rd.flat ((rd_sl (i:=1) rfl) w hw) (rdl_some h21).2.2) rfl)) (F.qn rfl (r_geq rfl rfl) (F.nil (Nrm.seq ?_))))))
    obtain ⟨y5,hE_2,hE_1⟩:=bind_some hE_1
    refine Tri.cut (fun e' C'=>e' = [(1,.pointer (some ⟨b1_1,0,none⟩)),(5,.int .i64 y5),(6,v12_1),(7,.int .i64 x7)]∧C' = Sep w noM [R.box b1_1 65 [.int .i64 a0_0,va0_1,va0_2,va0_3],R.sl S12_1 v12_1 (t12 : List (Int))]) ?_ (fun hj_1=>?_)
    ·rintro _ _ ⟨rfl,rfl⟩
     refine Nrm.block ?_
     refine Nrm.seq (Tri.reg (l:=[0,1,2]) rfl ?_)
     refine F.qn rfl (r_move rfl) (F.qn rfl (r_add rfl rfl) (F.qn rfl (r_assign rfl) (F.nil (Nrm.round ?_))))
     refine Rnd.only [1,5,6,7] rfl ?_
     refine Rnd.pick [0,1] rfl rfl ?_
     exact ih_1 _ _ ⟨y5,w64 (x7 + 1),hE_1,rfl,rfl⟩
    ·refine Tri.cond (b:=decide (t21 ≥ 0)) rfl (fun g_3=>?_) (fun g_3=>?_)
     ·replace hE_2:=if_tt g_3 hE_2
      refine Tri.reg (l:=[0,1,2]) rfl ?_
      refine F.qn rfl (r_move rfl) (F.qn rfl (r_add rfl rfl) (F.qn rfl (r_assign rfl) (F.nil ?_)))
      cases hE_2
      refine Nrm.only [1,5,6,7] rfl ?_
      refine Nrm.pick [0,1] rfl rfl ?_
      exact hj_1 _ _ ⟨rfl,rfl⟩
     ·replace hE_2:=if_ff g_3 hE_2
      refine Tri.skip ?_
      cases hE_2
      refine Nrm.only [1,5,6,7] rfl ?_
      refine Nrm.pick [0,1] rfl rfl ?_
      exact hj_1 _ _ ⟨rfl,rfl⟩
   ·replace hE_1:=if_ff g_2 hE_1
    refine Tri.exit ?_
    refine Exi.then ?_
    refine Exi.then ?_
    refine Exi.same ?_
    cases hE_1
    refine Nrm.seq (Tri.seq ?_)
    obtain ⟨t29,h29,h⟩:=bind_some h
    obtain ⟨t30,h30,h⟩:=bind_some h
    refine Tri.drawA mixedT Sep.up [(0,true),(1,true),(2,true),(3,false),(4,false),(5,true),(6,true),(7,true),(8,true)] [] (by kernel_rfl) ?_
    refine S.qn rfl (r_move rfl) (S.qn rfl (r_loadA ta65 ti65 rfl rfl (fun w hw=>(box_cells (i:=0) rfl w hw))) (S.qn rfl (r_loadA ta65 ti65 rfl rfl (fun w hw=>(box_cells (i:=0) rfl w hw))) ?_))
    refine S.m rfl rfl rfl (wanted_none rfl) (m_callF (xs:=_) rfl ok129 rfl rfl (fun w hw=>spec_l11Good.ok h29 w ((fun _ hw=>hr_a0_1.sep hw) w hw) ((fun _ hw=>hr_a0_2.sep hw) w hw) ((fun _ hw=>hr_a0_3.sep hw) w hw))) ?_
    rintro v29_2 _ ⟨_,⟨S29_2,hl_v29_2,rfl⟩,rfl⟩
    refine S.m rfl rfl rfl (wanted_none rfl) (m_callF (xs:=_) rfl ok136 rfl rfl (fun w hw=>spec_l11Lost.ok h30 w ((fun _ hw=>hr_a0_1.sep hw) w hw) ((fun _ hw=>hr_a0_2.sep hw) w hw) ((fun _ hw=>hr_a0_3.sep hw) w hw) ((rd_sl (i:=0) rfl) w hw))) ?_
    rintro v30_2 _ ⟨_,⟨S30_2,hl_v30_2,rfl⟩,rfl⟩
    refine S.qn rfl (r_len Tryz.underlying25 rfl hl_v30_2) ?_
    iterate 3 refine S.qn rfl (r_assign rfl) ?_
    refine S.nil (F.nil (Nrm.seq (Tri.ret ?_)))
    cases h
    exact Rtn.body (.tmp rfl (.tmp rfl (.tmp rfl .nil))) (fun w hw=>⟨rfl,hw.ext⟩)


def impl_LostStates.f (k : Nat) (a0_0 : Int) (a0_1 : List (Int × Int × Int)) (a0_2 : List Int) (a0_3 : List Int) : Option ((List (Int × Int)) × Bool) := (impl_IsTrap.f k a0_0 a0_1 a0_2 a0_3).bind fun t7 => (if (!t7) = true then some ([], false) else (impl_lostStates.f k a0_0 a0_1 a0_2 a0_3 0).bind fun (t11_1, t11_2) => some (t11_1, true))

theorem impl_LostStates.ok {k : Nat}  {a0_0 : Int} {a0_1 : List (Int × Int × Int)} {a0_2 : List Int} {a0_3 : List Int} {r0 : List (Int × Int)} {r1 : Bool} (h : impl_LostStates.f k a0_0 a0_1 a0_2 a0_3 = some (r0, r1)) (w : World) {va0_1 : Value} {va0_2 : Value} {va0_3 : Value} (hr_a0_1 : Rd w va0_1 a0_1) (hr_a0_2 : Rd w va0_2 a0_2) (hr_a0_3 : Rd w va0_3 a0_3) :
  Calls Tryz.prog 57 ([.agg ([.int .i64 a0_0,va0_1,va0_2,va0_3].toArray)] : List Value).toArray w (Post (fun u ns=>∃ (ur0 : Value) (Sr0 : Nat → Prop),u = .tuple #[ur0,.bool r1]∧SlLen ur0 r0.length∧ns = [R.sl Sr0 ur0 r0]) w):=by
 unfold impl_LostStates.f at h
 have hl_va0_1:=hr_a0_1.len
 have hl_va0_2:=hr_a0_2.len
 have hl_va0_3:=hr_a0_3.len
 refine Calls.of_tri (N:=15) Tryz.func57 rfl rfl rfl (Sep.nil (M:=noM)) ?_
 refine Tri.seq (Tri.reg (l:=[0,1,2]) rfl ?_)
 refine F.mn rfl (m_boxG rfl rfl) ?_
 rintro _ _ ⟨b1_1,rfl,rfl⟩
 refine F.qn rfl (r_assign rfl) (F.qn rfl (r_assign rfl) (F.nil (Nrm.seq (Tri.seq (Tri.seq ?_)))))
 obtain ⟨t7,h7,h⟩:=bind_some h
 refine Tri.reg (l:=[0,1,2]) rfl ?_
 refine F.qn rfl (r_loadA ta65 ti65 rfl rfl (fun w hw=>(box_cells (i:=0) rfl w hw))) ?_
 refine F.qcn rfl (q_callF (xs:=_) rfl ok56 rfl rfl (fun w hw=>impl_IsTrap.ok h7 w ((fun _ hw=>hr_a0_1.sep hw) w hw) ((fun _ hw=>hr_a0_2.sep hw) w hw) ((fun _ hw=>hr_a0_3.sep hw) w hw))) ?_
 refine F.qn rfl (r_not rfl) (F.nil (Nrm.seq (Tri.cond (b:=!t7) rfl (fun g_1=>?_) (fun g_1=>?_))))
 ·replace h:=if_tt g_1 h
  refine Tri.seq (Tri.reg (l:=[0,1]) rfl ?_)
  refine F.qn rfl (r_assign rfl) (F.qn rfl (r_assign rfl) (F.nil (Nrm.seq (Tri.ret ?_))))
  refine Rtn.then ?_
  cases h
  exact Rtn.body (.tmp rfl (.tmp rfl .nil)) (fun w hw=>⟨_,_,rfl,⟨.slice none 0 0,fun _=>False,rfl,len_nil,rfl⟩,Sep.pick (is:=[0]) rfl rfl hw.pushNil⟩)
 ·replace h:=if_ff g_1 h
  refine Tri.skip (Nrm.seq (Tri.seq ?_))
  obtain ⟨⟨t11_1,t11_2⟩,h11,h⟩:=bind_some h
  refine Tri.reg (l:=[0,1,2,3,4,5,6]) rfl ?_
  refine F.qn rfl (r_loadA ta65 ti65 rfl rfl (fun w hw=>(box_cells (i:=0) rfl w hw))) ?_
  refine F.mn rfl (m_callF (xs:=_) rfl ok134 rfl rfl (fun w hw=>impl_lostStates.ok h11 w ((fun _ hw=>hr_a0_1.sep hw) w hw) ((fun _ hw=>hr_a0_2.sep hw) w hw) ((fun _ hw=>hr_a0_3.sep hw) w hw))) ?_
  rintro _ _ ⟨_,⟨v11_1,S11_1,rfl,hl_v11_1,rfl⟩,rfl⟩
  refine F.qn rfl (r_move rfl) (F.qn rfl (r_extract rfl rfl) (F.qn rfl (r_extract rfl rfl) (F.qn rfl (r_assign rfl) (F.qn rfl (r_assign rfl) (F.nil (Nrm.seq (Tri.seq (Tri.reg (l:=[0,1,2]) rfl ?_))))))))
  refine F.qn rfl (r_move rfl) (F.qn rfl (r_assign rfl) (F.qn rfl (r_assign rfl) (F.nil (Nrm.seq (Tri.ret ?_)))))
  cases h
  exact Rtn.body (.tmp rfl (.tmp rfl .nil)) (fun w hw=>⟨_,_,rfl,⟨v11_1,S11_1,rfl,hl_v11_1,rfl⟩,Sep.pick (is:=[0]) rfl rfl hw⟩)


def spec_LostStates.l0 (k : Nat) (t15 : List Int) : Nat → (List (Int × Int)) → Int → Option ((List (Int × Int)))
 | 0,_,_=>none
 | n + 1,x4,x6=>(if (decide (x6 < (t15.length : Int))) = true then (rdl t15 x6).bind fun t25=>(rdl t15 x6).bind fun t30=>if (x4 ++ ([(quo t25 64,rem t30 64)] : List (Int × Int))).length < 1099511627776 then spec_LostStates.l0 k t15 n (x4 ++ ([(quo t25 64,rem t30 64)] : List (Int × Int))) (w64 (x6 + 1)) else none else some x4)

def spec_LostStates.f (k : Nat) (a0_0 : Int) (a0_1 : List (Int × Int × Int)) (a0_2 : List Int) (a0_3 : List Int) : Option ((List (Int × Int)) × Bool) := (spec_l11Trap.f k a0_0 a0_1 a0_2 a0_3).bind fun t9 => (if (!t9) = true then some (([] : List (Int × Int)), false) else (spec_l11Good.f k a0_0 a0_1 a0_2 a0_3).bind fun t14 => (spec_l11Lost.f k a0_0 a0_1 a0_2 a0_3 t14 0).bind fun t15 => (spec_LostStates.l0 k t15 k ([] : List (Int × Int)) 0).bind fun x4 => some (x4, true))

theorem spec_LostStates.ok {k : Nat}  {a0_0 : Int} {a0_1 : List (Int × Int × Int)} {a0_2 : List Int} {a0_3 : List Int} {r0 : List (Int × Int)} {r1 : Bool} (h : spec_LostStates.f k a0_0 a0_1 a0_2 a0_3 = some (r0, r1)) (w : World) {va0_1 : Value} {va0_2 : Value} {va0_3 : Value} (hr_a0_1 : Rd w va0_1 a0_1) (hr_a0_2 : Rd w va0_2 a0_2) (hr_a0_3 : Rd w va0_3 a0_3) :
  Calls Tryz.prog 58 ([.agg ([.int .i64 a0_0,va0_1,va0_2,va0_3].toArray)] : List Value).toArray w (Post (fun u ns=>∃ (ur0 : Value) (Sr0 : Nat → Prop),u = .tuple #[ur0,.bool r1]∧SlLen ur0 r0.length∧ns = [R.sl Sr0 ur0 r0]) w):=by
 unfold spec_LostStates.f at h
 have hl_va0_1:=hr_a0_1.len
 have hl_va0_2:=hr_a0_2.len
 have hl_va0_3:=hr_a0_3.len
 refine Calls.of_tri (N:=37) Tryz.func58 rfl rfl rfl (Sep.nil (M:=noM)) ?_
 refine Tri.seq (Tri.reg (l:=[0,1,2]) rfl ?_)
 refine F.mn rfl (m_boxG rfl rfl) ?_
 rintro _ _ ⟨b1_1,rfl,rfl⟩
 refine F.qn rfl (r_assign rfl) (F.qn rfl (r_assign rfl) (F.nil (Nrm.seq (Tri.seq (Tri.reg (l:=[0,1]) rfl ?_)))))
 refine F.mn rfl (m_build0 (α:=Int × Int) Tryz.underlying72 ti75) ?_
 rintro v7_1 _ ⟨S7_1,hl_v7_1,rfl⟩
 refine F.qn rfl (r_assign rfl) (F.nil (Nrm.seq (Tri.seq (Tri.seq ?_))))
 obtain ⟨t9,h9,h⟩:=bind_some h
 refine Tri.reg (l:=[0,1,2]) rfl ?_
 refine F.qn rfl (r_loadA ta65 ti65 rfl rfl (fun w hw=>(box_cells (i:=1) rfl w hw))) ?_
 refine F.qcn rfl (q_callF (xs:=_) rfl ok128 rfl rfl (fun w hw=>spec_l11Trap.ok h9 w ((fun _ hw=>hr_a0_1.sep hw) w hw) ((fun _ hw=>hr_a0_2.sep hw) w hw) ((fun _ hw=>hr_a0_3.sep hw) w hw))) ?_
 refine F.qn rfl (r_not rfl) (F.nil (Nrm.seq (Tri.cond (b:=!t9) rfl (fun g_1=>?_) (fun g_1=>?_))))
 ·replace h:=if_tt g_1 h
  refine Tri.seq (Tri.reg (l:=[0,1,2]) rfl ?_)
  refine F.qn rfl (r_move rfl) (F.qn rfl (r_assign rfl) (F.qn rfl (r_assign rfl) (F.nil (Nrm.seq (Tri.ret ?_)))))
  refine Rtn.then ?_
  cases h
  exact Rtn.body (.tmp rfl (.tmp rfl .nil)) (fun w hw=>⟨_,_,rfl,⟨v7_1,S7_1,rfl,hl_v7_1,rfl⟩,Sep.pick (is:=[0]) rfl rfl hw⟩)
 ·replace h:=if_ff g_1 h
  refine Tri.skip (Nrm.seq (Tri.seq ?_))
  obtain ⟨t14,h14,h⟩:=bind_some h
  obtain ⟨t15,h15,h⟩:=bind_some h
  refine Tri.drawA mixedT Sep.up [(0,true),(1,true),(2,false),(3,false),(4,true)] [] (by kernel_rfl) ?_
  refine S.qn rfl (r_loadA ta65 ti65 rfl rfl (fun w hw=>(box_cells (i:=1) rfl w hw))) (S.qn rfl (r_loadA ta65 ti65 rfl rfl (fun w hw=>(box_cells (i:=1) rfl w hw))) ?_)
  refine S.m rfl rfl rfl (wanted_none rfl) (m_callF (xs:=_) rfl ok129 rfl rfl (fun w hw=>spec_l11Good.ok h14 w ((fun _ hw=>hr_a0_1.sep hw) w hw) ((fun _ hw=>hr_a0_2.sep hw) w hw) ((fun _ hw=>hr_a0_3.sep hw) w hw))) ?_
  rintro v14_2 _ ⟨_,⟨S14_2,hl_v14_2,rfl⟩,rfl⟩
  refine S.m rfl rfl rfl (wanted_none rfl) (m_callF (xs:=_) rfl ok136 rfl rfl (fun w hw=>spec_l11Lost.ok h15 w ((fun _ hw=>hr_a0_1.sep hw) w hw) ((fun _ hw=>hr_a0_2.sep hw) w hw) ((fun _ hw=>hr_a0_3.sep hw) w hw) ((rd_sl (i:=0) rfl) w hw))) ?_
  rintro v15_2 _ ⟨_,⟨S15_2,hl_v15_2,rfl⟩,rfl⟩
  refine S.qn rfl (r_assign rfl) (S.nil (F.nil (Nrm.seq (Tri.seq (Tri.seq (Tri.reg (l:=[0]) rfl ?_))))))
  refine F.qn rfl (r_assign rfl) (F.nil (Nrm.seq ?_))
  obtain ⟨x4,hE_1,h⟩:=bind_some h
  refine Tri.block ?_
  refine Tri.only [4,5,6] rfl ?_
  refine Tri.pick [0,2] rfl rfl ?_
  refine Tri.rounds (fun n e' C'=>∃ (x4' : List (Int × Int)) (x6' : Int) (w4 : Value) (T4 : Nat → Prop),spec_LostStates.l0 k t15 n x4' x6' = some x4∧SlLen w4 (x4').length∧e' = [(4,w4),(5,v15_2),(6,.int .i64 x6')]∧C' = Sep w noM [R.sl S15_2 v15_2 (t15 : List (Int)),R.sl T4 w4 (x4' : List (Int × Int))]) k ?_ ?_ ?_
  ·exact ⟨([] : List (Int × Int)),0,v7_1,S7_1,hE_1,hl_v7_1,rfl,rfl⟩
  ·rintro _ _ ⟨_,_,_,_,hE_1,_⟩
   rw [spec_LostStates.l0.eq_1] at hE_1; cases hE_1
  ·rintro n_1 _ _ ⟨x4,x6,w4,T4,hE_1,hl_w4,rfl,rfl⟩ ih_1
   rw [spec_LostStates.l0.eq_2] at hE_1
   refine Tri.seq (Tri.seq (Tri.reg (l:=[0,1,2,3]) rfl ?_))
   refine F.qn rfl (r_move rfl) (F.qn rfl (r_move rfl) (F.qn rfl (r_len Tryz.underlying25 rfl hl_v15_2) (F.qn rfl (r_lss rfl rfl) (F.nil (Nrm.seq (Tri.cond (b:=decide (x6 < (t15.length : Int))) rfl (fun g_2=>?_) (fun g_2=>?_)))))))
   ·replace hE_1:=if_tt g_2 hE_1
    refine Tri.skip (Nrm.seq (Tri.seq (Tri.block ?_)))
    obtain ⟨t25,h25,hE_1⟩:=bind_some hE_1
    obtain ⟨t30,h30,hE_1⟩:=bind_some hE_1
    obtain ⟨hs35,hE_1⟩:=ck hE_1
    refine Tri.drawA mixedT Sep.up [(0,true),(1,true),(2,true),(3,true),(4,true),(5,true),(6,true),(7,true),(8,true),(9,true),(10,true),(11,true),(12,false)] [13,14] (by kernel_rfl) ?_
    iterate 3 refine S.qn rfl (r_move rfl) ?_
    refine S.qn rfl (r_indexAddrS Tryz.underlying25 ti3 rfl hl_v15_2 rfl (rdl_some h25).1 (rdl_some h25).2.1) (S.qn rfl (r_load ta3 rfl (fun w hw=>cell_0 (Rd.flat ((rd_sl (i:=0) rfl) w hw) (rdl_some h25).2.2) rfl)) (S.qn rfl (r_quo rfl rfl (by decide)) ?_))
    refine S.qn rfl (r_move rfl) (S.qn rfl (r_move rfl) (S.qn rfl (r_indexAddrS Tryz.underlying25 ti3 rfl hl_v15_2 rfl (rdl_some h30).1 (rdl_some h30).2.1) (S.qn rfl (r_load ta3 rfl (fun w hw=>cell_0 (Rd.flat ((rd_sl (i:=0) rfl) w hw) (rdl_some h30).2.2) rfl)) (S.qn rfl (r_rem rfl rfl (by decide)) (S.qn rfl (r_buildA (qs:=[(0,[.int .i64 (quo t25 64)]),(1,[.int .i64 (rem t30 64)])]) (cs:=[.int .i64 (quo t25 64),.int .i64 (rem t30 64)]) Tryz.underlying75 ti3 ti75 rfl (.cons rfl rfl (Nat.le_of_ble_eq_true rfl) (.cons rfl rfl (Nat.le_of_ble_eq_true rfl) .nil)) rfl rfl) ?_)))))
    refine S.m rfl rfl rfl (wanted_none rfl) (m_buildF (l:=([(quo t25 64,rem t30 64)] : List (Int × Int))) Tryz.underlying72 ti75 rfl rfl rfl rfl rfl) ?_
    rintro v34_2 _ ⟨S34_2,hl_v34_2,rfl⟩
    refine S.nil (F.efn rfl (d_append (i:=2) Tryz.underlying72 Tryz.underlying72 ti75 rfl (by decide) rfl rfl rfl (rd_sl (i:=0) rfl) hs35) ?_)
    rintro v35_2 _ ⟨S35_2,rfl,hl_v35_2⟩
    refine F.qn rfl (r_assign rfl) (F.nil (Nrm.block ?_))
    refine Nrm.seq (Tri.reg (l:=[0,1,2]) rfl ?_)
    refine F.qn rfl (r_move rfl) (F.qn rfl (r_add rfl rfl) (F.qn rfl (r_assign rfl) (F.nil (Nrm.round ?_))))
    refine Rnd.only [4,5,6] rfl ?_
    refine Rnd.pick [1,2] rfl rfl ?_
    exact ih_1 _ _ ⟨x4 ++ ([(quo t25 64,rem t30 64)] : List (Int × Int)),w64 (x6 + 1),v35_2,S35_2,hE_1,hl_v35_2,rfl,rfl⟩
   ·replace hE_1:=if_ff g_2 hE_1
    refine Tri.exit ?_
    refine Exi.then ?_
    refine Exi.then ?_
    refine Exi.same ?_
    cases hE_1
    refine Nrm.seq (Tri.seq (Tri.reg (l:=[0,1,2]) rfl ?_))
    refine F.qn rfl (r_move rfl) (F.qn rfl (r_assign rfl) (F.qn rfl (r_assign rfl) (F.nil (Nrm.seq (Tri.ret ?_)))))
    cases h
    exact Rtn.body (.tmp rfl (.tmp rfl .nil)) (fun w hw=>⟨_,_,rfl,⟨w4,T4,rfl,hl_w4,rfl⟩,Sep.pick (is:=[1]) rfl rfl hw⟩)


def impl_isNode_1.f (k : Nat) (a0 : Int) (c0_0 : Int) (c0_1 : List (Int × Int × Int)) (c0_2 : List Int) : Option (Bool) := (impl_within.f k a0 0 (w64 (c0_0 - 1))).bind fun t8 => some (!t8)

theorem impl_isNode_1.ok {k : Nat} {pc0 : Addr} {a0 : Int} {c0_0 : Int} {c0_1 : List (Int × Int × Int)} {c0_2 : List Int} {r0 : Bool} (h : impl_isNode_1.f k a0 c0_0 c0_1 c0_2 = some r0) (w : World) {vc0_1 : Value} {vc0_2 : Value} (hb_c0 : CellsAt w pc0 [.int .i64 c0_0, vc0_1, vc0_2]) (hr_c0_1 : Rd w vc0_1 c0_1) (hr_c0_2 : Rd w vc0_2 c0_2) :
  Calls Tryz.prog 180 ([.int .i64 a0,.pointer (some pc0)] : List Value).toArray w (fun e w'=>e = .returned (.bool r0)∧Ext w w'):=by
 unfold impl_isNode_1.f at h
 have hl_vc0_1:=hr_c0_1.len
 have hl_vc0_2:=hr_c0_2.len
 refine Calls.of_tri (N:=10) Tryz.func180 rfl rfl rfl (Sep.nil (M:=noM)) ?_
 refine Tri.seq (Tri.reg (l:=[0]) rfl ?_)
 refine F.qn rfl (r_assign rfl) (F.nil (Nrm.seq (Tri.seq ?_)))
 obtain ⟨t8,h8,h⟩:=bind_some h
 refine Tri.reg (l:=[0,1,2,3,4,5,6]) rfl ?_
 refine F.qn rfl (r_move rfl) (F.qn rfl (r_fieldAddr tf27_0 rfl) (F.qn rfl (r_load ta3 rfl (fun w hw=>cell_1 (hb_c0.sep hw) rfl)) (F.qn rfl (r_sub rfl rfl) ?_)))
 refine F.qcn rfl (q_callF (xs:=_) rfl ok103 rfl rfl (fun w hw=>impl_within.ok h8 w)) ?_
 refine F.qn rfl (r_not rfl) (F.qn rfl (r_assign rfl) (F.nil (Nrm.seq (Tri.ret ?_))))
 cases h
 exact Rtn.body (.tmp rfl .nil) (fun w hw=>⟨rfl,hw.ext⟩)


def impl_isNode.f (k : Nat) (a0_0 : Int) (a0_1 : List (Int × Int × Int)) (a0_2 : List Int) (a1 : List Int) : Option (Bool) := ((impl_IsMaze.f k a0_0 a0_1 a0_2).bind fun t6 => (if t6 = true then (slices_ContainsFunc_int_int.f k a1 (fun z0 => impl_isNode_1.f k z0 a0_0 a0_1 a0_2)).bind fun t10 => some (!t10) else some false)).bind fun y4 => some y4

theorem impl_isNode.ok {k : Nat}  {a0_0 : Int} {a0_1 : List (Int × Int × Int)} {a0_2 : List Int} {a1 : List Int} {r0 : Bool} (h : impl_isNode.f k a0_0 a0_1 a0_2 a1 = some r0) (w : World) {va0_1 : Value} {va0_2 : Value} {va1 : Value} (hr_a0_1 : Rd w va0_1 a0_1) (hr_a0_2 : Rd w va0_2 a0_2) (hr_a1 : Rd w va1 a1) :
  Calls Tryz.prog 98 ([.agg ([.int .i64 a0_0,va0_1,va0_2].toArray),va1] : List Value).toArray w (fun e w'=>e = .returned (.bool r0)∧Ext w w'):=by
 unfold impl_isNode.f at h
 have hl_va0_1:=hr_a0_1.len
 have hl_va0_2:=hr_a0_2.len
 have hl_va1:=hr_a1.len
 refine Calls.of_tri (N:=13) Tryz.func98 rfl rfl rfl (Sep.nil (M:=noM)) ?_
 refine Tri.seq (Tri.reg (l:=[0,1]) rfl ?_)
 refine F.mn rfl (m_boxG rfl rfl) ?_
 rintro _ _ ⟨b2_1,rfl,rfl⟩
 refine F.qn rfl (r_assign rfl) (F.nil (Nrm.seq (Tri.seq ?_)))
 obtain ⟨y4,hE_1,h⟩:=bind_some h
 refine Tri.cut (fun e' C'=>e' = [(4,.bool y4)]∧C' = Sep w noM []) ?_ (fun hj_1=>?_)
 ·rintro _ _ ⟨rfl,rfl⟩
  refine Nrm.seq (Tri.ret ?_)
  cases h
  exact Rtn.body (.tmp rfl .nil) (fun w hw=>⟨rfl,hw.ext⟩)
 ·obtain ⟨t6,h6,hE_1⟩:=bind_some hE_1
  rcases Bool.eq_false_or_eq_true (t6) with g7 | g7
  ·replace hE_1:=if_tt g7 hE_1
   obtain ⟨t10,h10,hE_1⟩:=bind_some hE_1
   refine Tri.reg (l:=[0,1,2,3,4,5,6,7,8]) rfl ?_
   refine F.qn rfl (r_loadA ta27 ti27 rfl rfl (fun w hw=>(box_cells (i:=0) rfl w hw))) ?_
   refine F.qcn rfl (q_callF (xs:=_) rfl ok102 rfl rfl (fun w hw=>impl_IsMaze.ok h6 w ((fun _ hw=>hr_a0_1.sep hw) w hw) ((fun _ hw=>hr_a0_2.sep hw) w hw))) ?_
   refine F.qn rfl (r_move rfl) (F.qg rfl g7 (r_move rfl) (F.qg rfl g7 (r_makeFunc rfl) ?_))
   refine F.qc rfl rfl rfl (wg rfl rfl rfl g7) (q_callF (xs:=_) rfl ok179 rfl rfl (fun w hw=>slices_ContainsFunc_int_int.ok h10 w ((fun _ hw=>hr_a1.sep hw) w hw) ok180 (fun w2 he2 z0 y2 hy2=>impl_isNode_1.ok hy2 w2 ((box_cells (i:=0) rfl w hw).ext he2) (((fun _ hw=>hr_a0_1.sep hw) w hw).ext he2) (((fun _ hw=>hr_a0_2.sep hw) w hw).ext he2)))) ?_
   refine F.qg rfl g7 (r_not rfl) (F.qn rfl (r_pick rfl rfl g7) (F.qn rfl (r_assign rfl) (F.nil ?_)))
   cases hE_1
   refine Nrm.only [4] rfl ?_
   refine Nrm.pick [] rfl rfl ?_
   exact hj_1 _ _ ⟨rfl,rfl⟩
  ·replace hE_1:=if_ff g7 hE_1
   refine Tri.reg (l:=[0,1,2,3,4,5,6,7,8]) rfl ?_
   refine F.qn rfl (r_loadA ta27 ti27 rfl rfl (fun w hw=>(box_cells (i:=0) rfl w hw))) ?_
   refine F.qcn rfl (q_callF (xs:=_) rfl ok102 rfl rfl (fun w hw=>impl_IsMaze.ok h6 w ((fun _ hw=>hr_a0_1.sep hw) w hw) ((fun _ hw=>hr_a0_2.sep hw) w hw))) ?_
   refine F.qn rfl (r_move rfl) ?_
   iterate 4 refine F.skf rfl g7 ?_
   refine F.qn rfl (r_pickf rfl rfl g7) (F.qn rfl (r_assign rfl) (F.nil ?_))
   cases hE_1
   refine Nrm.only [4] rfl ?_
   refine Nrm.pick [] rfl rfl ?_
   exact hj_1 _ _ ⟨rfl,rfl⟩


def impl_isTrapState.f (k : Nat) (a0_0 : Int) (a0_1 : List (Int × Int × Int)) (a0_2 : List Int) (a0_3 : List Int) (a1 : Int) (a2 : Int) : Option (Bool) := ((impl_IsTrap.f k a0_0 a0_1 a0_2 a0_3).bind fun t8 => (if t8 = true then (impl_isNode.f k a0_0 a0_1 a0_2 ([a1] : List (Int))).bind fun t14 => (if t14 = true then (impl_isSet.f k a2).bind fun t18 => some t18 else some false) else some false)).bind fun y6 => some y6

theorem impl_isTrapState.ok {k : Nat}  {a0_0 : Int} {a0_1 : List (Int × Int × Int)} {a0_2 : List Int} {a0_3 : List Int} {a1 : Int} {a2 : Int} {r0 : Bool} (h : impl_isTrapState.f k a0_0 a0_1 a0_2 a0_3 a1 a2 = some r0) (w : World) {va0_1 : Value} {va0_2 : Value} {va0_3 : Value} (hr_a0_1 : Rd w va0_1 a0_1) (hr_a0_2 : Rd w va0_2 a0_2) (hr_a0_3 : Rd w va0_3 a0_3) :
  Calls Tryz.prog 137 ([.agg ([.int .i64 a0_0,va0_1,va0_2,va0_3].toArray),.int .i64 a1,.int .i64 a2] : List Value).toArray w (fun e w'=>e = .returned (.bool r0)∧Ext w w'):=by
 unfold impl_isTrapState.f at h
 have hl_va0_1:=hr_a0_1.len
 have hl_va0_2:=hr_a0_2.len
 have hl_va0_3:=hr_a0_3.len
 refine Calls.of_tri (N:=20) Tryz.func137 rfl rfl rfl (Sep.nil (M:=noM)) ?_
 refine Tri.seq (Tri.reg (l:=[0,1]) rfl ?_)
 refine F.mn rfl (m_boxG rfl rfl) ?_
 rintro _ _ ⟨b3_1,rfl,rfl⟩
 refine F.qn rfl (r_assign rfl) (F.nil (Nrm.seq (Tri.seq ?_)))
 obtain ⟨y6,hE_1,h⟩:=bind_some h
 refine Tri.cut (fun e' C'=>e' = [(6,.bool y6)]∧C' = Sep w noM []) ?_ (fun hj_1=>?_)
 ·rintro _ _ ⟨rfl,rfl⟩
  refine Nrm.seq (Tri.ret ?_)
  cases h
  exact Rtn.body (.tmp rfl .nil) (fun w hw=>⟨rfl,hw.ext⟩)
 ·obtain ⟨t8,h8,hE_1⟩:=bind_some hE_1
  rcases Bool.eq_false_or_eq_true (t8) with g9 | g9
  ·replace hE_1:=if_tt g9 hE_1
   obtain ⟨t14,h14,hE_1⟩:=bind_some hE_1
   rcases Bool.eq_false_or_eq_true (t14) with g16 | g16
   ·replace hE_1:=if_tt g16 hE_1
    obtain ⟨t18,h18,hE_1⟩:=bind_some hE_1
    refine Tri.reg (l:=List.range 14) rfl ?_
    refine F.qn rfl (r_loadA ta65 ti65 rfl rfl (fun w hw=>(box_cells (i:=0) rfl w hw))) ?_
    refine F.qcn rfl (q_callF (xs:=_) rfl ok56 rfl rfl (fun w hw=>impl_IsTrap.ok h8 w ((fun _ hw=>hr_a0_1.sep hw) w hw) ((fun _ hw=>hr_a0_2.sep hw) w hw) ((fun _ hw=>hr_a0_3.sep hw) w hw))) ?_
    refine F.qn rfl (r_move rfl) (F.qg rfl g9 (r_fieldAddr tf65_0 rfl) (F.qg rfl g9 (r_loadA ta27 ti27 rfl rfl (fun w hw=>cells_1 (cs':=[.int .i64 a0_0,va0_1,va0_2]) (box_cells (i:=0) rfl w hw) rfl)) (F.qg rfl g9 (r_move rfl) ?_)))
    refine F.m rfl rfl rfl (wg rfl rfl rfl g9) (m_buildF (l:=([a1] : List (Int))) Tryz.underlying25 ti3 rfl rfl rfl rfl rfl) ?_
    rintro v13_2 _ ⟨S13_2,hl_v13_2,rfl⟩
    refine F.qc rfl rfl rfl (wg rfl rfl rfl g9) (q_callF (xs:=_) rfl ok98 rfl rfl (fun w hw=>impl_isNode.ok h14 w ((fun _ hw=>hr_a0_1.sep hw) w hw) ((fun _ hw=>hr_a0_2.sep hw) w hw) ((rd_sl (i:=0) rfl) w hw))) ?_
    refine F.qn rfl (r_pick rfl rfl g9) (F.qn rfl (r_move rfl) (F.qg rfl g16 (r_move rfl) ?_))
    refine F.qc rfl rfl rfl (wg rfl rfl rfl g16) (q_callF (xs:=_) rfl ok177 rfl rfl (fun w hw=>impl_isSet.ok h18 w)) ?_
    refine F.qn rfl (r_pick rfl rfl g16) (F.qn rfl (r_assign rfl) (F.nil ?_))
    cases hE_1
    refine Nrm.only [6] rfl ?_
    refine Nrm.pick [] rfl rfl ?_
    exact hj_1 _ _ ⟨rfl,rfl⟩
   ·replace hE_1:=if_ff g16 hE_1
    refine Tri.reg (l:=List.range 14) rfl ?_
    refine F.qn rfl (r_loadA ta65 ti65 rfl rfl (fun w hw=>(box_cells (i:=0) rfl w hw))) ?_
    refine F.qcn rfl (q_callF (xs:=_) rfl ok56 rfl rfl (fun w hw=>impl_IsTrap.ok h8 w ((fun _ hw=>hr_a0_1.sep hw) w hw) ((fun _ hw=>hr_a0_2.sep hw) w hw) ((fun _ hw=>hr_a0_3.sep hw) w hw))) ?_
    refine F.qn rfl (r_move rfl) (F.qg rfl g9 (r_fieldAddr tf65_0 rfl) (F.qg rfl g9 (r_loadA ta27 ti27 rfl rfl (fun w hw=>cells_1 (cs':=[.int .i64 a0_0,va0_1,va0_2]) (box_cells (i:=0) rfl w hw) rfl)) (F.qg rfl g9 (r_move rfl) ?_)))
    refine F.m rfl rfl rfl (wg rfl rfl rfl g9) (m_buildF (l:=([a1] : List (Int))) Tryz.underlying25 ti3 rfl rfl rfl rfl rfl) ?_
    rintro v13_3 _ ⟨S13_3,hl_v13_3,rfl⟩
    refine F.qc rfl rfl rfl (wg rfl rfl rfl g9) (q_callF (xs:=_) rfl ok98 rfl rfl (fun w hw=>impl_isNode.ok h14 w ((fun _ hw=>hr_a0_1.sep hw) w hw) ((fun _ hw=>hr_a0_2.sep hw) w hw) ((rd_sl (i:=0) rfl) w hw))) ?_
    refine F.qn rfl (r_pick rfl rfl g9) (F.qn rfl (r_move rfl) (F.skf rfl g16 (F.skf rfl g16 (F.qn rfl (r_pickf rfl rfl g16) (F.qn rfl (r_assign rfl) (F.nil ?_))))))
    cases hE_1
    refine Nrm.only [6] rfl ?_
    refine Nrm.pick [] rfl rfl ?_
    exact hj_1 _ _ ⟨rfl,rfl⟩
  ·replace hE_1:=if_ff g9 hE_1
   refine Tri.reg (l:=List.range 14) rfl ?_
   refine F.qn rfl (r_loadA ta65 ti65 rfl rfl (fun w hw=>(box_cells (i:=0) rfl w hw))) ?_
   refine F.qcn rfl (q_callF (xs:=_) rfl ok56 rfl rfl (fun w hw=>impl_IsTrap.ok h8 w ((fun _ hw=>hr_a0_1.sep hw) w hw) ((fun _ hw=>hr_a0_2.sep hw) w hw) ((fun _ hw=>hr_a0_3.sep hw) w hw))) ?_
   refine F.qn rfl (r_move rfl) ?_
   iterate 5 refine F.skf rfl g9 ?_
   refine F.qn rfl (r_pickf rfl rfl g9) (F.qn rfl (r_move rfl) (F.skf rfl rfl (F.skf rfl rfl (F.qn rfl (r_pickf rfl rfl rfl) (F.qn rfl (r_assign rfl) (F.nil ?_))))))
   cases hE_1
   refine Nrm.only [6] rfl ?_
   refine Nrm.pick [] rfl rfl ?_
   exact hj_1 _ _ ⟨rfl,rfl⟩


def impl_IsGood.f (k : Nat) (a0_0 : Int) (a0_1 : List (Int × Int × Int)) (a0_2 : List Int) (a0_3 : List Int) (a1 : Int) (a2 : Int) : Option (Bool × Bool) := (impl_isTrapState.f k a0_0 a0_1 a0_2 a0_3 a1 a2).bind fun t11 => (if (!t11) = true then some (false, false) else (impl_toTrapGoal.f k a0_0 a0_1 a0_2 a0_3).bind fun t14 => if 0 ≤ a1 ∧ a1 < 12 then if 0 ≤ a2 ∧ a2 < 64 then some (decide ((Arr.at t14 (a1 * 64 + a2)) ≥ 0), true) else none else none)

theorem impl_IsGood.ok {k : Nat}  {a0_0 : Int} {a0_1 : List (Int × Int × Int)} {a0_2 : List Int} {a0_3 : List Int} {a1 : Int} {a2 : Int} {r0 : Bool} {r1 : Bool} (h : impl_IsGood.f k a0_0 a0_1 a0_2 a0_3 a1 a2 = some (r0, r1)) (w : World) {va0_1 : Value} {va0_2 : Value} {va0_3 : Value} (hr_a0_1 : Rd w va0_1 a0_1) (hr_a0_2 : Rd w va0_2 a0_2) (hr_a0_3 : Rd w va0_3 a0_3) :
  Calls Tryz.prog 59 ([.agg ([.int .i64 a0_0,va0_1,va0_2,va0_3].toArray),.int .i64 a1,.int .i64 a2] : List Value).toArray w (fun e w'=>e = .returned (.tuple #[.bool r0,.bool r1])∧Ext w w'):=by
 unfold impl_IsGood.f at h
 have hl_va0_1:=hr_a0_1.len
 have hl_va0_2:=hr_a0_2.len
 have hl_va0_3:=hr_a0_3.len
 refine Calls.of_tri (N:=20) Tryz.func59 rfl rfl rfl (Sep.nil (M:=noM)) ?_
 refine Tri.seq (Tri.reg (l:=[0,1,2]) rfl ?_)
 refine F.mn rfl (m_boxG rfl rfl) ?_
 rintro _ _ ⟨b3_1,rfl,rfl⟩
 refine F.qn rfl (r_assign rfl) (F.qn rfl (r_assign rfl) (F.nil (Nrm.seq (Tri.seq (Tri.seq ?_)))))
 obtain ⟨t11,h11,h⟩:=bind_some h
 refine Tri.reg (l:=[0,1,2,3,4]) rfl ?_
 refine F.qn rfl (r_loadA ta65 ti65 rfl rfl (fun w hw=>(box_cells (i:=0) rfl w hw))) (F.qn rfl (r_move rfl) (F.qn rfl (r_move rfl) ?_))
 refine F.qcn rfl (q_callF (xs:=_) rfl ok137 rfl rfl (fun w hw=>impl_isTrapState.ok h11 w ((fun _ hw=>hr_a0_1.sep hw) w hw) ((fun _ hw=>hr_a0_2.sep hw) w hw) ((fun _ hw=>hr_a0_3.sep hw) w hw))) ?_
 refine F.qn rfl (r_not rfl) (F.nil (Nrm.seq (Tri.cond (b:=!t11) rfl (fun g_1=>?_) (fun g_1=>?_))))
 ·replace h:=if_tt g_1 h
  refine Tri.seq (Tri.reg (l:=[0,1]) rfl ?_)
  refine F.qn rfl (r_assign rfl) (F.qn rfl (r_assign rfl) (F.nil (Nrm.seq (Tri.ret ?_))))
  refine Rtn.then ?_
  cases h
  exact Rtn.body (.tmp rfl (.tmp rfl .nil)) (fun w hw=>⟨rfl,hw.ext⟩)
 ·replace h:=if_ff g_1 h
  refine Tri.skip (Nrm.seq (Tri.seq ?_))
  obtain ⟨t14,h14,h⟩:=bind_some h
  obtain ⟨hb16,h⟩:=ck h
  obtain ⟨hb18,h⟩:=ck h
  refine Tri.reg (l:=[0,1,2,3,4,5,6,7,8]) rfl ?_
  refine F.qn rfl (r_loadA ta65 ti65 rfl rfl (fun w hw=>(box_cells (i:=0) rfl w hw))) ?_
  refine F.qcn rfl (q_callF (xs:=_) rfl ok138 rfl rfl (fun w hw=>impl_toTrapGoal.ok h14 w ((fun _ hw=>hr_a0_1.sep hw) w hw) ((fun _ hw=>hr_a0_2.sep hw) w hw) ((fun _ hw=>hr_a0_3.sep hw) w hw))) ?_
  refine F.qn rfl (r_move rfl) ?_
  refine F.qn rfl (r_indexT (g:=t14) Tryz.underlying132 ti130 ta130 rfl rfl hb16) (F.qn rfl (r_move rfl) (F.qn rfl (r_indexR (g:=t14) (i:=a1) (m:=64) Tryz.underlying130 ti3 ta3 rfl rfl (tabB 12 64 768 hb16 rfl) hb18) (F.qn rfl (r_geq rfl rfl) (F.qn rfl (r_assign rfl) (F.qn rfl (r_assign rfl) (F.nil (Nrm.seq (Tri.ret ?_))))))))
  cases h
  exact Rtn.body (.tmp rfl (.tmp rfl .nil)) (fun w hw=>⟨rfl,hw.ext⟩)


def impl_FewestToWin.f (k : Nat) (a0_0 : Int) (a0_1 : List (Int × Int × Int)) (a0_2 : List Int) (a0_3 : List Int) : Option (Int × Bool) := (impl_IsTrap.f k a0_0 a0_1 a0_2 a0_3).bind fun t5 => (if (!t5) = true then some (0, false) else (impl_toTrapGoal.f k a0_0 a0_1 a0_2 a0_3).bind fun t8 => (rdl a0_2 0).bind fun t13 => if 0 ≤ t13 ∧ t13 < 64 then (impl_told.f k (Arr.at t8 (0 * 64 + t13))).bind fun (t16_1, t16_2) => some (t16_1, t16_2) else none)

theorem impl_FewestToWin.ok {k : Nat}  {a0_0 : Int} {a0_1 : List (Int × Int × Int)} {a0_2 : List Int} {a0_3 : List Int} {r0 : Int} {r1 : Bool} (h : impl_FewestToWin.f k a0_0 a0_1 a0_2 a0_3 = some (r0, r1)) (w : World) {va0_1 : Value} {va0_2 : Value} {va0_3 : Value} (hr_a0_1 : Rd w va0_1 a0_1) (hr_a0_2 : Rd w va0_2 a0_2) (hr_a0_3 : Rd w va0_3 a0_3) :
  Calls Tryz.prog 60 ([.agg ([.int .i64 a0_0,va0_1,va0_2,va0_3].toArray)] : List Value).toArray w (fun e w'=>e = .returned (.tuple #[.int .i64 r0,.bool r1])∧Ext w w'):=by
 unfold impl_FewestToWin.f at h
 have hl_va0_1:=hr_a0_1.len
 have hl_va0_2:=hr_a0_2.len
 have hl_va0_3:=hr_a0_3.len
 refine Calls.of_tri (N:=19) Tryz.func60 rfl rfl rfl (Sep.nil (M:=noM)) ?_
 refine Tri.seq (Tri.reg (l:=[0,1,2]) rfl ?_)
 refine F.mn rfl (m_boxG rfl rfl) ?_
 rintro _ _ ⟨b1_1,rfl,rfl⟩
 refine F.qn rfl (r_assign rfl) (F.qn rfl (r_assign rfl) (F.nil (Nrm.seq (Tri.seq (Tri.seq ?_)))))
 obtain ⟨t5,h5,h⟩:=bind_some h
 refine Tri.reg (l:=[0,1,2]) rfl ?_
 refine F.qn rfl (r_loadA ta65 ti65 rfl rfl (fun w hw=>(box_cells (i:=0) rfl w hw))) ?_
 refine F.qcn rfl (q_callF (xs:=_) rfl ok56 rfl rfl (fun w hw=>impl_IsTrap.ok h5 w ((fun _ hw=>hr_a0_1.sep hw) w hw) ((fun _ hw=>hr_a0_2.sep hw) w hw) ((fun _ hw=>hr_a0_3.sep hw) w hw))) ?_
 refine F.qn rfl (r_not rfl) (F.nil (Nrm.seq (Tri.cond (b:=!t5) rfl (fun g_1=>?_) (fun g_1=>?_))))
 ·replace h:=if_tt g_1 h
  refine Tri.seq (Tri.reg (l:=[0,1]) rfl ?_)
  refine F.qn rfl (r_assign rfl) (F.qn rfl (r_assign rfl) (F.nil (Nrm.seq (Tri.ret ?_))))
  refine Rtn.then ?_
  cases h
  exact Rtn.body (.tmp rfl (.tmp rfl .nil)) (fun w hw=>⟨rfl,hw.ext⟩)
 ·replace h:=if_ff g_1 h
  refine Tri.skip (Nrm.seq (Tri.seq ?_))
  obtain ⟨t8,h8,h⟩:=bind_some h
  obtain ⟨t13,h13,h⟩:=bind_some h
  obtain ⟨hb15,h⟩:=ck h
  obtain ⟨⟨t16_1,t16_2⟩,h16,h⟩:=bind_some h
  refine Tri.drawA mixedT Sep.up [(0,true),(1,true),(2,true),(3,true),(4,true),(5,true),(6,true),(7,true),(8,true),(9,true),(10,true),(11,true),(12,true),(13,true)] [] (by kernel_rfl) ?_
  refine S.qn rfl (r_loadA ta65 ti65 rfl rfl (fun w hw=>(box_cells (i:=0) rfl w hw))) ?_
  refine S.qcn rfl (q_callF (xs:=_) rfl ok138 rfl rfl (fun w hw=>impl_toTrapGoal.ok h8 w ((fun _ hw=>hr_a0_1.sep hw) w hw) ((fun _ hw=>hr_a0_2.sep hw) w hw) ((fun _ hw=>hr_a0_3.sep hw) w hw))) ?_
  refine S.qn rfl (r_indexT (g:=t8) Tryz.underlying132 ti130 ta130 rfl rfl ⟨by decide,by decide⟩) ?_
  refine S.qn rfl (r_fieldAddr tf65_0 rfl) (S.qn rfl (r_fieldAddr tf27_2 rfl) (S.qn rfl (r_load ta25 rfl (fun w hw=>cell_2 (box_cells (i:=0) rfl w hw) rfl)) (S.qn rfl (r_indexAddrS Tryz.underlying25 ti3 rfl hl_va0_2 rfl (rdl_some h13).1 (rdl_some h13).2.1) (S.qn rfl (r_load ta3 rfl (fun w hw=>cell_0 (Rd.flat ((fun _ hw=>hr_a0_2.sep hw) w hw) (rdl_some h13).2.2) rfl)) (S.qn rfl (r_indexR (g:=t8) (i:=0) (m:=64) Tryz.underlying130 ti3 ta3 rfl rfl (tabB 12 64 768 ⟨by decide,by decide⟩ rfl) hb15) ?_)))))
  refine S.qcn rfl (q_callF (xs:=_) rfl ok133 rfl rfl (fun w hw=>impl_told.ok h16 w)) ?_
  refine S.qn rfl (r_extract rfl rfl) (S.qn rfl (r_extract rfl rfl) (S.qn rfl (r_assign rfl) (S.qn rfl (r_assign rfl) (S.nil (F.nil (Nrm.seq (Tri.ret ?_)))))))
  cases h
  exact Rtn.body (.tmp rfl (.tmp rfl .nil)) (fun w hw=>⟨rfl,hw.ext⟩)


def spec_l4Told.f (k : Nat) (a0 : Int) : Option (Int × Bool) := (spec_l1Most.f k a0 0).bind fun t5 => some (t5, decide (a0 ≥ 0))

theorem spec_l4Told.ok {k : Nat}  {a0 : Int} {r0 : Int} {r1 : Bool} (h : spec_l4Told.f k a0 = some (r0, r1)) (w : World) :
  Calls Tryz.prog 139 ([.int .i64 a0] : List Value).toArray w (fun e w'=>e = .returned (.tuple #[.int .i64 r0,.bool r1])∧Ext w w'):=by
 unfold spec_l4Told.f at h
 refine Calls.of_tri (N:=8) Tryz.func139 rfl rfl rfl (Sep.nil (M:=noM)) ?_
 refine Tri.seq (Tri.reg (l:=[0,1]) rfl ?_)
 refine F.qn rfl (r_assign rfl) (F.qn rfl (r_assign rfl) (F.nil (Nrm.seq (Tri.seq ?_))))
 obtain ⟨t5,h5,h⟩:=bind_some h
 refine Tri.reg (l:=[0,1,2,3,4,5]) rfl ?_
 refine F.qn rfl (r_move rfl) ?_
 refine F.qcn rfl (q_callF (xs:=_) rfl ok198 rfl rfl (fun w hw=>spec_l1Most.ok h5 w)) ?_
 refine F.qn rfl (r_move rfl) (F.qn rfl (r_geq rfl rfl) (F.qn rfl (r_assign rfl) (F.qn rfl (r_assign rfl) (F.nil (Nrm.seq (Tri.ret ?_))))))
 cases h
 exact Rtn.body (.tmp rfl (.tmp rfl .nil)) (fun w hw=>⟨rfl,hw.ext⟩)


def spec_l2Many.l0 (k : Nat) : Nat → Int → Int → Option (Int)
 | 0,_,_=>none
 | n + 1,x0,x3=>(if (decide (x0 > 0)) = true then spec_l2Many.l0 k n (shr x0 1) (w64 (x3 + (band x0 1))) else some x3)

def spec_l2Many.f (k : Nat) (a0 : Int) : Option (Int) := (spec_l2Many.l0 k k a0 0).bind fun x3 => some x3

theorem spec_l2Many.ok {k : Nat}  {a0 : Int} {r0 : Int} (h : spec_l2Many.f k a0 = some r0) (w : World) :
  Calls Tryz.prog 217 ([.int .i64 a0] : List Value).toArray w (fun e w'=>e = .returned (.int .i64 r0)∧Ext w w'):=by
 unfold spec_l2Many.f at h
 refine Calls.of_tri (N:=13) Tryz.func217 rfl rfl rfl (Sep.nil (M:=noM)) ?_
 refine Tri.seq (Tri.reg (l:=[0]) rfl ?_)
 refine F.qn rfl (r_assign rfl) (F.nil (Nrm.seq (Tri.seq (Tri.reg (l:=[0]) rfl ?_))))
 refine F.qn rfl (r_assign rfl) (F.nil (Nrm.seq (Tri.seq ?_)))
 obtain ⟨x3,hE_1,h⟩:=bind_some h
 refine Tri.block ?_
 refine Tri.only [0,3] rfl ?_
 refine Tri.pick [] rfl rfl ?_
 refine Tri.rounds (fun n e' C'=>∃ (x0' : Int) (x3' : Int),spec_l2Many.l0 k n x0' x3' = some x3∧e' = [(0,.int .i64 x0'),(3,.int .i64 x3')]∧C' = Sep w noM []) k ?_ ?_ ?_
 ·exact ⟨a0,0,hE_1,rfl,rfl⟩
 ·rintro _ _ ⟨_,_,hE_1,_⟩
  rw [spec_l2Many.l0.eq_1] at hE_1; cases hE_1
 ·rintro n_1 _ _ ⟨x0,x3,hE_1,rfl,rfl⟩ ih_1
  rw [spec_l2Many.l0.eq_2] at hE_1
  refine Tri.seq (Tri.seq (Tri.reg (l:=[0,1]) rfl ?_))
  refine F.qn rfl (r_move rfl) (F.qn rfl (r_gtr rfl rfl) (F.nil (Nrm.seq (Tri.cond (b:=decide (x0 > 0)) rfl (fun g_1=>?_) (fun g_1=>?_)))))
  ·replace hE_1:=if_tt g_1 hE_1
   refine Tri.skip (Nrm.seq (Tri.block ?_))
   refine Tri.seq (Tri.reg (l:=[0,1,2,3,4]) rfl ?_)
   refine F.qn rfl (r_move rfl) (F.qn rfl (r_move rfl) (F.qn rfl (r_and rfl rfl) (F.qn rfl (r_add rfl rfl) (F.qn rfl (r_assign rfl) (F.nil (Nrm.seq (Tri.reg (l:=[0,1,2]) rfl ?_)))))))
   refine F.qn rfl (r_move rfl) (F.qn rfl (r_shr rfl rfl (by decide)) (F.qn rfl (r_assign rfl) (F.nil (Nrm.block ?_))))
   refine Nrm.round ?_
   refine Rnd.only [0,3] rfl ?_
   refine Rnd.pick [] rfl rfl ?_
   exact ih_1 _ _ ⟨shr x0 1,w64 (x3 + (band x0 1)),hE_1,rfl,rfl⟩
  ·replace hE_1:=if_ff g_1 hE_1
   refine Tri.exit ?_
   refine Exi.then ?_
   refine Exi.then ?_
   refine Exi.same ?_
   cases hE_1
   refine Nrm.seq (Tri.seq (Tri.reg (l:=[0,1]) rfl ?_))
   refine F.qn rfl (r_move rfl) (F.qn rfl (r_assign rfl) (F.nil (Nrm.seq (Tri.ret ?_))))
   cases h
   exact Rtn.body (.tmp rfl .nil) (fun w hw=>⟨rfl,hw.ext⟩)


def spec_l4Least.l0 (k : Nat) (a0 : List Int) (a1 : Int) (a2 : Int) (a3 : Int) : Nat → Int → Int → Option (Int)
 | 0,_,_=>none
 | n + 1,x9,x10=>(if (decide (x10 < 64)) = true then (spec_l4Id.f k a1 x10).bind fun t19=>(rdl a0 t19).bind fun t20=>((spec_l2Has.f k x10 a2).bind fun t24=>(if t24 = true then (spec_l2Many.f k x10).bind fun t27=>(if (decide (t27 ≤ a3)) = true then (if (decide (t20 ≥ 0)) = true then (if (decide (x9 < 0)) = true then some true else some (decide (t20 < x9))) else some false) else some false) else some false)).bind fun y43=>((if y43 = true then some t20 else some x9)).bind fun y9=>spec_l4Least.l0 k a0 a1 a2 a3 n y9 (w64 (x10 + 1)) else some x9)

def spec_l4Least.f (k : Nat) (a0 : List Int) (a1 : Int) (a2 : Int) (a3 : Int) : Option (Int) := (spec_l4Least.l0 k a0 a1 a2 a3 k (-1) 0).bind fun x9 => some x9

theorem spec_l4Least.ok {k : Nat}  {a0 : List Int} {a1 : Int} {a2 : Int} {a3 : Int} {r0 : Int} (h : spec_l4Least.f k a0 a1 a2 a3 = some r0) (w : World) {va0 : Value} (hr_a0 : Rd w va0 a0) :
  Calls Tryz.prog 140 ([va0,.int .i64 a1,.int .i64 a2,.int .i64 a3] : List Value).toArray w (fun e w'=>e = .returned (.int .i64 r0)∧Ext w w'):=by
 unfold spec_l4Least.f at h
 have hl_va0:=hr_a0.len
 refine Calls.of_tri (N:=46) Tryz.func140 rfl rfl rfl (Sep.nil (M:=noM)) ?_
 refine Tri.seq (Tri.reg (l:=[0]) rfl ?_)
 refine F.qn rfl (r_assign rfl) (F.nil (Nrm.seq (Tri.seq (Tri.reg (l:=[0]) rfl ?_))))
 refine F.qn rfl (r_assign rfl) (F.nil (Nrm.seq (Tri.seq (Tri.seq (Tri.reg (l:=[0]) rfl ?_)))))
 refine F.qn rfl (r_assign rfl) (F.nil (Nrm.seq ?_))
 obtain ⟨x9,hE_1,h⟩:=bind_some h
 refine Tri.block ?_
 refine Tri.only [0,1,2,3,9,10] rfl ?_
 refine Tri.pick [] rfl rfl ?_
 refine Tri.rounds (fun n e' C'=>∃ (x9' : Int) (x10' : Int),spec_l4Least.l0 k a0 a1 a2 a3 n x9' x10' = some x9∧e' = [(0,va0),(1,.int .i64 a1),(2,.int .i64 a2),(3,.int .i64 a3),(9,.int .i64 x9'),(10,.int .i64 x10')]∧C' = Sep w noM []) k ?_ ?_ ?_
 ·exact ⟨(-1),0,hE_1,rfl,rfl⟩
 ·rintro _ _ ⟨_,_,hE_1,_⟩
  rw [spec_l4Least.l0.eq_1] at hE_1; cases hE_1
 ·rintro n_1 _ _ ⟨x9,x10,hE_1,rfl,rfl⟩ ih_1
  rw [spec_l4Least.l0.eq_2] at hE_1
  refine Tri.seq (Tri.seq (Tri.reg (l:=[0,1]) rfl ?_))
  refine F.qn rfl (r_move rfl) (F.qn rfl (r_lss rfl rfl) (F.nil (Nrm.seq (Tri.cond (b:=decide (x10 < 64)) rfl (fun g_1=>?_) (fun g_1=>?_)))))
  ·replace hE_1:=if_tt g_1 hE_1
   refine Tri.skip (Nrm.seq (Tri.seq (Tri.block ?_)))
   refine Tri.seq ?_
   obtain ⟨t19,h19,hE_1⟩:=bind_some hE_1
   obtain ⟨t20,h20,hE_1⟩:=bind_some hE_1
   refine Tri.reg (l:=[0,1,2,3,4,5,6]) rfl ?_
   iterate 3 refine F.qn rfl (r_move rfl) ?_
   refine F.qcn rfl (q_callF (xs:=_) rfl ok130 rfl rfl (fun w hw=>spec_l4Id.ok h19 w)) ?_
   refine F.qn rfl (r_indexAddrS Tryz.underlying25 ti3 rfl hl_va0 rfl (rdl_some h20).1 (rdl_some h20).2.1) (F.qn rfl (r_load ta3 rfl (fun w hw=>cell_0 (Rd.flat ((fun _ hw=>hr_a0.sep hw) w hw) (rdl_some h20).2.2) rfl)) (F.qn rfl (r_assign rfl) (F.nil (Nrm.seq (Tri.seq ?_)))))
   obtain ⟨y43,hE_2,hE_1⟩:=bind_some hE_1
   refine Tri.cut (fun e' C'=>e' = [(0,va0),(1,.int .i64 a1),(2,.int .i64 a2),(3,.int .i64 a3),(9,.int .i64 x9),(10,.int .i64 x10),(11,.int .i64 t20),(43,.bool y43)]∧C' = Sep w noM []) ?_ (fun hj_1=>?_)
   ·rintro _ _ ⟨rfl,rfl⟩
    refine Nrm.seq ?_
    obtain ⟨y9,hE_3,hE_1⟩:=bind_some hE_1
    refine Tri.cut (fun e' C'=>e' = [(0,va0),(1,.int .i64 a1),(2,.int .i64 a2),(3,.int .i64 a3),(9,.int .i64 y9),(10,.int .i64 x10)]∧C' = Sep w noM []) ?_ (fun hj_2=>?_)
    ·rintro _ _ ⟨rfl,rfl⟩
     refine Nrm.block ?_
     refine Nrm.seq (Tri.reg (l:=[0,1,2]) rfl ?_)
     refine F.qn rfl (r_move rfl) (F.qn rfl (r_add rfl rfl) (F.qn rfl (r_assign rfl) (F.nil (Nrm.round ?_))))
     refine Rnd.only [0,1,2,3,9,10] rfl ?_
     refine Rnd.pick [] rfl rfl ?_
     exact ih_1 _ _ ⟨y9,w64 (x10 + 1),hE_1,rfl,rfl⟩
    ·refine Tri.cond (b:=y43) rfl (fun g_2=>?_) (fun g_2=>?_)
     ·replace hE_3:=if_tt g_2 hE_3
      refine Tri.reg (l:=[0,1]) rfl ?_
      refine F.qn rfl (r_move rfl) (F.qn rfl (r_assign rfl) (F.nil ?_))
      cases hE_3
      refine Nrm.only [0,1,2,3,9,10] rfl ?_
      refine Nrm.pick [] rfl rfl ?_
      exact hj_2 _ _ ⟨rfl,rfl⟩
     ·replace hE_3:=if_ff g_2 hE_3
      refine Tri.skip ?_
      cases hE_3
      refine Nrm.only [0,1,2,3,9,10] rfl ?_
      refine Nrm.pick [] rfl rfl ?_
      exact hj_2 _ _ ⟨rfl,rfl⟩
   ·obtain ⟨t24,h24,hE_2⟩:=bind_some hE_2
    rcases Bool.eq_false_or_eq_true (t24) with g25 | g25
    ·replace hE_2:=if_tt g25 hE_2
     obtain ⟨t27,h27,hE_2⟩:=bind_some hE_2
     rcases Bool.eq_false_or_eq_true (decide (t27 ≤ a3)) with g31 | g31
     ·replace hE_2:=if_tt g31 hE_2
      rcases Bool.eq_false_or_eq_true (decide (t20 ≥ 0)) with g35 | g35
      ·replace hE_2:=if_tt g35 hE_2
       rcases Bool.eq_false_or_eq_true (decide (x9 < 0)) with g38 | g38
       ·replace hE_2:=if_tt g38 hE_2
        refine Tri.reg (l:=List.range 22) rfl ?_
        refine F.qn rfl (r_move rfl) (F.qn rfl (r_move rfl) ?_)
        refine F.qcn rfl (q_callF (xs:=_) rfl ok216 rfl rfl (fun w hw=>spec_l2Has.ok h24 w)) ?_
        refine F.qn rfl (r_move rfl) (F.qg rfl g25 (r_move rfl) ?_)
        refine F.qc rfl rfl rfl (wg rfl rfl rfl g25) (q_callF (xs:=_) rfl ok217 rfl rfl (fun w hw=>spec_l2Many.ok h27 w)) ?_
        refine F.qg rfl g25 (r_move rfl) (F.qg rfl g25 (r_leq rfl rfl) (F.qn rfl (r_pick rfl rfl g25) (F.qn rfl (r_move rfl) (F.qg rfl g31 (r_move rfl) ?_))))
        refine F.qg rfl g31 (r_geq rfl rfl) (F.qn rfl (r_pick rfl rfl g31) (F.qn rfl (r_move rfl) (F.qg rfl g35 (r_move rfl) (F.qg rfl g35 (r_lss rfl rfl) (F.qg rfl g35 (r_move rfl) ?_)))))
        iterate 3 refine F.skf rfl g38 ?_
        refine F.qg rfl g35 (r_pick rfl rfl g38) (F.qn rfl (r_pick rfl rfl g35) (F.nil ?_))
        cases hE_2
        refine Nrm.only [0,1,2,3,9,10,11,43] rfl ?_
        refine Nrm.pick [] rfl rfl ?_
        exact hj_1 _ _ ⟨rfl,rfl⟩
       ·replace hE_2:=if_ff g38 hE_2
        refine Tri.reg (l:=List.range 22) rfl ?_
        refine F.qn rfl (r_move rfl) (F.qn rfl (r_move rfl) ?_)
        refine F.qcn rfl (q_callF (xs:=_) rfl ok216 rfl rfl (fun w hw=>spec_l2Has.ok h24 w)) ?_
        refine F.qn rfl (r_move rfl) (F.qg rfl g25 (r_move rfl) ?_)
        refine F.qc rfl rfl rfl (wg rfl rfl rfl g25) (q_callF (xs:=_) rfl ok217 rfl rfl (fun w hw=>spec_l2Many.ok h27 w)) ?_
        refine F.qg rfl g25 (r_move rfl) (F.qg rfl g25 (r_leq rfl rfl) (F.qn rfl (r_pick rfl rfl g25) (F.qn rfl (r_move rfl) ?_)))
        refine F.qg rfl g31 (r_move rfl) (F.qg rfl g31 (r_geq rfl rfl) (F.qn rfl (r_pick rfl rfl g31) (F.qn rfl (r_move rfl) (F.qg rfl g35 (r_move rfl) (F.qg rfl g35 (r_lss rfl rfl) ?_)))))
        refine F.qg rfl g35 (r_move rfl) (F.qg rfl g38 (r_move rfl) (F.qg rfl g38 (r_move rfl) (F.qg rfl g38 (r_lss rfl rfl) (F.qg rfl g35 (r_pickf rfl rfl g38) (F.qn rfl (r_pick rfl rfl g35) (F.nil ?_))))))
        cases hE_2
        refine Nrm.only [0,1,2,3,9,10,11,43] rfl ?_
        refine Nrm.pick [] rfl rfl ?_
        exact hj_1 _ _ ⟨rfl,rfl⟩
      ·replace hE_2:=if_ff g35 hE_2
       refine Tri.reg (l:=List.range 22) rfl ?_
       refine F.qn rfl (r_move rfl) (F.qn rfl (r_move rfl) ?_)
       refine F.qcn rfl (q_callF (xs:=_) rfl ok216 rfl rfl (fun w hw=>spec_l2Has.ok h24 w)) ?_
       refine F.qn rfl (r_move rfl) (F.qg rfl g25 (r_move rfl) ?_)
       refine F.qc rfl rfl rfl (wg rfl rfl rfl g25) (q_callF (xs:=_) rfl ok217 rfl rfl (fun w hw=>spec_l2Many.ok h27 w)) ?_
       refine F.qg rfl g25 (r_move rfl) (F.qg rfl g25 (r_leq rfl rfl) ?_)
       refine F.qn rfl (r_pick rfl rfl g25) (F.qn rfl (r_move rfl) (F.qg rfl g31 (r_move rfl) (F.qg rfl g31 (r_geq rfl rfl) (F.qn rfl (r_pick rfl rfl g31) (F.qn rfl (r_move rfl) ?_)))))
       iterate 3 refine F.skf rfl g35 ?_
       iterate 3 refine F.sk rfl rfl rfl (wanted_undef rfl rfl rfl) ?_
       refine F.skf rfl g35 (F.qn rfl (r_pickf rfl rfl g35) (F.nil ?_))
       cases hE_2
       refine Nrm.only [0,1,2,3,9,10,11,43] rfl ?_
       refine Nrm.pick [] rfl rfl ?_
       exact hj_1 _ _ ⟨rfl,rfl⟩
     ·replace hE_2:=if_ff g31 hE_2
      refine Tri.reg (l:=List.range 22) rfl ?_
      refine F.qn rfl (r_move rfl) (F.qn rfl (r_move rfl) ?_)
      refine F.qcn rfl (q_callF (xs:=_) rfl ok216 rfl rfl (fun w hw=>spec_l2Has.ok h24 w)) ?_
      refine F.qn rfl (r_move rfl) (F.qg rfl g25 (r_move rfl) ?_)
      refine F.qc rfl rfl rfl (wg rfl rfl rfl g25) (q_callF (xs:=_) rfl ok217 rfl rfl (fun w hw=>spec_l2Many.ok h27 w)) ?_
      refine F.qg rfl g25 (r_move rfl) (F.qg rfl g25 (r_leq rfl rfl) ?_)
      refine F.qn rfl (r_pick rfl rfl g25) (F.qn rfl (r_move rfl) (F.skf rfl g31 (F.skf rfl g31 (F.qn rfl (r_pickf rfl rfl g31) (F.qn rfl (r_move rfl) ?_)))))
      iterate 3 refine F.skf rfl rfl ?_
      iterate 3 refine F.sk rfl rfl rfl (wanted_undef rfl rfl rfl) ?_
      refine F.skf rfl rfl (F.qn rfl (r_pickf rfl rfl rfl) (F.nil ?_))
      cases hE_2
      refine Nrm.only [0,1,2,3,9,10,11,43] rfl ?_
      refine Nrm.pick [] rfl rfl ?_
      exact hj_1 _ _ ⟨rfl,rfl⟩
    ·replace hE_2:=if_ff g25 hE_2
     refine Tri.reg (l:=List.range 22) rfl ?_
     refine F.qn rfl (r_move rfl) (F.qn rfl (r_move rfl) ?_)
     refine F.qcn rfl (q_callF (xs:=_) rfl ok216 rfl rfl (fun w hw=>spec_l2Has.ok h24 w)) ?_
     refine F.qn rfl (r_move rfl) ?_
     iterate 4 refine F.skf rfl g25 ?_
     refine F.qn rfl (r_pickf rfl rfl g25) (F.qn rfl (r_move rfl) (F.skf rfl rfl (F.skf rfl rfl (F.qn rfl (r_pickf rfl rfl rfl) (F.qn rfl (r_move rfl) ?_)))))
     iterate 3 refine F.skf rfl rfl ?_
     iterate 3 refine F.sk rfl rfl rfl (wanted_undef rfl rfl rfl) ?_
     refine F.skf rfl rfl (F.qn rfl (r_pickf rfl rfl rfl) (F.nil ?_))
     cases hE_2
     refine Nrm.only [0,1,2,3,9,10,11,43] rfl ?_
     refine Nrm.pick [] rfl rfl ?_
     exact hj_1 _ _ ⟨rfl,rfl⟩
  ·replace hE_1:=if_ff g_1 hE_1
   refine Tri.exit ?_
   refine Exi.then ?_
   refine Exi.then ?_
   refine Exi.same ?_
   cases hE_1
   refine Nrm.seq (Tri.seq (Tri.reg (l:=[0,1]) rfl ?_))
   refine F.qn rfl (r_move rfl) (F.qn rfl (r_assign rfl) (F.nil (Nrm.seq (Tri.ret ?_))))
   cases h
   exact Rtn.body (.tmp rfl .nil) (fun w hw=>⟨rfl,hw.ext⟩)


def spec_FewestToWin.f (k : Nat) (a0_0 : Int) (a0_1 : List (Int × Int × Int)) (a0_2 : List Int) (a0_3 : List Int) : Option (Int × Bool) := (spec_l11Trap.f k a0_0 a0_1 a0_2 a0_3).bind fun t5 => (if (!t5) = true then some (0, false) else (spec_l11Spread.f k a0_0 a0_1 a0_2 a0_3 0).bind fun t8 => (spec_l4Least.f k t8 (w64 (a0_0 - 1)) 0 6).bind fun t13 => (spec_l4Told.f k t13).bind fun (t14_1, t14_2) => some (t14_1, t14_2))

theorem spec_FewestToWin.ok {k : Nat}  {a0_0 : Int} {a0_1 : List (Int × Int × Int)} {a0_2 : List Int} {a0_3 : List Int} {r0 : Int} {r1 : Bool} (h : spec_FewestToWin.f k a0_0 a0_1 a0_2 a0_3 = some (r0, r1)) (w : World) {va0_1 : Value} {va0_2 : Value} {va0_3 : Value} (hr_a0_1 : Rd w va0_1 a0_1) (hr_a0_2 : Rd w va0_2 a0_2) (hr_a0_3 : Rd w va0_3 a0_3) :
  Calls Tryz.prog 61 ([.agg ([.int .i64 a0_0,va0_1,va0_2,va0_3].toArray)] : List Value).toArray w (fun e w'=>e = .returned (.tuple #[.int .i64 r0,.bool r1])∧Ext w w'):=by
 unfold spec_FewestToWin.f at h
 have hl_va0_1:=hr_a0_1.len
 have hl_va0_2:=hr_a0_2.len
 have hl_va0_3:=hr_a0_3.len
 refine Calls.of_tri (N:=17) Tryz.func61 rfl rfl rfl (Sep.nil (M:=noM)) ?_
 refine Tri.seq (Tri.reg (l:=[0,1,2]) rfl ?_)
 refine F.mn rfl (m_boxG rfl rfl) ?_
 rintro _ _ ⟨b1_1,rfl,rfl⟩
 refine F.qn rfl (r_assign rfl) (F.qn rfl (r_assign rfl) (F.nil (Nrm.seq (Tri.seq (Tri.seq ?_)))))
 obtain ⟨t5,h5,h⟩:=bind_some h
 refine Tri.reg (l:=[0,1,2]) rfl ?_
 refine F.qn rfl (r_loadA ta65 ti65 rfl rfl (fun w hw=>(box_cells (i:=0) rfl w hw))) ?_
 refine F.qcn rfl (q_callF (xs:=_) rfl ok128 rfl rfl (fun w hw=>spec_l11Trap.ok h5 w ((fun _ hw=>hr_a0_1.sep hw) w hw) ((fun _ hw=>hr_a0_2.sep hw) w hw) ((fun _ hw=>hr_a0_3.sep hw) w hw))) ?_
 refine F.qn rfl (r_not rfl) (F.nil (Nrm.seq (Tri.cond (b:=!t5) rfl (fun g_1=>?_) (fun g_1=>?_))))
 ·replace h:=if_tt g_1 h
  refine Tri.seq (Tri.reg (l:=[0,1]) rfl ?_)
  refine F.qn rfl (r_assign rfl) (F.qn rfl (r_assign rfl) (F.nil (Nrm.seq (Tri.ret ?_))))
  refine Rtn.then ?_
  cases h
  exact Rtn.body (.tmp rfl (.tmp rfl .nil)) (fun w hw=>⟨rfl,hw.ext⟩)
 ·replace h:=if_ff g_1 h
  refine Tri.skip (Nrm.seq (Tri.seq ?_))
  obtain ⟨t8,h8,h⟩:=bind_some h
  obtain ⟨t13,h13,h⟩:=bind_some h
  obtain ⟨⟨t14_1,t14_2⟩,h14,h⟩:=bind_some h
  refine Tri.drawA mixedT Sep.up [(0,true),(2,true),(3,true),(4,true),(5,true),(1,false),(6,true),(7,true),(8,true),(9,true),(10,true),(11,true)] [] (by kernel_rfl) ?_
  refine S.qn rfl (r_loadA ta65 ti65 rfl rfl (fun w hw=>(box_cells (i:=0) rfl w hw))) (S.qn rfl (r_fieldAddr tf65_0 rfl) (S.qn rfl (r_fieldAddr tf27_0 rfl) (S.qn rfl (r_load ta3 rfl (fun w hw=>cell_2 (box_cells (i:=0) rfl w hw) rfl)) (S.qn rfl (r_sub rfl rfl) ?_))))
  refine S.m rfl rfl rfl (wanted_none rfl) (m_callF (xs:=_) rfl ok135 rfl rfl (fun w hw=>spec_l11Spread.ok h8 w ((fun _ hw=>hr_a0_1.sep hw) w hw) ((fun _ hw=>hr_a0_2.sep hw) w hw) ((fun _ hw=>hr_a0_3.sep hw) w hw))) ?_
  rintro v8_2 _ ⟨_,⟨S8_2,hl_v8_2,rfl⟩,rfl⟩
  refine S.qcn rfl (q_callF (xs:=_) rfl ok140 rfl rfl (fun w hw=>spec_l4Least.ok h13 w ((rd_sl (i:=0) rfl) w hw))) ?_
  refine S.qcn rfl (q_callF (xs:=_) rfl ok139 rfl rfl (fun w hw=>spec_l4Told.ok h14 w)) ?_
  refine S.qn rfl (r_extract rfl rfl) (S.qn rfl (r_extract rfl rfl) (S.qn rfl (r_assign rfl) (S.qn rfl (r_assign rfl) (S.nil (F.nil (Nrm.seq (Tri.ret ?_)))))))
  cases h
  exact Rtn.body (.tmp rfl (.tmp rfl .nil)) (fun w hw=>⟨rfl,hw.ext⟩)


def slices_Clone_int_int.f (k : Nat) (a0 : List Int) : Option ((List Int)) := if (([] : List (Int)) ++ a0).length < 1099511627776 then some (([] : List (Int)) ++ a0) else none

theorem slices_Clone_int_int.ok {k : Nat}  {a0 : List Int} {r0 : List Int} (h : slices_Clone_int_int.f k a0 = some r0) (w : World) {va0 : Value} (hr_a0 : Rd w va0 a0) :
  Calls Tryz.prog 144 ([va0] : List Value).toArray w (Post (fun u ns=>∃ (Sr0 : Nat → Prop),SlLen u r0.length∧ns = [R.sl Sr0 u r0]) w):=by
 unfold slices_Clone_int_int.f at h
 have hl_va0:=hr_a0.len
 rcases Rd.cases hr_a0 with ⟨rfl,rfl⟩ | ⟨pa0,ca0,rfl⟩
 ·replace h : some [] = some r0:=by simpa using h
  refine Calls.of_tri (N:=8) Tryz.func144 rfl rfl rfl (Sep.nil (M:=noM)) ?_
  refine Tri.seq (Tri.reg (l:=[0]) rfl ?_)
  refine F.qn rfl (r_assign rfl) (F.nil (Nrm.seq (Tri.seq (Tri.seq (Tri.reg (l:=[0,1]) rfl ?_)))))
  refine F.qn rfl (r_move rfl) (F.qn rfl (r_eqlNN Tryz.underlying25 rfl rfl) (F.nil (Nrm.seq (Tri.condT rfl rfl ?_))))
  refine Tri.seq (Tri.reg (l:=[0]) rfl ?_)
  refine F.qn rfl (r_assign rfl) (F.nil (Nrm.seq (Tri.ret ?_)))
  refine Rtn.then ?_
  cases h
  exact Rtn.body (.tmp rfl .nil) (fun w hw=>⟨_,_,rfl,⟨fun _=>False,len_nil,rfl⟩,Sep.pick (is:=[0]) rfl rfl hw.pushNil⟩)
 ·refine Calls.of_tri (N:=8) Tryz.func144 rfl rfl rfl (Sep.nil (M:=noM)) ?_
  refine Tri.seq (Tri.reg (l:=[0]) rfl ?_)
  refine F.qn rfl (r_assign rfl) (F.nil (Nrm.seq (Tri.seq (Tri.seq (Tri.reg (l:=[0,1]) rfl ?_)))))
  refine F.qn rfl (r_move rfl) (F.qn rfl (r_eqlN Tryz.underlying25 rfl rfl ⟨_,_,rfl⟩) (F.nil (Nrm.seq (Tri.condF rfl rfl ?_))))
  refine Tri.skip (Nrm.seq (Tri.seq ?_))
  obtain ⟨hs7,h⟩:=ck h
  refine Tri.reg (l:=[0,1,2,3]) rfl ?_
  refine F.mn rfl (m_build0 (α:=Int) Tryz.underlying25 ti3) ?_
  rintro v5_1 _ ⟨S5_1,hl_v5_1,rfl⟩
  refine F.qn rfl (r_move rfl) ?_
  refine F.efn rfl (d_append (i:=0) Tryz.underlying25 Tryz.underlying25 ti3 rfl (by decide) rfl rfl rfl (fun _ hw=>hr_a0.sep hw) hs7) ?_
  rintro v7_1 _ ⟨S7_1,rfl,hl_v7_1⟩
  refine F.qn rfl (r_assign rfl) (F.nil (Nrm.seq (Tri.ret ?_)))
  cases h
  exact Rtn.body (.tmp rfl .nil) (fun w hw=>⟨_,_,rfl,⟨S7_1,hl_v7_1,rfl⟩,Sep.pick (is:=[0]) rfl rfl hw⟩)


def slices_Clone__3int__3int.f (k : Nat) (a0 : List (Int × Int × Int)) : Option ((List (Int × Int × Int))) := if (([] : List (Int × Int × Int)) ++ a0).length < 1099511627776 then some (([] : List (Int × Int × Int)) ++ a0) else none

theorem slices_Clone__3int__3int.ok {k : Nat}  {a0 : List (Int × Int × Int)} {r0 : List (Int × Int × Int)} (h : slices_Clone__3int__3int.f k a0 = some r0) (w : World) {va0 : Value} (hr_a0 : Rd w va0 a0) :
  Calls Tryz.prog 195 ([va0] : List Value).toArray w (Post (fun u ns=>∃ (Sr0 : Nat → Prop),SlLen u r0.length∧ns = [R.sl Sr0 u r0]) w):=by
 unfold slices_Clone__3int__3int.f at h
 have hl_va0:=hr_a0.len
 rcases Rd.cases hr_a0 with ⟨rfl,rfl⟩ | ⟨pa0,ca0,rfl⟩
 ·replace h : some [] = some r0:=by simpa using h
  refine Calls.of_tri (N:=8) Tryz.func195 rfl rfl rfl (Sep.nil (M:=noM)) ?_
  refine Tri.seq (Tri.reg (l:=[0]) rfl ?_)
  refine F.qn rfl (r_assign rfl) (F.nil (Nrm.seq (Tri.seq (Tri.seq (Tri.reg (l:=[0,1]) rfl ?_)))))
  refine F.qn rfl (r_move rfl) (F.qn rfl (r_eqlNN Tryz.underlying24 rfl rfl) (F.nil (Nrm.seq (Tri.condT rfl rfl ?_))))
  refine Tri.seq (Tri.reg (l:=[0]) rfl ?_)
  refine F.qn rfl (r_assign rfl) (F.nil (Nrm.seq (Tri.ret ?_)))
  refine Rtn.then ?_
  cases h
  exact Rtn.body (.tmp rfl .nil) (fun w hw=>⟨_,_,rfl,⟨fun _=>False,len_nil,rfl⟩,Sep.pick (is:=[0]) rfl rfl hw.pushNil⟩)
 ·refine Calls.of_tri (N:=8) Tryz.func195 rfl rfl rfl (Sep.nil (M:=noM)) ?_
  refine Tri.seq (Tri.reg (l:=[0]) rfl ?_)
  refine F.qn rfl (r_assign rfl) (F.nil (Nrm.seq (Tri.seq (Tri.seq (Tri.reg (l:=[0,1]) rfl ?_)))))
  refine F.qn rfl (r_move rfl) (F.qn rfl (r_eqlN Tryz.underlying24 rfl rfl ⟨_,_,rfl⟩) (F.nil (Nrm.seq (Tri.condF rfl rfl ?_))))
  refine Tri.skip (Nrm.seq (Tri.seq ?_))
  obtain ⟨hs7,h⟩:=ck h
  refine Tri.reg (l:=[0,1,2,3]) rfl ?_
  refine F.mn rfl (m_build0 (α:=Int × Int × Int) Tryz.underlying24 ti168) ?_
  rintro v5_1 _ ⟨S5_1,hl_v5_1,rfl⟩
  refine F.qn rfl (r_move rfl) ?_
  refine F.efn rfl (d_append (i:=0) Tryz.underlying24 Tryz.underlying24 ti168 rfl (by decide) rfl rfl rfl (fun _ hw=>hr_a0.sep hw) hs7) ?_
  rintro v7_1 _ ⟨S7_1,rfl,hl_v7_1⟩
  refine F.qn rfl (r_assign rfl) (F.nil (Nrm.seq (Tri.ret ?_)))
  cases h
  exact Rtn.body (.tmp rfl .nil) (fun w hw=>⟨_,_,rfl,⟨S7_1,hl_v7_1,rfl⟩,Sep.pick (is:=[0]) rfl rfl hw⟩)


def impl_own.f (k : Nat) (a0_0 : Int) (a0_1 : List (Int × Int × Int)) (a0_2 : List Int) : Option (Int × (List (Int × Int × Int)) × (List Int)) := (slices_Clone__3int__3int.f k a0_1).bind fun t7 => (slices_Clone_int_int.f k a0_2).bind fun t10 => some (a0_0, t7, t10)

theorem impl_own.ok {k : Nat}  {a0_0 : Int} {a0_1 : List (Int × Int × Int)} {a0_2 : List Int} {r0 : Int} {r1 : List (Int × Int × Int)} {r2 : List Int} (h : impl_own.f k a0_0 a0_1 a0_2 = some (r0, r1, r2)) (w : World) {va0_1 : Value} {va0_2 : Value} (hr_a0_1 : Rd w va0_1 a0_1) (hr_a0_2 : Rd w va0_2 a0_2) :
  Calls Tryz.prog 107 ([.agg ([.int .i64 a0_0,va0_1,va0_2].toArray)] : List Value).toArray w (Post (fun u ns=>∃ (ur1 : Value) (Sr1 : Nat → Prop) (ur2 : Value) (Sr2 : Nat → Prop),u = .agg [.int .i64 r0,ur1,ur2].toArray∧SlLen ur1 r1.length∧SlLen ur2 r2.length∧ns = [R.sl Sr1 ur1 r1,R.sl Sr2 ur2 r2]) w):=by
 unfold impl_own.f at h
 have hl_va0_1:=hr_a0_1.len
 have hl_va0_2:=hr_a0_2.len
 refine Calls.of_tri (N:=12) Tryz.func107 rfl rfl rfl (Sep.nil (M:=noM)) ?_
 refine Tri.seq (Tri.reg (l:=[0,1]) rfl ?_)
 refine F.mn rfl (m_boxG rfl rfl) ?_
 rintro _ _ ⟨b1_1,rfl,rfl⟩
 refine F.mn rfl (m_alloc ti27) ?_
 rintro _ _ ⟨b2_1,rfl,rfl⟩
 refine F.nil (Nrm.seq (Tri.seq ?_))
 obtain ⟨t7,h7,h⟩:=bind_some h
 obtain ⟨t10,h10,h⟩:=bind_some h
 refine Tri.drawA mixedT Sep.up [(0,true),(1,true),(2,true),(3,true),(5,true),(6,true),(4,false),(7,false),(8,true)] [9] (by kernel_rfl) ?_
 refine S.qn rfl (r_fieldAddr tf27_0 rfl) (S.qn rfl (r_load ta3 rfl (fun w hw=>cell_1 (box_cells (i:=1) rfl w hw) rfl)) (S.qn rfl (r_fieldAddr tf27_1 rfl) (S.qn rfl (r_load ta24 rfl (fun w hw=>cell_1 (box_cells (i:=1) rfl w hw) rfl)) (S.qn rfl (r_fieldAddr tf27_2 rfl) (S.qn rfl (r_load ta25 rfl (fun w hw=>cell_1 (box_cells (i:=1) rfl w hw) rfl)) ?_)))))
 refine S.m rfl rfl rfl (wanted_none rfl) (m_callF (xs:=_) rfl ok195 rfl rfl (fun w hw=>slices_Clone__3int__3int.ok h7 w ((fun _ hw=>hr_a0_1.sep hw) w hw))) ?_
 rintro v7_2 _ ⟨_,⟨S7_2,hl_v7_2,rfl⟩,rfl⟩
 refine S.m rfl rfl rfl (wanted_none rfl) (m_callF (xs:=_) rfl ok144 rfl rfl (fun w hw=>slices_Clone_int_int.ok h10 w ((fun _ hw=>hr_a0_2.sep hw) w hw))) ?_
 rintro v10_2 _ ⟨_,⟨S10_2,hl_v10_2,rfl⟩,rfl⟩
 refine S.qn rfl (r_build (pl:=[(0,1),(1,1),(2,1)]) (qs:=[(0,[.int .i64 a0_0]),(1,[v7_2]),(2,[v10_2])]) (cs:=[.int .i64 a0_0,v7_2,v10_2]) (by kernel_rfl) ti27 rfl (.cons rfl rfl (Nat.le_of_ble_eq_true rfl) (.cons (sl_cells hl_v7_2) rfl (Nat.le_of_ble_eq_true rfl) (.cons (sl_cells hl_v10_2) rfl (Nat.le_of_ble_eq_true rfl) .nil))) rfl rfl) (S.nil (F.ef0 rfl rfl (wanted_none rfl) (d_storeG0 (i:=2) (cs2:=[.int .i64 a0_0,v7_2,v10_2]) ti27 rfl rfl rfl rfl rfl (Nat.le_of_ble_eq_true rfl) (lf_cons rfl (lf_cons (sl_leaf hl_v7_2) (lf_cons (sl_leaf hl_v10_2) lf_nil)))) ?_))
 rintro _ _ ⟨rfl,rfl⟩
 refine F.nil (Nrm.seq (Tri.ret ?_))
 cases h
 exact Rtn.body (.cell rfl ta27 ti27 rfl (fun _ hw=>box_cells (i:=2) rfl _ hw) .nil) (fun w hw=>⟨_,_,rfl,⟨v7_2,S7_2,v10_2,S10_2,rfl,hl_v7_2,hl_v10_2,rfl⟩,Sep.pick (is:=[1,0]) rfl rfl hw⟩)


def impl_BothWays.f (k : Nat) (a0_0 : Int) (a0_1 : List (Int × Int × Int)) (a0_2 : List Int) (a0_3 : List Int) : Option (Int × (List (Int × Int × Int)) × (List Int) × (List Int) × Bool) := (impl_IsTrap.f k a0_0 a0_1 a0_2 a0_3).bind fun t5 => (if (!t5) = true then some (0, [], [], [], false) else (impl_own.f k a0_0 a0_1 a0_2).bind fun (t10_1, t10_2, t10_3) => some (t10_1, t10_2, t10_3, [], true))

theorem impl_BothWays.ok {k : Nat}  {a0_0 : Int} {a0_1 : List (Int × Int × Int)} {a0_2 : List Int} {a0_3 : List Int} {r0 : Int} {r1 : List (Int × Int × Int)} {r2 : List Int} {r3 : List Int} {r4 : Bool} (h : impl_BothWays.f k a0_0 a0_1 a0_2 a0_3 = some (r0, r1, r2, r3, r4)) (w : World) {va0_1 : Value} {va0_2 : Value} {va0_3 : Value} (hr_a0_1 : Rd w va0_1 a0_1) (hr_a0_2 : Rd w va0_2 a0_2) (hr_a0_3 : Rd w va0_3 a0_3) :
  Calls Tryz.prog 62 ([.agg ([.int .i64 a0_0,va0_1,va0_2,va0_3].toArray)] : List Value).toArray w (Post (fun u ns=>∃ (ur1 : Value) (Sr1 : Nat → Prop) (ur2 : Value) (Sr2 : Nat → Prop) (ur3 : Value) (Sr3 : Nat → Prop),u = .tuple #[.agg [.int .i64 r0,ur1,ur2,ur3].toArray,.bool r4]∧SlLen ur1 r1.length∧SlLen ur2 r2.length∧SlLen ur3 r3.length∧ns = [R.sl Sr1 ur1 r1,R.sl Sr2 ur2 r2,R.sl Sr3 ur3 r3]) w):=by
 unfold impl_BothWays.f at h
 have hl_va0_1:=hr_a0_1.len
 have hl_va0_2:=hr_a0_2.len
 have hl_va0_3:=hr_a0_3.len
 refine Calls.of_tri (N:=12) Tryz.func62 rfl rfl rfl (Sep.nil (M:=noM)) ?_
 refine Tri.seq (Tri.reg (l:=[0,1,2]) rfl ?_)
 refine F.mn rfl (m_boxG rfl rfl) ?_
 rintro _ _ ⟨b1_1,rfl,rfl⟩
 refine F.mn rfl (m_alloc ti65) ?_
 rintro _ _ ⟨b2_1,rfl,rfl⟩
 refine F.qn rfl (r_assign rfl) (F.nil (Nrm.seq (Tri.seq (Tri.seq ?_))))
 obtain ⟨t5,h5,h⟩:=bind_some h
 refine Tri.reg (l:=[0,1,2]) rfl ?_
 refine F.qn rfl (r_loadA ta65 ti65 rfl rfl (fun w hw=>(box_cells (i:=1) rfl w hw))) ?_
 refine F.qcn rfl (q_callF (xs:=_) rfl ok56 rfl rfl (fun w hw=>impl_IsTrap.ok h5 w ((fun _ hw=>hr_a0_1.sep hw) w hw) ((fun _ hw=>hr_a0_2.sep hw) w hw) ((fun _ hw=>hr_a0_3.sep hw) w hw))) ?_
 refine F.qn rfl (r_not rfl) (F.nil (Nrm.seq (Tri.cond (b:=!t5) rfl (fun g_1=>?_) (fun g_1=>?_))))
 ·replace h:=if_tt g_1 h
  refine Tri.seq (Tri.reg (l:=[0,1,2]) rfl ?_)
  refine F.qn rfl (r_build (pl:=[(0,3),(3,1)]) (qs:=[]) (cs:=[.int .i64 0,.slice none 0 0,.slice none 0 0,.slice none 0 0]) (by kernel_rfl) ti65 rfl .nil rfl rfl) ?_
  refine F.ef0 rfl rfl (wanted_none rfl) (d_storeG0 (i:=0) (cs2:=[.int .i64 0,.slice none 0 0,.slice none 0 0,.slice none 0 0]) ti65 rfl rfl rfl rfl rfl (Nat.le_of_ble_eq_true rfl) (lf_cons rfl (lf_cons rfl (lf_cons rfl (lf_cons rfl lf_nil))))) ?_
  rintro _ _ ⟨rfl,rfl⟩
  refine F.qn rfl (r_assign rfl) (F.nil (Nrm.seq (Tri.ret ?_)))
  refine Rtn.then ?_
  cases h
  exact Rtn.body (.cell rfl ta65 ti65 rfl (fun _ hw=>box_cells (i:=0) rfl _ hw) (.tmp rfl .nil)) (fun w hw=>⟨_,_,rfl,⟨.slice none 0 0,fun _=>False,.slice none 0 0,fun _=>False,.slice none 0 0,fun _=>False,rfl,len_nil,len_nil,len_nil,rfl⟩,Sep.pick (is:=[0,1,2]) rfl rfl hw.pushNil.pushNil.pushNil⟩)
 ·replace h:=if_ff g_1 h
  refine Tri.skip (Nrm.seq (Tri.seq ?_))
  obtain ⟨⟨t10_1,t10_2,t10_3⟩,h10,h⟩:=bind_some h
  refine Tri.reg (l:=[0,1,2,3,4,5]) rfl ?_
  refine F.qn rfl (r_fieldAddr tf65_0 rfl) (F.qn rfl (r_loadA ta27 ti27 rfl rfl (fun w hw=>cells_1 (cs':=[.int .i64 a0_0,va0_1,va0_2]) (box_cells (i:=1) rfl w hw) rfl)) ?_)
  refine F.mn rfl (m_callF (xs:=_) rfl ok107 rfl rfl (fun w hw=>impl_own.ok h10 w ((fun _ hw=>hr_a0_1.sep hw) w hw) ((fun _ hw=>hr_a0_2.sep hw) w hw))) ?_
  rintro _ _ ⟨_,⟨v10_1,S10_1,v10_2,S10_2,rfl,hl_v10_1,hl_v10_2,rfl⟩,rfl⟩
  refine F.qn rfl (r_build (pl:=[(0,3),(3,1)]) (qs:=[(0,[.int .i64 t10_1,v10_1,v10_2])]) (cs:=[.int .i64 t10_1,v10_1,v10_2,.slice none 0 0]) (by kernel_rfl) ti65 rfl (.cons rfl rfl (Nat.le_of_ble_eq_true rfl) .nil) rfl rfl) ?_
  refine F.ef0 rfl rfl (wanted_none rfl) (d_storeG0 (i:=2) (cs2:=[.int .i64 t10_1,v10_1,v10_2,.slice none 0 0]) ti65 rfl rfl rfl rfl rfl (Nat.le_of_ble_eq_true rfl) (lf_cons rfl (lf_cons (sl_leaf hl_v10_1) (lf_cons (sl_leaf hl_v10_2) (lf_cons rfl lf_nil))))) ?_
  rintro _ _ ⟨rfl,rfl⟩
  refine F.qn rfl (r_assign rfl) (F.nil (Nrm.seq (Tri.ret ?_)))
  cases h
  exact Rtn.body (.cell rfl ta65 ti65 rfl (fun _ hw=>box_cells (i:=2) rfl _ hw) (.tmp rfl .nil)) (fun w hw=>⟨_,_,rfl,⟨v10_1,S10_1,v10_2,S10_2,.slice none 0 0,fun _=>False,rfl,hl_v10_1,hl_v10_2,len_nil,rfl⟩,Sep.pick (is:=[1,2,0]) rfl rfl hw.pushNil⟩)


def spec_l1Own.f (k : Nat) (a0 : List Int) : Option ((List Int)) := if (([] : List (Int)) ++ a0).length < 1099511627776 then some (([] : List (Int)) ++ a0) else none

theorem spec_l1Own.ok {k : Nat}  {a0 : List Int} {r0 : List Int} (h : spec_l1Own.f k a0 = some r0) (w : World) {va0 : Value} (hr_a0 : Rd w va0 a0) :
  Calls Tryz.prog 197 ([va0] : List Value).toArray w (Post (fun u ns=>∃ (Sr0 : Nat → Prop),SlLen u r0.length∧ns = [R.sl Sr0 u r0]) w):=by
 unfold spec_l1Own.f at h
 have hl_va0:=hr_a0.len
 refine Calls.of_tri (N:=6) Tryz.func197 rfl rfl rfl (Sep.nil (M:=noM)) ?_
 refine Tri.seq (Tri.reg (l:=[0]) rfl ?_)
 refine F.qn rfl (r_assign rfl) (F.nil (Nrm.seq (Tri.seq ?_)))
 obtain ⟨hs5,h⟩:=ck h
 refine Tri.reg (l:=[0,1,2,3]) rfl ?_
 refine F.mn rfl (m_build0 (α:=Int) Tryz.underlying25 ti3) ?_
 rintro v3_1 _ ⟨S3_1,hl_v3_1,rfl⟩
 refine F.qn rfl (r_move rfl) ?_
 refine F.efn rfl (d_append (i:=0) Tryz.underlying25 Tryz.underlying25 ti3 rfl (by decide) rfl rfl rfl (fun _ hw=>hr_a0.sep hw) hs5) ?_
 rintro v5_1 _ ⟨S5_1,rfl,hl_v5_1⟩
 refine F.qn rfl (r_assign rfl) (F.nil (Nrm.seq (Tri.ret ?_)))
 cases h
 exact Rtn.body (.tmp rfl .nil) (fun w hw=>⟨_,_,rfl,⟨S5_1,hl_v5_1,rfl⟩,Sep.pick (is:=[0]) rfl rfl hw⟩)


def spec_l2Own.f (k : Nat) (a0_0 : Int) (a0_1 : List (Int × Int × Int)) (a0_2 : List Int) : Option (Int × (List (Int × Int × Int)) × (List Int)) := if (([] : List (Int × Int × Int)) ++ a0_1).length < 1099511627776 then (spec_l1Own.f k a0_2).bind fun t11 => some (a0_0, ([] : List (Int × Int × Int)) ++ a0_1, t11) else none

theorem spec_l2Own.ok {k : Nat}  {a0_0 : Int} {a0_1 : List (Int × Int × Int)} {a0_2 : List Int} {r0 : Int} {r1 : List (Int × Int × Int)} {r2 : List Int} (h : spec_l2Own.f k a0_0 a0_1 a0_2 = some (r0, r1, r2)) (w : World) {va0_1 : Value} {va0_2 : Value} (hr_a0_1 : Rd w va0_1 a0_1) (hr_a0_2 : Rd w va0_2 a0_2) :
  Calls Tryz.prog 141 ([.agg ([.int .i64 a0_0,va0_1,va0_2].toArray)] : List Value).toArray w (Post (fun u ns=>∃ (ur1 : Value) (Sr1 : Nat → Prop) (ur2 : Value) (Sr2 : Nat → Prop),u = .agg [.int .i64 r0,ur1,ur2].toArray∧SlLen ur1 r1.length∧SlLen ur2 r2.length∧ns = [R.sl Sr1 ur1 r1,R.sl Sr2 ur2 r2]) w):=by
 unfold spec_l2Own.f at h
 have hl_va0_1:=hr_a0_1.len
 have hl_va0_2:=hr_a0_2.len
 refine Calls.of_tri (N:=13) Tryz.func141 rfl rfl rfl (Sep.nil (M:=noM)) ?_
 refine Tri.seq (Tri.reg (l:=[0,1]) rfl ?_)
 refine F.mn rfl (m_boxG rfl rfl) ?_
 rintro _ _ ⟨b1_1,rfl,rfl⟩
 refine F.mn rfl (m_alloc ti27) ?_
 rintro _ _ ⟨b2_1,rfl,rfl⟩
 refine F.nil (Nrm.seq (Tri.seq ?_))
 obtain ⟨hs8,h⟩:=ck h
 obtain ⟨t11,h11,h⟩:=bind_some h
 refine Tri.drawB mixedT Sep.up [(0,true),(1,true),(3,true),(4,true),(6,true),(7,true),(2,false),(5,false),(8,false)] [9,10] (by kernel_rfl) ?_
 refine B.q rfl rfl rfl (wanted_none rfl) (r_fieldAddr tf27_0 rfl) ?_
 refine B.q rfl rfl rfl (wanted_none rfl) (r_load ta3 rfl (fun w hw=>cell_1 (box_cells (i:=1) rfl w hw) rfl)) ?_
 refine B.q rfl rfl rfl (wanted_none rfl) (r_fieldAddr tf27_1 rfl) ?_
 refine B.q rfl rfl rfl (wanted_none rfl) (r_load ta24 rfl (fun w hw=>cell_1 (box_cells (i:=1) rfl w hw) rfl)) ?_
 refine B.q rfl rfl rfl (wanted_none rfl) (r_fieldAddr tf27_2 rfl) ?_
 refine B.q rfl rfl rfl (wanted_none rfl) (r_load ta25 rfl (fun w hw=>cell_1 (box_cells (i:=1) rfl w hw) rfl)) ?_
 refine B.ef rfl rfl rfl (wanted_none rfl) (Makes.does (m_build0 (α:=Int × Int × Int) Tryz.underlying24 ti168)) (by rintro v5_2 _ ⟨S5_2,hl_v5_2,rfl⟩; exact upd rfl [1,2] rfl rfl) ?_
 rintro v5_2 _ ⟨S5_2,hl_v5_2,rfl⟩
 refine B.ef rfl rfl rfl (wanted_none rfl) (d_append (i:=0) Tryz.underlying24 Tryz.underlying24 ti168 rfl (by decide) rfl rfl rfl (fun _ hw=>hr_a0_1.sep hw) hs8) (by rintro v8_2 _ ⟨S8_2,rfl,hl_v8_2⟩; exact upd rfl [1,2] rfl rfl) ?_
 rintro v8_2 _ ⟨S8_2,rfl,hl_v8_2⟩
 refine B.ef rfl rfl rfl (wanted_none rfl) (Makes.does (m_callF (xs:=_) rfl ok197 rfl rfl (fun w hw=>spec_l1Own.ok h11 w ((fun _ hw=>hr_a0_2.sep hw) w hw)))) (by rintro v11_2 _ ⟨_,⟨S11_2,hl_v11_2,rfl⟩,rfl⟩; exact upd rfl [2,3] rfl rfl) ?_
 rintro v11_2 _ ⟨_,⟨S11_2,hl_v11_2,rfl⟩,rfl⟩
 refine B.nil ?_
 refine F.qn rfl (r_build (pl:=[(0,1),(1,1),(2,1)]) (qs:=[(0,[.int .i64 a0_0]),(1,[v8_2]),(2,[v11_2])]) (cs:=[.int .i64 a0_0,v8_2,v11_2]) (by kernel_rfl) ti27 rfl (.cons rfl rfl (Nat.le_of_ble_eq_true rfl) (.cons (sl_cells hl_v8_2) rfl (Nat.le_of_ble_eq_true rfl) (.cons (sl_cells hl_v11_2) rfl (Nat.le_of_ble_eq_true rfl) .nil))) rfl rfl) ?_
 refine F.ef0 rfl rfl (wanted_none rfl) (d_storeG0 (i:=2) (cs2:=[.int .i64 a0_0,v8_2,v11_2]) ti27 rfl rfl rfl rfl rfl (Nat.le_of_ble_eq_true rfl) (lf_cons rfl (lf_cons (sl_leaf hl_v8_2) (lf_cons (sl_leaf hl_v11_2) lf_nil)))) ?_
 rintro _ _ ⟨rfl,rfl⟩
 refine F.nil (Nrm.seq (Tri.ret ?_))
 cases h
 exact Rtn.body (.cell rfl ta27 ti27 rfl (fun _ hw=>box_cells (i:=2) rfl _ hw) .nil) (fun w hw=>⟨_,_,rfl,⟨v8_2,S8_2,v11_2,S11_2,rfl,hl_v8_2,hl_v11_2,rfl⟩,Sep.pick (is:=[1,0]) rfl rfl hw⟩)


def spec_BothWays.f (k : Nat) (a0_0 : Int) (a0_1 : List (Int × Int × Int)) (a0_2 : List Int) (a0_3 : List Int) : Option (Int × (List (Int × Int × Int)) × (List Int) × (List Int) × Bool) := (spec_l11Trap.f k a0_0 a0_1 a0_2 a0_3).bind fun t5 => (if (!t5) = true then some (0, [], [], [], false) else (spec_l2Own.f k a0_0 a0_1 a0_2).bind fun (t10_1, t10_2, t10_3) => some (t10_1, t10_2, t10_3, ([] : List (Int)), true))

theorem spec_BothWays.ok {k : Nat}  {a0_0 : Int} {a0_1 : List (Int × Int × Int)} {a0_2 : List Int} {a0_3 : List Int} {r0 : Int} {r1 : List (Int × Int × Int)} {r2 : List Int} {r3 : List Int} {r4 : Bool} (h : spec_BothWays.f k a0_0 a0_1 a0_2 a0_3 = some (r0, r1, r2, r3, r4)) (w : World) {va0_1 : Value} {va0_2 : Value} {va0_3 : Value} (hr_a0_1 : Rd w va0_1 a0_1) (hr_a0_2 : Rd w va0_2 a0_2) (hr_a0_3 : Rd w va0_3 a0_3) :
  Calls Tryz.prog 63 ([.agg ([.int .i64 a0_0,va0_1,va0_2,va0_3].toArray)] : List Value).toArray w (Post (fun u ns=>∃ (ur1 : Value) (Sr1 : Nat → Prop) (ur2 : Value) (Sr2 : Nat → Prop) (ur3 : Value) (Sr3 : Nat → Prop),u = .tuple #[.agg [.int .i64 r0,ur1,ur2,ur3].toArray,.bool r4]∧SlLen ur1 r1.length∧SlLen ur2 r2.length∧SlLen ur3 r3.length∧ns = [R.sl Sr1 ur1 r1,R.sl Sr2 ur2 r2,R.sl Sr3 ur3 r3]) w):=by
 unfold spec_BothWays.f at h
 have hl_va0_1:=hr_a0_1.len
 have hl_va0_2:=hr_a0_2.len
 have hl_va0_3:=hr_a0_3.len
 refine Calls.of_tri (N:=13) Tryz.func63 rfl rfl rfl (Sep.nil (M:=noM)) ?_
 refine Tri.seq (Tri.reg (l:=[0,1,2]) rfl ?_)
 refine F.mn rfl (m_boxG rfl rfl) ?_
 rintro _ _ ⟨b1_1,rfl,rfl⟩
 refine F.mn rfl (m_alloc ti65) ?_
 rintro _ _ ⟨b2_1,rfl,rfl⟩
 refine F.qn rfl (r_assign rfl) (F.nil (Nrm.seq (Tri.seq (Tri.seq ?_))))
 obtain ⟨t5,h5,h⟩:=bind_some h
 refine Tri.reg (l:=[0,1,2]) rfl ?_
 refine F.qn rfl (r_loadA ta65 ti65 rfl rfl (fun w hw=>(box_cells (i:=1) rfl w hw))) ?_
 refine F.qcn rfl (q_callF (xs:=_) rfl ok128 rfl rfl (fun w hw=>spec_l11Trap.ok h5 w ((fun _ hw=>hr_a0_1.sep hw) w hw) ((fun _ hw=>hr_a0_2.sep hw) w hw) ((fun _ hw=>hr_a0_3.sep hw) w hw))) ?_
 refine F.qn rfl (r_not rfl) (F.nil (Nrm.seq (Tri.cond (b:=!t5) rfl (fun g_1=>?_) (fun g_1=>?_))))
 ·replace h:=if_tt g_1 h
  refine Tri.seq (Tri.reg (l:=[0,1,2]) rfl ?_)
  refine F.qn rfl (r_build (pl:=[(0,3),(3,1)]) (qs:=[]) (cs:=[.int .i64 0,.slice none 0 0,.slice none 0 0,.slice none 0 0]) (by kernel_rfl) ti65 rfl .nil rfl rfl) ?_
  refine F.ef0 rfl rfl (wanted_none rfl) (d_storeG0 (i:=0) (cs2:=[.int .i64 0,.slice none 0 0,.slice none 0 0,.slice none 0 0]) ti65 rfl rfl rfl rfl rfl (Nat.le_of_ble_eq_true rfl) (lf_cons rfl (lf_cons rfl (lf_cons rfl (lf_cons rfl lf_nil))))) ?_
  rintro _ _ ⟨rfl,rfl⟩
  refine F.qn rfl (r_assign rfl) (F.nil (Nrm.seq (Tri.ret ?_)))
  refine Rtn.then ?_
  cases h
  exact Rtn.body (.cell rfl ta65 ti65 rfl (fun _ hw=>box_cells (i:=0) rfl _ hw) (.tmp rfl .nil)) (fun w hw=>⟨_,_,rfl,⟨.slice none 0 0,fun _=>False,.slice none 0 0,fun _=>False,.slice none 0 0,fun _=>False,rfl,len_nil,len_nil,len_nil,rfl⟩,Sep.pick (is:=[0,1,2]) rfl rfl hw.pushNil.pushNil.pushNil⟩)
 ·replace h:=if_ff g_1 h
  refine Tri.skip (Nrm.seq (Tri.seq ?_))
  obtain ⟨⟨t10_1,t10_2,t10_3⟩,h10,h⟩:=bind_some h
  refine Tri.reg (l:=[0,1,2,3,4,5,6]) rfl ?_
  refine F.qn rfl (r_fieldAddr tf65_0 rfl) (F.qn rfl (r_loadA ta27 ti27 rfl rfl (fun w hw=>cells_1 (cs':=[.int .i64 a0_0,va0_1,va0_2]) (box_cells (i:=1) rfl w hw) rfl)) ?_)
  refine F.mn rfl (m_callF (xs:=_) rfl ok141 rfl rfl (fun w hw=>spec_l2Own.ok h10 w ((fun _ hw=>hr_a0_1.sep hw) w hw) ((fun _ hw=>hr_a0_2.sep hw) w hw))) ?_
  rintro _ _ ⟨_,⟨v10_1,S10_1,v10_2,S10_2,rfl,hl_v10_1,hl_v10_2,rfl⟩,rfl⟩
  refine F.mn rfl (m_build0 (α:=Int) Tryz.underlying25 ti3) ?_
  rintro v11_1 _ ⟨S11_1,hl_v11_1,rfl⟩
  refine F.qn rfl (r_build (pl:=[(0,3),(3,1)]) (qs:=[(0,[.int .i64 t10_1,v10_1,v10_2]),(3,[v11_1])]) (cs:=[.int .i64 t10_1,v10_1,v10_2,v11_1]) (by kernel_rfl) ti65 rfl (.cons rfl rfl (Nat.le_of_ble_eq_true rfl) (.cons (sl_cells hl_v11_1) rfl (Nat.le_of_ble_eq_true rfl) .nil)) rfl rfl) ?_
  refine F.ef0 rfl rfl (wanted_none rfl) (d_storeG0 (i:=3) (cs2:=[.int .i64 t10_1,v10_1,v10_2,v11_1]) ti65 rfl rfl rfl rfl rfl (Nat.le_of_ble_eq_true rfl) (lf_cons rfl (lf_cons (sl_leaf hl_v10_1) (lf_cons (sl_leaf hl_v10_2) (lf_cons (sl_leaf hl_v11_1) lf_nil))))) ?_
  rintro _ _ ⟨rfl,rfl⟩
  refine F.qn rfl (r_assign rfl) (F.nil (Nrm.seq (Tri.ret ?_)))
  cases h
  exact Rtn.body (.cell rfl ta65 ti65 rfl (fun _ hw=>box_cells (i:=3) rfl _ hw) (.tmp rfl .nil)) (fun w hw=>⟨_,_,rfl,⟨v10_1,S10_1,v10_2,S10_2,v11_1,S11_1,rfl,hl_v10_1,hl_v10_2,hl_v11_1,rfl⟩,Sep.pick (is:=[1,2,0]) rfl rfl hw⟩)


def laws_rMaze.l0 (k : Nat) (a0_1 : List (Int × Int × Int)) (a1_1 : List (Int × Int × Int)) : Nat → Int → Option ((Unit) ⊕ (Bool))
 | 0,_=>none
 | n + 1,x5=>(if (decide (x5 < (a0_1.length : Int))) = true then (rdl a0_1 x5).bind fun t38=>(rdl a1_1 x5).bind fun t43=>(if (!decide ((t38.1,t38.2.1,t38.2.2) = (t43.1,t43.2.1,t43.2.2))) = true then some (Sum.inr false) else laws_rMaze.l0 k a0_1 a1_1 n (w64 (x5 + 1))) else some (Sum.inl ()))

def laws_rMaze.f (k : Nat) (a0_0 : Int) (a0_1 : List (Int × Int × Int)) (a0_2 : List Int) (a1_0 : Int) (a1_1 : List (Int × Int × Int)) (a1_2 : List Int) : Option (Bool) := ((if (a0_0 != a1_0) = true then some true else (if ((a0_1.length : Int) != (a1_1.length : Int)) = true then some true else (laws_rInts.f k a0_2 a1_2).bind fun t25 => some (!t25)))).bind fun y27 => (if y27 = true then some false else (laws_rMaze.l0 k a0_1 a1_1 k 0).bind fun s => Lr s some fun _ => some true)

theorem laws_rMaze.ok {k : Nat}  {a0_0 : Int} {a0_1 : List (Int × Int × Int)} {a0_2 : List Int} {a1_0 : Int} {a1_1 : List (Int × Int × Int)} {a1_2 : List Int} {r0 : Bool} (h : laws_rMaze.f k a0_0 a0_1 a0_2 a1_0 a1_1 a1_2 = some r0) (w : World) {va0_1 : Value} {va0_2 : Value} {va1_1 : Value} {va1_2 : Value} (hr_a0_1 : Rd w va0_1 a0_1) (hr_a0_2 : Rd w va0_2 a0_2) (hr_a1_1 : Rd w va1_1 a1_1) (hr_a1_2 : Rd w va1_2 a1_2) :
  Calls Tryz.prog 142 ([.agg ([.int .i64 a0_0,va0_1,va0_2].toArray),.agg ([.int .i64 a1_0,va1_1,va1_2].toArray)] : List Value).toArray w (fun e w'=>e = .returned (.bool r0)∧Ext w w'):=by
 unfold laws_rMaze.f at h
 have hl_va0_1:=hr_a0_1.len
 have hl_va0_2:=hr_a0_2.len
 have hl_va1_1:=hr_a1_1.len
 have hl_va1_2:=hr_a1_2.len
 refine Calls.of_tri (N:=46) Tryz.func142 rfl rfl rfl (Sep.nil (M:=noM)) ?_
 refine Tri.seq (Tri.reg (l:=[0,1,2]) rfl ?_)
 refine F.mn rfl (m_boxG rfl rfl) ?_
 rintro _ _ ⟨b2_1,rfl,rfl⟩
 refine F.mn rfl (m_boxG rfl rfl) ?_
 rintro _ _ ⟨b3_1,rfl,rfl⟩
 refine F.qn rfl (r_assign rfl) (F.nil (Nrm.seq (Tri.seq (Tri.seq ?_))))
 obtain ⟨y27,hE_1,h⟩:=bind_some h
 refine Tri.cut (fun e' C'=>e' = [(2,.pointer (some ⟨b2_1,0,none⟩)),(3,.pointer (some ⟨b3_1,0,none⟩)),(27,.bool y27)]∧C' = Sep w noM [R.box b3_1 27 [.int .i64 a1_0,va1_1,va1_2],R.box b2_1 27 [.int .i64 a0_0,va0_1,va0_2]]) ?_ (fun hj_1=>?_)
 ·rintro _ _ ⟨rfl,rfl⟩
  refine Nrm.seq (Tri.cond (b:=y27) rfl (fun g_1=>?_) (fun g_1=>?_))
  ·replace h:=if_tt g_1 h
   refine Tri.seq (Tri.reg (l:=[0]) rfl ?_)
   refine F.qn rfl (r_assign rfl) (F.nil (Nrm.seq (Tri.ret ?_)))
   refine Rtn.then ?_
   cases h
   exact Rtn.body (.tmp rfl .nil) (fun w hw=>⟨rfl,hw.ext⟩)
  ·replace h:=if_ff g_1 h
   refine Tri.skip (Nrm.seq (Tri.seq (Tri.seq (Tri.reg (l:=[0]) rfl ?_))))
   refine F.qn rfl (r_assign rfl) (F.nil (Nrm.seq ?_))
   obtain ⟨s0,hE_2,h⟩:=bind_some h
   refine Tri.block ?_
   refine Tri.only [2,3,5] rfl ?_
   refine Tri.pick [0,1] rfl rfl ?_
   refine Tri.rounds (fun n e' C'=>∃ (x5' : Int),laws_rMaze.l0 k a0_1 a1_1 n x5' = some s0∧e' = [(2,.pointer (some ⟨b2_1,0,none⟩)),(3,.pointer (some ⟨b3_1,0,none⟩)),(5,.int .i64 x5')]∧C' = Sep w noM [R.box b3_1 27 [.int .i64 a1_0,va1_1,va1_2],R.box b2_1 27 [.int .i64 a0_0,va0_1,va0_2]]) k ?_ ?_ ?_
   ·exact ⟨0,hE_2,rfl,rfl⟩
   ·rintro _ _ ⟨_,hE_2,_⟩
    rw [laws_rMaze.l0.eq_1] at hE_2; cases hE_2
   ·rintro n_1 _ _ ⟨x5,hE_2,rfl,rfl⟩ ih_1
    rw [laws_rMaze.l0.eq_2] at hE_2
    refine Tri.seq (Tri.seq (Tri.reg (l:=[0,1,2,3,4]) rfl ?_))
    refine F.qn rfl (r_move rfl) (F.qn rfl (r_fieldAddr tf27_1 rfl) (F.qn rfl (r_load ta24 rfl (fun w hw=>cell_1 (box_cells (i:=1) rfl w hw) rfl)) (F.qn rfl (r_len Tryz.underlying24 rfl hl_va0_1) (F.qn rfl (r_lss rfl rfl) (F.nil (Nrm.seq (Tri.cond (b:=decide (x5 < (a0_1.length : Int))) rfl (fun g_2=>?_) (fun g_2=>?_))))))))
    ·replace hE_2:=if_tt g_2 hE_2
     refine Tri.skip (Nrm.seq (Tri.seq (Tri.block ?_)))
     refine Tri.seq ?_
     obtain ⟨t38,h38,hE_2⟩:=bind_some hE_2
     obtain ⟨t43,h43,hE_2⟩:=bind_some hE_2
     refine Tri.drawA mixedT Sep.up [(0,true),(1,true),(2,true),(3,true),(4,true),(5,true),(6,true),(7,true),(8,true),(9,true),(10,true)] [] (by kernel_rfl) ?_
     refine S.qn rfl (r_fieldAddr tf27_1 rfl) (S.qn rfl (r_load ta24 rfl (fun w hw=>cell_1 (box_cells (i:=1) rfl w hw) rfl)) (S.qn rfl (r_move rfl) (S.qn rfl (r_indexAddrS Tryz.underlying24 ti168 rfl hl_va0_1 rfl (rdl_some h38).1 (rdl_some h38).2.1) (S.qn rfl (r_loadA ta168 ti168 rfl rfl (fun w hw=>(Rd.flat ((fun _ hw=>hr_a0_1.sep hw) w hw) (rdl_some h38).2.2))) ?_))))
     refine S.qn rfl (r_fieldAddr tf27_1 rfl) (S.qn rfl (r_load ta24 rfl (fun w hw=>cell_1 (box_cells (i:=0) rfl w hw) rfl)) (S.qn rfl (r_move rfl) (S.qn rfl (r_indexAddrS Tryz.underlying24 ti168 rfl hl_va1_1 rfl (rdl_some h43).1 (rdl_some h43).2.1) (S.qn rfl (r_loadA ta168 ti168 rfl rfl (fun w hw=>(Rd.flat ((fun _ hw=>hr_a1_1.sep hw) w hw) (rdl_some h43).2.2))) (S.qn rfl (r_neqA3 Tryz.underlying168 Tryz.underlying3 ti3 ta3 rfl rfl eg168) (S.nil (F.nil (Nrm.seq (Tri.cond (b:=!decide ((t38.1,t38.2.1,t38.2.2) = (t43.1,t43.2.1,t43.2.2))) rfl (fun g_3=>?_) (fun g_3=>?_))))))))))
     ·replace hE_2:=if_tt g_3 hE_2
      refine Tri.seq (Tri.reg (l:=[0]) rfl ?_)
      refine F.qn rfl (r_assign rfl) (F.nil (Nrm.seq (Tri.ret ?_)))
      refine Rtn.block ?_
      refine Rtn.then ?_
      refine Rtn.then ?_
      refine Rtn.block ?_
      refine Rtn.then ?_
      cases hE_2
      replace h:=Lr_inr h
      cases h
      exact Rtn.body (.tmp rfl .nil) (fun w hw=>⟨rfl,hw.ext⟩)
     ·replace hE_2:=if_ff g_3 hE_2
      refine Tri.skip (Nrm.block ?_)
      refine Nrm.seq (Tri.reg (l:=[0,1,2]) rfl ?_)
      refine F.qn rfl (r_move rfl) (F.qn rfl (r_add rfl rfl) (F.qn rfl (r_assign rfl) (F.nil (Nrm.round ?_))))
      refine Rnd.only [2,3,5] rfl ?_
      refine Rnd.pick [0,1] rfl rfl ?_
      exact ih_1 _ _ ⟨w64 (x5 + 1),hE_2,rfl,rfl⟩
    ·replace hE_2:=if_ff g_2 hE_2
     refine Tri.exit ?_
     refine Exi.then ?_
     refine Exi.then ?_
     refine Exi.same ?_
     cases hE_2
     replace h:=Lr_inl h
     refine Nrm.seq (Tri.seq (Tri.reg (l:=[0]) rfl ?_))
     refine F.qn rfl (r_assign rfl) (F.nil (Nrm.seq (Tri.ret ?_)))
     cases h
     exact Rtn.body (.tmp rfl .nil) (fun w hw=>⟨rfl,hw.ext⟩)
 ·rcases Bool.eq_false_or_eq_true (a0_0 != a1_0) with g11 | g11
  ·replace hE_1:=if_tt g11 hE_1
   refine Tri.reg (l:=List.range 22) rfl ?_
   refine F.qn rfl (r_fieldAddr tf27_0 rfl) (F.qn rfl (r_load ta3 rfl (fun w hw=>cell_1 (box_cells (i:=1) rfl w hw) rfl)) (F.qn rfl (r_fieldAddr tf27_0 rfl) (F.qn rfl (r_load ta3 rfl (fun w hw=>cell_1 (box_cells (i:=0) rfl w hw) rfl)) (F.qn rfl (r_neq rfl rfl) (F.qn rfl (r_move rfl) ?_)))))
   iterate 7 refine F.skf rfl g11 ?_
   refine F.qn rfl (r_pick rfl rfl g11) (F.qn rfl (r_move rfl) ?_)
   iterate 6 refine F.skf rfl rfl ?_
   refine F.qn rfl (r_pick rfl rfl rfl) (F.nil ?_)
   cases hE_1
   refine Nrm.only [2,3,27] rfl ?_
   refine Nrm.pick [0,1] rfl rfl ?_
   exact hj_1 _ _ ⟨rfl,rfl⟩
  ·replace hE_1:=if_ff g11 hE_1
   rcases Bool.eq_false_or_eq_true ((a0_1.length : Int) != (a1_1.length : Int)) with g20 | g20
   ·replace hE_1:=if_tt g20 hE_1
    refine Tri.reg (l:=List.range 22) rfl ?_
    refine F.qn rfl (r_fieldAddr tf27_0 rfl) (F.qn rfl (r_load ta3 rfl (fun w hw=>cell_1 (box_cells (i:=1) rfl w hw) rfl)) (F.qn rfl (r_fieldAddr tf27_0 rfl) ?_))
    refine F.qn rfl (r_load ta3 rfl (fun w hw=>cell_1 (box_cells (i:=0) rfl w hw) rfl)) (F.qn rfl (r_neq rfl rfl) (F.qn rfl (r_move rfl) (F.qg rfl g11 (r_fieldAddr tf27_1 rfl) (F.qg rfl g11 (r_load ta24 rfl (fun w hw=>cell_1 (box_cells (i:=1) rfl w hw) rfl)) (F.qg rfl g11 (r_len Tryz.underlying24 rfl hl_va0_1) ?_)))))
    refine F.qg rfl g11 (r_fieldAddr tf27_1 rfl) (F.qg rfl g11 (r_load ta24 rfl (fun w hw=>cell_1 (box_cells (i:=0) rfl w hw) rfl)) (F.qg rfl g11 (r_len Tryz.underlying24 rfl hl_va1_1) (F.qg rfl g11 (r_neq rfl rfl) (F.qn rfl (r_pickf rfl rfl g11) (F.qn rfl (r_move rfl) ?_)))))
    iterate 6 refine F.skf rfl g20 ?_
    refine F.qn rfl (r_pick rfl rfl g20) (F.nil ?_)
    cases hE_1
    refine Nrm.only [2,3,27] rfl ?_
    refine Nrm.pick [0,1] rfl rfl ?_
    exact hj_1 _ _ ⟨rfl,rfl⟩
   ·replace hE_1:=if_ff g20 hE_1
    obtain ⟨t25,h25,hE_1⟩:=bind_some hE_1
    refine Tri.reg (l:=List.range 22) rfl ?_
    refine F.qn rfl (r_fieldAddr tf27_0 rfl) ?_
    refine F.qn rfl (r_load ta3 rfl (fun w hw=>cell_1 (box_cells (i:=1) rfl w hw) rfl)) (F.qn rfl (r_fieldAddr tf27_0 rfl) (F.qn rfl (r_load ta3 rfl (fun w hw=>cell_1 (box_cells (i:=0) rfl w hw) rfl)) (F.qn rfl (r_neq rfl rfl) (F.qn rfl (r_move rfl) (F.qg rfl g11 (r_fieldAddr tf27_1 rfl) ?_)))))
    refine F.qg rfl g11 (r_load ta24 rfl (fun w hw=>cell_1 (box_cells (i:=1) rfl w hw) rfl)) (F.qg rfl g11 (r_len Tryz.underlying24 rfl hl_va0_1) (F.qg rfl g11 (r_fieldAddr tf27_1 rfl) (F.qg rfl g11 (r_load ta24 rfl (fun w hw=>cell_1 (box_cells (i:=0) rfl w hw) rfl)) (F.qg rfl g11 (r_len Tryz.underlying24 rfl hl_va1_1) (F.qg rfl g11 (r_neq rfl rfl) ?_)))))
    refine F.qn rfl (r_pickf rfl rfl g11) (F.qn rfl (r_move rfl) (F.qg rfl g20 (r_fieldAddr tf27_2 rfl) (F.qg rfl g20 (r_load ta25 rfl (fun w hw=>cell_1 (box_cells (i:=1) rfl w hw) rfl)) (F.qg rfl g20 (r_fieldAddr tf27_2 rfl) (F.qg rfl g20 (r_load ta25 rfl (fun w hw=>cell_1 (box_cells (i:=0) rfl w hw) rfl)) ?_)))))
    refine F.qc rfl rfl rfl (wg rfl rfl rfl g20) (q_callF (xs:=_) rfl ok51 rfl rfl (fun w hw=>laws_rInts.ok h25 w ((fun _ hw=>hr_a0_2.sep hw) w hw) ((fun _ hw=>hr_a1_2.sep hw) w hw))) ?_
    refine F.qg rfl g20 (r_not rfl) (F.qn rfl (r_pickf rfl rfl g20) (F.nil ?_))
    cases hE_1
    refine Nrm.only [2,3,27] rfl ?_
    refine Nrm.pick [0,1] rfl rfl ?_
    exact hj_1 _ _ ⟨rfl,rfl⟩


def laws_rTrap.f (k : Nat) (a0_0 : Int) (a0_1 : List (Int × Int × Int)) (a0_2 : List Int) (a0_3 : List Int) (a1_0 : Int) (a1_1 : List (Int × Int × Int)) (a1_2 : List Int) (a1_3 : List Int) : Option (Bool) := ((laws_rMaze.f k a0_0 a0_1 a0_2 a1_0 a1_1 a1_2).bind fun t9 => (if t9 = true then (laws_rInts.f k a0_3 a1_3).bind fun t15 => some t15 else some false)).bind fun y4 => some y4

theorem laws_rTrap.ok {k : Nat}  {a0_0 : Int} {a0_1 : List (Int × Int × Int)} {a0_2 : List Int} {a0_3 : List Int} {a1_0 : Int} {a1_1 : List (Int × Int × Int)} {a1_2 : List Int} {a1_3 : List Int} {r0 : Bool} (h : laws_rTrap.f k a0_0 a0_1 a0_2 a0_3 a1_0 a1_1 a1_2 a1_3 = some r0) (w : World) {va0_1 : Value} {va0_2 : Value} {va0_3 : Value} {va1_1 : Value} {va1_2 : Value} {va1_3 : Value} (hr_a0_1 : Rd w va0_1 a0_1) (hr_a0_2 : Rd w va0_2 a0_2) (hr_a0_3 : Rd w va0_3 a0_3) (hr_a1_1 : Rd w va1_1 a1_1) (hr_a1_2 : Rd w va1_2 a1_2) (hr_a1_3 : Rd w va1_3 a1_3) :
  Calls Tryz.prog 64 ([.agg ([.int .i64 a0_0,va0_1,va0_2,va0_3].toArray),.agg ([.int .i64 a1_0,va1_1,va1_2,va1_3].toArray)] : List Value).toArray w (fun e w'=>e = .returned (.bool r0)∧Ext w w'):=by
 unfold laws_rTrap.f at h
 have hl_va0_1:=hr_a0_1.len
 have hl_va0_2:=hr_a0_2.len
 have hl_va0_3:=hr_a0_3.len
 have hl_va1_1:=hr_a1_1.len
 have hl_va1_2:=hr_a1_2.len
 have hl_va1_3:=hr_a1_3.len
 refine Calls.of_tri (N:=17) Tryz.func64 rfl rfl rfl (Sep.nil (M:=noM)) ?_
 refine Tri.seq (Tri.reg (l:=[0,1,2]) rfl ?_)
 refine F.mn rfl (m_boxG rfl rfl) ?_
 rintro _ _ ⟨b2_1,rfl,rfl⟩
 refine F.mn rfl (m_boxG rfl rfl) ?_
 rintro _ _ ⟨b3_1,rfl,rfl⟩
 refine F.qn rfl (r_assign rfl) (F.nil (Nrm.seq (Tri.seq ?_)))
 obtain ⟨y4,hE_1,h⟩:=bind_some h
 refine Tri.cut (fun e' C'=>e' = [(4,.bool y4)]∧C' = Sep w noM []) ?_ (fun hj_1=>?_)
 ·rintro _ _ ⟨rfl,rfl⟩
  refine Nrm.seq (Tri.ret ?_)
  cases h
  exact Rtn.body (.tmp rfl .nil) (fun w hw=>⟨rfl,hw.ext⟩)
 ·obtain ⟨t9,h9,hE_1⟩:=bind_some hE_1
  rcases Bool.eq_false_or_eq_true (t9) with g10 | g10
  ·replace hE_1:=if_tt g10 hE_1
   obtain ⟨t15,h15,hE_1⟩:=bind_some hE_1
   refine Tri.reg (l:=List.range 13) rfl ?_
   refine F.qn rfl (r_fieldAddr tf65_0 rfl) (F.qn rfl (r_loadA ta27 ti27 rfl rfl (fun w hw=>cells_1 (cs':=[.int .i64 a0_0,va0_1,va0_2]) (box_cells (i:=1) rfl w hw) rfl)) (F.qn rfl (r_fieldAddr tf65_0 rfl) (F.qn rfl (r_loadA ta27 ti27 rfl rfl (fun w hw=>cells_1 (cs':=[.int .i64 a1_0,va1_1,va1_2]) (box_cells (i:=0) rfl w hw) rfl)) ?_)))
   refine F.qcn rfl (q_callF (xs:=_) rfl ok142 rfl rfl (fun w hw=>laws_rMaze.ok h9 w ((fun _ hw=>hr_a0_1.sep hw) w hw) ((fun _ hw=>hr_a0_2.sep hw) w hw) ((fun _ hw=>hr_a1_1.sep hw) w hw) ((fun _ hw=>hr_a1_2.sep hw) w hw))) ?_
   refine F.qn rfl (r_move rfl) (F.qg rfl g10 (r_fieldAddr tf65_1 rfl) (F.qg rfl g10 (r_load ta25 rfl (fun w hw=>cell_1 (box_cells (i:=1) rfl w hw) rfl)) (F.qg rfl g10 (r_fieldAddr tf65_1 rfl) (F.qg rfl g10 (r_load ta25 rfl (fun w hw=>cell_1 (box_cells (i:=0) rfl w hw) rfl)) ?_))))
   refine F.qc rfl rfl rfl (wg rfl rfl rfl g10) (q_callF (xs:=_) rfl ok51 rfl rfl (fun w hw=>laws_rInts.ok h15 w ((fun _ hw=>hr_a0_3.sep hw) w hw) ((fun _ hw=>hr_a1_3.sep hw) w hw))) ?_
   refine F.qn rfl (r_pick rfl rfl g10) (F.qn rfl (r_assign rfl) (F.nil ?_))
   cases hE_1
   refine Nrm.only [4] rfl ?_
   refine Nrm.pick [] rfl rfl ?_
   exact hj_1 _ _ ⟨rfl,rfl⟩
  ·replace hE_1:=if_ff g10 hE_1
   refine Tri.reg (l:=List.range 13) rfl ?_
   refine F.qn rfl (r_fieldAddr tf65_0 rfl) (F.qn rfl (r_loadA ta27 ti27 rfl rfl (fun w hw=>cells_1 (cs':=[.int .i64 a0_0,va0_1,va0_2]) (box_cells (i:=1) rfl w hw) rfl)) (F.qn rfl (r_fieldAddr tf65_0 rfl) (F.qn rfl (r_loadA ta27 ti27 rfl rfl (fun w hw=>cells_1 (cs':=[.int .i64 a1_0,va1_1,va1_2]) (box_cells (i:=0) rfl w hw) rfl)) ?_)))
   refine F.qcn rfl (q_callF (xs:=_) rfl ok142 rfl rfl (fun w hw=>laws_rMaze.ok h9 w ((fun _ hw=>hr_a0_1.sep hw) w hw) ((fun _ hw=>hr_a0_2.sep hw) w hw) ((fun _ hw=>hr_a1_1.sep hw) w hw) ((fun _ hw=>hr_a1_2.sep hw) w hw))) ?_
   refine F.qn rfl (r_move rfl) ?_
   iterate 5 refine F.skf rfl g10 ?_
   refine F.qn rfl (r_pickf rfl rfl g10) (F.qn rfl (r_assign rfl) (F.nil ?_))
   cases hE_1
   refine Nrm.only [4] rfl ?_
   refine Nrm.pick [] rfl rfl ?_
   exact hj_1 _ _ ⟨rfl,rfl⟩


def spec_DrawTurnDoor.f (k : Nat) (a0 : List By) : Option (Int × (List (Int × Int × Int)) × (List Int) × (List Int) × Int) := (spec_l1Cur_trap.f k a0 0 0).bind fun (t10_1, t10_2, t10_3, t10_4, t10_5, t10_6) => ((spec_l1Cur_pick.f k a0 t10_5 t10_6 (w64 ((t10_2.length : Int) + 1))).bind fun (t18_1, t18_2, t18_3) => (spec_l1Cur_pick.f k a0 t18_2 t18_3 24).bind fun (t20_1, t20_2, t20_3) => some (w64 (t18_1 - (quo t20_1 23)), t10_1)).bind fun (y3, yb2_1_0) => some (yb2_1_0, t10_2, t10_3, t10_4, y3)

theorem spec_DrawTurnDoor.ok {k : Nat}  {a0 : List By} {r0 : Int} {r1 : List (Int × Int × Int)} {r2 : List Int} {r3 : List Int} {r4 : Int} (h : spec_DrawTurnDoor.f k a0 = some (r0, r1, r2, r3, r4)) (w : World) {va0 : Value} (hr_a0 : Rd w va0 a0) :
  Calls Tryz.prog 65 ([va0] : List Value).toArray w (Post (fun u ns=>∃ (ur1 : Value) (Sr1 : Nat → Prop) (ur2 : Value) (Sr2 : Nat → Prop) (ur3 : Value) (Sr3 : Nat → Prop),u = .tuple #[.agg [.int .i64 r0,ur1,ur2,ur3].toArray,.int .i64 r4]∧SlLen ur1 r1.length∧SlLen ur2 r2.length∧SlLen ur3 r3.length∧ns = [R.sl Sr1 ur1 r1,R.sl Sr2 ur2 r2,R.sl Sr3 ur3 r3]) w):=by
 unfold spec_DrawTurnDoor.f at h
 have hl_va0:=hr_a0.len
 refine Calls.of_tri (N:=23) Tryz.func65 rfl rfl rfl (Sep.nil (M:=noM)) ?_
 refine Tri.seq (Tri.reg (l:=[0,1]) rfl ?_)
 refine F.mn rfl (m_alloc ti65) ?_
 rintro _ _ ⟨b2_1,rfl,rfl⟩
 refine F.qn rfl (r_assign rfl) (F.nil (Nrm.seq (Tri.seq (Tri.reg (l:=[0,1,2,3]) rfl ?_))))
 refine F.qn rfl (r_move rfl) (F.qn rfl (r_build (pl:=[(0,1),(1,1),(2,1)]) (qs:=[(0,[va0])]) (cs:=[va0,.int .i64 0,.int .u64 0]) (by kernel_rfl) ti114 rfl (.cons (sl_cells hl_va0) rfl (Nat.le_of_ble_eq_true rfl) .nil) rfl rfl) ?_)
 refine F.mn rfl (m_boxG rfl rfl) ?_
 rintro _ _ ⟨b8_1,rfl,rfl⟩
 refine F.qn rfl (r_assign rfl) (F.nil (Nrm.seq (Tri.seq ?_)))
 obtain ⟨⟨t10_1,t10_2,t10_3,t10_4,t10_5,t10_6⟩,h10,h⟩:=bind_some h
 refine Tri.reg (l:=[0,1,2,3]) rfl ?_
 refine F.qn rfl (r_move rfl) ?_
 refine F.efn rfl (d_callM (xs:=_) (cs:=[R.box b8_1 114 [va0,.int .i64 0,.int .u64 0]]) (rest:=[R.box b2_1 65 [.int .i64 0,.slice none 0 0,.slice none 0 0,.slice none 0 0]]) [0] [1] rfl ok143 rfl rfl rfl rfl (fun w hw=>spec_l1Cur_trap.ok h10 w (hr_a0.down hw) (Sep.sub hw))) ?_
 rintro _ _ ⟨_,⟨v10_1,S10_1,v10_2,S10_2,v10_3,S10_3,rfl,hl_v10_1,hl_v10_2,hl_v10_3,rfl⟩,rfl⟩
 refine F.mn rfl (m_alloc ti65) ?_
 rintro _ _ ⟨b5_1,rfl,rfl⟩
 refine F.ef0 rfl rfl (wanted_none rfl) (d_storeG0 (i:=0) (cs2:=[.int .i64 t10_1,v10_1,v10_2,v10_3]) ti65 rfl rfl rfl rfl rfl (Nat.le_of_ble_eq_true rfl) (lf_cons rfl (lf_cons (sl_leaf hl_v10_1) (lf_cons (sl_leaf hl_v10_2) (lf_cons (sl_leaf hl_v10_3) lf_nil))))) ?_
 rintro _ _ ⟨rfl,rfl⟩
 refine F.nil (Nrm.seq (Tri.seq ?_))
 obtain ⟨⟨y3,yb2_1_0⟩,hE_1,h⟩:=bind_some h
 refine Tri.cut (fun e' C'=>e' = [(2,.pointer (some ⟨b2_1,0,none⟩)),(3,.int .i64 y3)]∧C' = Sep w noM [R.box b2_1 65 [.int .i64 yb2_1_0,v10_1,v10_2,v10_3],R.sl S10_1 v10_1 (t10_2 : List (Int × Int × Int)),R.sl S10_2 v10_2 (t10_3 : List (Int)),R.sl S10_3 v10_3 (t10_4 : List (Int))]) ?_ (fun hj_1=>?_)
 ·rintro _ _ ⟨rfl,rfl⟩
  refine Nrm.seq (Tri.ret ?_)
  cases h
  exact Rtn.body (.cell rfl ta65 ti65 rfl (fun _ hw=>box_cells (i:=0) rfl _ hw) (.tmp rfl .nil)) (fun w hw=>⟨_,_,rfl,⟨v10_1,S10_1,v10_2,S10_2,v10_3,S10_3,rfl,hl_v10_1,hl_v10_2,hl_v10_3,rfl⟩,Sep.pick (is:=[1,2,3]) rfl rfl hw⟩)
 ·obtain ⟨⟨t18_1,t18_2,t18_3⟩,h18,hE_1⟩:=bind_some hE_1
  obtain ⟨⟨t20_1,t20_2,t20_3⟩,h20,hE_1⟩:=bind_some hE_1
  refine Tri.drawTK (B:=Sep w noM [R.box b5_1 65 [.int .i64 t10_1,v10_1,v10_2,v10_3],R.sl S10_1 v10_1 (t10_2 : List (Int × Int × Int)),R.sl S10_2 v10_2 (t10_3 : List (Int)),R.sl S10_3 v10_3 (t10_4 : List (Int))]) mixedT Sep.up [0,1,2,3,4,5,6,8,7,9,10,11,12] [13] (.q 0 (.q 1 (.q 2 (.q 3 (.q 4 (.q 5 (.q 6 (.q 8 (.alt 7 (.alt 9 (.q 10 (.q 11 (.alt 12 .nil .stop))) .stop) .stop))))))))) (by kernel_rfl) ?_
  refine TK.q [0,1,2,3] rfl rfl rfl rfl rfl (wanted_none rfl) (r_loadA ta65 ti65 rfl rfl (fun w hw=>(box_cells (i:=0) rfl w hw))) ?_
  refine TK.q [0,1,2,3] rfl rfl rfl rfl rfl (wanted_none rfl) (r_move rfl) ?_
  refine TK.q [0,1,2,3] rfl rfl rfl rfl rfl (wanted_none rfl) (r_fieldAddr tf65_0 rfl) ?_
  refine TK.q [0,1,2,3] rfl rfl rfl rfl rfl (wanted_none rfl) (r_fieldAddr tf27_1 rfl) ?_
  refine TK.q [0,1,2,3] rfl rfl rfl rfl rfl (wanted_none rfl) (r_load ta24 rfl (fun w hw=>cell_2 (box_cells (i:=0) rfl w hw) rfl)) ?_
  refine TK.q [0,1,2,3] rfl rfl rfl rfl rfl (wanted_none rfl) (r_len Tryz.underlying24 rfl hl_v10_1) ?_
  refine TK.q [0,1,2,3] rfl rfl rfl rfl rfl (wanted_none rfl) (r_add rfl rfl) ?_
  refine TK.q [0,1,2,3] rfl rfl rfl rfl rfl (wanted_none rfl) (r_move rfl) ?_
  refine T.ef rfl rfl rfl (wanted_none rfl) (d_callM (xs:=_) (cs:=[R.box b8_1 114 [va0,.int .i64 t10_5,.int .u64 t10_6]]) (rest:=[R.box b5_1 65 [.int .i64 t10_1,v10_1,v10_2,v10_3],R.sl S10_1 v10_1 (t10_2 : List (Int × Int × Int)),R.sl S10_2 v10_2 (t10_3 : List (Int)),R.sl S10_3 v10_3 (t10_4 : List (Int)),R.box b2_1 65 [.int .i64 0,.slice none 0 0,.slice none 0 0,.slice none 0 0]]) [4] [0,1,2,3,5] rfl ok115 rfl rfl rfl rfl (fun w hw=>spec_l1Cur_pick.ok h18 w (hr_a0.down hw) (Sep.sub hw))) (by rintro _ _ ⟨_,⟨rfl,rfl⟩,rfl⟩; exact upd rfl [1,2,3,4] rfl rfl) ?_ ?_
  ·rintro _ _ ⟨_,⟨rfl,rfl⟩,rfl⟩
   refine T.ef rfl rfl rfl (wanted_none rfl) (d_callM (xs:=_) (cs:=[R.box b8_1 114 [va0,.int .i64 t18_2,.int .u64 t18_3]]) (rest:=[R.box b5_1 65 [.int .i64 t10_1,v10_1,v10_2,v10_3],R.sl S10_1 v10_1 (t10_2 : List (Int × Int × Int)),R.sl S10_2 v10_2 (t10_3 : List (Int)),R.sl S10_3 v10_3 (t10_4 : List (Int)),R.box b2_1 65 [.int .i64 0,.slice none 0 0,.slice none 0 0,.slice none 0 0]]) [0] [1,2,3,4,5] rfl ok115 rfl rfl rfl rfl (fun w hw=>spec_l1Cur_pick.ok h20 w (hr_a0.down hw) (Sep.sub hw))) (by rintro _ _ ⟨_,⟨rfl,rfl⟩,rfl⟩; exact upd rfl [1,2,3,4] rfl rfl) ?_ ?_
   ·rintro _ _ ⟨_,⟨rfl,rfl⟩,rfl⟩
    refine TK.q [1,2,3,4] rfl rfl rfl rfl rfl (wanted_none rfl) (r_quo rfl rfl (by decide)) ?_
    refine TK.q [1,2,3,4] rfl rfl rfl rfl rfl (wanted_none rfl) (r_sub rfl rfl) ?_
    refine T.ef0 rfl rfl (wanted_none rfl) (d_storeG0 (i:=5) (cs2:=[.int .i64 t10_1,v10_1,v10_2,v10_3]) ti65 rfl rfl rfl rfl rfl (Nat.le_of_ble_eq_true rfl) (lf_cons rfl (lf_cons (sl_leaf hl_v10_1) (lf_cons (sl_leaf hl_v10_2) (lf_cons (sl_leaf hl_v10_3) lf_nil))))) (by rintro _ _ ⟨rfl,rfl⟩; exact upd rfl [1,2,3,4] rfl rfl) ?_ ?_
    ·rintro _ _ ⟨rfl,rfl⟩
     refine T.nil ?_
     refine F.qn rfl (r_assign rfl) (F.nil ?_)
     cases hE_1
     refine Nrm.only [2,3] rfl ?_
     refine Nrm.pick [5,2,3,4] rfl rfl ?_
     exact hj_1 _ _ ⟨rfl,rfl⟩
    exact T.stop
   exact T.stop
  exact T.stop

end Go.Proofs

/- Contracts of the library, laid at this seat. 94a58ba254ad6871 -/
namespace Go.Proofs
open Go.Shelf
def Tryz.searchI_ren : Go.Shelf.Ren := ⟨fun | 25 => 145 | 31 => 218 | 32 => 219 | 37 => 245 | n => n, fun | 22 => 25 | 3 => 3 | 4 => 4 | 40 => 192 | 0 => 0 | n => n, fun | n => n⟩
theorem Tryz.searchI : Go.Proofs.Lays2.n25 Tryz.prog Tryz.searchI_ren := {
 mixed:=by kernel_rfl
 f25:=Tryz.func145.trans (congrArg some (by kernel_rfl))
 f31:=Tryz.func218.trans (congrArg some (by kernel_rfl))
 f32:=Tryz.func219.trans (congrArg some (by kernel_rfl))
 f37:=Tryz.func245.trans (congrArg some (by kernel_rfl))
 t0:=Tryz.underlying0
 a0:=Tryz.isAgg0
 z0:=Tryz.sizeOf0
 v0:=Tryz.zeroValue0
 t3:=Tryz.underlying3
 a3:=Tryz.isAgg3
 z3:=Tryz.sizeOf3
 v3:=Tryz.zeroValue3
 t4:=Tryz.underlying4
 a4:=Tryz.isAgg4
 z4:=Tryz.sizeOf4
 v4:=Tryz.zeroValue4
 t22:=Tryz.underlying25
 a22:=Tryz.isAgg25
 z22:=Tryz.sizeOf25
 v22:=Tryz.zeroValue25
 t40:=Tryz.underlying192
 a40:=Tryz.isAgg192
 z40:=Tryz.sizeOf192
 v40:=Tryz.zeroValue192 }
def Tryz.insertI_ren : Go.Shelf.Ren := ⟨fun | 21 => 147 | 27 => 220 | 28 => 221 | 35 => 246 | 39 => 268 | n => n, fun | 22 => 25 | 3 => 3 | 4 => 4 | 0 => 0 | n => n, fun | n => n⟩
theorem Tryz.insertI : Go.Proofs.Lays2.n21 Tryz.prog Tryz.insertI_ren := {
 mixed:=by kernel_rfl
 f21:=Tryz.func147.trans (congrArg some (by kernel_rfl))
 f27:=Tryz.func220.trans (congrArg some (by kernel_rfl))
 f28:=Tryz.func221.trans (congrArg some (by kernel_rfl))
 f35:=Tryz.func246.trans (congrArg some (by kernel_rfl))
 f39:=Tryz.func268.trans (congrArg some (by kernel_rfl))
 t0:=Tryz.underlying0
 a0:=Tryz.isAgg0
 z0:=Tryz.sizeOf0
 v0:=Tryz.zeroValue0
 t3:=Tryz.underlying3
 a3:=Tryz.isAgg3
 z3:=Tryz.sizeOf3
 v3:=Tryz.zeroValue3
 t4:=Tryz.underlying4
 a4:=Tryz.isAgg4
 z4:=Tryz.sizeOf4
 v4:=Tryz.zeroValue4
 t22:=Tryz.underlying25
 a22:=Tryz.isAgg25
 z22:=Tryz.sizeOf25
 v22:=Tryz.zeroValue25
 i3:=by kernel_rfl }
end Go.Proofs

/- slices.BinarySearch[[]int,int] -/

namespace Go.Proofs
open Go Go.Ga
set_option linter.unusedVariables false
set_option maxRecDepth 100000
set_option maxHeartbeats 4000000
def slices_BinarySearch_int_int.f (k : Nat) (a0 : List Int) (a1 : Int) : Option (Int × Bool) := if a0.Pairwise (· ≤ ·) ∧ a0.length < 4611686018427387904 then some (((a0.countP fun y => decide (y < a1) : Nat) : Int), a0.contains a1) else none

theorem slices_BinarySearch_int_int.ok {k : Nat} {a0 : List Int} {a1 : Int} {r0 : Int} {r1 : Bool} (h : slices_BinarySearch_int_int.f k a0 a1 = some (r0, r1)) (w : World) {va0 : Value} (hr_a0 : Rd w va0 a0) :
  Calls Tryz.prog 145 ([va0,.int .i64 a1] : List Value).toArray w (fun e w'=>e = .returned (.tuple #[.int .i64 r0,.bool r1])∧Ext w w'):=by
 unfold slices_BinarySearch_int_int.f at h
 split at h
 rotate_left 1
 ·cases h
 rename_i hc
 cases h
 exact search_ok Tryz.searchI hc.1 hc.2 w hr_a0


def slices_Delete_int_int.f (k : Nat) (a0 : List Int) (a1 : Int) (a2 : Int) : Option ((List Int)) := (slc a0 a1 a2).bind fun t13 => (if (a1 == a2) = true then some a0 else (slc a0 0 a1).bind fun t22 => (slc a0 a2 (a0.length : Int)).bind fun t25 => if a1 ≤ a2 then some (t22 ++ t25) else none)

theorem slices_Delete_int_int.ok {k : Nat}  {a0 : List Int} {a1 : Int} {a2 : Int} {r0 : List Int} (h : slices_Delete_int_int.f k a0 a1 a2 = some r0) (w : World) {va0 : Value} {Sa0 : Nat → Prop} (hl_va0 : SlLen va0 a0.length) (hw0 : Sep w (footM [R.sl Sa0 va0 a0]) [R.sl Sa0 va0 a0] w) :
  Calls Tryz.prog 146 ([va0,.int .i64 a1,.int .i64 a2] : List Value).toArray w (PostM (footM [R.sl Sa0 va0 a0]) (fun u ns=>∃ (Sr0 : Nat → Prop),SlLen u r0.length∧ns = [R.sl Sr0 u r0]) w):=by
 unfold slices_Delete_int_int.f at h
 have hcap_va0:=SlOwn.cap (hw0.get (i:=0) rfl)
 refine Calls.of_tri (N:=33) Tryz.func146 rfl rfl rfl hw0 ?_
 refine Tri.seq (Tri.reg (l:=[0]) rfl ?_)
 refine F.qn rfl (r_assign rfl) (F.nil (Nrm.seq (Tri.seq ?_)))
 obtain ⟨t13,h13,h⟩:=bind_some h
 refine Tri.reg (l:=[0,1,2,3,4,5]) rfl ?_
 iterate 4 refine F.qn rfl (r_move rfl) ?_
 refine F.qn rfl (r_len Tryz.underlying25 rfl hl_va0) (F.qn rfl (r_slice3 Tryz.underlying25 ti3 rfl (rd_sl (i:=0) rfl) rfl rfl rfl h13) (F.nil (Nrm.seq (Tri.seq (Tri.seq (Tri.reg (l:=[0,1,2]) rfl ?_))))))
 refine F.qn rfl (r_move rfl) (F.qn rfl (r_move rfl) (F.qn rfl (r_eql rfl rfl) (F.nil (Nrm.seq (Tri.cond (b:=a1 == a2) rfl (fun g_1=>?_) (fun g_1=>?_))))))
 ·replace h:=if_tt g_1 h
  refine Tri.seq (Tri.reg (l:=[0,1]) rfl ?_)
  refine F.qn rfl (r_move rfl) (F.qn rfl (r_assign rfl) (F.nil (Nrm.seq (Tri.ret ?_))))
  refine Rtn.then ?_
  cases h
  exact Rtn.body (.tmp rfl .nil) (fun w hw=>⟨_,_,rfl,⟨Sa0,hl_va0,rfl⟩,Sep.pick (is:=[0]) rfl rfl hw⟩)
 ·replace h:=if_ff g_1 h
  refine Tri.skip (Nrm.seq (Tri.seq (Tri.reg (l:=[0,1,2]) rfl ?_)))
  refine F.qn rfl (r_move rfl) (F.qn rfl (r_len Tryz.underlying25 rfl hl_va0) (F.qn rfl (r_assign rfl) (F.nil (Nrm.seq (Tri.seq ?_)))))
  obtain ⟨t22,h22,h⟩:=bind_some h
  obtain ⟨t25,h25,h⟩:=bind_some h
  obtain ⟨hs26,h⟩:=ck h
  refine Tri.drawA mixedT Sep.up [(0,true),(1,true),(2,true),(3,true),(4,true),(5,true)] [6,7] (by kernel_rfl) ?_
  refine S.qn rfl (r_move rfl) (S.qn rfl (r_move rfl) (S.qn rfl (r_sliceH Tryz.underlying25 ti3 rfl (rd_sl (i:=0) rfl) rfl h22) (S.qn rfl (r_move rfl) (S.qn rfl (r_move rfl) (S.qn rfl (r_sliceL Tryz.underlying25 ti3 rfl (rd_sl (i:=0) rfl) rfl h25) (S.nil (F.efn rfl (d_appendSelf (p:=0) Tryz.underlying25 Tryz.underlying25 ti3 rfl rfl rfl h22 h25 hs26) ?_)))))))
  rintro _ _ ⟨rfl,rfl⟩
  refine F.qn rfl (r_assign rfl) (F.nil (Nrm.seq (Tri.seq (Tri.reg (l:=[0,1,2,3,4,5]) rfl ?_))))
  refine F.qn rfl (r_move rfl) (F.qn rfl (r_move rfl) (F.qn rfl (r_len Tryz.underlying25 rfl (slTo_len hl_va0 (self_le h22 h25 hs26))) (F.qn rfl (r_move rfl) (F.qn rfl (r_sliceBeyond (m:=(t22 ++ t25).length) (q:=a0.length) Tryz.underlying25 ti3 rfl hcap_va0 rfl rfl (self_le h22 h25 hs26)) ?_))))
  refine F.ef0 rfl rfl (wanted_none rfl) (d_clearBeyond (p:=0) (x0:=(0 : Int)) Tryz.underlying25 ti3 rfl rfl rfl rfl (self_le h22 h25 hs26) hcap_va0) ?_
  rintro _ _ rfl
  refine F.nil (Nrm.seq (Tri.seq (Tri.reg (l:=[0,1]) rfl ?_)))
  refine F.qn rfl (r_move rfl) (F.qn rfl (r_assign rfl) (F.nil (Nrm.seq (Tri.ret ?_))))
  cases h
  exact Rtn.body (.tmp rfl .nil) (fun w hw=>⟨_,_,rfl,⟨Sa0,(slTo_len hl_va0 (self_le h22 h25 hs26)),rfl⟩,Sep.pick (is:=[0]) rfl rfl hw⟩)


theorem slices_Clone_int_int.okc {k : Nat}  {a0 : List Int} {r0 : List Int} (h : slices_Clone_int_int.f k a0 = some r0) (w : World) {va0 : Value} (hr_a0 : Rd w va0 a0) :
  Calls Tryz.prog 144 ([va0] : List Value).toArray w (Post (fun u ns=>∃ (Sr0 : Nat → Prop),SlLen u r0.length∧Cap63 u∧ns = [R.sl Sr0 u r0]) w):=by
 unfold slices_Clone_int_int.f at h
 have hl_va0:=hr_a0.len
 rcases Rd.cases hr_a0 with ⟨rfl,rfl⟩ | ⟨pa0,ca0,rfl⟩
 ·replace h : some [] = some r0:=by simpa using h
  refine Calls.of_tri (N:=8) Tryz.func144 rfl rfl rfl (Sep.nil (M:=noM)) ?_
  refine Tri.seq (Tri.reg (l:=[0]) rfl ?_)
  refine F.qn rfl (r_assign rfl) (F.nil (Nrm.seq (Tri.seq (Tri.seq (Tri.reg (l:=[0,1]) rfl ?_)))))
  refine F.qn rfl (r_move rfl) (F.qn rfl (r_eqlNN Tryz.underlying25 rfl rfl) (F.nil (Nrm.seq (Tri.condT rfl rfl ?_))))
  refine Tri.seq (Tri.reg (l:=[0]) rfl ?_)
  refine F.qn rfl (r_assign rfl) (F.nil (Nrm.seq (Tri.ret ?_)))
  refine Rtn.then ?_
  cases h
  exact Rtn.body (.tmp rfl .nil) (fun w hw=>⟨_,_,rfl,⟨fun _=>False,len_nil,cap63_nil,rfl⟩,Sep.pick (is:=[0]) rfl rfl hw.pushNil⟩)
 ·refine Calls.of_tri (N:=8) Tryz.func144 rfl rfl rfl (Sep.nil (M:=noM)) ?_
  refine Tri.seq (Tri.reg (l:=[0]) rfl ?_)
  refine F.qn rfl (r_assign rfl) (F.nil (Nrm.seq (Tri.seq (Tri.seq (Tri.reg (l:=[0,1]) rfl ?_)))))
  refine F.qn rfl (r_move rfl) (F.qn rfl (r_eqlN Tryz.underlying25 rfl rfl ⟨_,_,rfl⟩) (F.nil (Nrm.seq (Tri.condF rfl rfl ?_))))
  refine Tri.skip (Nrm.seq (Tri.seq ?_))
  obtain ⟨hs7,h⟩:=ck h
  refine Tri.reg (l:=[0,1,2,3]) rfl ?_
  refine F.mn rfl (m_build0C (α:=Int) Tryz.underlying25 ti3) ?_
  rintro v5_1 _ ⟨S5_1,hl_v5_1,hc_v5_1,rfl⟩
  refine F.qn rfl (r_move rfl) ?_
  refine F.efn rfl (d_appendC (i:=0) Tryz.underlying25 Tryz.underlying25 ti3 rfl (by decide) rfl rfl rfl hc_v5_1 (fun _ hw=>hr_a0.sep hw) hs7) ?_
  rintro v7_1 _ ⟨S7_1,rfl,hl_v7_1,hc_v7_1⟩
  refine F.qn rfl (r_assign rfl) (F.nil (Nrm.seq (Tri.ret ?_)))
  cases h
  exact Rtn.body (.tmp rfl .nil) (fun w hw=>⟨_,_,rfl,⟨S7_1,hl_v7_1,hc_v7_1,rfl⟩,Sep.pick (is:=[0]) rfl rfl hw⟩)

def slices_Insert_int_int.f (k : Nat) (a0 : List Int) (a1 : Int) (a2 : List Int) : Option (List Int) := if 0 ≤ a1 ∧ a1 ≤ (a0.length : Int) ∧ 0 < a2.length ∧ (a0 ++ a2).length < 1099511627776 then some (a0.take a1.toNat ++ a2 ++ a0.drop a1.toNat) else none

theorem slices_Insert_int_int.ok {k : Nat} {a0 : List Int} {a1 : Int} {a2 : List Int} {r0 : List Int} (h : slices_Insert_int_int.f k a0 a1 a2 = some r0) (w : World) {va0 : Value} {Sa0 : Nat → Prop} (hl_va0 : SlLen va0 a0.length) (hc_va0 : Cap63 va0) {va2 : Value} {Sa2 : Nat → Prop} (hl_va2 : SlLen va2 a2.length) (hw0 : Sep w (footM [R.sl Sa0 va0 a0, R.sl Sa2 va2 a2]) [R.sl Sa0 va0 a0, R.sl Sa2 va2 a2] w) :
  Calls Tryz.prog 147 ([va0,.int .i64 a1,va2] : List Value).toArray w (PostM (footM [R.sl Sa0 va0 a0,R.sl Sa2 va2 a2]) (fun u ns=>∃ (Sr0 : Nat → Prop),SlLen u r0.length∧ns = [R.sl Sr0 u r0]) w) :=
 insert_ok Tryz.insertI h w hc_va0 hw0


def impl_TurnDoor.f (k : Nat) (a0_0 : Int) (a0_1 : List (Int × Int × Int)) (a0_2 : List Int) (a0_3 : List Int) (a1 : Int) : Option (Int × (List (Int × Int × Int)) × (List Int) × (List Int) × Bool) := ((impl_IsTrap.f k a0_0 a0_1 a0_2 a0_3).bind fun t10 => (if (!t10) = true then some true else (impl_within.f k a1 0 (w64 ((a0_1.length : Int) - 1))).bind fun t19 => some (!t19))).bind fun y21 => (if y21 = true then some (0, [], [], [], false) else (slices_Clone_int_int.f k a0_3).bind fun t25 => (slices_BinarySearch_int_int.f k t25 a1).bind fun (t29_1, t29_2) => ((if t29_2 = true then (slices_Delete_int_int.f k t25 t29_1 (w64 (t29_1 + 1))).bind fun t37 => some t37 else (slices_Insert_int_int.f k t25 t29_1 ([a1] : List (Int))).bind fun t42 => some t42)).bind fun y6 => (impl_own.f k a0_0 a0_1 a0_2).bind fun (t45_1, t45_2, t45_3) => some (t45_1, t45_2, t45_3, y6, true))

theorem impl_TurnDoor.ok {k : Nat}  {a0_0 : Int} {a0_1 : List (Int × Int × Int)} {a0_2 : List Int} {a0_3 : List Int} {a1 : Int} {r0 : Int} {r1 : List (Int × Int × Int)} {r2 : List Int} {r3 : List Int} {r4 : Bool} (h : impl_TurnDoor.f k a0_0 a0_1 a0_2 a0_3 a1 = some (r0, r1, r2, r3, r4)) (w : World) {va0_1 : Value} {va0_2 : Value} {va0_3 : Value} (hr_a0_1 : Rd w va0_1 a0_1) (hr_a0_2 : Rd w va0_2 a0_2) (hr_a0_3 : Rd w va0_3 a0_3) :
  Calls Tryz.prog 66 ([.agg ([.int .i64 a0_0,va0_1,va0_2,va0_3].toArray),.int .i64 a1] : List Value).toArray w (Post (fun u ns=>∃ (ur1 : Value) (Sr1 : Nat → Prop) (ur2 : Value) (Sr2 : Nat → Prop) (ur3 : Value) (Sr3 : Nat → Prop),u = .tuple #[.agg [.int .i64 r0,ur1,ur2,ur3].toArray,.bool r4]∧SlLen ur1 r1.length∧SlLen ur2 r2.length∧SlLen ur3 r3.length∧ns = [R.sl Sr1 ur1 r1,R.sl Sr2 ur2 r2,R.sl Sr3 ur3 r3]) w):=by
 unfold impl_TurnDoor.f at h
 have hl_va0_1:=hr_a0_1.len
 have hl_va0_2:=hr_a0_2.len
 have hl_va0_3:=hr_a0_3.len
 refine Calls.of_tri (N:=48) Tryz.func66 rfl rfl rfl (Sep.nil (M:=noM)) ?_
 refine Tri.seq (Tri.reg (l:=[0,1,2]) rfl ?_)
 refine F.mn rfl (m_boxG rfl rfl) ?_
 rintro _ _ ⟨b2_1,rfl,rfl⟩
 refine F.mn rfl (m_alloc ti65) ?_
 rintro _ _ ⟨b4_1,rfl,rfl⟩
 refine F.qn rfl (r_assign rfl) (F.nil (Nrm.seq (Tri.seq (Tri.seq ?_))))
 obtain ⟨y21,hE_1,h⟩:=bind_some h
 refine Tri.cut (fun e' C'=>e' = [(1,.int .i64 a1),(2,.pointer (some ⟨b2_1,0,none⟩)),(4,.pointer (some ⟨b4_1,0,none⟩)),(21,.bool y21)]∧C' = Sep w noM [R.box b4_1 65 [.int .i64 0,.slice none 0 0,.slice none 0 0,.slice none 0 0],R.box b2_1 65 [.int .i64 a0_0,va0_1,va0_2,va0_3]]) ?_ (fun hj_1=>?_)
 ·rintro _ _ ⟨rfl,rfl⟩
  refine Nrm.seq (Tri.cond (b:=y21) rfl (fun g_1=>?_) (fun g_1=>?_))
  ·replace h:=if_tt g_1 h
   refine Tri.seq (Tri.reg (l:=[0,1,2]) rfl ?_)
   refine F.qn rfl (r_build (pl:=[(0,3),(3,1)]) (qs:=[]) (cs:=[.int .i64 0,.slice none 0 0,.slice none 0 0,.slice none 0 0]) (by kernel_rfl) ti65 rfl .nil rfl rfl) ?_
   refine F.ef0 rfl rfl (wanted_none rfl) (d_storeG0 (i:=0) (cs2:=[.int .i64 0,.slice none 0 0,.slice none 0 0,.slice none 0 0]) ti65 rfl rfl rfl rfl rfl (Nat.le_of_ble_eq_true rfl) (lf_cons rfl (lf_cons rfl (lf_cons rfl (lf_cons rfl lf_nil))))) ?_
   rintro _ _ ⟨rfl,rfl⟩
   refine F.qn rfl (r_assign rfl) (F.nil (Nrm.seq (Tri.ret ?_)))
   refine Rtn.then ?_
   cases h
   exact Rtn.body (.cell rfl ta65 ti65 rfl (fun _ hw=>box_cells (i:=0) rfl _ hw) (.tmp rfl .nil)) (fun w hw=>⟨_,_,rfl,⟨.slice none 0 0,fun _=>False,.slice none 0 0,fun _=>False,.slice none 0 0,fun _=>False,rfl,len_nil,len_nil,len_nil,rfl⟩,Sep.pick (is:=[0,1,2]) rfl rfl hw.pushNil.pushNil.pushNil⟩)
  ·replace h:=if_ff g_1 h
   refine Tri.skip (Nrm.seq (Tri.seq ?_))
   obtain ⟨t25,h25,h⟩:=bind_some h
   refine Tri.reg (l:=[0,1,2,3]) rfl ?_
   refine F.qn rfl (r_fieldAddr tf65_1 rfl) (F.qn rfl (r_load ta25 rfl (fun w hw=>cell_1 (box_cells (i:=1) rfl w hw) rfl)) ?_)
   refine F.mn rfl (m_callF (xs:=_) rfl ok144 rfl rfl (fun w hw=>slices_Clone_int_int.okc h25 w ((fun _ hw=>hr_a0_3.sep hw) w hw))) ?_
   rintro v25_1 _ ⟨_,⟨S25_1,hl_v25_1,hc_v25_1,rfl⟩,rfl⟩
   refine F.qn rfl (r_assign rfl) (F.nil (Nrm.seq (Tri.seq (Tri.seq ?_))))
   obtain ⟨⟨t29_1,t29_2⟩,h29,h⟩:=bind_some h
   refine Tri.reg (l:=[0,1,2,3,4,5,6,7]) rfl ?_
   refine F.qn rfl (r_move rfl) (F.qn rfl (r_move rfl) ?_)
   refine F.qcn rfl (q_callF (xs:=_) rfl ok145 rfl rfl (fun w hw=>slices_BinarySearch_int_int.ok h29 w ((rd_sl (i:=0) rfl) w hw))) ?_
   refine F.qn rfl (r_move rfl) (F.qn rfl (r_extract rfl rfl) (F.qn rfl (r_extract rfl rfl) (F.qn rfl (r_assign rfl) (F.qn rfl (r_assign rfl) (F.nil (Nrm.seq (Tri.seq (Tri.reg (l:=[0]) rfl ?_))))))))
   refine F.qn rfl (r_move rfl) (F.nil (Nrm.seq ?_))
   obtain ⟨y6,hE_2,h⟩:=bind_some h
   refine Tri.cut (fun e' C'=>∃ (v6_1 : Value) (S6_1 : Nat → Prop),SlLen v6_1 (y6).length∧e' = [(2,.pointer (some ⟨b2_1,0,none⟩)),(4,.pointer (some ⟨b4_1,0,none⟩)),(6,v6_1)]∧C' = Sep w noM [R.box b4_1 65 [.int .i64 0,.slice none 0 0,.slice none 0 0,.slice none 0 0],R.box b2_1 65 [.int .i64 a0_0,va0_1,va0_2,va0_3],R.sl S6_1 v6_1 (y6 : List (Int))]) ?_ (fun hj_2=>?_)
   ·rintro _ _ ⟨v6_1,S6_1,hl_v6_1,rfl,rfl⟩
    refine Nrm.seq (Tri.seq ?_)
    obtain ⟨⟨t45_1,t45_2,t45_3⟩,h45,h⟩:=bind_some h
    refine Tri.reg (l:=[0,1,2,3,4,5,6]) rfl ?_
    refine F.qn rfl (r_fieldAddr tf65_0 rfl) (F.qn rfl (r_loadA ta27 ti27 rfl rfl (fun w hw=>cells_1 (cs':=[.int .i64 a0_0,va0_1,va0_2]) (box_cells (i:=1) rfl w hw) rfl)) ?_)
    refine F.mn rfl (m_callF (xs:=_) rfl ok107 rfl rfl (fun w hw=>impl_own.ok h45 w ((fun _ hw=>hr_a0_1.sep hw) w hw) ((fun _ hw=>hr_a0_2.sep hw) w hw))) ?_
    rintro _ _ ⟨_,⟨v45_1,S45_1,v45_2,S45_2,rfl,hl_v45_1,hl_v45_2,rfl⟩,rfl⟩
    refine F.qn rfl (r_move rfl) (F.qn rfl (r_build (pl:=[(0,3),(3,1)]) (qs:=[(0,[.int .i64 t45_1,v45_1,v45_2]),(3,[v6_1])]) (cs:=[.int .i64 t45_1,v45_1,v45_2,v6_1]) (by kernel_rfl) ti65 rfl (.cons rfl rfl (Nat.le_of_ble_eq_true rfl) (.cons (sl_cells hl_v6_1) rfl (Nat.le_of_ble_eq_true rfl) .nil)) rfl rfl) ?_)
    refine F.ef0 rfl rfl (wanted_none rfl) (d_storeG0 (i:=2) (cs2:=[.int .i64 t45_1,v45_1,v45_2,v6_1]) ti65 rfl rfl rfl rfl rfl (Nat.le_of_ble_eq_true rfl) (lf_cons rfl (lf_cons (sl_leaf hl_v45_1) (lf_cons (sl_leaf hl_v45_2) (lf_cons (sl_leaf hl_v6_1) lf_nil))))) ?_
    rintro _ _ ⟨rfl,rfl⟩
    refine F.qn rfl (r_assign rfl) (F.nil (Nrm.seq (Tri.ret ?_)))
    cases h
    exact Rtn.body (.cell rfl ta65 ti65 rfl (fun _ hw=>box_cells (i:=2) rfl _ hw) (.tmp rfl .nil)) (fun w hw=>⟨_,_,rfl,⟨v45_1,S45_1,v45_2,S45_2,v6_1,S6_1,rfl,hl_v45_1,hl_v45_2,hl_v6_1,rfl⟩,Sep.pick (is:=[0,1,4]) rfl rfl hw⟩)
   ·refine Tri.cond (b:=t29_2) rfl (fun g_2=>?_) (fun g_2=>?_)
    ·replace hE_2:=if_tt g_2 hE_2
     obtain ⟨t37,h37,hE_2⟩:=bind_some hE_2
     refine Tri.reg (l:=[0,1,2,3,4,5]) rfl ?_
     iterate 3 refine F.qn rfl (r_move rfl) ?_
     refine F.qn rfl (r_add rfl rfl) ?_
     refine F.efn rfl (d_callM (xs:=_) (cs:=[R.sl S25_1 v25_1 (t25 : List (Int))]) (rest:=[R.box b4_1 65 [.int .i64 0,.slice none 0 0,.slice none 0 0,.slice none 0 0],R.box b2_1 65 [.int .i64 a0_0,va0_1,va0_2,va0_3]]) [0] [1,2] rfl ok146 rfl rfl rfl rfl (fun w hw=>slices_Delete_int_int.ok h37 w hl_v25_1 (Sep.sub hw))) ?_
     rintro v37_1 _ ⟨_,⟨S37_1,hl_v37_1,rfl⟩,rfl⟩
     refine F.qn rfl (r_assign rfl) (F.nil ?_)
     cases hE_2
     refine Nrm.only [2,4,6] rfl ?_
     refine Nrm.pick [1,2,0] rfl rfl ?_
     exact hj_2 _ _ ⟨v37_1,S37_1,hl_v37_1,rfl,rfl⟩
    ·replace hE_2:=if_ff g_2 hE_2
     obtain ⟨t42,h42,hE_2⟩:=bind_some hE_2
     refine Tri.reg (l:=[0,1,2,3,4,5]) rfl ?_
     iterate 3 refine F.qn rfl (r_move rfl) ?_
     refine F.mn rfl (m_buildF (l:=([a1] : List (Int))) Tryz.underlying25 ti3 rfl rfl rfl rfl rfl) ?_
     rintro v41_1 _ ⟨S41_1,hl_v41_1,rfl⟩
     refine F.efn rfl (d_callM (xs:=_) (cs:=[R.sl S25_1 v25_1 (t25 : List (Int)),R.sl S41_1 v41_1 (([a1] : List (Int)) : List (Int))]) (rest:=[R.box b4_1 65 [.int .i64 0,.slice none 0 0,.slice none 0 0,.slice none 0 0],R.box b2_1 65 [.int .i64 a0_0,va0_1,va0_2,va0_3]]) [1,0] [2,3] rfl ok147 rfl rfl rfl rfl (fun w hw=>slices_Insert_int_int.ok h42 w hl_v25_1 hc_v25_1 hl_v41_1 (Sep.sub hw))) ?_
     rintro v42_1 _ ⟨_,⟨S42_1,hl_v42_1,rfl⟩,rfl⟩
     refine F.qn rfl (r_assign rfl) (F.nil ?_)
     cases hE_2
     refine Nrm.only [2,4,6] rfl ?_
     refine Nrm.pick [1,2,0] rfl rfl ?_
     exact hj_2 _ _ ⟨v42_1,S42_1,hl_v42_1,rfl,rfl⟩
 ·obtain ⟨t10,h10,hE_1⟩:=bind_some hE_1
  rcases Bool.eq_false_or_eq_true (!t10) with g12 | g12
  ·replace hE_1:=if_tt g12 hE_1
   refine Tri.reg (l:=List.range 13) rfl ?_
   refine F.qn rfl (r_loadA ta65 ti65 rfl rfl (fun w hw=>(box_cells (i:=1) rfl w hw))) ?_
   refine F.qcn rfl (q_callF (xs:=_) rfl ok56 rfl rfl (fun w hw=>impl_IsTrap.ok h10 w ((fun _ hw=>hr_a0_1.sep hw) w hw) ((fun _ hw=>hr_a0_2.sep hw) w hw) ((fun _ hw=>hr_a0_3.sep hw) w hw))) ?_
   refine F.qn rfl (r_not rfl) (F.qn rfl (r_move rfl) ?_)
   iterate 8 refine F.skf rfl g12 ?_
   refine F.qn rfl (r_pick rfl rfl g12) (F.nil ?_)
   cases hE_1
   refine Nrm.only [1,2,4,21] rfl ?_
   refine Nrm.pick [0,1] rfl rfl ?_
   exact hj_1 _ _ ⟨rfl,rfl⟩
  ·replace hE_1:=if_ff g12 hE_1
   obtain ⟨t19,h19,hE_1⟩:=bind_some hE_1
   refine Tri.reg (l:=List.range 13) rfl ?_
   refine F.qn rfl (r_loadA ta65 ti65 rfl rfl (fun w hw=>(box_cells (i:=1) rfl w hw))) ?_
   refine F.qcn rfl (q_callF (xs:=_) rfl ok56 rfl rfl (fun w hw=>impl_IsTrap.ok h10 w ((fun _ hw=>hr_a0_1.sep hw) w hw) ((fun _ hw=>hr_a0_2.sep hw) w hw) ((fun _ hw=>hr_a0_3.sep hw) w hw))) ?_
   refine F.qn rfl (r_not rfl) (F.qn rfl (r_move rfl) ?_)
   refine F.qg rfl g12 (r_move rfl) (F.qg rfl g12 (r_fieldAddr tf65_0 rfl) (F.qg rfl g12 (r_fieldAddr tf27_1 rfl) (F.qg rfl g12 (r_load ta24 rfl (fun w hw=>cell_2 (box_cells (i:=1) rfl w hw) rfl)) (F.qg rfl g12 (r_len Tryz.underlying24 rfl hl_va0_1) (F.qg rfl g12 (r_sub rfl rfl) ?_)))))
   refine F.qc rfl rfl rfl (wg rfl rfl rfl g12) (q_callF (xs:=_) rfl ok103 rfl rfl (fun w hw=>impl_within.ok h19 w)) ?_
   refine F.qg rfl g12 (r_not rfl) (F.qn rfl (r_pickf rfl rfl g12) (F.nil ?_))
   cases hE_1
   refine Nrm.only [1,2,4,21] rfl ?_
   refine Nrm.pick [0,1] rfl rfl ?_
   exact hj_1 _ _ ⟨rfl,rfl⟩

end Go.Proofs
