/- A part of the proof of FnExactTurnDoor: what the functions of the program compute, walked on the model. No condition. -/
import Derived.Test.YtoigeobocefoiaaFnExactTurnDoorC
set_option linter.unusedSimpArgs false
/- loop.example/g01158/laws.eqIntA3S -/
namespace Go.Proofs
open Go Go.Ga
set_option linter.unusedVariables false
set_option maxRecDepth 100000
set_option maxHeartbeats 4000000
def laws_eqIntA3S.l0 (k : Nat) (a0 : List (Int × Int × Int)) (a1 : List (Int × Int × Int)) : Nat → Int → Option ((Unit) ⊕ (Bool))
 | 0,_=>none
 | n + 1,x5=>(if (decide (x5 < (a0.length : Int))) = true then (rdl a0 x5).bind fun t19=>(rdl a1 x5).bind fun t23=>(laws_eqIntA3.f k t19.1 t19.2.1 t19.2.2 t23.1 t23.2.1 t23.2.2).bind fun t25=>(if (!t25) = true then some (Sum.inr false) else laws_eqIntA3S.l0 k a0 a1 n (w64 (x5 + 1))) else some (Sum.inl ()))

def laws_eqIntA3S.f (k : Nat) (a0 : List (Int × Int × Int)) (a1 : List (Int × Int × Int)) : Option (Bool) := (if ((a0.length : Int) != (a1.length : Int)) = true then some false else (laws_eqIntA3S.l0 k a0 a1 k 0).bind fun s => Lr s some fun _ => some true)

theorem laws_eqIntA3S.ok {k : Nat}  {a0 : List (Int × Int × Int)} {a1 : List (Int × Int × Int)} {r0 : Bool} (h : laws_eqIntA3S.f k a0 a1 = some r0) (w : World) {va0 : Value} {va1 : Value} (hr_a0 : Rd w va0 a0) (hr_a1 : Rd w va1 a1) :
  Calls Try.prog 43 ([va0,va1] : List Value).toArray w (fun e w'=>e = .returned (.bool r0)∧Ext w w'):=by
 unfold laws_eqIntA3S.f at h
 have hl_va0:=hr_a0.len
 have hl_va1:=hr_a1.len
 refine Calls.of_tri (N:=27) Try.func43 rfl rfl rfl (Sep.nil (M:=noM)) ?_
 refine Tri.seq (Tri.reg (l:=[0]) rfl ?_)
 refine F.qn rfl (r_assign rfl) (F.nil (Nrm.seq (Tri.seq (Tri.seq (Tri.reg (l:=[0,1,2,3,4]) rfl ?_)))))
 refine F.qn rfl (r_move rfl) (F.qn rfl (r_len Try.underlying22 rfl hl_va0) (F.qn rfl (r_move rfl) (F.qn rfl (r_len Try.underlying22 rfl hl_va1) (F.qn rfl (r_neq rfl rfl) (F.nil (Nrm.seq (Tri.cond (b:=(a0.length : Int) != (a1.length : Int)) rfl (fun g_1=>?_) (fun g_1=>?_))))))))
 ·replace h:=if_tt g_1 h
  refine Tri.seq (Tri.reg (l:=[0]) rfl ?_)
  refine F.qn rfl (r_assign rfl) (F.nil (Nrm.seq (Tri.ret ?_)))
  refine Rtn.then ?_
  cases h
  exact Rtn.body (.tmp rfl .nil) (fun w hw=>⟨rfl,hw.ext⟩)
 ·replace h:=if_ff g_1 h
  refine Tri.skip (Nrm.seq (Tri.seq (Tri.seq (Tri.reg (l:=[0]) rfl ?_))))
  refine F.qn rfl (r_assign rfl) (F.nil (Nrm.seq ?_))
  obtain ⟨s0,hE_1,h⟩:=bind_some h
  refine Tri.block ?_
  refine Tri.only [0,1,5] rfl ?_
  refine Tri.pick [] rfl rfl ?_
  refine Tri.rounds (fun n e' C'=>∃ (x5' : Int),laws_eqIntA3S.l0 k a0 a1 n x5' = some s0∧e' = [(0,va0),(1,va1),(5,.int .i64 x5')]∧C' = Sep w noM []) k ?_ ?_ ?_
  ·exact ⟨0,hE_1,rfl,rfl⟩
  ·rintro _ _ ⟨_,hE_1,_⟩
   rw [laws_eqIntA3S.l0.eq_1] at hE_1; cases hE_1
  ·rintro n_1 _ _ ⟨x5,hE_1,rfl,rfl⟩ ih_1
   rw [laws_eqIntA3S.l0.eq_2] at hE_1
   refine Tri.seq (Tri.seq (Tri.reg (l:=[0,1,2,3]) rfl ?_))
   refine F.qn rfl (r_move rfl) (F.qn rfl (r_move rfl) (F.qn rfl (r_len Try.underlying22 rfl hl_va0) (F.qn rfl (r_lss rfl rfl) (F.nil (Nrm.seq (Tri.cond (b:=decide (x5 < (a0.length : Int))) rfl (fun g_2=>?_) (fun g_2=>?_)))))))
   ·replace hE_1:=if_tt g_2 hE_1
    refine Tri.skip (Nrm.seq (Tri.seq (Tri.block ?_)))
    refine Tri.seq ?_
    obtain ⟨t19,h19,hE_1⟩:=bind_some hE_1
    obtain ⟨t23,h23,hE_1⟩:=bind_some hE_1
    obtain ⟨t25,h25,hE_1⟩:=bind_some hE_1
    refine Tri.drawA mixedT Sep.up [(0,true),(1,true),(2,true),(3,true),(4,true),(5,true),(6,true),(7,true),(8,true),(9,true)] [] (by kernel_rfl) ?_
    refine S.qn rfl (r_move rfl) (S.qn rfl (r_move rfl) ?_)
    refine S.qn rfl (r_indexAddrS Try.underlying22 ti61 rfl hl_va0 rfl (rdl_some h19).1 (rdl_some h19).2.1) (S.qn rfl (r_loadA ta61 ti61 rfl rfl (fun w hw=>(Rd.flat ((fun _ hw=>hr_a0.sep hw) w hw) (rdl_some h19).2.2))) (S.qn rfl (r_move rfl) (S.qn rfl (r_move rfl) (S.qn rfl (r_indexAddrS Try.underlying22 ti61 rfl hl_va1 rfl (rdl_some h23).1 (rdl_some h23).2.1) (S.qn rfl (r_loadA ta61 ti61 rfl rfl (fun w hw=>(Rd.flat ((fun _ hw=>hr_a1.sep hw) w hw) (rdl_some h23).2.2))) ?_)))))
    refine S.qcn rfl (q_callF (xs:=_) rfl ok55 rfl rfl (fun w hw=>laws_eqIntA3.ok h25 w)) ?_
    refine S.qn rfl (r_not rfl) (S.nil (F.nil (Nrm.seq (Tri.cond (b:=!t25) rfl (fun g_3=>?_) (fun g_3=>?_)))))
    ·replace hE_1:=if_tt g_3 hE_1
     refine Tri.seq (Tri.reg (l:=[0]) rfl ?_)
     refine F.qn rfl (r_assign rfl) (F.nil (Nrm.seq (Tri.ret ?_)))
     refine Rtn.block ?_
     refine Rtn.then ?_
     refine Rtn.then ?_
     refine Rtn.block ?_
     refine Rtn.then ?_
     cases hE_1
     replace h:=Lr_inr h
     cases h
     exact Rtn.body (.tmp rfl .nil) (fun w hw=>⟨rfl,hw.ext⟩)
    ·replace hE_1:=if_ff g_3 hE_1
     refine Tri.skip (Nrm.block ?_)
     refine Nrm.seq (Tri.reg (l:=[0,1,2]) rfl ?_)
     refine F.qn rfl (r_move rfl) (F.qn rfl (r_add rfl rfl) (F.qn rfl (r_assign rfl) (F.nil (Nrm.round ?_))))
     refine Rnd.only [0,1,5] rfl ?_
     refine Rnd.pick [] rfl rfl ?_
     exact ih_1 _ _ ⟨w64 (x5 + 1),hE_1,rfl,rfl⟩
   ·replace hE_1:=if_ff g_2 hE_1
    refine Tri.exit ?_
    refine Exi.then ?_
    refine Exi.then ?_
    refine Exi.same ?_
    cases hE_1
    replace h:=Lr_inl h
    refine Nrm.seq (Tri.seq (Tri.reg (l:=[0]) rfl ?_))
    refine F.qn rfl (r_assign rfl) (F.nil (Nrm.seq (Tri.ret ?_)))
    cases h
    exact Rtn.body (.tmp rfl .nil) (fun w hw=>⟨rfl,hw.ext⟩)


def laws_eqMaze.f (k : Nat) (a0_0 : Int) (a0_1 : List (Int × Int × Int)) (a0_2 : List Int) (a1_0 : Int) (a1_1 : List (Int × Int × Int)) (a1_2 : List Int) : Option (Bool) := (if (a0_0 != a1_0) = true then some false else (laws_eqIntA3S.f k a0_1 a1_1).bind fun t14 => (if (!t14) = true then some false else (laws_eqIntS.f k a0_2 a1_2).bind fun t20 => (if (!t20) = true then some false else some true)))

theorem laws_eqMaze.ok {k : Nat}  {a0_0 : Int} {a0_1 : List (Int × Int × Int)} {a0_2 : List Int} {a1_0 : Int} {a1_1 : List (Int × Int × Int)} {a1_2 : List Int} {r0 : Bool} (h : laws_eqMaze.f k a0_0 a0_1 a0_2 a1_0 a1_1 a1_2 = some r0) (w : World) {va0_1 : Value} {va0_2 : Value} {va1_1 : Value} {va1_2 : Value} (hr_a0_1 : Rd w va0_1 a0_1) (hr_a0_2 : Rd w va0_2 a0_2) (hr_a1_1 : Rd w va1_1 a1_1) (hr_a1_2 : Rd w va1_2 a1_2) :
  Calls Try.prog 26 ([.agg ([.int .i64 a0_0,va0_1,va0_2].toArray),.agg ([.int .i64 a1_0,va1_1,va1_2].toArray)] : List Value).toArray w (fun e w'=>e = .returned (.bool r0)∧Ext w w'):=by
 unfold laws_eqMaze.f at h
 have hl_va0_1:=hr_a0_1.len
 have hl_va0_2:=hr_a0_2.len
 have hl_va1_1:=hr_a1_1.len
 have hl_va1_2:=hr_a1_2.len
 refine Calls.of_tri (N:=22) Try.func26 rfl rfl rfl (Sep.nil (M:=noM)) ?_
 refine Tri.seq (Tri.reg (l:=[0,1,2]) rfl ?_)
 refine F.mn rfl (m_boxG rfl rfl) ?_
 rintro _ _ ⟨b2_1,rfl,rfl⟩
 refine F.mn rfl (m_boxG rfl rfl) ?_
 rintro _ _ ⟨b3_1,rfl,rfl⟩
 refine F.qn rfl (r_assign rfl) (F.nil (Nrm.seq (Tri.seq (Tri.seq (Tri.reg (l:=[0,1,2,3,4]) rfl ?_)))))
 refine F.qn rfl (r_fieldAddr tf29_0 rfl) (F.qn rfl (r_load ta3 rfl (fun w hw=>cell_1 (box_cells (i:=1) rfl w hw) rfl)) (F.qn rfl (r_fieldAddr tf29_0 rfl) (F.qn rfl (r_load ta3 rfl (fun w hw=>cell_1 (box_cells (i:=0) rfl w hw) rfl)) (F.qn rfl (r_neq rfl rfl) (F.nil (Nrm.seq (Tri.cond (b:=a0_0 != a1_0) rfl (fun g_1=>?_) (fun g_1=>?_))))))))
 ·replace h:=if_tt g_1 h
  refine Tri.seq (Tri.reg (l:=[0]) rfl ?_)
  refine F.qn rfl (r_assign rfl) (F.nil (Nrm.seq (Tri.ret ?_)))
  refine Rtn.then ?_
  cases h
  exact Rtn.body (.tmp rfl .nil) (fun w hw=>⟨rfl,hw.ext⟩)
 ·replace h:=if_ff g_1 h
  refine Tri.skip (Nrm.seq (Tri.seq (Tri.seq ?_)))
  obtain ⟨t14,h14,h⟩:=bind_some h
  refine Tri.reg (l:=[0,1,2,3,4,5]) rfl ?_
  refine F.qn rfl (r_fieldAddr tf29_1 rfl) (F.qn rfl (r_load ta22 rfl (fun w hw=>cell_1 (box_cells (i:=1) rfl w hw) rfl)) (F.qn rfl (r_fieldAddr tf29_1 rfl) (F.qn rfl (r_load ta22 rfl (fun w hw=>cell_1 (box_cells (i:=0) rfl w hw) rfl)) ?_)))
  refine F.qcn rfl (q_callF (xs:=_) rfl ok43 rfl rfl (fun w hw=>laws_eqIntA3S.ok h14 w ((fun _ hw=>hr_a0_1.sep hw) w hw) ((fun _ hw=>hr_a1_1.sep hw) w hw))) ?_
  refine F.qn rfl (r_not rfl) (F.nil (Nrm.seq (Tri.cond (b:=!t14) rfl (fun g_2=>?_) (fun g_2=>?_))))
  ·replace h:=if_tt g_2 h
   refine Tri.seq (Tri.reg (l:=[0]) rfl ?_)
   refine F.qn rfl (r_assign rfl) (F.nil (Nrm.seq (Tri.ret ?_)))
   refine Rtn.then ?_
   cases h
   exact Rtn.body (.tmp rfl .nil) (fun w hw=>⟨rfl,hw.ext⟩)
  ·replace h:=if_ff g_2 h
   refine Tri.skip (Nrm.seq (Tri.seq (Tri.seq ?_)))
   obtain ⟨t20,h20,h⟩:=bind_some h
   refine Tri.reg (l:=[0,1,2,3,4,5]) rfl ?_
   refine F.qn rfl (r_fieldAddr tf29_2 rfl) (F.qn rfl (r_load ta23 rfl (fun w hw=>cell_1 (box_cells (i:=1) rfl w hw) rfl)) (F.qn rfl (r_fieldAddr tf29_2 rfl) (F.qn rfl (r_load ta23 rfl (fun w hw=>cell_1 (box_cells (i:=0) rfl w hw) rfl)) ?_)))
   refine F.qcn rfl (q_callF (xs:=_) rfl ok27 rfl rfl (fun w hw=>laws_eqIntS.ok h20 w ((fun _ hw=>hr_a0_2.sep hw) w hw) ((fun _ hw=>hr_a1_2.sep hw) w hw))) ?_
   refine F.qn rfl (r_not rfl) (F.nil (Nrm.seq (Tri.cond (b:=!t20) rfl (fun g_3=>?_) (fun g_3=>?_))))
   ·replace h:=if_tt g_3 h
    refine Tri.seq (Tri.reg (l:=[0]) rfl ?_)
    refine F.qn rfl (r_assign rfl) (F.nil (Nrm.seq (Tri.ret ?_)))
    refine Rtn.then ?_
    cases h
    exact Rtn.body (.tmp rfl .nil) (fun w hw=>⟨rfl,hw.ext⟩)
   ·replace h:=if_ff g_3 h
    refine Tri.skip (Nrm.seq (Tri.seq (Tri.reg (l:=[0]) rfl ?_)))
    refine F.qn rfl (r_assign rfl) (F.nil (Nrm.seq (Tri.ret ?_)))
    cases h
    exact Rtn.body (.tmp rfl .nil) (fun w hw=>⟨rfl,hw.ext⟩)


def laws_eqTrap.f (k : Nat) (a0_0 : Int) (a0_1 : List (Int × Int × Int)) (a0_2 : List Int) (a0_3 : List Int) (a1_0 : Int) (a1_1 : List (Int × Int × Int)) (a1_2 : List Int) (a1_3 : List Int) : Option (Bool) := (laws_eqMaze.f k a0_0 a0_1 a0_2 a1_0 a1_1 a1_2).bind fun t9 => (if (!t9) = true then some false else (laws_eqIntS.f k a0_3 a1_3).bind fun t15 => (if (!t15) = true then some false else some true))

theorem laws_eqTrap.ok {k : Nat}  {a0_0 : Int} {a0_1 : List (Int × Int × Int)} {a0_2 : List Int} {a0_3 : List Int} {a1_0 : Int} {a1_1 : List (Int × Int × Int)} {a1_2 : List Int} {a1_3 : List Int} {r0 : Bool} (h : laws_eqTrap.f k a0_0 a0_1 a0_2 a0_3 a1_0 a1_1 a1_2 a1_3 = some r0) (w : World) {va0_1 : Value} {va0_2 : Value} {va0_3 : Value} {va1_1 : Value} {va1_2 : Value} {va1_3 : Value} (hr_a0_1 : Rd w va0_1 a0_1) (hr_a0_2 : Rd w va0_2 a0_2) (hr_a0_3 : Rd w va0_3 a0_3) (hr_a1_1 : Rd w va1_1 a1_1) (hr_a1_2 : Rd w va1_2 a1_2) (hr_a1_3 : Rd w va1_3 a1_3) :
  Calls Try.prog 8 ([.agg ([.int .i64 a0_0,va0_1,va0_2,va0_3].toArray),.agg ([.int .i64 a1_0,va1_1,va1_2,va1_3].toArray)] : List Value).toArray w (fun e w'=>e = .returned (.bool r0)∧Ext w w'):=by
 unfold laws_eqTrap.f at h
 have hl_va0_1:=hr_a0_1.len
 have hl_va0_2:=hr_a0_2.len
 have hl_va0_3:=hr_a0_3.len
 have hl_va1_1:=hr_a1_1.len
 have hl_va1_2:=hr_a1_2.len
 have hl_va1_3:=hr_a1_3.len
 refine Calls.of_tri (N:=17) Try.func8 rfl rfl rfl (Sep.nil (M:=noM)) ?_
 refine Tri.seq (Tri.reg (l:=[0,1,2]) rfl ?_)
 refine F.mn rfl (m_boxG rfl rfl) ?_
 rintro _ _ ⟨b2_1,rfl,rfl⟩
 refine F.mn rfl (m_boxG rfl rfl) ?_
 rintro _ _ ⟨b3_1,rfl,rfl⟩
 refine F.qn rfl (r_assign rfl) (F.nil (Nrm.seq (Tri.seq (Tri.seq ?_))))
 obtain ⟨t9,h9,h⟩:=bind_some h
 refine Tri.reg (l:=[0,1,2,3,4,5]) rfl ?_
 refine F.qn rfl (r_fieldAddr tf31_0 rfl) (F.qn rfl (r_loadA ta29 ti29 rfl rfl (fun w hw=>cells_1 (cs':=[.int .i64 a0_0,va0_1,va0_2]) (box_cells (i:=1) rfl w hw) rfl)) (F.qn rfl (r_fieldAddr tf31_0 rfl) (F.qn rfl (r_loadA ta29 ti29 rfl rfl (fun w hw=>cells_1 (cs':=[.int .i64 a1_0,va1_1,va1_2]) (box_cells (i:=0) rfl w hw) rfl)) ?_)))
 refine F.qcn rfl (q_callF (xs:=_) rfl ok26 rfl rfl (fun w hw=>laws_eqMaze.ok h9 w ((fun _ hw=>hr_a0_1.sep hw) w hw) ((fun _ hw=>hr_a0_2.sep hw) w hw) ((fun _ hw=>hr_a1_1.sep hw) w hw) ((fun _ hw=>hr_a1_2.sep hw) w hw))) ?_
 refine F.qn rfl (r_not rfl) (F.nil (Nrm.seq (Tri.cond (b:=!t9) rfl (fun g_1=>?_) (fun g_1=>?_))))
 ·replace h:=if_tt g_1 h
  refine Tri.seq (Tri.reg (l:=[0]) rfl ?_)
  refine F.qn rfl (r_assign rfl) (F.nil (Nrm.seq (Tri.ret ?_)))
  refine Rtn.then ?_
  cases h
  exact Rtn.body (.tmp rfl .nil) (fun w hw=>⟨rfl,hw.ext⟩)
 ·replace h:=if_ff g_1 h
  refine Tri.skip (Nrm.seq (Tri.seq (Tri.seq ?_)))
  obtain ⟨t15,h15,h⟩:=bind_some h
  refine Tri.reg (l:=[0,1,2,3,4,5]) rfl ?_
  refine F.qn rfl (r_fieldAddr tf31_1 rfl) (F.qn rfl (r_load ta23 rfl (fun w hw=>cell_1 (box_cells (i:=1) rfl w hw) rfl)) (F.qn rfl (r_fieldAddr tf31_1 rfl) (F.qn rfl (r_load ta23 rfl (fun w hw=>cell_1 (box_cells (i:=0) rfl w hw) rfl)) ?_)))
  refine F.qcn rfl (q_callF (xs:=_) rfl ok27 rfl rfl (fun w hw=>laws_eqIntS.ok h15 w ((fun _ hw=>hr_a0_3.sep hw) w hw) ((fun _ hw=>hr_a1_3.sep hw) w hw))) ?_
  refine F.qn rfl (r_not rfl) (F.nil (Nrm.seq (Tri.cond (b:=!t15) rfl (fun g_2=>?_) (fun g_2=>?_))))
  ·replace h:=if_tt g_2 h
   refine Tri.seq (Tri.reg (l:=[0]) rfl ?_)
   refine F.qn rfl (r_assign rfl) (F.nil (Nrm.seq (Tri.ret ?_)))
   refine Rtn.then ?_
   cases h
   exact Rtn.body (.tmp rfl .nil) (fun w hw=>⟨rfl,hw.ext⟩)
  ·replace h:=if_ff g_2 h
   refine Tri.skip (Nrm.seq (Tri.seq (Tri.reg (l:=[0]) rfl ?_)))
   refine F.qn rfl (r_assign rfl) (F.nil (Nrm.seq (Tri.ret ?_)))
   cases h
   exact Rtn.body (.tmp rfl .nil) (fun w hw=>⟨rfl,hw.ext⟩)


def laws_markIntS.l0 (k : Nat) : Nat → (List (Int)) → Int → Int → Option (Int × (List (Int)))
 | 0,_,_,_=>none
 | n + 1,x0,x1,x5=>(if (decide (x5 < (x0.length : Int))) = true then (rdl x0 x5).bind fun t15=>laws_markIntS.l0 k n (x0.set x5.toNat x1) (w64 (x1 + 1)) (w64 (x5 + 1)) else some (x1,x0))

def laws_markIntS.f (k : Nat) (a0 : List Int) (a1 : Int) : Option (Int × (List Int)) := (laws_markIntS.l0 k k a0 a1 0).bind fun (x1, x0) => some (x1, x0)

theorem laws_markIntS.ok {k : Nat}  {a0 : List Int} {a1 : Int} {r0 : Int} {r1 : List Int} (h : laws_markIntS.f k a0 a1 = some (r0, r1)) (w : World) {va0 : Value} {Sa0 : Nat → Prop} (hl_va0 : SlLen va0 a0.length) (hw0 : Sep w (footM [R.sl Sa0 va0 a0]) [R.sl Sa0 va0 a0] w) :
  Calls Try.prog 29 ([va0,.int .i64 a1] : List Value).toArray w (PostM (footM [R.sl Sa0 va0 a0]) (fun u ns=>u = .int .i64 r0∧SlLen va0 r1.length∧ns = [R.sl Sa0 va0 r1]) w):=by
 unfold laws_markIntS.f at h
 refine Calls.of_tri (N:=19) Try.func29 rfl rfl rfl hw0 ?_
 refine Tri.seq (Tri.reg (l:=[0]) rfl ?_)
 refine F.qn rfl (r_assign rfl) (F.nil (Nrm.seq (Tri.seq (Tri.seq (Tri.reg (l:=[0]) rfl ?_)))))
 refine F.qn rfl (r_assign rfl) (F.nil (Nrm.seq ?_))
 obtain ⟨⟨x1,x0⟩,hE_1,h⟩:=bind_some h
 refine Tri.block ?_
 refine Tri.only [0,1,5] rfl ?_
 refine Tri.pick [0] rfl rfl ?_
 refine Tri.rounds (fun n e' C'=>∃ (x0' : List (Int)) (x1' : Int) (x5' : Int),laws_markIntS.l0 k n x0' x1' x5' = some (x1,x0)∧SlLen va0 (x0').length∧e' = [(0,va0),(1,.int .i64 x1'),(5,.int .i64 x5')]∧C' = Sep w (footM [R.sl Sa0 va0 a0]) [R.sl Sa0 va0 (x0' : List (Int))]) k ?_ ?_ ?_
 ·exact ⟨a0,a1,0,hE_1,hl_va0,rfl,rfl⟩
 ·rintro _ _ ⟨_,_,_,hE_1,_⟩
  rw [laws_markIntS.l0.eq_1] at hE_1; cases hE_1
 ·rintro n_1 _ _ ⟨x0,x1,x5,hE_1,hl_x0,rfl,rfl⟩ ih_1
  rw [laws_markIntS.l0.eq_2] at hE_1
  refine Tri.seq (Tri.seq (Tri.reg (l:=[0,1,2,3]) rfl ?_))
  refine F.qn rfl (r_move rfl) (F.qn rfl (r_move rfl) (F.qn rfl (r_len Try.underlying23 rfl hl_x0) (F.qn rfl (r_lss rfl rfl) (F.nil (Nrm.seq (Tri.cond (b:=decide (x5 < (x0.length : Int))) rfl (fun g_1=>?_) (fun g_1=>?_)))))))
  ·replace hE_1:=if_tt g_1 hE_1
   refine Tri.skip (Nrm.seq (Tri.seq (Tri.block ?_)))
   refine Tri.seq ?_
   obtain ⟨t15,h15,hE_1⟩:=bind_some hE_1
   refine Tri.reg (l:=[0,1,2,3,4]) rfl ?_
   iterate 3 refine F.qn rfl (r_move rfl) ?_
   refine F.qn rfl (r_indexAddrS Try.underlying23 ti3 rfl hl_x0 rfl (rdl_some h15).1 (rdl_some h15).2.1) ?_
   refine F.ef0 rfl rfl (wanted_none rfl) (d_storeE (i:=0) (x1:=x1) ti3 rfl rfl rfl (rdl_some h15) rfl) ?_
   rintro _ _ ⟨rfl,rfl⟩
   refine F.nil (Nrm.seq (Tri.reg (l:=[0,1,2]) rfl ?_))
   refine F.qn rfl (r_move rfl) (F.qn rfl (r_add rfl rfl) (F.qn rfl (r_assign rfl) (F.nil (Nrm.block ?_))))
   refine Nrm.seq (Tri.reg (l:=[0,1,2]) rfl ?_)
   refine F.qn rfl (r_move rfl) (F.qn rfl (r_add rfl rfl) (F.qn rfl (r_assign rfl) (F.nil (Nrm.round ?_))))
   refine Rnd.only [0,1,5] rfl ?_
   refine Rnd.pick [0] rfl rfl ?_
   exact ih_1 _ _ ⟨x0.set x5.toNat x1,w64 (x1 + 1),w64 (x5 + 1),hE_1,(len_set hl_x0),rfl,rfl⟩
  ·replace hE_1:=if_ff g_1 hE_1
   refine Tri.exit ?_
   refine Exi.then ?_
   refine Exi.then ?_
   refine Exi.same ?_
   cases hE_1
   refine Nrm.seq (Tri.seq (Tri.reg (l:=[0,1]) rfl ?_))
   refine F.qn rfl (r_move rfl) (F.qn rfl (r_assign rfl) (F.nil (Nrm.seq (Tri.ret ?_))))
   cases h
   exact Rtn.body (.tmp rfl .nil) (fun w hw=>⟨_,_,rfl,⟨rfl,hl_x0,rfl⟩,Sep.pick (is:=[0]) rfl rfl hw⟩)


def laws_markIntA3S.l1 (k : Nat) (x5 : Int) : Nat → (List (Int × Int × Int)) → Int → Int → Option ((List (Int × Int × Int)) × Int)
 | 0,_,_,_=>none
 | n + 1,x0r,x1r,x6=>(if (decide (x6 < 3)) = true then (rdl x0r x5).bind fun t21=>(rdl [t21.1,t21.2.1,t21.2.2] x6).bind fun t22=>laws_markIntA3S.l1 k x5 n (x0r.set x5.toNat (if x6 = 0 then x1r else t21.1,if x6 = 1 then x1r else t21.2.1,if x6 = 2 then x1r else t21.2.2)) (w64 (x1r + 1)) (w64 (x6 + 1)) else some (x0r,x1r))

def laws_markIntA3S.l0 (k : Nat) : Nat → (List (Int × Int × Int)) → Int → Int → Option (Int × (List (Int × Int × Int)))
 | 0,_,_,_=>none
 | n + 1,x0,x1,x5=>(if (decide (x5 < (x0.length : Int))) = true then (laws_markIntA3S.l1 k x5 k x0 x1 0).bind fun (x0r,x1r)=>laws_markIntA3S.l0 k n x0r x1r (w64 (x5 + 1)) else some (x1,x0))

def laws_markIntA3S.f (k : Nat) (a0 : List (Int × Int × Int)) (a1 : Int) : Option (Int × (List (Int × Int × Int))) := (laws_markIntA3S.l0 k k a0 a1 0).bind fun (x1, x0) => some (x1, x0)

theorem laws_markIntA3S.ok {k : Nat}  {a0 : List (Int × Int × Int)} {a1 : Int} {r0 : Int} {r1 : List (Int × Int × Int)} (h : laws_markIntA3S.f k a0 a1 = some (r0, r1)) (w : World) {va0 : Value} {Sa0 : Nat → Prop} (hl_va0 : SlLen va0 a0.length) (hw0 : Sep w (footM [R.sl Sa0 va0 a0]) [R.sl Sa0 va0 a0] w) :
  Calls Try.prog 44 ([va0,.int .i64 a1] : List Value).toArray w (PostM (footM [R.sl Sa0 va0 a0]) (fun u ns=>u = .int .i64 r0∧SlLen va0 r1.length∧ns = [R.sl Sa0 va0 r1]) w):=by
 unfold laws_markIntA3S.f at h
 refine Calls.of_tri (N:=26) Try.func44 rfl rfl rfl hw0 ?_
 refine Tri.seq (Tri.reg (l:=[0]) rfl ?_)
 refine F.qn rfl (r_assign rfl) (F.nil (Nrm.seq (Tri.seq (Tri.seq (Tri.reg (l:=[0]) rfl ?_)))))
 refine F.qn rfl (r_assign rfl) (F.nil (Nrm.seq ?_))
 obtain ⟨⟨x1,x0⟩,hE_1,h⟩:=bind_some h
 refine Tri.block ?_
 refine Tri.only [0,1,5] rfl ?_
 refine Tri.pick [0] rfl rfl ?_
 refine Tri.rounds (fun n e' C'=>∃ (x0' : List (Int × Int × Int)) (x1' : Int) (x5' : Int),laws_markIntA3S.l0 k n x0' x1' x5' = some (x1,x0)∧SlLen va0 (x0').length∧e' = [(0,va0),(1,.int .i64 x1'),(5,.int .i64 x5')]∧C' = Sep w (footM [R.sl Sa0 va0 a0]) [R.sl Sa0 va0 (x0' : List (Int × Int × Int))]) k ?_ ?_ ?_
 ·exact ⟨a0,a1,0,hE_1,hl_va0,rfl,rfl⟩
 ·rintro _ _ ⟨_,_,_,hE_1,_⟩
  rw [laws_markIntA3S.l0.eq_1] at hE_1; cases hE_1
 ·rintro n_1 _ _ ⟨x0,x1,x5,hE_1,hl_x0,rfl,rfl⟩ ih_1
  rw [laws_markIntA3S.l0.eq_2] at hE_1
  refine Tri.seq (Tri.seq (Tri.reg (l:=[0,1,2,3]) rfl ?_))
  refine F.qn rfl (r_move rfl) (F.qn rfl (r_move rfl) (F.qn rfl (r_len Try.underlying22 rfl hl_x0) (F.qn rfl (r_lss rfl rfl) (F.nil (Nrm.seq (Tri.cond (b:=decide (x5 < (x0.length : Int))) rfl (fun g_1=>?_) (fun g_1=>?_)))))))
  ·replace hE_1:=if_tt g_1 hE_1
   refine Tri.skip (Nrm.seq (Tri.seq (Tri.block ?_)))
   refine Tri.seq (Tri.reg (l:=[0]) rfl ?_)
   refine F.qn rfl (r_assign rfl) (F.nil (Nrm.seq ?_))
   obtain ⟨⟨x0r,x1r⟩,hE_2,hE_1⟩:=bind_some hE_1
   refine Tri.block ?_
   refine Tri.only [0,1,5,6] rfl ?_
   refine Tri.pick [0] rfl rfl ?_
   refine Tri.rounds (fun n e' C'=>∃ (x0r' : List (Int × Int × Int)) (x1r' : Int) (x6' : Int),laws_markIntA3S.l1 k x5 n x0r' x1r' x6' = some (x0r,x1r)∧SlLen va0 (x0r').length∧e' = [(0,va0),(1,.int .i64 x1r'),(5,.int .i64 x5),(6,.int .i64 x6')]∧C' = Sep w (footM [R.sl Sa0 va0 a0]) [R.sl Sa0 va0 (x0r' : List (Int × Int × Int))]) k ?_ ?_ ?_
   ·exact ⟨x0,x1,0,hE_2,hl_x0,rfl,rfl⟩
   ·rintro _ _ ⟨_,_,_,hE_2,_⟩
    rw [laws_markIntA3S.l1.eq_1] at hE_2; cases hE_2
   ·rintro n_2 _ _ ⟨x0r,x1r,x6,hE_2,hl_x0r,rfl,rfl⟩ ih_2
    rw [laws_markIntA3S.l1.eq_2] at hE_2
    refine Tri.seq (Tri.seq (Tri.reg (l:=[0,1]) rfl ?_))
    refine F.qn rfl (r_move rfl) (F.qn rfl (r_lss rfl rfl) (F.nil (Nrm.seq (Tri.cond (b:=decide (x6 < 3)) rfl (fun g_2=>?_) (fun g_2=>?_)))))
    ·replace hE_2:=if_tt g_2 hE_2
     refine Tri.skip (Nrm.seq (Tri.seq (Tri.block ?_)))
     refine Tri.seq ?_
     obtain ⟨t21,h21,hE_2⟩:=bind_some hE_2
     obtain ⟨t22,h22,hE_2⟩:=bind_some hE_2
     refine Tri.reg (l:=[0,1,2,3,4,5,6]) rfl ?_
     iterate 4 refine F.qn rfl (r_move rfl) ?_
     refine F.qn rfl (r_indexAddrS Try.underlying22 ti61 rfl hl_x0r rfl (rdl_some h21).1 (rdl_some h21).2.1) (F.qn rfl (r_indexAddrA Try.underlying61 ti3 rfl rfl (rdl_some h22).1 (rdl_some h22).2.1) ?_)
     refine F.ef0 rfl rfl (wanted_none rfl) (d_storeP (i:=0) (k:=(x6.toNat * 1)) (x0:=t21) (x1:=(if x6 = 0 then x1r else t21.1,if x6 = 1 then x1r else t21.2.1,if x6 = 2 then x1r else t21.2.2)) ti3 rfl rfl rfl (rdl_some h21) rfl (dlt (rdl_some h22).1 (rdl_some h22).2.1) (setV3 (rdl_some h22).1 (rdl_some h22).2.1) rfl) ?_
     rintro _ _ ⟨rfl,rfl⟩
     refine F.nil (Nrm.seq (Tri.reg (l:=[0,1,2]) rfl ?_))
     refine F.qn rfl (r_move rfl) (F.qn rfl (r_add rfl rfl) (F.qn rfl (r_assign rfl) (F.nil (Nrm.block ?_))))
     refine Nrm.seq (Tri.reg (l:=[0,1,2]) rfl ?_)
     refine F.qn rfl (r_move rfl) (F.qn rfl (r_add rfl rfl) (F.qn rfl (r_assign rfl) (F.nil (Nrm.round ?_))))
     refine Rnd.only [0,1,5,6] rfl ?_
     refine Rnd.pick [0] rfl rfl ?_
     exact ih_2 _ _ ⟨x0r.set x5.toNat (if x6 = 0 then x1r else t21.1,if x6 = 1 then x1r else t21.2.1,if x6 = 2 then x1r else t21.2.2),w64 (x1r + 1),w64 (x6 + 1),hE_2,(len_set hl_x0r),rfl,rfl⟩
    ·replace hE_2:=if_ff g_2 hE_2
     refine Tri.exit ?_
     refine Exi.then ?_
     refine Exi.then ?_
     refine Exi.same ?_
     cases hE_2
     refine Nrm.block ?_
     refine Nrm.seq (Tri.reg (l:=[0,1,2]) rfl ?_)
     refine F.qn rfl (r_move rfl) (F.qn rfl (r_add rfl rfl) (F.qn rfl (r_assign rfl) (F.nil (Nrm.round ?_))))
     refine Rnd.only [0,1,5] rfl ?_
     refine Rnd.pick [0] rfl rfl ?_
     exact ih_1 _ _ ⟨x0r,x1r,w64 (x5 + 1),hE_1,hl_x0r,rfl,rfl⟩
  ·replace hE_1:=if_ff g_1 hE_1
   refine Tri.exit ?_
   refine Exi.then ?_
   refine Exi.then ?_
   refine Exi.same ?_
   cases hE_1
   refine Nrm.seq (Tri.seq (Tri.reg (l:=[0,1]) rfl ?_))
   refine F.qn rfl (r_move rfl) (F.qn rfl (r_assign rfl) (F.nil (Nrm.seq (Tri.ret ?_))))
   cases h
   exact Rtn.body (.tmp rfl .nil) (fun w hw=>⟨_,_,rfl,⟨rfl,hl_x0,rfl⟩,Sep.pick (is:=[0]) rfl rfl hw⟩)


def laws_markMaze.f (k : Nat) (a0_0 : Int) (a0_1 : List (Int × Int × Int)) (a0_2 : List Int) (a1 : Int) : Option (Int × (List (Int × Int × Int)) × (List Int)) := (laws_markIntA3S.f k a0_1 a1).bind fun (t8_1, t8_2) => (laws_markIntS.f k a0_2 t8_1).bind fun (t12_1, t12_2) => some (t12_1, t8_2, t12_2)

theorem laws_markMaze.ok {k : Nat}  {a0_0 : Int} {a0_1 : List (Int × Int × Int)} {a0_2 : List Int} {a1 : Int} {r0 : Int} {r1 : List (Int × Int × Int)} {r2 : List Int} (h : laws_markMaze.f k a0_0 a0_1 a0_2 a1 = some (r0, r1, r2)) (w : World) {va0_1 : Value} {Sa0_1 : Nat → Prop} (hl_va0_1 : SlLen va0_1 a0_1.length) {va0_2 : Value} {Sa0_2 : Nat → Prop} (hl_va0_2 : SlLen va0_2 a0_2.length) (hw0 : Sep w (footM [R.sl Sa0_1 va0_1 a0_1, R.sl Sa0_2 va0_2 a0_2]) [R.sl Sa0_1 va0_1 a0_1, R.sl Sa0_2 va0_2 a0_2] w) :
  Calls Try.prog 28 ([.agg ([.int .i64 a0_0,va0_1,va0_2].toArray),.int .i64 a1] : List Value).toArray w (PostM (footM [R.sl Sa0_1 va0_1 a0_1,R.sl Sa0_2 va0_2 a0_2]) (fun u ns=>u = .int .i64 r0∧SlLen va0_1 r1.length∧SlLen va0_2 r2.length∧ns = [R.sl Sa0_1 va0_1 r1,R.sl Sa0_2 va0_2 r2]) w):=by
 unfold laws_markMaze.f at h
 refine Calls.of_tri (N:=14) Try.func28 rfl rfl rfl hw0 ?_
 refine Tri.seq (Tri.reg (l:=[0,1]) rfl ?_)
 refine F.mn rfl (m_boxG rfl rfl) ?_
 rintro _ _ ⟨b2_1,rfl,rfl⟩
 refine F.qn rfl (r_assign rfl) (F.nil (Nrm.seq (Tri.seq ?_)))
 obtain ⟨⟨t8_1,t8_2⟩,h8,h⟩:=bind_some h
 refine Tri.reg (l:=[0,1,2,3,4]) rfl ?_
 refine F.qn rfl (r_fieldAddr tf29_1 rfl) (F.qn rfl (r_load ta22 rfl (fun w hw=>cell_1 (box_cells (i:=0) rfl w hw) rfl)) (F.qn rfl (r_move rfl) ?_))
 refine F.efn rfl (d_callM (xs:=_) (cs:=[R.sl Sa0_1 va0_1 (a0_1 : List (Int × Int × Int))]) (rest:=[R.box b2_1 29 [.int .i64 a0_0,va0_1,va0_2],R.sl Sa0_2 va0_2 (a0_2 : List (Int))]) [1] [0,2] rfl ok44 rfl rfl rfl rfl (fun w hw=>laws_markIntA3S.ok h8 w hl_va0_1 (Sep.sub hw))) ?_
 rintro _ _ ⟨_,⟨rfl,hl_t8_2,rfl⟩,rfl⟩
 refine F.qn rfl (r_assign rfl) (F.nil (Nrm.seq (Tri.seq ?_)))
 obtain ⟨⟨t12_1,t12_2⟩,h12,h⟩:=bind_some h
 refine Tri.reg (l:=[0,1,2,3,4]) rfl ?_
 refine F.qn rfl (r_fieldAddr tf29_2 rfl) (F.qn rfl (r_load ta23 rfl (fun w hw=>cell_1 (box_cells (i:=1) rfl w hw) rfl)) (F.qn rfl (r_move rfl) ?_))
 refine F.efn rfl (d_callM (xs:=_) (cs:=[R.sl Sa0_2 va0_2 (a0_2 : List (Int))]) (rest:=[R.sl Sa0_1 va0_1 (t8_2 : List (Int × Int × Int)),R.box b2_1 29 [.int .i64 a0_0,va0_1,va0_2]]) [2] [0,1] rfl ok29 rfl rfl rfl rfl (fun w hw=>laws_markIntS.ok h12 w hl_va0_2 (Sep.sub hw))) ?_
 rintro _ _ ⟨_,⟨rfl,hl_t12_2,rfl⟩,rfl⟩
 refine F.qn rfl (r_assign rfl) (F.nil (Nrm.seq (Tri.seq (Tri.reg (l:=[0,1]) rfl ?_))))
 refine F.qn rfl (r_move rfl) (F.qn rfl (r_assign rfl) (F.nil (Nrm.seq (Tri.ret ?_))))
 cases h
 exact Rtn.body (.tmp rfl .nil) (fun w hw=>⟨_,_,rfl,⟨rfl,hl_t8_2,hl_t12_2,rfl⟩,Sep.pick (is:=[1,0]) rfl rfl hw⟩)


def laws_markTrap.f (k : Nat) (a0_0 : Int) (a0_1 : List (Int × Int × Int)) (a0_2 : List Int) (a0_3 : List Int) (a1 : Int) : Option (Int × (List (Int × Int × Int)) × (List Int) × (List Int)) := (laws_markMaze.f k a0_0 a0_1 a0_2 a1).bind fun (t8_1, t8_2, t8_3) => (laws_markIntS.f k a0_3 t8_1).bind fun (t12_1, t12_2) => some (t12_1, t8_2, t8_3, t12_2)

theorem laws_markTrap.ok {k : Nat}  {a0_0 : Int} {a0_1 : List (Int × Int × Int)} {a0_2 : List Int} {a0_3 : List Int} {a1 : Int} {r0 : Int} {r1 : List (Int × Int × Int)} {r2 : List Int} {r3 : List Int} (h : laws_markTrap.f k a0_0 a0_1 a0_2 a0_3 a1 = some (r0, r1, r2, r3)) (w : World) {va0_1 : Value} {Sa0_1 : Nat → Prop} (hl_va0_1 : SlLen va0_1 a0_1.length) {va0_2 : Value} {Sa0_2 : Nat → Prop} (hl_va0_2 : SlLen va0_2 a0_2.length) {va0_3 : Value} {Sa0_3 : Nat → Prop} (hl_va0_3 : SlLen va0_3 a0_3.length) (hw0 : Sep w (footM [R.sl Sa0_1 va0_1 a0_1, R.sl Sa0_2 va0_2 a0_2, R.sl Sa0_3 va0_3 a0_3]) [R.sl Sa0_1 va0_1 a0_1, R.sl Sa0_2 va0_2 a0_2, R.sl Sa0_3 va0_3 a0_3] w) :
  Calls Try.prog 9 ([.agg ([.int .i64 a0_0,va0_1,va0_2,va0_3].toArray),.int .i64 a1] : List Value).toArray w (PostM (footM [R.sl Sa0_1 va0_1 a0_1,R.sl Sa0_2 va0_2 a0_2,R.sl Sa0_3 va0_3 a0_3]) (fun u ns=>u = .int .i64 r0∧SlLen va0_1 r1.length∧SlLen va0_2 r2.length∧SlLen va0_3 r3.length∧ns = [R.sl Sa0_1 va0_1 r1,R.sl Sa0_2 va0_2 r2,R.sl Sa0_3 va0_3 r3]) w):=by
 unfold laws_markTrap.f at h
 refine Calls.of_tri (N:=14) Try.func9 rfl rfl rfl hw0 ?_
 refine Tri.seq (Tri.reg (l:=[0,1]) rfl ?_)
 refine F.mn rfl (m_boxG rfl rfl) ?_
 rintro _ _ ⟨b2_1,rfl,rfl⟩
 refine F.qn rfl (r_assign rfl) (F.nil (Nrm.seq (Tri.seq ?_)))
 obtain ⟨⟨t8_1,t8_2,t8_3⟩,h8,h⟩:=bind_some h
 refine Tri.reg (l:=[0,1,2,3,4]) rfl ?_
 refine F.qn rfl (r_fieldAddr tf31_0 rfl) (F.qn rfl (r_loadA ta29 ti29 rfl rfl (fun w hw=>cells_1 (cs':=[.int .i64 a0_0,va0_1,va0_2]) (box_cells (i:=0) rfl w hw) rfl)) (F.qn rfl (r_move rfl) ?_))
 refine F.efn rfl (d_callM (xs:=_) (cs:=[R.sl Sa0_1 va0_1 (a0_1 : List (Int × Int × Int)),R.sl Sa0_2 va0_2 (a0_2 : List (Int))]) (rest:=[R.box b2_1 31 [.int .i64 a0_0,va0_1,va0_2,va0_3],R.sl Sa0_3 va0_3 (a0_3 : List (Int))]) [1,2] [0,3] rfl ok28 rfl rfl rfl rfl (fun w hw=>laws_markMaze.ok h8 w hl_va0_1 hl_va0_2 (Sep.sub hw))) ?_
 rintro _ _ ⟨_,⟨rfl,hl_t8_2,hl_t8_3,rfl⟩,rfl⟩
 refine F.qn rfl (r_assign rfl) (F.nil (Nrm.seq (Tri.seq ?_)))
 obtain ⟨⟨t12_1,t12_2⟩,h12,h⟩:=bind_some h
 refine Tri.reg (l:=[0,1,2,3,4]) rfl ?_
 refine F.qn rfl (r_fieldAddr tf31_1 rfl) (F.qn rfl (r_load ta23 rfl (fun w hw=>cell_1 (box_cells (i:=2) rfl w hw) rfl)) (F.qn rfl (r_move rfl) ?_))
 refine F.efn rfl (d_callM (xs:=_) (cs:=[R.sl Sa0_3 va0_3 (a0_3 : List (Int))]) (rest:=[R.sl Sa0_1 va0_1 (t8_2 : List (Int × Int × Int)),R.sl Sa0_2 va0_2 (t8_3 : List (Int)),R.box b2_1 31 [.int .i64 a0_0,va0_1,va0_2,va0_3]]) [3] [0,1,2] rfl ok29 rfl rfl rfl rfl (fun w hw=>laws_markIntS.ok h12 w hl_va0_3 (Sep.sub hw))) ?_
 rintro _ _ ⟨_,⟨rfl,hl_t12_2,rfl⟩,rfl⟩
 refine F.qn rfl (r_assign rfl) (F.nil (Nrm.seq (Tri.seq (Tri.reg (l:=[0,1]) rfl ?_))))
 refine F.qn rfl (r_move rfl) (F.qn rfl (r_assign rfl) (F.nil (Nrm.seq (Tri.ret ?_))))
 cases h
 exact Rtn.body (.tmp rfl .nil) (fun w hw=>⟨_,_,rfl,⟨rfl,hl_t8_2,hl_t8_3,hl_t12_2,rfl⟩,Sep.pick (is:=[1,2,0]) rfl rfl hw⟩)


def laws_heldIntS.l0 (k : Nat) (a0 : List Int) : Nat → Int → Int → Option ((Int) ⊕ (Int))
 | 0,_,_=>none
 | n + 1,x1,x5=>(if (decide (x5 < (a0.length : Int))) = true then (rdl a0 x5).bind fun t14=>(if (t14 != x1) = true then some (Sum.inr (-1)) else laws_heldIntS.l0 k a0 n (w64 (x1 + 1)) (w64 (x5 + 1))) else some (Sum.inl x1))

def laws_heldIntS.f (k : Nat) (a0 : List Int) (a1 : Int) : Option (Int) := (laws_heldIntS.l0 k a0 k a1 0).bind fun s => Lr s some fun x1 => some x1

theorem laws_heldIntS.ok {k : Nat}  {a0 : List Int} {a1 : Int} {r0 : Int} (h : laws_heldIntS.f k a0 a1 = some r0) (w : World) {va0 : Value} (hr_a0 : Rd w va0 a0) :
  Calls Try.prog 31 ([va0,.int .i64 a1] : List Value).toArray w (fun e w'=>e = .returned (.int .i64 r0)∧Ext w w'):=by
 unfold laws_heldIntS.f at h
 have hl_va0:=hr_a0.len
 refine Calls.of_tri (N:=21) Try.func31 rfl rfl rfl (Sep.nil (M:=noM)) ?_
 refine Tri.seq (Tri.reg (l:=[0]) rfl ?_)
 refine F.qn rfl (r_assign rfl) (F.nil (Nrm.seq (Tri.seq (Tri.seq (Tri.reg (l:=[0]) rfl ?_)))))
 refine F.qn rfl (r_assign rfl) (F.nil (Nrm.seq ?_))
 obtain ⟨s0,hE_1,h⟩:=bind_some h
 refine Tri.block ?_
 refine Tri.only [0,1,5] rfl ?_
 refine Tri.pick [] rfl rfl ?_
 refine Tri.rounds (fun n e' C'=>∃ (x1' : Int) (x5' : Int),laws_heldIntS.l0 k a0 n x1' x5' = some s0∧e' = [(0,va0),(1,.int .i64 x1'),(5,.int .i64 x5')]∧C' = Sep w noM []) k ?_ ?_ ?_
 ·exact ⟨a1,0,hE_1,rfl,rfl⟩
 ·rintro _ _ ⟨_,_,hE_1,_⟩
  rw [laws_heldIntS.l0.eq_1] at hE_1; cases hE_1
 ·rintro n_1 _ _ ⟨x1,x5,hE_1,rfl,rfl⟩ ih_1
  rw [laws_heldIntS.l0.eq_2] at hE_1
  refine Tri.seq (Tri.seq (Tri.reg (l:=[0,1,2,3]) rfl ?_))
  refine F.qn rfl (r_move rfl) (F.qn rfl (r_move rfl) (F.qn rfl (r_len Try.underlying23 rfl hl_va0) (F.qn rfl (r_lss rfl rfl) (F.nil (Nrm.seq (Tri.cond (b:=decide (x5 < (a0.length : Int))) rfl (fun g_1=>?_) (fun g_1=>?_)))))))
  ·replace hE_1:=if_tt g_1 hE_1
   refine Tri.skip (Nrm.seq (Tri.seq (Tri.block ?_)))
   refine Tri.seq (Tri.seq ?_)
   obtain ⟨t14,h14,hE_1⟩:=bind_some hE_1
   refine Tri.reg (l:=[0,1,2,3,4,5]) rfl ?_
   refine F.qn rfl (r_move rfl) (F.qn rfl (r_move rfl) (F.qn rfl (r_indexAddrS Try.underlying23 ti3 rfl hl_va0 rfl (rdl_some h14).1 (rdl_some h14).2.1) (F.qn rfl (r_load ta3 rfl (fun w hw=>cell_0 (Rd.flat ((fun _ hw=>hr_a0.sep hw) w hw) (rdl_some h14).2.2) rfl)) (F.qn rfl (r_move rfl) (F.qn rfl (r_neq rfl rfl) (F.nil (Nrm.seq (Tri.cond (b:=t14 != x1) rfl (fun g_2=>?_) (fun g_2=>?_)))))))))
   ·replace hE_1:=if_tt g_2 hE_1
    refine Tri.seq (Tri.reg (l:=[0]) rfl ?_)
    refine F.qn rfl (r_assign rfl) (F.nil (Nrm.seq (Tri.ret ?_)))
    refine Rtn.then ?_
    refine Rtn.block ?_
    refine Rtn.then ?_
    refine Rtn.then ?_
    refine Rtn.block ?_
    refine Rtn.then ?_
    cases hE_1
    replace h:=Lr_inr h
    cases h
    exact Rtn.body (.tmp rfl .nil) (fun w hw=>⟨rfl,hw.ext⟩)
   ·replace hE_1:=if_ff g_2 hE_1
    refine Tri.skip (Nrm.seq (Tri.reg (l:=[0,1,2]) rfl ?_))
    refine F.qn rfl (r_move rfl) (F.qn rfl (r_add rfl rfl) (F.qn rfl (r_assign rfl) (F.nil (Nrm.block ?_))))
    refine Nrm.seq (Tri.reg (l:=[0,1,2]) rfl ?_)
    refine F.qn rfl (r_move rfl) (F.qn rfl (r_add rfl rfl) (F.qn rfl (r_assign rfl) (F.nil (Nrm.round ?_))))
    refine Rnd.only [0,1,5] rfl ?_
    refine Rnd.pick [] rfl rfl ?_
    exact ih_1 _ _ ⟨w64 (x1 + 1),w64 (x5 + 1),hE_1,rfl,rfl⟩
  ·replace hE_1:=if_ff g_1 hE_1
   refine Tri.exit ?_
   refine Exi.then ?_
   refine Exi.then ?_
   refine Exi.same ?_
   cases hE_1
   replace h:=Lr_inl h
   refine Nrm.seq (Tri.seq (Tri.reg (l:=[0,1]) rfl ?_))
   refine F.qn rfl (r_move rfl) (F.qn rfl (r_assign rfl) (F.nil (Nrm.seq (Tri.ret ?_))))
   cases h
   exact Rtn.body (.tmp rfl .nil) (fun w hw=>⟨rfl,hw.ext⟩)


def laws_heldIntA3S.l1 (k : Nat) (a0 : List (Int × Int × Int)) (x5 : Int) : Nat → Int → Int → Option ((Int) ⊕ (Int))
 | 0,_,_=>none
 | n + 1,x1r,x6=>(if (decide (x6 < 3)) = true then (rdl a0 x5).bind fun t20=>(rdl [t20.1,t20.2.1,t20.2.2] x6).bind fun t21=>(if (t21 != x1r) = true then some (Sum.inr (-1)) else laws_heldIntA3S.l1 k a0 x5 n (w64 (x1r + 1)) (w64 (x6 + 1))) else some (Sum.inl x1r))

def laws_heldIntA3S.l0 (k : Nat) (a0 : List (Int × Int × Int)) : Nat → Int → Int → Option ((Int) ⊕ (Int))
 | 0,_,_=>none
 | n + 1,x1,x5=>(if (decide (x5 < (a0.length : Int))) = true then (laws_heldIntA3S.l1 k a0 x5 k x1 0).bind fun s=>Lr s (fun r=>some (Sum.inr r)) fun x1r=>laws_heldIntA3S.l0 k a0 n x1r (w64 (x5 + 1)) else some (Sum.inl x1))

def laws_heldIntA3S.f (k : Nat) (a0 : List (Int × Int × Int)) (a1 : Int) : Option (Int) := (laws_heldIntA3S.l0 k a0 k a1 0).bind fun s => Lr s some fun x1 => some x1

theorem laws_heldIntA3S.ok {k : Nat}  {a0 : List (Int × Int × Int)} {a1 : Int} {r0 : Int} (h : laws_heldIntA3S.f k a0 a1 = some r0) (w : World) {va0 : Value} (hr_a0 : Rd w va0 a0) :
  Calls Try.prog 45 ([va0,.int .i64 a1] : List Value).toArray w (fun e w'=>e = .returned (.int .i64 r0)∧Ext w w'):=by
 unfold laws_heldIntA3S.f at h
 have hl_va0:=hr_a0.len
 refine Calls.of_tri (N:=28) Try.func45 rfl rfl rfl (Sep.nil (M:=noM)) ?_
 refine Tri.seq (Tri.reg (l:=[0]) rfl ?_)
 refine F.qn rfl (r_assign rfl) (F.nil (Nrm.seq (Tri.seq (Tri.seq (Tri.reg (l:=[0]) rfl ?_)))))
 refine F.qn rfl (r_assign rfl) (F.nil (Nrm.seq ?_))
 obtain ⟨s0,hE_1,h⟩:=bind_some h
 refine Tri.block ?_
 refine Tri.only [0,1,5] rfl ?_
 refine Tri.pick [] rfl rfl ?_
 refine Tri.rounds (fun n e' C'=>∃ (x1' : Int) (x5' : Int),laws_heldIntA3S.l0 k a0 n x1' x5' = some s0∧e' = [(0,va0),(1,.int .i64 x1'),(5,.int .i64 x5')]∧C' = Sep w noM []) k ?_ ?_ ?_
 ·exact ⟨a1,0,hE_1,rfl,rfl⟩
 ·rintro _ _ ⟨_,_,hE_1,_⟩
  rw [laws_heldIntA3S.l0.eq_1] at hE_1; cases hE_1
 ·rintro n_1 _ _ ⟨x1,x5,hE_1,rfl,rfl⟩ ih_1
  rw [laws_heldIntA3S.l0.eq_2] at hE_1
  refine Tri.seq (Tri.seq (Tri.reg (l:=[0,1,2,3]) rfl ?_))
  refine F.qn rfl (r_move rfl) (F.qn rfl (r_move rfl) (F.qn rfl (r_len Try.underlying22 rfl hl_va0) (F.qn rfl (r_lss rfl rfl) (F.nil (Nrm.seq (Tri.cond (b:=decide (x5 < (a0.length : Int))) rfl (fun g_1=>?_) (fun g_1=>?_)))))))
  ·replace hE_1:=if_tt g_1 hE_1
   refine Tri.skip (Nrm.seq (Tri.seq (Tri.block ?_)))
   refine Tri.seq (Tri.reg (l:=[0]) rfl ?_)
   refine F.qn rfl (r_assign rfl) (F.nil (Nrm.seq ?_))
   obtain ⟨s1,hE_2,hE_1⟩:=bind_some hE_1
   refine Tri.block ?_
   refine Tri.only [0,1,5,6] rfl ?_
   refine Tri.pick [] rfl rfl ?_
   refine Tri.rounds (fun n e' C'=>∃ (x1r' : Int) (x6' : Int),laws_heldIntA3S.l1 k a0 x5 n x1r' x6' = some s1∧e' = [(0,va0),(1,.int .i64 x1r'),(5,.int .i64 x5),(6,.int .i64 x6')]∧C' = Sep w noM []) k ?_ ?_ ?_
   ·exact ⟨x1,0,hE_2,rfl,rfl⟩
   ·rintro _ _ ⟨_,_,hE_2,_⟩
    rw [laws_heldIntA3S.l1.eq_1] at hE_2; cases hE_2
   ·rintro n_2 _ _ ⟨x1r,x6,hE_2,rfl,rfl⟩ ih_2
    rw [laws_heldIntA3S.l1.eq_2] at hE_2
    refine Tri.seq (Tri.seq (Tri.reg (l:=[0,1]) rfl ?_))
    refine F.qn rfl (r_move rfl) (F.qn rfl (r_lss rfl rfl) (F.nil (Nrm.seq (Tri.cond (b:=decide (x6 < 3)) rfl (fun g_2=>?_) (fun g_2=>?_)))))
    ·replace hE_2:=if_tt g_2 hE_2
     refine Tri.skip (Nrm.seq (Tri.seq (Tri.block ?_)))
     refine Tri.seq (Tri.seq ?_)
     obtain ⟨t20,h20,hE_2⟩:=bind_some hE_2
     obtain ⟨t21,h21,hE_2⟩:=bind_some hE_2
     refine Tri.reg (l:=[0,1,2,3,4,5,6,7]) rfl ?_
     iterate 3 refine F.qn rfl (r_move rfl) ?_
     refine F.qn rfl (r_indexAddrS Try.underlying22 ti61 rfl hl_va0 rfl (rdl_some h20).1 (rdl_some h20).2.1) (F.qn rfl (r_indexAddrA Try.underlying61 ti3 rfl rfl (rdl_some h21).1 (rdl_some h21).2.1) (F.qn rfl (r_load ta3 rfl (fun w hw=>cell_dynB (Rd.flat ((fun _ hw=>hr_a0.sep hw) w hw) (rdl_some h20).2.2) rfl h21)) (F.qn rfl (r_move rfl) (F.qn rfl (r_neq rfl rfl) (F.nil (Nrm.seq (Tri.cond (b:=t21 != x1r) rfl (fun g_3=>?_) (fun g_3=>?_))))))))
     ·replace hE_2:=if_tt g_3 hE_2
      refine Tri.seq (Tri.reg (l:=[0]) rfl ?_)
      refine F.qn rfl (r_assign rfl) (F.nil (Nrm.seq (Tri.ret ?_)))
      refine Rtn.then ?_
      refine Rtn.block ?_
      refine Rtn.then ?_
      refine Rtn.then ?_
      refine Rtn.block ?_
      refine Rtn.block ?_
      refine Rtn.then ?_
      refine Rtn.then ?_
      refine Rtn.block ?_
      refine Rtn.then ?_
      cases hE_2
      replace hE_1:=Lr_inr hE_1
      cases hE_1
      replace h:=Lr_inr h
      cases h
      exact Rtn.body (.tmp rfl .nil) (fun w hw=>⟨rfl,hw.ext⟩)
     ·replace hE_2:=if_ff g_3 hE_2
      refine Tri.skip (Nrm.seq (Tri.reg (l:=[0,1,2]) rfl ?_))
      refine F.qn rfl (r_move rfl) (F.qn rfl (r_add rfl rfl) (F.qn rfl (r_assign rfl) (F.nil (Nrm.block ?_))))
      refine Nrm.seq (Tri.reg (l:=[0,1,2]) rfl ?_)
      refine F.qn rfl (r_move rfl) (F.qn rfl (r_add rfl rfl) (F.qn rfl (r_assign rfl) (F.nil (Nrm.round ?_))))
      refine Rnd.only [0,1,5,6] rfl ?_
      refine Rnd.pick [] rfl rfl ?_
      exact ih_2 _ _ ⟨w64 (x1r + 1),w64 (x6 + 1),hE_2,rfl,rfl⟩
    ·replace hE_2:=if_ff g_2 hE_2
     refine Tri.exit ?_
     refine Exi.then ?_
     refine Exi.then ?_
     refine Exi.same ?_
     cases hE_2
     replace hE_1:=Lr_inl hE_1
     refine Nrm.block ?_
     refine Nrm.seq (Tri.reg (l:=[0,1,2]) rfl ?_)
     refine F.qn rfl (r_move rfl) (F.qn rfl (r_add rfl rfl) (F.qn rfl (r_assign rfl) (F.nil (Nrm.round ?_))))
     refine Rnd.only [0,1,5] rfl ?_
     refine Rnd.pick [] rfl rfl ?_
     exact ih_1 _ _ ⟨x1r,w64 (x5 + 1),hE_1,rfl,rfl⟩
  ·replace hE_1:=if_ff g_1 hE_1
   refine Tri.exit ?_
   refine Exi.then ?_
   refine Exi.then ?_
   refine Exi.same ?_
   cases hE_1
   replace h:=Lr_inl h
   refine Nrm.seq (Tri.seq (Tri.reg (l:=[0,1]) rfl ?_))
   refine F.qn rfl (r_move rfl) (F.qn rfl (r_assign rfl) (F.nil (Nrm.seq (Tri.ret ?_))))
   cases h
   exact Rtn.body (.tmp rfl .nil) (fun w hw=>⟨rfl,hw.ext⟩)


def laws_heldMaze.f (k : Nat) (a0_0 : Int) (a0_1 : List (Int × Int × Int)) (a0_2 : List Int) (a1 : Int) : Option (Int) := (laws_heldIntA3S.f k a0_1 a1).bind fun t8 => (if (decide (t8 < 0)) = true then some (-1) else (laws_heldIntS.f k a0_2 t8).bind fun t14 => (if (decide (t14 < 0)) = true then some (-1) else some t14))

theorem laws_heldMaze.ok {k : Nat}  {a0_0 : Int} {a0_1 : List (Int × Int × Int)} {a0_2 : List Int} {a1 : Int} {r0 : Int} (h : laws_heldMaze.f k a0_0 a0_1 a0_2 a1 = some r0) (w : World) {va0_1 : Value} {va0_2 : Value} (hr_a0_1 : Rd w va0_1 a0_1) (hr_a0_2 : Rd w va0_2 a0_2) :
  Calls Try.prog 30 ([.agg ([.int .i64 a0_0,va0_1,va0_2].toArray),.int .i64 a1] : List Value).toArray w (fun e w'=>e = .returned (.int .i64 r0)∧Ext w w'):=by
 unfold laws_heldMaze.f at h
 have hl_va0_1:=hr_a0_1.len
 have hl_va0_2:=hr_a0_2.len
 refine Calls.of_tri (N:=18) Try.func30 rfl rfl rfl (Sep.nil (M:=noM)) ?_
 refine Tri.seq (Tri.reg (l:=[0,1]) rfl ?_)
 refine F.mn rfl (m_boxG rfl rfl) ?_
 rintro _ _ ⟨b2_1,rfl,rfl⟩
 refine F.qn rfl (r_assign rfl) (F.nil (Nrm.seq (Tri.seq ?_)))
 obtain ⟨t8,h8,h⟩:=bind_some h
 refine Tri.reg (l:=[0,1,2,3,4]) rfl ?_
 refine F.qn rfl (r_fieldAddr tf29_1 rfl) (F.qn rfl (r_load ta22 rfl (fun w hw=>cell_1 (box_cells (i:=0) rfl w hw) rfl)) (F.qn rfl (r_move rfl) ?_))
 refine F.qcn rfl (q_callF (xs:=_) rfl ok45 rfl rfl (fun w hw=>laws_heldIntA3S.ok h8 w ((fun _ hw=>hr_a0_1.sep hw) w hw))) ?_
 refine F.qn rfl (r_assign rfl) (F.nil (Nrm.seq (Tri.seq (Tri.seq (Tri.reg (l:=[0,1]) rfl ?_)))))
 refine F.qn rfl (r_move rfl) (F.qn rfl (r_lss rfl rfl) (F.nil (Nrm.seq (Tri.cond (b:=decide (t8 < 0)) rfl (fun g_1=>?_) (fun g_1=>?_)))))
 ·replace h:=if_tt g_1 h
  refine Tri.seq (Tri.reg (l:=[0]) rfl ?_)
  refine F.qn rfl (r_assign rfl) (F.nil (Nrm.seq (Tri.ret ?_)))
  refine Rtn.then ?_
  cases h
  exact Rtn.body (.tmp rfl .nil) (fun w hw=>⟨rfl,hw.ext⟩)
 ·replace h:=if_ff g_1 h
  refine Tri.skip (Nrm.seq (Tri.seq ?_))
  obtain ⟨t14,h14,h⟩:=bind_some h
  refine Tri.reg (l:=[0,1,2,3,4]) rfl ?_
  refine F.qn rfl (r_fieldAddr tf29_2 rfl) (F.qn rfl (r_load ta23 rfl (fun w hw=>cell_1 (box_cells (i:=0) rfl w hw) rfl)) (F.qn rfl (r_move rfl) ?_))
  refine F.qcn rfl (q_callF (xs:=_) rfl ok31 rfl rfl (fun w hw=>laws_heldIntS.ok h14 w ((fun _ hw=>hr_a0_2.sep hw) w hw))) ?_
  refine F.qn rfl (r_assign rfl) (F.nil (Nrm.seq (Tri.seq (Tri.seq (Tri.reg (l:=[0,1]) rfl ?_)))))
  refine F.qn rfl (r_move rfl) (F.qn rfl (r_lss rfl rfl) (F.nil (Nrm.seq (Tri.cond (b:=decide (t14 < 0)) rfl (fun g_2=>?_) (fun g_2=>?_)))))
  ·replace h:=if_tt g_2 h
   refine Tri.seq (Tri.reg (l:=[0]) rfl ?_)
   refine F.qn rfl (r_assign rfl) (F.nil (Nrm.seq (Tri.ret ?_)))
   refine Rtn.then ?_
   cases h
   exact Rtn.body (.tmp rfl .nil) (fun w hw=>⟨rfl,hw.ext⟩)
  ·replace h:=if_ff g_2 h
   refine Tri.skip (Nrm.seq (Tri.seq (Tri.reg (l:=[0,1]) rfl ?_)))
   refine F.qn rfl (r_move rfl) (F.qn rfl (r_assign rfl) (F.nil (Nrm.seq (Tri.ret ?_))))
   cases h
   exact Rtn.body (.tmp rfl .nil) (fun w hw=>⟨rfl,hw.ext⟩)


def laws_heldTrap.f (k : Nat) (a0_0 : Int) (a0_1 : List (Int × Int × Int)) (a0_2 : List Int) (a0_3 : List Int) (a1 : Int) : Option (Int) := (laws_heldMaze.f k a0_0 a0_1 a0_2 a1).bind fun t8 => (if (decide (t8 < 0)) = true then some (-1) else (laws_heldIntS.f k a0_3 t8).bind fun t14 => (if (decide (t14 < 0)) = true then some (-1) else some t14))

theorem laws_heldTrap.ok {k : Nat}  {a0_0 : Int} {a0_1 : List (Int × Int × Int)} {a0_2 : List Int} {a0_3 : List Int} {a1 : Int} {r0 : Int} (h : laws_heldTrap.f k a0_0 a0_1 a0_2 a0_3 a1 = some r0) (w : World) {va0_1 : Value} {va0_2 : Value} {va0_3 : Value} (hr_a0_1 : Rd w va0_1 a0_1) (hr_a0_2 : Rd w va0_2 a0_2) (hr_a0_3 : Rd w va0_3 a0_3) :
  Calls Try.prog 10 ([.agg ([.int .i64 a0_0,va0_1,va0_2,va0_3].toArray),.int .i64 a1] : List Value).toArray w (fun e w'=>e = .returned (.int .i64 r0)∧Ext w w'):=by
 unfold laws_heldTrap.f at h
 have hl_va0_1:=hr_a0_1.len
 have hl_va0_2:=hr_a0_2.len
 have hl_va0_3:=hr_a0_3.len
 refine Calls.of_tri (N:=18) Try.func10 rfl rfl rfl (Sep.nil (M:=noM)) ?_
 refine Tri.seq (Tri.reg (l:=[0,1]) rfl ?_)
 refine F.mn rfl (m_boxG rfl rfl) ?_
 rintro _ _ ⟨b2_1,rfl,rfl⟩
 refine F.qn rfl (r_assign rfl) (F.nil (Nrm.seq (Tri.seq ?_)))
 obtain ⟨t8,h8,h⟩:=bind_some h
 refine Tri.reg (l:=[0,1,2,3,4]) rfl ?_
 refine F.qn rfl (r_fieldAddr tf31_0 rfl) (F.qn rfl (r_loadA ta29 ti29 rfl rfl (fun w hw=>cells_1 (cs':=[.int .i64 a0_0,va0_1,va0_2]) (box_cells (i:=0) rfl w hw) rfl)) (F.qn rfl (r_move rfl) ?_))
 refine F.qcn rfl (q_callF (xs:=_) rfl ok30 rfl rfl (fun w hw=>laws_heldMaze.ok h8 w ((fun _ hw=>hr_a0_1.sep hw) w hw) ((fun _ hw=>hr_a0_2.sep hw) w hw))) ?_
 refine F.qn rfl (r_assign rfl) (F.nil (Nrm.seq (Tri.seq (Tri.seq (Tri.reg (l:=[0,1]) rfl ?_)))))
 refine F.qn rfl (r_move rfl) (F.qn rfl (r_lss rfl rfl) (F.nil (Nrm.seq (Tri.cond (b:=decide (t8 < 0)) rfl (fun g_1=>?_) (fun g_1=>?_)))))
 ·replace h:=if_tt g_1 h
  refine Tri.seq (Tri.reg (l:=[0]) rfl ?_)
  refine F.qn rfl (r_assign rfl) (F.nil (Nrm.seq (Tri.ret ?_)))
  refine Rtn.then ?_
  cases h
  exact Rtn.body (.tmp rfl .nil) (fun w hw=>⟨rfl,hw.ext⟩)
 ·replace h:=if_ff g_1 h
  refine Tri.skip (Nrm.seq (Tri.seq ?_))
  obtain ⟨t14,h14,h⟩:=bind_some h
  refine Tri.reg (l:=[0,1,2,3,4]) rfl ?_
  refine F.qn rfl (r_fieldAddr tf31_1 rfl) (F.qn rfl (r_load ta23 rfl (fun w hw=>cell_1 (box_cells (i:=0) rfl w hw) rfl)) (F.qn rfl (r_move rfl) ?_))
  refine F.qcn rfl (q_callF (xs:=_) rfl ok31 rfl rfl (fun w hw=>laws_heldIntS.ok h14 w ((fun _ hw=>hr_a0_3.sep hw) w hw))) ?_
  refine F.qn rfl (r_assign rfl) (F.nil (Nrm.seq (Tri.seq (Tri.seq (Tri.reg (l:=[0,1]) rfl ?_)))))
  refine F.qn rfl (r_move rfl) (F.qn rfl (r_lss rfl rfl) (F.nil (Nrm.seq (Tri.cond (b:=decide (t14 < 0)) rfl (fun g_2=>?_) (fun g_2=>?_)))))
  ·replace h:=if_tt g_2 h
   refine Tri.seq (Tri.reg (l:=[0]) rfl ?_)
   refine F.qn rfl (r_assign rfl) (F.nil (Nrm.seq (Tri.ret ?_)))
   refine Rtn.then ?_
   cases h
   exact Rtn.body (.tmp rfl .nil) (fun w hw=>⟨rfl,hw.ext⟩)
  ·replace h:=if_ff g_2 h
   refine Tri.skip (Nrm.seq (Tri.seq (Tri.reg (l:=[0,1]) rfl ?_)))
   refine F.qn rfl (r_move rfl) (F.qn rfl (r_assign rfl) (F.nil (Nrm.seq (Tri.ret ?_))))
   cases h
   exact Rtn.body (.tmp rfl .nil) (fun w hw=>⟨rfl,hw.ext⟩)


def laws_FnExactTurnDoor.f (k : Nat) (a0_0 : Int) (a0_1 : List (Int × Int × Int)) (a0_2 : List Int) (a0_3 : List Int) (a1 : Int) : Option (Bool) := (laws_szTrap.f k a0_0 a0_1 a0_2 a0_3 1048576).bind fun t18 => (if (decide (t18 < 0)) = true then some true else (laws_toTrap.f k a0_0 a0_1 a0_2 a0_3).bind fun (t23_1, t23_2, t23_3, t23_4) => (spec_TurnDoor.f k t23_1 t23_2 t23_3 t23_4 a1).bind fun (t25_1, t25_2, t25_3, t25_4, t25_5) => (laws_toTrap.f k a0_0 a0_1 a0_2 a0_3).bind fun (t29_1, t29_2, t29_3, t29_4) => (impl_TurnDoor.f k t29_1 t29_2 t29_3 t29_4 a1).bind fun (t33_1, t33_2, t33_3, t33_4, t33_5) => ((laws_eqTrap.f k t33_1 t33_2 t33_3 t33_4 t25_1 t25_2 t25_3 t25_4).bind fun t38 => (if (!t38) = true then some true else some (t33_5 != t25_5))).bind fun y44 => (if y44 = true then some false else (laws_toTrap.f k a0_0 a0_1 a0_2 a0_3).bind fun (t47_1, t47_2, t47_3, t47_4) => (laws_eqTrap.f k t29_1 t29_2 t29_3 t29_4 t47_1 t47_2 t47_3 t47_4).bind fun t48 => (if (!t48) = true then some false else (laws_markTrap.f k t29_1 t29_2 t29_3 t29_4 1).bind fun (t52_1, t52_2, t52_3, t52_4) => ((if (decide (t52_1 < 0)) = true then some true else (laws_eqTrap.f k t33_1 t33_2 t33_3 t33_4 t25_1 t25_2 t25_3 t25_4).bind fun t58 => (if (!t58) = true then some true else some (t33_5 != t25_5)))).bind fun y65 => (if y65 = true then some false else (laws_markTrap.f k t33_1 t33_2 t33_3 t33_4 1).bind fun (t68_1, t68_2, t68_3, t68_4) => (laws_heldTrap.f k t33_1 t68_2 t68_3 t68_4 1).bind fun t71 => (if (decide (t71 < 0)) = true then some false else (if (t71 != t68_1) = true then some false else (laws_toTrap.f k a0_0 a0_1 a0_2 a0_3).bind fun (t79_1, t79_2, t79_3, t79_4) => (impl_TurnDoor.f k t79_1 t79_2 t79_3 t79_4 a1).bind fun (t81_1, t81_2, t81_3, t81_4, t81_5) => ((laws_eqTrap.f k t81_1 t81_2 t81_3 t81_4 t25_1 t25_2 t25_3 t25_4).bind fun t86 => (if (!t86) = true then some true else some (t81_5 != t25_5))).bind fun y92 => (if y92 = true then some false else (laws_heldTrap.f k t33_1 t68_2 t68_3 t68_4 1).bind fun t95 => (if (decide (t95 < 0)) = true then some false else (if (t95 != t68_1) = true then some false else some true)))))))))

theorem laws_FnExactTurnDoor.ok {k : Nat}  {a0_0 : Int} {a0_1 : List (Int × Int × Int)} {a0_2 : List Int} {a0_3 : List Int} {a1 : Int} {r0 : Bool} (h : laws_FnExactTurnDoor.f k a0_0 a0_1 a0_2 a0_3 a1 = some r0) (w : World) {va0_1 : Value} {va0_2 : Value} {va0_3 : Value} (hr_a0_1 : Rd w va0_1 a0_1) (hr_a0_2 : Rd w va0_2 a0_2) (hr_a0_3 : Rd w va0_3 a0_3) :
  Calls Try.prog 3 ([.agg ([.int .i64 a0_0,va0_1,va0_2,va0_3].toArray),.int .i64 a1] : List Value).toArray w (fun e w'=>e = .returned (.bool r0)∧Ext w w'):=by
 unfold laws_FnExactTurnDoor.f at h
 have hl_va0_1:=hr_a0_1.len
 have hl_va0_2:=hr_a0_2.len
 have hl_va0_3:=hr_a0_3.len
 refine Calls.of_tri (N:=101) Try.func3 rfl rfl rfl (Sep.nil (M:=noM)) ?_
 refine Tri.seq (Tri.reg (l:=[0,1]) rfl ?_)
 refine F.mn rfl (m_boxG rfl rfl) ?_
 rintro _ _ ⟨b2_1,rfl,rfl⟩
 refine F.qn rfl (r_assign rfl) (F.nil (Nrm.seq (Tri.seq (Tri.reg (l:=[0]) rfl ?_))))
 refine F.qn rfl (r_assign rfl) (F.nil (Nrm.seq (Tri.seq ?_)))
 obtain ⟨t18,h18,h⟩:=bind_some h
 refine Tri.reg (l:=[0,1,2,3]) rfl ?_
 refine F.qn rfl (r_loadA ta27 ti27 rfl rfl (fun w hw=>(box_cells (i:=0) rfl w hw))) (F.qn rfl (r_move rfl) ?_)
 refine F.qcn rfl (q_callF (xs:=_) rfl ok4 rfl rfl (fun w hw=>laws_szTrap.ok h18 w ((fun _ hw=>hr_a0_1.sep hw) w hw) ((fun _ hw=>hr_a0_2.sep hw) w hw) ((fun _ hw=>hr_a0_3.sep hw) w hw))) ?_
 refine F.qn rfl (r_assign rfl) (F.nil (Nrm.seq (Tri.seq (Tri.seq (Tri.reg (l:=[0,1]) rfl ?_)))))
 refine F.qn rfl (r_move rfl) (F.qn rfl (r_lss rfl rfl) (F.nil (Nrm.seq (Tri.cond (b:=decide (t18 < 0)) rfl (fun g_1=>?_) (fun g_1=>?_)))))
 ·replace h:=if_tt g_1 h
  refine Tri.seq (Tri.reg (l:=[0]) rfl ?_)
  refine F.qn rfl (r_assign rfl) (F.nil (Nrm.seq (Tri.ret ?_)))
  refine Rtn.then ?_
  cases h
  exact Rtn.body (.tmp rfl .nil) (fun w hw=>⟨rfl,hw.ext⟩)
 ·replace h:=if_ff g_1 h
  refine Tri.skip (Nrm.seq (Tri.seq ?_))
  obtain ⟨⟨t23_1,t23_2,t23_3,t23_4⟩,h23,h⟩:=bind_some h
  obtain ⟨⟨t25_1,t25_2,t25_3,t25_4,t25_5⟩,h25,h⟩:=bind_some h
  refine Tri.reg (l:=[0,1,2,3,4,5,6,7,8,9]) rfl ?_
  refine F.qn rfl (r_loadA ta27 ti27 rfl rfl (fun w hw=>(box_cells (i:=0) rfl w hw))) ?_
  refine F.mn rfl (m_callF (xs:=_) rfl ok6 rfl rfl (fun w hw=>laws_toTrap.ok h23 w ((fun _ hw=>hr_a0_1.sep hw) w hw) ((fun _ hw=>hr_a0_2.sep hw) w hw) ((fun _ hw=>hr_a0_3.sep hw) w hw))) ?_
  rintro _ _ ⟨_,⟨v23_1,S23_1,v23_2,S23_2,v23_3,S23_3,rfl,hl_v23_1,hl_v23_2,hl_v23_3,rfl⟩,rfl⟩
  refine F.qn rfl (r_move rfl) ?_
  refine F.mn rfl (m_callF (xs:=_) rfl ok5 rfl rfl (fun w hw=>spec_TurnDoor.ok h25 w ((rd_sl (i:=0) rfl) w hw) ((rd_sl (i:=1) rfl) w hw) ((rd_sl (i:=2) rfl) w hw))) ?_
  rintro _ _ ⟨_,⟨v25_1,S25_1,v25_2,S25_2,v25_3,S25_3,rfl,hl_v25_1,hl_v25_2,hl_v25_3,rfl⟩,rfl⟩
  refine F.qn rfl (r_move rfl) (F.qn rfl (r_extract rfl rfl) (F.qn rfl (r_extract rfl rfl) ?_))
  refine F.mn rfl (m_alloc ti31) ?_
  rintro _ _ ⟨b6_1,rfl,rfl⟩
  refine F.ef0 rfl rfl (wanted_none rfl) (d_storeG0 (i:=0) (cs2:=[.int .i64 t25_1,v25_1,v25_2,v25_3]) ti31 rfl rfl rfl rfl rfl (Nat.le_of_ble_eq_true rfl) (lf_cons rfl (lf_cons (sl_leaf hl_v25_1) (lf_cons (sl_leaf hl_v25_2) (lf_cons (sl_leaf hl_v25_3) lf_nil))))) ?_
  rintro _ _ ⟨rfl,rfl⟩
  refine F.qn rfl (r_assign rfl) (F.nil (Nrm.seq (Tri.seq ?_)))
  obtain ⟨⟨t29_1,t29_2,t29_3,t29_4⟩,h29,h⟩:=bind_some h
  refine Tri.reg (l:=[0,1,2,3]) rfl ?_
  refine F.qn rfl (r_loadA ta27 ti27 rfl rfl (fun w hw=>(box_cells (i:=7) rfl w hw))) ?_
  refine F.mn rfl (m_callF (xs:=_) rfl ok6 rfl rfl (fun w hw=>laws_toTrap.ok h29 w ((fun _ hw=>hr_a0_1.sep hw) w hw) ((fun _ hw=>hr_a0_2.sep hw) w hw) ((fun _ hw=>hr_a0_3.sep hw) w hw))) ?_
  rintro _ _ ⟨_,⟨v29_1,S29_1,v29_2,S29_2,v29_3,S29_3,rfl,hl_v29_1,hl_v29_2,hl_v29_3,rfl⟩,rfl⟩
  refine F.mn rfl (m_alloc ti31) ?_
  rintro _ _ ⟨b8_1,rfl,rfl⟩
  refine F.ef0 rfl rfl (wanted_none rfl) (d_storeG0 (i:=0) (cs2:=[.int .i64 t29_1,v29_1,v29_2,v29_3]) ti31 rfl rfl rfl rfl rfl (Nat.le_of_ble_eq_true rfl) (lf_cons rfl (lf_cons (sl_leaf hl_v29_1) (lf_cons (sl_leaf hl_v29_2) (lf_cons (sl_leaf hl_v29_3) lf_nil))))) ?_
  rintro _ _ ⟨rfl,rfl⟩
  refine F.nil (Nrm.seq (Tri.seq ?_))
  obtain ⟨⟨t33_1,t33_2,t33_3,t33_4,t33_5⟩,h33,h⟩:=bind_some h
  refine Tri.reg (l:=[0,1,2,3,4,5,6,7,8]) rfl ?_
  refine F.qn rfl (r_loadA ta31 ti31 rfl rfl (fun w hw=>(box_cells (i:=0) rfl w hw))) (F.qn rfl (r_move rfl) ?_)
  refine F.mn rfl (m_callF (xs:=_) rfl ok7 rfl rfl (fun w hw=>impl_TurnDoor.ok h33 w ((rd_sl (i:=1) rfl) w hw) ((rd_sl (i:=2) rfl) w hw) ((rd_sl (i:=3) rfl) w hw))) ?_
  rintro _ _ ⟨_,⟨v33_1,S33_1,v33_2,S33_2,v33_3,S33_3,rfl,hl_v33_1,hl_v33_2,hl_v33_3,rfl⟩,rfl⟩
  refine F.qn rfl (r_move rfl) (F.qn rfl (r_extract rfl rfl) (F.qn rfl (r_extract rfl rfl) ?_))
  refine F.mn rfl (m_alloc ti31) ?_
  rintro _ _ ⟨b9_1,rfl,rfl⟩
  refine F.ef0 rfl rfl (wanted_none rfl) (d_storeG0 (i:=0) (cs2:=[.int .i64 t33_1,v33_1,v33_2,v33_3]) ti31 rfl rfl rfl rfl rfl (Nat.le_of_ble_eq_true rfl) (lf_cons rfl (lf_cons (sl_leaf hl_v33_1) (lf_cons (sl_leaf hl_v33_2) (lf_cons (sl_leaf hl_v33_3) lf_nil))))) ?_
  rintro _ _ ⟨rfl,rfl⟩
  refine F.qn rfl (r_assign rfl) (F.nil (Nrm.seq (Tri.seq (Tri.seq ?_))))
  obtain ⟨y44,hE_1,h⟩:=bind_some h
  refine Tri.cut (fun e' C'=>e' = [(1,.int .i64 a1),(2,.pointer (some ⟨b2_1,0,none⟩)),(6,.pointer (some ⟨b6_1,0,none⟩)),(7,.bool t25_5),(8,.pointer (some ⟨b8_1,0,none⟩)),(9,.pointer (some ⟨b9_1,0,none⟩)),(10,.bool t33_5),(44,.bool y44)]∧C' = Sep w noM [R.box b9_1 31 [.int .i64 t33_1,v33_1,v33_2,v33_3],R.box b8_1 31 [.int .i64 t29_1,v29_1,v29_2,v29_3],R.box b6_1 31 [.int .i64 t25_1,v25_1,v25_2,v25_3],R.box b2_1 27 [.int .i64 a0_0,va0_1,va0_2,va0_3],R.sl S25_1 v25_1 (t25_2 : List (Int × Int × Int)),R.sl S25_2 v25_2 (t25_3 : List (Int)),R.sl S25_3 v25_3 (t25_4 : List (Int)),R.sl S29_1 v29_1 (t29_2 : List (Int × Int × Int)),R.sl S29_2 v29_2 (t29_3 : List (Int)),R.sl S29_3 v29_3 (t29_4 : List (Int)),R.sl S33_1 v33_1 (t33_2 : List (Int × Int × Int)),R.sl S33_2 v33_2 (t33_3 : List (Int)),R.sl S33_3 v33_3 (t33_4 : List (Int))]) ?_ (fun hj_1=>?_)
  ·rintro _ _ ⟨rfl,rfl⟩
   refine Nrm.seq (Tri.cond (b:=y44) rfl (fun g_2=>?_) (fun g_2=>?_))
   ·replace h:=if_tt g_2 h
    refine Tri.seq (Tri.reg (l:=[0]) rfl ?_)
    refine F.qn rfl (r_assign rfl) (F.nil (Nrm.seq (Tri.ret ?_)))
    refine Rtn.then ?_
    cases h
    exact Rtn.body (.tmp rfl .nil) (fun w hw=>⟨rfl,hw.ext⟩)
   ·replace h:=if_ff g_2 h
    refine Tri.skip (Nrm.seq (Tri.seq (Tri.seq ?_)))
    obtain ⟨⟨t47_1,t47_2,t47_3,t47_4⟩,h47,h⟩:=bind_some h
    obtain ⟨t48,h48,h⟩:=bind_some h
    refine Tri.drawA mixedT Sep.up [(0,true),(1,true),(2,false),(3,true),(4,true)] [] (by kernel_rfl) ?_
    refine S.qn rfl (r_loadA ta31 ti31 rfl rfl (fun w hw=>(box_cells (i:=1) rfl w hw))) (S.qn rfl (r_loadA ta27 ti27 rfl rfl (fun w hw=>(box_cells (i:=3) rfl w hw))) ?_)
    refine S.m rfl rfl rfl (wanted_none rfl) (m_callF (xs:=_) rfl ok6 rfl rfl (fun w hw=>laws_toTrap.ok h47 w ((fun _ hw=>hr_a0_1.sep hw) w hw) ((fun _ hw=>hr_a0_2.sep hw) w hw) ((fun _ hw=>hr_a0_3.sep hw) w hw))) ?_
    rintro _ _ ⟨_,⟨v47_4,S47_4,v47_5,S47_5,v47_6,S47_6,rfl,hl_v47_4,hl_v47_5,hl_v47_6,rfl⟩,rfl⟩
    refine S.qcn rfl (q_callF (xs:=_) rfl ok8 rfl rfl (fun w hw=>laws_eqTrap.ok h48 w ((rd_sl (i:=10) rfl) w hw) ((rd_sl (i:=11) rfl) w hw) ((rd_sl (i:=12) rfl) w hw) ((rd_sl (i:=0) rfl) w hw) ((rd_sl (i:=1) rfl) w hw) ((rd_sl (i:=2) rfl) w hw))) ?_
    refine S.qn rfl (r_not rfl) (S.nil (F.nil (Nrm.seq (Tri.cond (b:=!t48) rfl (fun g_3=>?_) (fun g_3=>?_)))))
    ·replace h:=if_tt g_3 h
     refine Tri.seq (Tri.reg (l:=[0]) rfl ?_)
     refine F.qn rfl (r_assign rfl) (F.nil (Nrm.seq (Tri.ret ?_)))
     refine Rtn.then ?_
     cases h
     exact Rtn.body (.tmp rfl .nil) (fun w hw=>⟨rfl,hw.ext⟩)
    ·replace h:=if_ff g_3 h
     refine Tri.skip (Nrm.seq (Tri.seq (Tri.reg (l:=[0]) rfl ?_)))
     refine F.qn rfl (r_assign rfl) (F.nil (Nrm.seq (Tri.seq ?_)))
     obtain ⟨⟨t52_1,t52_2,t52_3,t52_4⟩,h52,h⟩:=bind_some h
     refine Tri.reg (l:=[0,1,2,3]) rfl ?_
     refine F.qn rfl (r_loadA ta31 ti31 rfl rfl (fun w hw=>(box_cells (i:=4) rfl w hw))) (F.qn rfl (r_move rfl) ?_)
     refine F.efn rfl (d_callM (xs:=_) (cs:=[R.sl S29_1 v29_1 (t29_2 : List (Int × Int × Int)),R.sl S29_2 v29_2 (t29_3 : List (Int)),R.sl S29_3 v29_3 (t29_4 : List (Int))]) (rest:=[R.sl S47_4 v47_4 (t47_2 : List (Int × Int × Int)),R.sl S47_5 v47_5 (t47_3 : List (Int)),R.sl S47_6 v47_6 (t47_4 : List (Int)),R.box b9_1 31 [.int .i64 t33_1,v33_1,v33_2,v33_3],R.box b8_1 31 [.int .i64 t29_1,v29_1,v29_2,v29_3],R.box b6_1 31 [.int .i64 t25_1,v25_1,v25_2,v25_3],R.box b2_1 27 [.int .i64 a0_0,va0_1,va0_2,va0_3],R.sl S25_1 v25_1 (t25_2 : List (Int × Int × Int)),R.sl S25_2 v25_2 (t25_3 : List (Int)),R.sl S25_3 v25_3 (t25_4 : List (Int)),R.sl S33_1 v33_1 (t33_2 : List (Int × Int × Int)),R.sl S33_2 v33_2 (t33_3 : List (Int)),R.sl S33_3 v33_3 (t33_4 : List (Int))]) [10,11,12] [0,1,2,3,4,5,6,7,8,9,13,14,15] rfl ok9 rfl rfl rfl rfl (fun w hw=>laws_markTrap.ok h52 w hl_v29_1 hl_v29_2 hl_v29_3 (Sep.sub hw))) ?_
     rintro _ _ ⟨_,⟨rfl,hl_t52_2,hl_t52_3,hl_t52_4,rfl⟩,rfl⟩
     refine F.qn rfl (r_assign rfl) (F.nil (Nrm.seq (Tri.seq (Tri.seq ?_))))
     obtain ⟨y65,hE_2,h⟩:=bind_some h
     refine Tri.cut (fun e' C'=>e' = [(1,.int .i64 a1),(2,.pointer (some ⟨b2_1,0,none⟩)),(6,.pointer (some ⟨b6_1,0,none⟩)),(7,.bool t25_5),(9,.pointer (some ⟨b9_1,0,none⟩)),(65,.bool y65)]∧C' = Sep w noM [R.box b9_1 31 [.int .i64 t33_1,v33_1,v33_2,v33_3],R.box b6_1 31 [.int .i64 t25_1,v25_1,v25_2,v25_3],R.box b2_1 27 [.int .i64 a0_0,va0_1,va0_2,va0_3],R.sl S25_1 v25_1 (t25_2 : List (Int × Int × Int)),R.sl S25_2 v25_2 (t25_3 : List (Int)),R.sl S25_3 v25_3 (t25_4 : List (Int)),R.sl S33_1 v33_1 (t33_2 : List (Int × Int × Int)),R.sl S33_2 v33_2 (t33_3 : List (Int)),R.sl S33_3 v33_3 (t33_4 : List (Int))]) ?_ (fun hj_2=>?_)
     ·rintro _ _ ⟨rfl,rfl⟩
      refine Nrm.seq (Tri.cond (b:=y65) rfl (fun g_4=>?_) (fun g_4=>?_))
      ·replace h:=if_tt g_4 h
       refine Tri.seq (Tri.reg (l:=[0]) rfl ?_)
       refine F.qn rfl (r_assign rfl) (F.nil (Nrm.seq (Tri.ret ?_)))
       refine Rtn.then ?_
       cases h
       exact Rtn.body (.tmp rfl .nil) (fun w hw=>⟨rfl,hw.ext⟩)
      ·replace h:=if_ff g_4 h
       refine Tri.skip (Nrm.seq (Tri.seq (Tri.reg (l:=[0]) rfl ?_)))
       refine F.qn rfl (r_assign rfl) (F.nil (Nrm.seq (Tri.seq ?_)))
       obtain ⟨⟨t68_1,t68_2,t68_3,t68_4⟩,h68,h⟩:=bind_some h
       refine Tri.reg (l:=[0,1,2,3]) rfl ?_
       refine F.qn rfl (r_loadA ta31 ti31 rfl rfl (fun w hw=>(box_cells (i:=0) rfl w hw))) (F.qn rfl (r_move rfl) ?_)
       refine F.efn rfl (d_callM (xs:=_) (cs:=[R.sl S33_1 v33_1 (t33_2 : List (Int × Int × Int)),R.sl S33_2 v33_2 (t33_3 : List (Int)),R.sl S33_3 v33_3 (t33_4 : List (Int))]) (rest:=[R.box b9_1 31 [.int .i64 t33_1,v33_1,v33_2,v33_3],R.box b6_1 31 [.int .i64 t25_1,v25_1,v25_2,v25_3],R.box b2_1 27 [.int .i64 a0_0,va0_1,va0_2,va0_3],R.sl S25_1 v25_1 (t25_2 : List (Int × Int × Int)),R.sl S25_2 v25_2 (t25_3 : List (Int)),R.sl S25_3 v25_3 (t25_4 : List (Int))]) [6,7,8] [0,1,2,3,4,5] rfl ok9 rfl rfl rfl rfl (fun w hw=>laws_markTrap.ok h68 w hl_v33_1 hl_v33_2 hl_v33_3 (Sep.sub hw))) ?_
       rintro _ _ ⟨_,⟨rfl,hl_t68_2,hl_t68_3,hl_t68_4,rfl⟩,rfl⟩
       refine F.qn rfl (r_assign rfl) (F.nil (Nrm.seq (Tri.seq (Tri.reg (l:=[0]) rfl ?_))))
       refine F.qn rfl (r_assign rfl) (F.nil (Nrm.seq (Tri.seq ?_)))
       obtain ⟨t71,h71,h⟩:=bind_some h
       refine Tri.reg (l:=[0,1,2,3]) rfl ?_
       refine F.qn rfl (r_loadA ta31 ti31 rfl rfl (fun w hw=>(box_cells (i:=3) rfl w hw))) (F.qn rfl (r_move rfl) ?_)
       refine F.qcn rfl (q_callF (xs:=_) rfl ok10 rfl rfl (fun w hw=>laws_heldTrap.ok h71 w ((rd_sl (i:=0) rfl) w hw) ((rd_sl (i:=1) rfl) w hw) ((rd_sl (i:=2) rfl) w hw))) ?_
       refine F.qn rfl (r_assign rfl) (F.nil (Nrm.seq (Tri.seq (Tri.seq (Tri.reg (l:=[0,1]) rfl ?_)))))
       refine F.qn rfl (r_move rfl) (F.qn rfl (r_lss rfl rfl) (F.nil (Nrm.seq (Tri.cond (b:=decide (t71 < 0)) rfl (fun g_5=>?_) (fun g_5=>?_)))))
       ·replace h:=if_tt g_5 h
        refine Tri.seq (Tri.reg (l:=[0]) rfl ?_)
        refine F.qn rfl (r_assign rfl) (F.nil (Nrm.seq (Tri.ret ?_)))
        refine Rtn.then ?_
        cases h
        exact Rtn.body (.tmp rfl .nil) (fun w hw=>⟨rfl,hw.ext⟩)
       ·replace h:=if_ff g_5 h
        refine Tri.skip (Nrm.seq (Tri.seq (Tri.seq (Tri.reg (l:=[0,1,2]) rfl ?_))))
        refine F.qn rfl (r_move rfl) (F.qn rfl (r_move rfl) (F.qn rfl (r_neq rfl rfl) (F.nil (Nrm.seq (Tri.cond (b:=t71 != t68_1) rfl (fun g_6=>?_) (fun g_6=>?_))))))
        ·replace h:=if_tt g_6 h
         refine Tri.seq (Tri.reg (l:=[0]) rfl ?_)
         refine F.qn rfl (r_assign rfl) (F.nil (Nrm.seq (Tri.ret ?_)))
         refine Rtn.then ?_
         cases h
         exact Rtn.body (.tmp rfl .nil) (fun w hw=>⟨rfl,hw.ext⟩)
        ·replace h:=if_ff g_6 h
         refine Tri.skip (Nrm.seq (Tri.seq ?_))
         obtain ⟨⟨t79_1,t79_2,t79_3,t79_4⟩,h79,h⟩:=bind_some h
         obtain ⟨⟨t81_1,t81_2,t81_3,t81_4,t81_5⟩,h81,h⟩:=bind_some h
         refine Tri.reg (l:=[0,1,2,3,4,5,6,7,8,9]) rfl ?_
         refine F.qn rfl (r_loadA ta27 ti27 rfl rfl (fun w hw=>(box_cells (i:=5) rfl w hw))) ?_
         refine F.mn rfl (m_callF (xs:=_) rfl ok6 rfl rfl (fun w hw=>laws_toTrap.ok h79 w ((fun _ hw=>hr_a0_1.sep hw) w hw) ((fun _ hw=>hr_a0_2.sep hw) w hw) ((fun _ hw=>hr_a0_3.sep hw) w hw))) ?_
         rintro _ _ ⟨_,⟨v79_1,S79_1,v79_2,S79_2,v79_3,S79_3,rfl,hl_v79_1,hl_v79_2,hl_v79_3,rfl⟩,rfl⟩
         refine F.qn rfl (r_move rfl) ?_
         refine F.mn rfl (m_callF (xs:=_) rfl ok7 rfl rfl (fun w hw=>impl_TurnDoor.ok h81 w ((rd_sl (i:=0) rfl) w hw) ((rd_sl (i:=1) rfl) w hw) ((rd_sl (i:=2) rfl) w hw))) ?_
         rintro _ _ ⟨_,⟨v81_1,S81_1,v81_2,S81_2,v81_3,S81_3,rfl,hl_v81_1,hl_v81_2,hl_v81_3,rfl⟩,rfl⟩
         refine F.qn rfl (r_move rfl) (F.qn rfl (r_extract rfl rfl) (F.qn rfl (r_extract rfl rfl) ?_))
         refine F.mn rfl (m_alloc ti31) ?_
         rintro _ _ ⟨b14_1,rfl,rfl⟩
         refine F.ef0 rfl rfl (wanted_none rfl) (d_storeG0 (i:=0) (cs2:=[.int .i64 t81_1,v81_1,v81_2,v81_3]) ti31 rfl rfl rfl rfl rfl (Nat.le_of_ble_eq_true rfl) (lf_cons rfl (lf_cons (sl_leaf hl_v81_1) (lf_cons (sl_leaf hl_v81_2) (lf_cons (sl_leaf hl_v81_3) lf_nil))))) ?_
         rintro _ _ ⟨rfl,rfl⟩
         refine F.qn rfl (r_assign rfl) (F.nil (Nrm.seq (Tri.seq (Tri.seq ?_))))
         obtain ⟨y92,hE_3,h⟩:=bind_some h
         refine Tri.cut (fun e' C'=>e' = [(9,.pointer (some ⟨b9_1,0,none⟩)),(12,.int .i64 t68_1),(92,.bool y92)]∧C' = Sep w noM [R.box b9_1 31 [.int .i64 t33_1,v33_1,v33_2,v33_3],R.sl S33_1 v33_1 (t68_2 : List (Int × Int × Int)),R.sl S33_2 v33_2 (t68_3 : List (Int)),R.sl S33_3 v33_3 (t68_4 : List (Int))]) ?_ (fun hj_3=>?_)
         ·rintro _ _ ⟨rfl,rfl⟩
          refine Nrm.seq (Tri.cond (b:=y92) rfl (fun g_7=>?_) (fun g_7=>?_))
          ·replace h:=if_tt g_7 h
           refine Tri.seq (Tri.reg (l:=[0]) rfl ?_)
           refine F.qn rfl (r_assign rfl) (F.nil (Nrm.seq (Tri.ret ?_)))
           refine Rtn.then ?_
           cases h
           exact Rtn.body (.tmp rfl .nil) (fun w hw=>⟨rfl,hw.ext⟩)
          ·replace h:=if_ff g_7 h
           refine Tri.skip (Nrm.seq (Tri.seq (Tri.reg (l:=[0]) rfl ?_)))
           refine F.qn rfl (r_assign rfl) (F.nil (Nrm.seq (Tri.seq ?_)))
           obtain ⟨t95,h95,h⟩:=bind_some h
           refine Tri.reg (l:=[0,1,2,3]) rfl ?_
           refine F.qn rfl (r_loadA ta31 ti31 rfl rfl (fun w hw=>(box_cells (i:=0) rfl w hw))) (F.qn rfl (r_move rfl) ?_)
           refine F.qcn rfl (q_callF (xs:=_) rfl ok10 rfl rfl (fun w hw=>laws_heldTrap.ok h95 w ((rd_sl (i:=1) rfl) w hw) ((rd_sl (i:=2) rfl) w hw) ((rd_sl (i:=3) rfl) w hw))) ?_
           refine F.qn rfl (r_assign rfl) (F.nil (Nrm.seq (Tri.seq (Tri.seq (Tri.reg (l:=[0,1]) rfl ?_)))))
           refine F.qn rfl (r_move rfl) (F.qn rfl (r_lss rfl rfl) (F.nil (Nrm.seq (Tri.cond (b:=decide (t95 < 0)) rfl (fun g_8=>?_) (fun g_8=>?_)))))
           ·replace h:=if_tt g_8 h
            refine Tri.seq (Tri.reg (l:=[0]) rfl ?_)
            refine F.qn rfl (r_assign rfl) (F.nil (Nrm.seq (Tri.ret ?_)))
            refine Rtn.then ?_
            cases h
            exact Rtn.body (.tmp rfl .nil) (fun w hw=>⟨rfl,hw.ext⟩)
           ·replace h:=if_ff g_8 h
            refine Tri.skip (Nrm.seq (Tri.seq (Tri.seq (Tri.reg (l:=[0,1,2]) rfl ?_))))
            refine F.qn rfl (r_move rfl) (F.qn rfl (r_move rfl) (F.qn rfl (r_neq rfl rfl) (F.nil (Nrm.seq (Tri.cond (b:=t95 != t68_1) rfl (fun g_9=>?_) (fun g_9=>?_))))))
            ·replace h:=if_tt g_9 h
             refine Tri.seq (Tri.reg (l:=[0]) rfl ?_)
             refine F.qn rfl (r_assign rfl) (F.nil (Nrm.seq (Tri.ret ?_)))
             refine Rtn.then ?_
             cases h
             exact Rtn.body (.tmp rfl .nil) (fun w hw=>⟨rfl,hw.ext⟩)
            ·replace h:=if_ff g_9 h
             refine Tri.skip (Nrm.seq (Tri.seq (Tri.reg (l:=[0]) rfl ?_)))
             refine F.qn rfl (r_assign rfl) (F.nil (Nrm.seq (Tri.ret ?_)))
             cases h
             exact Rtn.body (.tmp rfl .nil) (fun w hw=>⟨rfl,hw.ext⟩)
         ·obtain ⟨t86,h86,hE_3⟩:=bind_some hE_3
          rcases Bool.eq_false_or_eq_true (!t86) with g88 | g88
          ·replace hE_3:=if_tt g88 hE_3
           refine Tri.reg (l:=[0,1,2,3,4,5,6,7,8]) rfl ?_
           refine F.qn rfl (r_loadA ta31 ti31 rfl rfl (fun w hw=>(box_cells (i:=0) rfl w hw))) (F.qn rfl (r_loadA ta31 ti31 rfl rfl (fun w hw=>(box_cells (i:=11) rfl w hw))) ?_)
           refine F.qcn rfl (q_callF (xs:=_) rfl ok8 rfl rfl (fun w hw=>laws_eqTrap.ok h86 w ((rd_sl (i:=1) rfl) w hw) ((rd_sl (i:=2) rfl) w hw) ((rd_sl (i:=3) rfl) w hw) ((rd_sl (i:=13) rfl) w hw) ((rd_sl (i:=14) rfl) w hw) ((rd_sl (i:=15) rfl) w hw))) ?_
           refine F.qn rfl (r_not rfl) (F.qn rfl (r_move rfl) ?_)
           iterate 3 refine F.skf rfl g88 ?_
           refine F.qn rfl (r_pick rfl rfl g88) (F.nil ?_)
           cases hE_3
           refine Nrm.only [9,12,92] rfl ?_
           refine Nrm.pick [10,7,8,9] rfl rfl ?_
           exact hj_3 _ _ ⟨rfl,rfl⟩
          ·replace hE_3:=if_ff g88 hE_3
           refine Tri.reg (l:=[0,1,2,3,4,5,6,7,8]) rfl ?_
           refine F.qn rfl (r_loadA ta31 ti31 rfl rfl (fun w hw=>(box_cells (i:=0) rfl w hw))) (F.qn rfl (r_loadA ta31 ti31 rfl rfl (fun w hw=>(box_cells (i:=11) rfl w hw))) ?_)
           refine F.qcn rfl (q_callF (xs:=_) rfl ok8 rfl rfl (fun w hw=>laws_eqTrap.ok h86 w ((rd_sl (i:=1) rfl) w hw) ((rd_sl (i:=2) rfl) w hw) ((rd_sl (i:=3) rfl) w hw) ((rd_sl (i:=13) rfl) w hw) ((rd_sl (i:=14) rfl) w hw) ((rd_sl (i:=15) rfl) w hw))) ?_
           refine F.qn rfl (r_not rfl) (F.qn rfl (r_move rfl) (F.qg rfl g88 (r_move rfl) (F.qg rfl g88 (r_move rfl) (F.qg rfl g88 (r_neqB Try.underlying4 rfl rfl) (F.qn rfl (r_pickf rfl rfl g88) (F.nil ?_))))))
           cases hE_3
           refine Nrm.only [9,12,92] rfl ?_
           refine Nrm.pick [10,7,8,9] rfl rfl ?_
           exact hj_3 _ _ ⟨rfl,rfl⟩
     ·rcases Bool.eq_false_or_eq_true (decide (t52_1 < 0)) with g55 | g55
      ·replace hE_2:=if_tt g55 hE_2
       refine Tri.reg (l:=List.range 13) rfl ?_
       refine F.qn rfl (r_move rfl) (F.qn rfl (r_lss rfl rfl) (F.qn rfl (r_move rfl) ?_))
       iterate 4 refine F.skf rfl g55 ?_
       refine F.qn rfl (r_pick rfl rfl g55) (F.qn rfl (r_move rfl) ?_)
       iterate 3 refine F.skf rfl rfl ?_
       refine F.qn rfl (r_pick rfl rfl rfl) (F.nil ?_)
       cases hE_2
       refine Nrm.only [1,2,6,7,9,65] rfl ?_
       refine Nrm.pick [6,8,9,10,11,12,13,14,15] rfl rfl ?_
       exact hj_2 _ _ ⟨rfl,rfl⟩
      ·replace hE_2:=if_ff g55 hE_2
       obtain ⟨t58,h58,hE_2⟩:=bind_some hE_2
       rcases Bool.eq_false_or_eq_true (!t58) with g61 | g61
       ·replace hE_2:=if_tt g61 hE_2
        refine Tri.reg (l:=List.range 13) rfl ?_
        refine F.qn rfl (r_move rfl) (F.qn rfl (r_lss rfl rfl) (F.qn rfl (r_move rfl) (F.qg rfl g55 (r_loadA ta31 ti31 rfl rfl (fun w hw=>(box_cells (i:=6) rfl w hw))) (F.qg rfl g55 (r_loadA ta31 ti31 rfl rfl (fun w hw=>(box_cells (i:=8) rfl w hw))) ?_))))
        refine F.qc rfl rfl rfl (wg rfl rfl rfl g55) (q_callF (xs:=_) rfl ok8 rfl rfl (fun w hw=>laws_eqTrap.ok h58 w ((rd_sl (i:=13) rfl) w hw) ((rd_sl (i:=14) rfl) w hw) ((rd_sl (i:=15) rfl) w hw) ((rd_sl (i:=10) rfl) w hw) ((rd_sl (i:=11) rfl) w hw) ((rd_sl (i:=12) rfl) w hw))) ?_
        refine F.qg rfl g55 (r_not rfl) (F.qn rfl (r_pickf rfl rfl g55) (F.qn rfl (r_move rfl) ?_))
        iterate 3 refine F.skf rfl g61 ?_
        refine F.qn rfl (r_pick rfl rfl g61) (F.nil ?_)
        cases hE_2
        refine Nrm.only [1,2,6,7,9,65] rfl ?_
        refine Nrm.pick [6,8,9,10,11,12,13,14,15] rfl rfl ?_
        exact hj_2 _ _ ⟨rfl,rfl⟩
       ·replace hE_2:=if_ff g61 hE_2
        refine Tri.reg (l:=List.range 13) rfl ?_
        refine F.qn rfl (r_move rfl) (F.qn rfl (r_lss rfl rfl) (F.qn rfl (r_move rfl) (F.qg rfl g55 (r_loadA ta31 ti31 rfl rfl (fun w hw=>(box_cells (i:=6) rfl w hw))) (F.qg rfl g55 (r_loadA ta31 ti31 rfl rfl (fun w hw=>(box_cells (i:=8) rfl w hw))) ?_))))
        refine F.qc rfl rfl rfl (wg rfl rfl rfl g55) (q_callF (xs:=_) rfl ok8 rfl rfl (fun w hw=>laws_eqTrap.ok h58 w ((rd_sl (i:=13) rfl) w hw) ((rd_sl (i:=14) rfl) w hw) ((rd_sl (i:=15) rfl) w hw) ((rd_sl (i:=10) rfl) w hw) ((rd_sl (i:=11) rfl) w hw) ((rd_sl (i:=12) rfl) w hw))) ?_
        refine F.qg rfl g55 (r_not rfl) ?_
        refine F.qn rfl (r_pickf rfl rfl g55) (F.qn rfl (r_move rfl) (F.qg rfl g61 (r_move rfl) (F.qg rfl g61 (r_move rfl) (F.qg rfl g61 (r_neqB Try.underlying4 rfl rfl) (F.qn rfl (r_pickf rfl rfl g61) (F.nil ?_))))))
        cases hE_2
        refine Nrm.only [1,2,6,7,9,65] rfl ?_
        refine Nrm.pick [6,8,9,10,11,12,13,14,15] rfl rfl ?_
        exact hj_2 _ _ ⟨rfl,rfl⟩
  ·obtain ⟨t38,h38,hE_1⟩:=bind_some hE_1
   rcases Bool.eq_false_or_eq_true (!t38) with g40 | g40
   ·replace hE_1:=if_tt g40 hE_1
    refine Tri.reg (l:=[0,1,2,3,4,5,6,7,8]) rfl ?_
    refine F.qn rfl (r_loadA ta31 ti31 rfl rfl (fun w hw=>(box_cells (i:=0) rfl w hw))) (F.qn rfl (r_loadA ta31 ti31 rfl rfl (fun w hw=>(box_cells (i:=8) rfl w hw))) ?_)
    refine F.qcn rfl (q_callF (xs:=_) rfl ok8 rfl rfl (fun w hw=>laws_eqTrap.ok h38 w ((rd_sl (i:=1) rfl) w hw) ((rd_sl (i:=2) rfl) w hw) ((rd_sl (i:=3) rfl) w hw) ((rd_sl (i:=9) rfl) w hw) ((rd_sl (i:=10) rfl) w hw) ((rd_sl (i:=11) rfl) w hw))) ?_
    refine F.qn rfl (r_not rfl) (F.qn rfl (r_move rfl) ?_)
    iterate 3 refine F.skf rfl g40 ?_
    refine F.qn rfl (r_pick rfl rfl g40) (F.nil ?_)
    cases hE_1
    refine Nrm.only [1,2,6,7,8,9,10,44] rfl ?_
    refine Nrm.pick [0,4,8,15,9,10,11,5,6,7,1,2,3] rfl rfl ?_
    exact hj_1 _ _ ⟨rfl,rfl⟩
   ·replace hE_1:=if_ff g40 hE_1
    refine Tri.reg (l:=[0,1,2,3,4,5,6,7,8]) rfl ?_
    refine F.qn rfl (r_loadA ta31 ti31 rfl rfl (fun w hw=>(box_cells (i:=0) rfl w hw))) (F.qn rfl (r_loadA ta31 ti31 rfl rfl (fun w hw=>(box_cells (i:=8) rfl w hw))) ?_)
    refine F.qcn rfl (q_callF (xs:=_) rfl ok8 rfl rfl (fun w hw=>laws_eqTrap.ok h38 w ((rd_sl (i:=1) rfl) w hw) ((rd_sl (i:=2) rfl) w hw) ((rd_sl (i:=3) rfl) w hw) ((rd_sl (i:=9) rfl) w hw) ((rd_sl (i:=10) rfl) w hw) ((rd_sl (i:=11) rfl) w hw))) ?_
    refine F.qn rfl (r_not rfl) (F.qn rfl (r_move rfl) (F.qg rfl g40 (r_move rfl) (F.qg rfl g40 (r_move rfl) (F.qg rfl g40 (r_neqB Try.underlying4 rfl rfl) (F.qn rfl (r_pickf rfl rfl g40) (F.nil ?_))))))
    cases hE_1
    refine Nrm.only [1,2,6,7,8,9,10,44] rfl ?_
    refine Nrm.pick [0,4,8,15,9,10,11,5,6,7,1,2,3] rfl rfl ?_
    exact hj_1 _ _ ⟨rfl,rfl⟩

end Go.Proofs
